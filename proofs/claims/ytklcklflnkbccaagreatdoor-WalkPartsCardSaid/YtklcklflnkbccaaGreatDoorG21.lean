import Derived.Test.YtklcklflnkbccaaGreatDoorG13
import Derived.Test.YtklcklflnkbccaaGreatDoorG20
/- Walks of package index: path. -/
namespace Go.Proofs.YtklcklflnkbccaaGreatDoor
open Go.RowKit

def lenOf : Value → Nat
  | .slice _ n _ => n
  | _ => 0

def PathPost (s : St) (key : List UInt8) (w : World) (e : Ending) (w' : World) : Prop :=
  Below w.heap.size w w' ∧ match pathP s key with
    | none => e = .returned (.tuple #[.slice none 0 0, .slice none 0 0, .int .i64 5])
    | some (way, rest) => ∃ vw A c, e = .returned (.tuple #[vw, .slice A rest.length c, .int .i64 0]) ∧ WayAt w' w.heap.size vw way ∧ RsAt w' w.heap.size A rest ∧ rest.length ≤ c

theorem nibs_len (l : List UInt8) : (nibs l).length = 2 * l.length := by
  induction l with
  | nil => rfl
  | cons a t ih => simp [nibs] at ih ⊢; omega

/-- What holds at the loop's head of path. -/
def PathAt (s : St) (_ : Nat) (key : List UInt8) (w : World) (pb : Nat) (u7 u8 u10 : Value) (wr : World) : Prop :=
  ∃ (f : Nat) (A : Option Addr) (c : Nat) (rest : List UInt8) (name : UInt64) (label : UInt8) (word : Int) (way : List Pl) (a0 a1 a2 a3 a4 : Value),
    u7 = .slice A rest.length c ∧ u8 = .int .u64 (name.toNat : Int) ∧ pathGo s f name rest label word way = pathP s key ∧ rest.length < f ∧ rest.length ≤ c ∧ way.length + rest.length ≤ 2 * key.length ∧
    Blk wr pb 98 [a0, a1, a2, a3, a4, .int .u8 (label.toNat : Int), .int .i64 word] ∧ WayAt wr w.heap.size u10 way ∧ (some pb ≠ u10.ownBlock) ∧ RsAt wr w.heap.size A rest ∧ Below w.heap.size w wr

theorem cand_lens (l : List UInt64) : (cand l).kids.length ≤ 16 ∧ (cand l).labels.length ≤ 16 := by
  unfold cand
  split
  · unfold cand8 candS
    dsimp only
    split <;> simp [digits_length] <;> omega
  · unfold cand32
    have := collK_le ((l.drop 4).take 16)
    simp at this
    simp [coll_length]
    omega
theorem read_lens {s : St} {name : UInt64} {nd : Nd} (h : readP s name = some nd) : nd.pre.length ≤ 15 ∧ nd.kids.length ≤ 16 ∧ nd.labels.length ≤ 16 := by
  unfold readP at h
  split at h
  · cases h
  · split at h
    · rename_i hd
      injection h with h
      subst h
      refine ⟨?_, (cand_lens _).1, (cand_lens _).2⟩
      unfold decOk at hd
      simp only [Bool.and_eq_true] at hd
      exact ((rightB_iff _).1 hd.2.1).1
    · cases h

theorem cell7 {w : World} {g : Nat} {e : TypeId} {a b c d k l m : Value} (h : Blk w g e [a, b, c, d, k, l, m]) : w.cell? ⟨g, 0, none⟩ = some a ∧ w.cell? ⟨g, 1, none⟩ = some b ∧ w.cell? ⟨g, 2, none⟩ = some c ∧ w.cell? ⟨g, 3, none⟩ = some d ∧ w.cell? ⟨g, 4, none⟩ = some k ∧ w.cell? ⟨g, 5, none⟩ = some l ∧ w.cell? ⟨g, 6, none⟩ = some m :=
  ⟨h.cell 0, h.cell 1, h.cell 2, h.cell 3, h.cell 4, h.cell 5, h.cell 6⟩

theorem wrap64 (a : Int) (h1 : -9223372036854775808 ≤ a) (h2 : a < 9223372036854775808) : IntKind.i64.wrap a = a := by
  simp only [IntKind.wrap, IntKind.bits, IntKind.signed, Bool.true_and, decide_eq_true_eq, show (2 : Int) ^ (64 - 1) = 9223372036854775808 from rfl, show (2 : Int) ^ 64 = 18446744073709551616 from rfl]
  split <;> omega
theorem read_off {w : World} {x d p L : Nat} {s : St} {F : Nat → Prop} (h : Ix w x d p L s F) {name : UInt64} {nd : Nd} (hr : readP s name = some nd) : 0 ≤ offOf name ∧ offOf name ≤ 65536 := by
  obtain ⟨l0, l1, ok, hntk⟩ := h.L0
  unfold readP at hr
  split at hr
  · cases hr
  · rename_i h0
    obtain ⟨i, a, hi, ho, hk, hf⟩ := class_at h0
    rw [ho]
    have := ok.fits
    rw [hntk] at hi
    rcases hk with k | k <;> rw [k] at hf ⊢ <;> omega
theorem kidV_some {nd : Nd} {lab : UInt8} {kid : UInt64} {number : Nat} (h : kidP nd lab = some (kid, number)) : kidV nd lab = .tuple #[.int .u64 (kid.toNat : Int), .int .i64 (number : Int), .bool true] := by
  unfold kidP findLb at h
  unfold kidV
  split at h
  · rename_i i hi
    rw [hi]
    split at h
    · rename_i hr
      injection h with h
      injection h with h1 h2
      subst h1 h2
      simp only [hr, if_true]
      split <;> rfl
    · cases h
  · cases h
theorem kidV_none {nd : Nd} {lab : UInt8} (h : kidP nd lab = none) : kidV nd lab = .tuple #[.int .u64 0, .int .i64 0, .bool false] := by
  unfold kidP findLb at h
  unfold kidV
  split at h
  · rename_i i hi
    rw [hi]
    split at h
    · cases h
    · rename_i hr
      simp only [hr]
      rfl
  · rename_i hi
    rw [hi]
theorem kid_number {nd : Nd} {lab : UInt8} {kid : UInt64} {number : Nat} (h : kidP nd lab = some (kid, number)) (hk : nd.labels.length ≤ 16) : number ≤ 300 := by
  unfold kidP findLb at h
  have := lab.toNat_lt
  split at h
  · rename_i i hi
    have hil := (List.findIdx?_eq_some_iff_getElem.1 hi).1
    split at h
    · injection h with h
      injection h with h1 h2
      subst h2
      split <;> omega
    · cases h
  · cases h
theorem kid_nd {w : World} {base n1 c1 n2 c2 n3 c3 : Nat} {A1 A2 A3 : Option Addr} {x : Nd} (h : NdV w base (.agg #[.slice A1 n1 c1, .int .u64 (x.val.toNat : Int), .slice A2 n2 c2, .slice A3 n3 c3]) x) (b1 : n1 ≤ 1000000) (b2 : n2 ≤ 1000000) (b3 : n3 ≤ 1000000) (label : UInt8) :
    Calls Tryz.prog 72 #[.agg #[.slice A1 n1 c1, .int .u64 (x.val.toNat : Int), .slice A2 n2 c2, .slice A3 n3 c3], .int .u8 (label.toNat : Int)] w fun e w' => e = .returned (kidV x label) ∧ Below w.heap.size w w' := by
  obtain ⟨_, _, _, _, _, _, e, p1, p2, p3⟩ := h
  simp only [Value.agg.injEq] at e
  simp at e
  obtain ⟨⟨rfl, rfl, rfl⟩, ⟨rfl, rfl, rfl⟩, ⟨rfl, rfl, rfl⟩⟩ := e
  exact kid_node _ _ _ _ _ _ _ _ _ x label w b1 b2 b3 (rd_own p1).2 (rd_own p2).2 (rd_own p3).2

section
variable {w w' : World} {x d p L : Nat} {s : St} {F : Nat → Prop}

set_option maxHeartbeats 8000000 in
set_option maxRecDepth 100000 in
theorem path_index (h : Ix w x d p L s F) (key : ByteArray) (hk : key.size ≤ 1000) : Calls Tryz.prog 42 #[.pointer (some ⟨x, 0, none⟩), .string key] w (PathPost s key.data.toList w) := by
  have HX := Lib.hid h
  have HOf := Lib.hid (of_any key w (by omega))
  have HRt := Lib.hid (fun (W : World) (hW : Below w.heap.size w W) => root_index (HX.out.below hW))
  have HRd := Lib.hid (fun (W : World) (hW : Below w.heap.size w W) => read_index (HX.out.below hW))
  have hxlt := h.box.lt
  clear h
  go_enter Tryz.func42, Tryz.ntmps42
  go_wp2_with fail
  refine HOf.out.mono ?_
  rintro e w1 ⟨v, rfl, ho, hb1⟩
  obtain ⟨A, c, rfl, hc, hr⟩ := rd_of_own ho
  have HO1 := Lib.hid ho
  clear HOf ho hr
  go_wp2_with fail
  refine (HRt.out w1 hb1).mono ?_
  rintro e w2 ⟨rfl, hb2⟩
  have HO2 := Lib.hid (own_below HO1.out hb2)
  have hb2' := hb1.trans (hb2.mono hb1.size)
  clear HO1 hb1 hb2 HRt
  go_wp2_with fail
  obtain ⟨W0, hW0⟩ : ∃ W0, W0 = w2.alloc (.cells #[.slice none 0 0, .int .u64 0, .slice none 0 0, .slice none 0 0, .int .i64 0, .int .u8 0, .int .i64 72] 98) := ⟨_, rfl⟩
  have al : Below w2.heap.size w2 W0 := by rw [hW0]; exact (Below.refl _ _).alloc (Nat.le_refl _) _
  have BP : Blk W0 w2.heap.size 98 [.slice none 0 0, .int .u64 0, .slice none 0 0, .slice none 0 0, .int .i64 0, .int .u8 0, .int .i64 72] := by rw [hW0]; exact heap_alloc_new _ _
  have hb0 : Below w.heap.size w W0 := hb2'.trans (al.mono hb2'.size)
  have hR0 := RsAt.of_own (own_below HO2.out al) (by rw [nibs_len]; simp)
  rw [← hW0]
  have hlen : (nibs key.data.toList).length = 2 * key.size := by rw [nibs_len]; simp
  have hpb := hb2'.size
  obtain ⟨pb, hpbe⟩ : ∃ pb, w2.heap.size = pb := ⟨_, rfl⟩
  rw [hpbe] at BP hpb ⊢
  have HAt : Hid (PathAt s L key.data.toList w pb (.slice A (2 * key.size) c) (.int .u64 ((s.ws 9).toNat : Int)) (.slice none 0 0) W0) :=
    Lib.hid ⟨2 * key.size + 1, A, c, nibs key.data.toList, s.ws 9, 0, 72, [], _, _, _, _, _, by rw [hlen], rfl, by simp [pathP], by omega, by omega, by simp [hlen], BP, WayAt.nil _ _, by simp [Value.ownBlock], hR0, hb0⟩
  clear hW0 al BP hb0 hR0 HO2 hlen hc hb2' hpbe
  go_loopw [7, 8, 10] (fun u7 u8 u10 wr => PathAt s L key.data.toList w pb u7 u8 u10 wr) (fun u7 _ _ _ => lenOf u7)
  case atStart => exact HAt.out
  case round =>
    clear HAt
    obtain ⟨f, A, c, rest, name, label, word, way, a0, a1, a2, a3, a4, rfl, rfl, hgo, hf, hcap, hlen, hB, hway, hne, hrs, hbw⟩ := hrel
    obtain ⟨f, rfl⟩ : ∃ f', f = f' + 1 := ⟨f - 1, by omega⟩
    have hpn := hB.lt
    have HB := Lib.hid hB
    have HWay := Lib.hid hway
    have HNe := Lib.hid hne
    have HRs := Lib.hid hrs
    have HGo := Lib.hid hgo
    have HBw := Lib.hid hbw
    have HLe := Lib.hid (And.intro hf (And.intro hcap hlen))
    clear hB hway hne hrs hgo hbw hf hcap hlen
    by_cases hz : name = 0
    · have HR : Hid (pathP s key.data.toList = some (way, rest)) := Lib.hid (by rw [← HGo.out, pathGo, if_pos hz])
      have t0 : (((name.toNat : Nat) : Int) == 0) = true := by subst hz; rfl
      clear HGo
      go_wp2_with fail
      refine bodyPost_ret (v := .tuple #[u10, .slice A rest.length c, .int .i64 0]) (by simp [results, Tryz.results42, go_sem]) rfl ?_
      refine ⟨HBw.out, ?_⟩
      rw [HR.out]
      exact ⟨_, A, c, rfl, HWay.out, HRs.out, HLe.out.2.1⟩
    · have t0 : (((name.toNat : Nat) : Int) == 0) = false := by
        rw [beq_eq_false_iff_ne]; intro e; apply hz
        exact UInt64.toNat_inj.1 (by have : name.toNat = 0 := by omega
                                     rw [this]; rfl)
      have f4 := HB.out.frozen 4
      have z4 := HB.out.cell 4
      simp only [List.getElem?_cons_succ, List.getElem?_cons_zero] at z4
      have hwr : IntKind.i64.wrap (name.toNat : Int) = offOf name := rfl
      go_wp2_with fail
      have B1 := HB.out.set_ 4 (Value.int .i64 (offOf name))
      have s1 := SameBut.set_ HB.out 4 (Value.int .i64 (offOf name))
      have k1 := Kept.set_ wr pb 4 (Value.int .i64 (offOf name))
      have hbw1 := HBw.out.setCell (p := ⟨pb, 4, none⟩) hpb (Value.int .i64 (offOf name))
      have hsz1 : w.heap.size ≤ wr.heap.size := HBw.out.size
      generalize wr.setCell ⟨pb, 4, none⟩ (Value.int .i64 (offOf name)) = W1 at *
      have S1 := Lib.hid s1
      replace B1 : Blk W1 pb 98 [a0, a1, a2, a3, .int .i64 (offOf name), .int .u8 (label.toNat : Int), .int .i64 word] := B1
      have hsz2 : w.heap.size ≤ W1.heap.size := Nat.le_trans hsz1 s1.1
      clear f4 z4 hwr s1
      refine (HRd.out W1 hbw1 name).mono ?_
      rintro e w3 ⟨hb3, hpost⟩
      have S3 := Lib.hid (S1.out.trans (SameBut.of_below hb3))
      have K3 := Lib.hid (k1.trans' (Kept.of_below hb3))
      clear k1
      have B3 := B1.below hb3 B1.lt
      have hbw3 := hbw1.trans (hb3.mono hsz2)
      have hsz3 : w.heap.size ≤ w3.heap.size := Nat.le_trans hsz2 hb3.size
      clear B1 hbw1 hb3 S1
      cases hrd : readP s name with
      | none =>
        rw [hrd] at hpost
        dsimp only at hpost
        subst hpost
        have HR : Hid (pathP s key.data.toList = none) := Lib.hid (by rw [← HGo.out, pathGo, if_neg hz, hrd])
        have f0 := B3.frozen 0
        have f1 := B3.frozen 1
        have f2 := B3.frozen 2
        have f3 := B3.frozen 3
        have z0 := B3.cell 0
        have z1 := B3.cell 1
        have z2 := B3.cell 2
        have z3 := B3.cell 3
        simp only [List.getElem?_cons_succ, List.getElem?_cons_zero] at z0 z1 z2 z3
        clear hrd HGo
        go_wp2_with fail
        refine bodyPost_ret (v := .tuple #[.slice none 0 0, .slice none 0 0, .int .i64 5]) (by simp [results, Tryz.results42, go_sem]) rfl ?_
        refine ⟨(((hbw3.setCell (p := ⟨pb, 0, none⟩) hpb _).setCell (p := ⟨pb, 1, none⟩) hpb _).setCell (p := ⟨pb, 2, none⟩) hpb _).setCell (p := ⟨pb, 3, none⟩) hpb _, ?_⟩
        rw [HR.out]
      | some nd =>
        rw [hrd] at hpost
        dsimp only at hpost
        obtain ⟨v, rfl, A1, c1, A2, c2, A3, c3, rfl, o1, o2, o3⟩ := hpost
        have HNd := Lib.hid (show NdV w3 w.heap.size (.agg #[.slice A1 nd.pre.length c1, .int .u64 (nd.val.toNat : Int), .slice A2 nd.labels.length c2, .slice A3 nd.kids.length c3]) nd from NdV.mono ⟨A1, c1, A2, c2, A3, c3, rfl, o1, o2, o3⟩ hsz2)
        have HRd' := Lib.hid hrd
        clear hrd o1 o2 o3
        have f0 := B3.frozen 0
        have f1 := B3.frozen 1
        have f2 := B3.frozen 2
        have f3 := B3.frozen 3
        have z0 := B3.cell 0
        have z1 := B3.cell 1
        have z2 := B3.cell 2
        have z3 := B3.cell 3
        have z4 := B3.cell 4
        have z5 := B3.cell 5
        have z6 := B3.cell 6
        simp only [List.getElem?_cons_succ, List.getElem?_cons_zero] at z0 z1 z2 z3 z4 z5 z6
        obtain ⟨vs, hvo, hvp⟩ := HWay.out
        have B5 := (((B3.set_ 0 (Value.slice A1 nd.pre.length c1)).set_ 1 (Value.int .u64 (nd.val.toNat : Int))).set_ 2 (Value.slice A2 nd.labels.length c2)).set_ 3 (Value.slice A3 nd.kids.length c3)
        have hbw5 := (((hbw3.setCell (p := ⟨pb, 0, none⟩) hpb (Value.slice A1 nd.pre.length c1)).setCell (p := ⟨pb, 1, none⟩) hpb (Value.int .u64 (nd.val.toNat : Int))).setCell (p := ⟨pb, 2, none⟩) hpb (Value.slice A2 nd.labels.length c2)).setCell (p := ⟨pb, 3, none⟩) hpb (Value.slice A3 nd.kids.length c3)
        have S5 := S3.out.trans ((((SameBut.set_ B3 0 (Value.slice A1 nd.pre.length c1)).trans (SameBut.set_ (B3.set_ 0 _) 1 (Value.int .u64 (nd.val.toNat : Int)))).trans (SameBut.set_ ((B3.set_ 0 _).set_ 1 _) 2 (Value.slice A2 nd.labels.length c2))).trans (SameBut.set_ (((B3.set_ 0 _).set_ 1 _).set_ 2 _) 3 (Value.slice A3 nd.kids.length c3)))
        have K5 := K3.out.trans' ((((Kept.set_ _ pb 0 (Value.slice A1 nd.pre.length c1)).trans' (Kept.set_ _ pb 1 (Value.int .u64 (nd.val.toNat : Int)))).trans' (Kept.set_ _ pb 2 (Value.slice A2 nd.labels.length c2))).trans' (Kept.set_ _ pb 3 (Value.slice A3 nd.kids.length c3)))
        have HV5 := Lib.hid (own_stay hvo K5 (.inl HNe.out))
        have hnd5 := Lib.hid (((((SameBut.set_ B3 0 (Value.slice A1 nd.pre.length c1)).trans (SameBut.set_ (B3.set_ 0 _) 1 (Value.int .u64 (nd.val.toNat : Int)))).trans (SameBut.set_ ((B3.set_ 0 _).set_ 1 _) 2 (Value.slice A2 nd.labels.length c2))).trans (SameBut.set_ (((B3.set_ 0 _).set_ 1 _).set_ 2 _) 3 (Value.slice A3 nd.kids.length c3))).nd HNd.out)
        have HS5 := Lib.hid S5
        have HB5 := Lib.hid B5
        have HBw5 := Lib.hid hbw5
        have HP5 := Lib.hid (HS5.out.pls vs way hvp)
        have hw5 := hbw5.size
        have hmm : way.length ≤ 1000000 := by have := HLe.out; simp at this; omega
        clear S5 K5 B5 hbw5 hvo hvp
        go_wp2_with (at_builtin; refine wpList_app_one rfl (.tmp 42) (.tmp 44) 91 rfl Tryz.placeTyK ((((w3.setCell ⟨pb, 0, none⟩ (Value.slice A1 nd.pre.length c1)).setCell ⟨pb, 1, none⟩ (Value.int .u64 (nd.val.toNat : Int))).setCell ⟨pb, 2, none⟩ (Value.slice A2 nd.labels.length c2)).setCell ⟨pb, 3, none⟩ (Value.slice A3 nd.kids.length c3)) w.heap.size u10 way.length vs.flatten [Value.slice A1 nd.pre.length c1, Value.int .u64 (nd.val.toNat : Int), Value.slice A2 nd.labels.length c2, Value.slice A3 nd.kids.length c3, .int .i64 (offOf name), .int .u8 (label.toNat : Int), .int .i64 word] rfl HV5.out rfl w3.heap.size 1 rfl (by simp [World.setCell, Array.size_modify]) rfl (by decide) (by simp [Value.oneCell']) hmm (by decide) hw5 ?_; intro g6 c6 w6 hO6 hB6 hK6 hg6; have B6 := (hK6.2 pb HB5.out.lt HNe.out).trans HB5.out; obtain ⟨y0, y1, y2, y3, y4, y5, y6⟩ := cell7 B6)
        have s6 := SameBut.kept HV5.out hK6
        have HB6 : Hid (Blk w6 pb 98 [.slice A1 nd.pre.length c1, .int .u64 (nd.val.toNat : Int), .slice A2 nd.labels.length c2, .slice A3 nd.kids.length c3, .int .i64 (offOf name), .int .u8 (label.toNat : Int), .int .i64 word]) := Lib.hid B6
        have HW6 := Lib.hid (WayAt.app HP5.out (p := ⟨nd, offOf name, label, word⟩) ⟨_, _, _, _, rfl, hnd5.out⟩ s6 hO6)
        have HRs6 := Lib.hid ((HS5.out.trans s6).rs HRs.out)
        have HNd6 := Lib.hid (s6.nd hnd5.out)
        have HBw6 := Lib.hid (HBw5.out.trans hB6)
        have HNe6 : Hid (pb ≠ g6) := Lib.hid (fun e => by
          rcases hg6 with h6 | h6
          · exact HNe.out (by rw [h6, e])
          · have := HB5.out.lt; omega)
        clear s6 B6 hO6 hB6 hK6 hg6 HV5 HP5 hnd5 HS5 HB5 HBw5 HWay HRs HB HNe HBw HNd S3 K3 B3 hbw3 f0 f1 f2 f3 z0 z1 z2 z3 z4 z5 z6 hw5
        obtain ⟨b1, b2, b3⟩ := read_lens HRd'.out
        obtain ⟨kk, hkk⟩ : ∃ kk, kk = common nd.pre rest := ⟨_, rfl⟩
        have hrl : rest.length ≤ 4294967296 := by have := HLe.out; simp at this; omega
        refine (common_any A1 A nd.pre.length rest.length c1 c nd.pre rest w6 (by omega) hrl (by obtain ⟨_, _, _, _, _, _, e, p1, _, _⟩ := HNd6.out; simp only [Value.agg.injEq] at e; simp at e; obtain ⟨⟨rfl, rfl⟩, _⟩ := e; exact (rd_own p1).2) HRs6.out.1).mono ?_
        rintro e w7 ⟨rfl, hd7⟩
        rw [← hkk]
        have hbl7 := hd7.below w6.heap.size
        have s7 : SameBut 98 w6 w7 := SameBut.of_below hbl7
        have B7 := HB6.out.below hbl7 HB6.out.lt
        have HW7 : Hid (WayAt w7 w.heap.size (.slice (some ⟨g6, 0, none⟩) (way.length + 1) c6) (way ++ [⟨nd, offOf name, label, word⟩])) := Lib.hid (by
          obtain ⟨vs', q1, q2⟩ := HW6.out
          exact ⟨vs', own_stay q1 (Kept.of_below (r := none) hbl7) (.inl (by simp [Value.ownBlock])), s7.pls _ _ q2⟩)
        have HRs7 := Lib.hid (s7.rs HRs6.out)
        have HNd7 := Lib.hid (s7.nd HNd6.out)
        have HBw7 := Lib.hid (HBw6.out.trans (hbl7.mono HBw6.out.size))
        have HB7 := Lib.hid B7
        obtain ⟨y0, y1, y2, y3, y4, y5, y6⟩ := cell7 B7
        have HGo2 : Hid ((if kk < nd.pre.length ∨ kk = rest.length then some (way ++ [⟨nd, offOf name, label, word⟩], rest) else
            match kidP nd (rest.getD kk 0) with
            | none => some (way ++ [⟨nd, offOf name, label, word⟩], rest)
            | some (kid, number) => pathGo s f kid (rest.drop (kk + 1)) (rest.getD kk 0) (offOf name + 8 * number) (way ++ [⟨nd, offOf name, label, word⟩])) = pathP s key.data.toList) := Lib.hid (by
          rw [← HGo.out, pathGo, if_neg hz, HRd'.out, hkk]
          rfl)
        have HKk := Lib.hid hkk
        clear hd7 hbl7 s7 B7 HW6 HRs6 HNd6 HBw6 HB6 hkk HGo
        by_cases hs : kk < nd.pre.length ∨ kk = rest.length
        · have HR : Hid (pathP s key.data.toList = some (way ++ [⟨nd, offOf name, label, word⟩], rest)) := Lib.hid (by rw [← HGo2.out, if_pos hs])
          have fin : PathPost s key.data.toList w (.returned (.tuple #[.slice (some ⟨g6, 0, none⟩) (way.length + 1) c6, .slice A rest.length c, .int .i64 0])) w7 := by
            refine ⟨HBw7.out, ?_⟩
            rw [HR.out]
            exact ⟨_, A, c, rfl, HW7.out, HRs7.out, HLe.out.2.1⟩
          have HFin := Lib.hid fin
          clear fin HR HGo2
          by_cases hs1 : kk < nd.pre.length
          · have t1 : decide ((kk : Int) < (nd.pre.length : Int)) = true := decide_eq_true (by omega)
            have t1' : decide (kk < nd.pre.length) = true := decide_eq_true hs1
            clear hs hs1
            go_wp2_with fail
            refine bodyPost_ret (v := .tuple #[.slice (some ⟨g6, 0, none⟩) (way.length + 1) c6, .slice A rest.length c, .int .i64 0]) (by simp [results, Tryz.results42, go_sem]) rfl HFin.out
          · have t1 : decide ((kk : Int) < (nd.pre.length : Int)) = false := decide_eq_false (by omega)
            have t1' : decide (kk < nd.pre.length) = false := decide_eq_false hs1
            have t2 : ((kk : Int) == (rest.length : Int)) = true := by rw [beq_iff_eq]; omega
            have t2' : (kk == rest.length) = true := by rw [beq_iff_eq]; omega
            clear hs hs1
            go_wp2_with fail
            refine bodyPost_ret (v := .tuple #[.slice (some ⟨g6, 0, none⟩) (way.length + 1) c6, .slice A rest.length c, .int .i64 0]) (by simp [results, Tryz.results42, go_sem]) rfl HFin.out
        · have hs1 : ¬ kk < nd.pre.length := fun e => hs (.inl e)
          have hs2 : kk ≠ rest.length := fun e => hs (.inr e)
          have hkl : kk < rest.length := by have := common_le_right nd.pre rest; rw [← HKk.out] at this; omega
          have HGo3 := Lib.hid HGo2.out
          rw [if_neg hs] at HGo3
          have t1 : decide ((kk : Int) < (nd.pre.length : Int)) = false := decide_eq_false (by omega)
          have t1' : decide (kk < nd.pre.length) = false := decide_eq_false hs1
          have t2 : ((kk : Int) == (rest.length : Int)) = false := by rw [beq_eq_false_iff_ne]; omega
          have t2' : (kk == rest.length) = false := by rw [beq_eq_false_iff_ne]; exact hs2
          obtain ⟨b, off, rfl, hb, hcs⟩ := HRs7.out.1.2 (by omega)
          have hck : w7.cell? ⟨b, off + kk, none⟩ = some (.int .u8 ((rest.getD kk 0).toNat : Int)) := by
            rw [hcs kk hkl, List.getElem?_map, List.getElem?_eq_getElem hkl, List.getD_eq_getElem?_getD, List.getElem?_eq_getElem hkl]; rfl
          generalize rest.getD kk 0 = lab at *
          clear hcs HGo2 hs hs1 hs2
          have HKid := Lib.hid (fun (W : World) (hW : Below w7.heap.size w7 W) => kid_nd ((SameBut.of_below hW).nd HNd7.out) (by omega) (by omega) (by omega) lab)
          have hx1 : (decide ((0 : Int) ≤ (kk : Int))) = true := decide_eq_true (by omega)
          have hx2 : (decide ((kk : Int) < (rest.length : Int))) = true := decide_eq_true (by omega)
          cases hkd : kidP nd lab with
          | none =>
            have HV := Lib.hid (kidV_none hkd)
            rw [HV.out] at HKid
            have HR : Hid (pathP s key.data.toList = some (way ++ [⟨nd, offOf name, label, word⟩], rest)) := Lib.hid (by rw [← HGo3.out, hkd])
            clear hkd HGo3
            go_wp2_with fail
            go_region_with (go_at_call 72; go_loud (refine (HKid.out _ ((Dr.drew _).below _)).mono ?_; rintro e w8 ⟨rfl, hb8⟩))
            all_goals (have hb78 := ((Dr.drew w7).below w7.heap.size).trans hb8)
            all_goals (have s8 : SameBut 98 w7 w8 := SameBut.of_below hb78)
            all_goals (have HW8 : Hid (WayAt w8 w.heap.size (.slice (some ⟨g6, 0, none⟩) (way.length + 1) c6) (way ++ [⟨nd, offOf name, label, word⟩])) := Lib.hid (by
              obtain ⟨vs', q1, q2⟩ := HW7.out
              exact ⟨vs', own_stay q1 (Kept.of_below (r := none) hb78) (.inl (by simp [Value.ownBlock])), s8.pls _ _ q2⟩))
            all_goals (have HRs8 := Lib.hid (s8.rs HRs7.out))
            all_goals (have HBw8 := Lib.hid (HBw7.out.trans (hb78.mono HBw7.out.size)))
            all_goals (clear hb78 s8 hb8)
            all_goals (go_wp2_with fail)
            all_goals (refine bodyPost_ret (v := .tuple #[.slice (some ⟨g6, 0, none⟩) (way.length + 1) c6, .slice (some ⟨b, off, none⟩) rest.length c, .int .i64 0]) (by simp [results, Tryz.results42, go_sem]) rfl ?_)
            all_goals (refine ⟨HBw8.out, ?_⟩)
            all_goals (rw [HR.out])
            all_goals (exact ⟨_, _, c, rfl, HW8.out, HRs8.out, HLe.out.2.1⟩)
          | some kn =>
            obtain ⟨kid, number⟩ := kn
            have HV := Lib.hid (kidV_some hkd)
            rw [HV.out] at HKid
            have hnum := kid_number hkd b3
            have HGo4 : Hid (pathGo s f kid (rest.drop (kk + 1)) lab (offOf name + 8 * number) (way ++ [⟨nd, offOf name, label, word⟩]) = pathP s key.data.toList) := Lib.hid (by rw [← HGo3.out, hkd])
            have hw1 : IntKind.i64.wrap (8 * (number : Int)) = 8 * (number : Int) := wrap64 _ (by omega) (by omega)
            have hro := read_off HX.out HRd'.out
            have hw2 : IntKind.i64.wrap (offOf name + 8 * (number : Int)) = offOf name + 8 * (number : Int) := wrap64 _ (by omega) (by omega)
            have hw3 : IntKind.i64.wrap ((kk : Int) + 1) = (kk : Int) + 1 := wrap64 _ (by omega) (by have := HLe.out; simp at this; omega)
            clear hro
            clear hkd HGo3
            go_wp2_with fail
            go_region_with (go_at_call 72; go_loud (refine (HKid.out _ ((Dr.drew _).below _)).mono ?_; rintro e w8 ⟨rfl, hb8⟩))
            all_goals (have hb78 := ((Dr.drew w7).below w7.heap.size).trans hb8)
            all_goals (have s8 : SameBut 98 w7 w8 := SameBut.of_below hb78)
            all_goals (have HW8 : Hid (WayAt w8 w.heap.size (.slice (some ⟨g6, 0, none⟩) (way.length + 1) c6) (way ++ [⟨nd, offOf name, label, word⟩])) := Lib.hid (by
              obtain ⟨vs', q1, q2⟩ := HW7.out
              exact ⟨vs', own_stay q1 (Kept.of_below (r := none) hb78) (.inl (by simp [Value.ownBlock])), s8.pls _ _ q2⟩))
            all_goals (have HRs8 := Lib.hid (s8.rs HRs7.out))
            all_goals (have HBw8 := Lib.hid (HBw7.out.trans (hb78.mono HBw7.out.size)))
            all_goals (have HB8 := Lib.hid (HB7.out.below hb78 HB7.out.lt))
            all_goals (have hck8 := (hb78.cell (p := ⟨b, off + kk, none⟩) hb).trans hck)
            all_goals (clear hb78 s8 hb8)
            all_goals (clear hck y0 y1 y2 y3 y4 y5 y6)
            all_goals (obtain ⟨y0, y1, y2, y3, y4, y5, y6⟩ := cell7 HB8.out)
            all_goals (have f5 := HB8.out.frozen 5)
            all_goals (have f6 := HB8.out.frozen 6)
            all_goals (go_wp2_with fail)
            all_goals (go_region)
            all_goals (have B9 := (HB8.out.set_ 5 (Value.int .u8 (lab.toNat : Int))).set_ 6 (Value.int .i64 (offOf name + 8 * (number : Int))))
            all_goals (have s9 := (SameBut.set_ HB8.out 5 (Value.int .u8 (lab.toNat : Int))).trans (SameBut.set_ (HB8.out.set_ 5 (Value.int .u8 (lab.toNat : Int))) 6 (Value.int .i64 (offOf name + 8 * (number : Int)))))
            all_goals (have k9 := (Kept.set_ w8 pb 5 (Value.int .u8 (lab.toNat : Int))).trans' (Kept.set_ _ pb 6 (Value.int .i64 (offOf name + 8 * (number : Int)))))
            all_goals (have hbw9 := (HBw8.out.setCell (p := ⟨pb, 5, none⟩) hpb (Value.int .u8 (lab.toNat : Int))).setCell (p := ⟨pb, 6, none⟩) hpb (Value.int .i64 (offOf name + 8 * (number : Int))))
            all_goals (have hd9 := (Dr.drew ((w8.setCell ⟨pb, 5, none⟩ (Value.int .u8 (lab.toNat : Int))).setCell ⟨pb, 6, none⟩ (Value.int .i64 (offOf name + 8 * (number : Int))))).below w.heap.size)
            all_goals (obtain ⟨W9, hW9⟩ : ∃ W9, W9 = World.drew ((w8.setCell ⟨pb, 5, none⟩ (Value.int .u8 (lab.toNat : Int))).setCell ⟨pb, 6, none⟩ (Value.int .i64 (offOf name + 8 * (number : Int)))) := ⟨_, rfl⟩)
            all_goals (have HW9 : Hid (WayAt W9 w.heap.size (.slice (some ⟨g6, 0, none⟩) (way.length + 1) c6) (way ++ [⟨nd, offOf name, label, word⟩])) := Lib.hid (by
              obtain ⟨vs', q1, q2⟩ := HW8.out
              rw [hW9]
              exact ⟨vs', own_stay q1 k9 (.inl (by simp [Value.ownBlock, HNe6.out])), (s9.trans (SameBut.of_below ((Dr.drew _).below _))).pls _ _ q2⟩))
            all_goals (have HRs9 : Hid (RsAt W9 w.heap.size (some ⟨b, off, none⟩) rest) := Lib.hid (by rw [hW9]; exact s9.rs HRs8.out))
            all_goals (have HBw9 : Hid (Below w.heap.size w W9) := Lib.hid (by rw [hW9]; exact hbw9.trans hd9))
            all_goals (have HB9 : Hid (Blk W9 pb 98 [.slice A1 nd.pre.length c1, .int .u64 (nd.val.toNat : Int), .slice A2 nd.labels.length c2, .slice A3 nd.kids.length c3, .int .i64 (offOf name), .int .u8 (lab.toNat : Int), .int .i64 (offOf name + 8 * (number : Int))]) := Lib.hid (by rw [hW9]; exact B9))
            all_goals (rw [← hW9])
            all_goals (clear B9 s9 k9 hbw9 hd9 hW9 HB8 HW8 HRs8 HBw8 y0 y1 y2 y3 y4 y5 y6 f5 f6 hck8)
            all_goals (go_wp2_with fail)
            all_goals (go_quiet (fail))
            all_goals (have ⟨hLf, hLc, hLl⟩ := HLe.out)
            all_goals (go_roundw)
            all_goals first
              | (case measure => (simp [lenOf]; omega))
              | (case rel =>
                 refine ⟨_, _, _, _, _, _, _, _, _, _, _, _, _, _, _, _, _, _, _, _, _, _, _, _, _, _, _, _, _, _, _, _, _, _, _, _, _, _, _, _, _, _, _, _, _, _, _, _, _, _, _, _, _, _, _, _, _, _, _, _, _, _, _, _, _, _, _, _, _, _, _, _, _, _, _, _, ?_, rfl⟩
                 refine ⟨f, (if c = kk + 1 then some ⟨b, off, none⟩ else some ⟨b, off + (kk + 1), none⟩), c - (kk + 1), rest.drop (kk + 1), kid, lab, offOf name + 8 * (number : Int), way ++ [⟨nd, offOf name, label, word⟩], _, _, _, _, _, (by rw [List.length_drop]), rfl, HGo4.out, (by rw [List.length_drop]; omega), (by rw [List.length_drop]; omega), (by rw [List.length_append, List.length_drop]; simp only [List.length_singleton]; omega), HB9.out, ?_, (by simp [Value.ownBlock, HNe6.out]), HRs9.out.cut (kk + 1) (by omega) hLc, ?_⟩
                 · first
                   | (have hww := HW9.out; rw [List.length_append]; exact hww)
                   | exact HW9.out
                   | (obtain ⟨vs', q1, q2⟩ := HW9.out; exact ⟨vs', q1, (SameBut.of_below ((Dr.one W9 _).below _)).pls _ _ q2⟩)
                 · first
                   | exact HBw9.out
                   | exact HBw9.out.trans ((Dr.one _ _).below _))
end

end Go.Proofs.YtklcklflnkbccaaGreatDoor

/- Ways of places: what is so of each; a job in memory. No statement of the program. -/
namespace Go.Proofs.YtklcklflnkbccaaGreatDoor
open Go.RowKit

/-- What is so of each place of a way. -/
structure PlOk (L : Nat) (pl : Pl) : Prop where
  word : ∃ j : Nat, pl.word = ((8 * j : Nat) : Int) ∧ j < 8 * L
  off : ∃ o : Nat, pl.off = ((8 * o : Nat) : Int) ∧ o + 8 ≤ 8 * L
  right : rightB pl.nd = true
  kids : pl.nd.kids.length ≤ 16
  labels : pl.nd.labels.length ≤ 16

theorem read_ok {L : Nat} {s : St} (ok : ShOk L s.sh) (hntk : s.tk.length = s.sh.slabs) {name : UInt64} {nd : Nd} (h : readP s name = some nd) :
    rightB nd = true ∧ ∃ o : Nat, offOf name = ((8 * o : Nat) : Int) ∧ o + (if nd.kids.length ≤ 4 then 8 else 32) ≤ 8 * L := by
  unfold readP at h
  split at h
  · cases h
  · rename_i h0
    obtain ⟨i, a, hi, ho, hk, hf⟩ := class_at h0
    split at h
    · rename_i hd
      injection h with h
      subst h
      have hd' := hd
      unfold decOk at hd'
      simp only [Bool.and_eq_true, decide_eq_true_eq] at hd'
      have hl := encW_length (cand (wordsAt s.ws ((offOf name).toNat / 8) (8 * linesN (classP s (offOf name)))))
      rw [hd'.2.2] at hl
      have hwl : (wordsAt s.ws ((offOf name).toNat / 8) (8 * linesN (classP s (offOf name)))).length = 8 * linesN (classP s (offOf name)) := by simp [wordsAt]
      rw [hwl] at hl
      refine ⟨hd'.2.1, (s.sh.data + 1024 * i + 64 * linesN (classP s (offOf name)) * a) / 8, ?_⟩
      rw [← hl]
      have h1 := ok.fits
      have h2 := ok.data
      rw [hntk] at hi
      clear hl hwl hd' hd h0
      generalize linesN (classP s (offOf name)) = m at *
      generalize offOf name = off at *
      subst ho
      rcases hk with rfl | rfl <;> constructor <;> omega
    · cases h

theorem kid_in {nd : Nd} {lab : UInt8} {kid : UInt64} {number : Nat} (h : kidP nd lab = some (kid, number)) : number < (if nd.kids.length ≤ 4 then 8 else 32) := by
  unfold kidP findLb at h
  split at h
  · rename_i i hi
    obtain ⟨hil, hq, _⟩ := List.findIdx?_eq_some_iff_getElem.1 hi
    split at h
    · rename_i hr
      obtain ⟨_, _, hlk, hn, _⟩ := (rightB_iff _).1 hr
      have hlab : lab.toNat < 16 := by
        have := List.all_eq_true.1 hn _ (List.getElem_mem hil)
        simp only [beq_iff_eq] at hq
        unfold isNib at this
        simp only [decide_eq_true_eq] at this
        omega
      injection h with h
      injection h with h1 h2
      subst h2
      split
      · omega
      · omega
    · cases h
  · cases h

theorem pathGo_ok {L : Nat} {s : St} (ok : ShOk L s.sh) (hntk : s.tk.length = s.sh.slabs) : ∀ (f : Nat) (name : UInt64) (rest : List UInt8) (label : UInt8) (word : Int) (way way' : List Pl) (rest' : List UInt8),
    (∃ j : Nat, word = ((8 * j : Nat) : Int) ∧ j < 8 * L) → (∀ pl ∈ way, PlOk L pl) → pathGo s f name rest label word way = some (way', rest') → (∀ pl ∈ way', PlOk L pl) ∧ rest'.length ≤ rest.length
  | 0, name, rest, label, word, way, way', rest', hw, hp, h => by
    rw [pathGo] at h
    injection h with h
    injection h with h1 h2
    subst h1 h2
    exact ⟨hp, Nat.le_refl _⟩
  | f + 1, name, rest, label, word, way, way', rest', hw, hp, h => by
    rw [pathGo] at h
    split at h
    · injection h with h
      injection h with h1 h2
      subst h1 h2
      exact ⟨hp, Nat.le_refl _⟩
    · split at h
      · cases h
      · rename_i nd hr
        obtain ⟨hR, o, ho, hfit⟩ := read_ok ok hntk hr
        obtain ⟨b1, b2, b3⟩ := read_lens hr
        have hpl : ∀ pl ∈ way ++ [⟨nd, offOf name, label, word⟩], PlOk L pl := by
          intro pl hm
          rcases List.mem_append.1 hm with hm | hm
          · exact hp pl hm
          · rw [List.mem_singleton] at hm
            subst hm
            exact ⟨hw, ⟨o, ho, by split at hfit <;> omega⟩, hR, b2, b3⟩
        split at h
        · injection h with h
          injection h with h1 h2
          subst h1 h2
          exact ⟨hpl, Nat.le_refl _⟩
        · split at h
          · injection h with h
            injection h with h1 h2
            subst h1 h2
            exact ⟨hpl, Nat.le_refl _⟩
          · rename_i kid number hkd
            have hk := kid_in hkd
            obtain ⟨q1, q2⟩ := pathGo_ok ok hntk f kid _ _ _ _ way' rest' ⟨o + number, by rw [ho]; omega, by omega⟩ hpl h
            refine ⟨q1, ?_⟩
            rw [List.length_drop] at q2
            omega

theorem path_ok {L : Nat} {s : St} (ok : ShOk L s.sh) (l0 : 1 < L) (hntk : s.tk.length = s.sh.slabs) {key : List UInt8} {way : List Pl} {rest : List UInt8} (h : pathP s key = some (way, rest)) : (∀ pl ∈ way, PlOk L pl) ∧ rest.length ≤ 2 * key.length := by
  have := pathGo_ok ok hntk _ _ _ _ _ _ _ _ ⟨9, rfl, by omega⟩ (by intro pl h; cases h) h
  rw [nibs_len] at this
  exact this

/-- Two lists of which each begins the other are the same. -/
theorem common_full : ∀ (a b : List UInt8), common a b = a.length → common a b = b.length → a = b := by
  intro a b h1 h2
  induction a generalizing b with
  | nil => cases b with
    | nil => rfl
    | cons y t => simp [common] at h2
  | cons x t ih => cases b with
    | nil => simp [common] at h1
    | cons y t' =>
      simp only [common] at h1 h2
      split at h1
      · rename_i e
        rw [if_pos e] at h2
        simp only [List.length_cons] at h1 h2
        rw [ih t' (by omega) (by omega)]
        simp_all
      · simp at h1

/-- A whole number as a value. -/
def zv (k : Int) : Value := .int .i64 k

/-- A job: an index, and the blocks that were made; the job's own blocks lie at or behind base. -/
structure JobR (w : World) (base jb x d p L : Nat) (j : Jb) (F : Nat → Prop) (v : Value) : Prop where
  ix : Ix w x d p L j.s F
  box : Blk w jb 104 [.pointer (some ⟨x, 0, none⟩), v]
  row : w.ownsRow base 3 1 v j.made.length (j.made.map zv)
  fj : ¬ F jb
  bj : base ≤ jb
  bx : x < base
  bt : 0 < base ∧ 1 < base
  mj : v.ownBlock ≠ some jb
  mF : ∀ b, v.ownBlock = some b → ¬ F b
  mb : ∀ o ∈ j.made, -9223372036854775808 ≤ o ∧ o ≤ 9223372036854775807

def JobAt (w : World) (base jb x d p L : Nat) (j : Jb) (G : Nat → Prop) : Prop := ∃ F v, JobR w base jb x d p L j F v ∧ ∀ b, G b ↔ (F b ∨ b = jb ∨ v.ownBlock = some b)

section
variable {w w' : World} {base jb x d p L : Nat} {j : Jb} {F G : Nat → Prop} {v : Value}

theorem JobR.xj (h : JobR w base jb x d p L j F v) : x ≠ jb := by have := h.bj; have := h.bx; omega
theorem JobR.mlt (h : JobR w base jb x d p L j F v) : ∀ b, v.ownBlock = some b → base ≤ b ∧ b < w.heap.size := by
  intro b hb
  rcases h.row.2 with ⟨h1, _⟩ | ⟨g, cap, cur, h1, h2, h3, _⟩
  · subst h1; simp [Value.ownBlock] at hb
  · subst h1
    simp only [Value.ownBlock, Option.some.injEq] at hb
    subst hb
    exact ⟨h2, (Array.getElem?_eq_some_iff.1 h3).1⟩
theorem JobR.mx (h : JobR w base jb x d p L j F v) : v.ownBlock ≠ some x := fun e => by have := (h.mlt x e).1; have := h.bx; omega
theorem JobR.below (h : JobR w base jb x d p L j F v) (k : Below w.heap.size w w') : JobR w' base jb x d p L j F v :=
  ⟨h.ix.below k, h.box.below k h.box.lt, own_stay h.row (Kept.of_below (r := some jb) k) (.inl (fun e => h.mj e.symm)), h.fj, h.bj, h.bx, h.bt, h.mj, h.mF, h.mb⟩
theorem JobAt.below (h : JobAt w base jb x d p L j G) (k : Below w.heap.size w w') : JobAt w' base jb x d p L j G := by
  obtain ⟨F, v, h, hG⟩ := h
  exact ⟨F, v, h.below k, hG⟩
theorem JobAt.lt (h : JobAt w base jb x d p L j G) : ∀ b, G b → b < w.heap.size := by
  obtain ⟨F, v, h, hG⟩ := h
  intro b hb
  rcases (hG b).1 hb with h1 | rfl | h1
  · exact h.ix.sys.lt b h1
  · exact h.box.lt
  · exact (h.mlt b h1).2
theorem JobAt.xout (h : JobAt w base jb x d p L j G) : ¬ G x := by
  obtain ⟨F, v, h, hG⟩ := h
  intro hb
  rcases (hG x).1 hb with h1 | h1 | h1
  · exact h.ix.out h1
  · exact h.xj h1
  · exact h.mx h1
/-- The store moves on below a job. -/
theorem JobR.move (h : JobR w base jb x d p L j F v) (hG : ∀ b, G b ↔ (F b ∨ b = jb ∨ v.ownBlock = some b)) {s' : St} {F' : Nat → Prop} (hs : Sys w' d p L s' F') (m : Moved F F' w w') :
    ∃ G', JobR w' base jb x d p L { j with s := s' } F' v ∧ (∀ b, G' b ↔ (F' b ∨ b = jb ∨ v.ownBlock = some b)) ∧ Moved G G' w w' := by
  have hjl := h.box.lt
  refine ⟨fun b => F' b ∨ b = jb ∨ v.ownBlock = some b, ⟨h.ix.move hs m, h.box.touch m.touch h.fj, own_touch h.row m.touch h.mF, fun h' => (m.own _ h').elim h.fj (fun h'' => by omega), h.bj, h.bx, h.bt, h.mj, fun b hb h' => (m.own _ h').elim (h.mF b hb) (fun h'' => by have := (h.mlt b hb).2; omega), h.mb⟩, fun _ => Iff.rfl, m.touch.mono (fun b hb => (hG b).2 (.inl hb)), fun b hb => ?_⟩
  rcases hb with h1 | h1
  · exact (m.own b h1).imp (fun h2 => (hG b).2 (.inl h2)) id
  · exact .inl ((hG b).2 (.inr h1))
/-- One block more was made. -/
theorem JobR.app (h : JobR w base jb x d p L j F v) (hG : ∀ b, G b ↔ (F b ∨ b = jb ∨ v.ownBlock = some b)) {o : Int} (ho : -9223372036854775808 ≤ o ∧ o ≤ 9223372036854775807) {g c : Nat} {w1 : World}
    (hown : w1.ownsRow base 3 1 (.slice (some ⟨g, 0, none⟩) (j.made.length + 1) c) (j.made.length + 1) (j.made.map zv ++ [zv o])) (hb : Below base w w1) (hk : Kept w w1 v.ownBlock) (hg : v.ownBlock = some g ∨ w.heap.size ≤ g) :
    ∃ G', JobR (w1.setCell ⟨jb, 1, none⟩ (.slice (some ⟨g, 0, none⟩) (j.made.length + 1) c)) base jb x d p L { j with made := j.made ++ [o] } F (.slice (some ⟨g, 0, none⟩) (j.made.length + 1) c) ∧
      (∀ b, G' b ↔ (F b ∨ b = jb ∨ (Value.slice (some ⟨g, 0, none⟩) (j.made.length + 1) c).ownBlock = some b)) ∧ Moved G G' w (w1.setCell ⟨jb, 1, none⟩ (.slice (some ⟨g, 0, none⟩) (j.made.length + 1) c)) := by
  have hjl := h.box.lt
  have hxl := h.ix.box.lt
  have hgj : g ≠ jb := by
    rintro rfl
    rcases hg with e | e
    · exact h.mj e
    · omega
  have hgF : ¬ F g := by
    intro hf
    rcases hg with e | e
    · exact h.mF g e hf
    · have := h.ix.sys.lt g hf; omega
  have t1 : Touch (fun b => v.ownBlock = some b) w w1 := ⟨hb.os, hb.tape, hb.output, hk.1, fun b hb' hn => hk.2 b hb' (fun e => hn e.symm)⟩
  have t2 : Touch (fun b => b = jb ∨ v.ownBlock = some b) w (w1.setCell ⟨jb, 1, none⟩ (.slice (some ⟨g, 0, none⟩) (j.made.length + 1) c)) := (t1.mono (fun b => .inr)).setCell (p := ⟨jb, 1, none⟩) (.inl (.inl rfl)) _
  have htb : ∀ {b : Nat}, b < base → ¬ (b = jb ∨ v.ownBlock = some b) := by
    intro b hb' e
    rcases e with rfl | e
    · have := h.bj; omega
    · have := (h.mlt b e).1; omega
  have hs : Sys (w1.setCell ⟨jb, 1, none⟩ (.slice (some ⟨g, 0, none⟩) (j.made.length + 1) c)) d p L j.s F := h.ix.sys.keep t2 (fun b hb' hn => hn.elim (fun e => h.fj (e ▸ hb')) (fun e => h.mF b e hb')) (htb h.bt.1) (htb h.bt.2)
  have hB1 : Blk w1 jb 104 [.pointer (some ⟨x, 0, none⟩), v] := (hk.2 jb hjl (fun e => h.mj e.symm)).trans h.box
  refine ⟨fun b => F b ∨ b = jb ∨ (Value.slice (some ⟨g, 0, none⟩) (j.made.length + 1) c).ownBlock = some b, ⟨⟨hs, h.ix.box.touch t2 (fun e => e.elim h.xj h.mx), h.ix.out⟩, hB1.set_ 1 _, ?_, h.fj, h.bj, h.bx, h.bt, by simp [Value.ownBlock, hgj], ?_, ?_⟩, fun _ => Iff.rfl, ?_⟩
  · have := own_stay hown (Kept.set_ w1 jb 1 (.slice (some ⟨g, 0, none⟩) (j.made.length + 1) c)) (.inl (by simp [Value.ownBlock, Ne.symm hgj]))
    simpa using this
  · intro b hb'
    simp only [Value.ownBlock, Option.some.injEq] at hb'
    exact hb' ▸ hgF
  · intro o' ho'
    rcases List.mem_append.1 ho' with h1 | h1
    · exact h.mb o' h1
    · rw [List.mem_singleton] at h1; exact h1 ▸ ho
  · refine ⟨t2.mono (fun b hb' => (hG b).2 (.inr hb')), fun b hb' => ?_⟩
    rcases hb' with h1 | h1 | h1
    · exact .inl ((hG b).2 (.inl h1))
    · exact .inl ((hG b).2 (.inr (.inl h1)))
    · simp only [Value.ownBlock, Option.some.injEq] at h1
      rcases hg with e | e
      · exact .inl ((hG b).2 (.inr (.inr (h1 ▸ e))))
      · exact .inr (h1 ▸ e)

/-- What is not a job's, and lies there, stays while the job moves. -/
theorem Rd.moved {G' : Nat → Prop} {A : Option Addr} {n : Nat} {xs : List Value} (h : Rd w A n xs) (m : Moved G G' w w') (hF : ∀ a, A = some a → ¬ G a.block) : Rd w' A n xs := h.touch m.touch hF
theorem Moved.out {G' : Nat → Prop} (m : Moved G G' w w') {b : Nat} (hb : b < w.heap.size) (h : ¬ G b) : ¬ G' b := fun h' => (m.own b h').elim h (fun h'' => by omega)
end

end Go.Proofs.YtklcklflnkbccaaGreatDoor

/- Rows that are none of a store's; where a block that is reserved lies. No statement of the program. -/
namespace Go.Proofs.YtklcklflnkbccaaGreatDoor
open Go.RowKit

/-- A row that lies there, in no block of G. -/
def RdO (w : World) (G : Nat → Prop) (A : Option Addr) (n : Nat) (xs : List Value) : Prop := Rd w A n xs ∧ (0 < n → ∀ a, A = some a → ¬ G a.block)

section
variable {w w' : World} {G G' : Nat → Prop} {A : Option Addr} {n : Nat} {xs : List Value}

theorem RdO.moved (h : RdO w G A n xs) (m : Moved G G' w w') : RdO w' G' A n xs := by
  obtain ⟨⟨h1, h2⟩, h3⟩ := h
  refine ⟨⟨h1, fun hn => ?_⟩, fun hn a e => ?_⟩
  · obtain ⟨b, off, e, hb, hc⟩ := h2 hn
    exact ⟨b, off, e, Nat.lt_of_lt_of_le hb m.touch.size, fun j hj => (World.cell?_of_block (w := w) (m.touch.block b hb (h3 hn _ e))).trans (hc j hj)⟩
  · obtain ⟨b, off, e', hb, hc⟩ := h2 hn
    rw [e'] at e
    injection e with e
    subst e
    exact m.out hb (h3 hn _ e')
theorem RdO.below (h : RdO w G A n xs) (k : Below w.heap.size w w') : RdO w' G A n xs := h.moved (Moved.of_below k)
theorem RdO.mono {F : Nat → Prop} (h : RdO w G A n xs) (k : ∀ b, b < w.heap.size → F b → G b) : RdO w F A n xs := ⟨h.1, fun hn a e hf => by
  obtain ⟨b, off, e', hb, hc⟩ := h.1.2 hn
  rw [e'] at e
  injection e with e
  subst e
  exact h.2 hn _ e' (k _ hb hf)⟩
theorem RdO.take (h : RdO w G A n xs) (k : Nat) (hk : k ≤ n) : RdO w G A k (xs.take k) := by
  obtain ⟨⟨h1, h2⟩, h3⟩ := h
  refine ⟨⟨by rw [List.length_take]; omega, fun hn => ?_⟩, fun hn => h3 (by omega)⟩
  obtain ⟨b, off, e, hb, hc⟩ := h2 (by omega)
  exact ⟨b, off, e, hb, fun j hj => by rw [hc j (by omega), List.getElem?_take, if_pos hj]⟩
theorem RdO.cut {b off c : Nat} (h : RdO w G (some ⟨b, off, none⟩) n xs) (k : Nat) (hk : k ≤ n) (hc : n ≤ c) : RdO w G (if c = k then some ⟨b, off, none⟩ else some ⟨b, off + k, none⟩) (n - k) (xs.drop k) := by
  obtain ⟨⟨h1, h2⟩, h3⟩ := h
  by_cases hn : k = n
  · refine ⟨⟨by rw [List.length_drop]; omega, fun hn' => by omega⟩, fun hn' => by omega⟩
  · rw [if_neg (by omega)]
    refine ⟨⟨by rw [List.length_drop]; omega, fun hn' => ?_⟩, fun hn' a e => ?_⟩
    · obtain ⟨b', off', e, hb, hcc⟩ := h2 (by omega)
      injection e with e
      injection e with e1 e2
      subst e1 e2
      exact ⟨_, _, rfl, hb, fun j hj => by rw [Nat.add_assoc, hcc (k + j) (by omega), List.getElem?_drop]⟩
    · injection e with e
      subst e
      exact h3 (by omega) ⟨b, off, none⟩ rfl
theorem RdO.of_own {base c : Nat} {e : TypeId} (h : w.ownsRow base e 1 (.slice A n c) n xs) (hG : ∀ b, base ≤ b → b < w.heap.size → ¬ G b) : RdO w G A n xs := by
  refine ⟨(rd_own h).2, fun hn a ea => ?_⟩
  rcases h.2 with ⟨h1, _⟩ | ⟨g', cap, cur, h1, h2, h3, _⟩
  · simp only [Value.slice.injEq] at h1; rw [h1.1] at ea; cases ea
  · simp only [Value.slice.injEq] at h1
    rw [h1.1] at ea
    injection ea with ea
    subst ea
    exact hG _ h2 (Array.getElem?_eq_some_iff.1 h3).1
theorem RdO.nil : RdO w G A 0 [] := ⟨Rd.nil, fun h => absurd h (by omega)⟩
end

/-- A node's four fields, in no block of G. -/
def NdR (w : World) (G : Nat → Prop) (a b c d : Value) (nd : Nd) : Prop :=
  ∃ A1 c1 A2 c2 A3 c3, a = .slice A1 nd.pre.length c1 ∧ b = .int .u64 (nd.val.toNat : Int) ∧ c = .slice A2 nd.labels.length c2 ∧ d = .slice A3 nd.kids.length c3 ∧ nd.pre.length ≤ c1 ∧
    RdO w G A1 nd.pre.length (nd.pre.map bv) ∧ RdO w G A2 nd.labels.length (nd.labels.map bv) ∧ RdO w G A3 nd.kids.length (nd.kids.map wv)

theorem NdR.moved {w w' : World} {G G' : Nat → Prop} {a b c d : Value} {nd : Nd} (h : NdR w G a b c d nd) (m : Moved G G' w w') : NdR w' G' a b c d nd := by
  obtain ⟨A1, c1, A2, c2, A3, c3, e1, e2, e3, e4, hc, h1, h2, h3⟩ := h
  exact ⟨A1, c1, A2, c2, A3, c3, e1, e2, e3, e4, hc, h1.moved m, h2.moved m, h3.moved m⟩
theorem NdR.of_v {w : World} {G : Nat → Prop} {base : Nat} {a b c d : Value} {nd : Nd} (h : NdV w base (.agg #[a, b, c, d]) nd) (hG : ∀ b, base ≤ b → b < w.heap.size → ¬ G b) : NdR w G a b c d nd := by
  obtain ⟨A1, c1, A2, c2, A3, c3, e, h1, h2, h3⟩ := h
  simp only [Value.agg.injEq] at e
  simp at e
  obtain ⟨rfl, rfl, rfl, rfl⟩ := e
  exact ⟨A1, c1, A2, c2, A3, c3, rfl, rfl, rfl, rfl, (rd_own h1).1, RdO.of_own h1 hG, RdO.of_own h2 hG, RdO.of_own h3 hG⟩

theorem reserve_at {L : Nat} {s s1 : St} {c off : Nat} (ok : ShOk L s.sh) (hntk : s.tk.length = s.sh.slabs) (hc : c = 1 ∨ c = 2) (h : reserveP s c = some (off, s1)) : ∃ o, off = 8 * o ∧ o + 8 * linesN c ≤ 8 * L := by
  unfold reserveP at h
  split at h
  · cases h
  · rename_i i hi
    split at h
    · cases h
    · rename_i a ha
      injection h with h
      injection h with h1 h2
      have hil := (slabFor_some hi).1
      have hal : a < blocksN c := by
        unfold nextW at ha
        split at ha
        · exact lowN_lt ha
        · cases ha
      unfold placeN at h1
      have := ok.data
      have := ok.fits
      rw [hntk] at hil
      rcases hc with rfl | rfl
      · refine ⟨off / 8, ?_, ?_⟩ <;> simp only [linesN, blocksN] at * <;> omega
      · refine ⟨off / 8, ?_, ?_⟩ <;> simp only [linesN, blocksN] at * <;> omega

theorem classN_or (x : Nd) : classN x = 1 ∨ classN x = 2 := by unfold classN; split <;> simp
theorem encW_lines (x : Nd) : (encW x).length = 8 * linesN (classN x) := by
  rw [encW_length]
  unfold classN
  split <;> rfl

theorem buildP_made (j : Jb) (n : Nd) : (buildP j n).1.made.length ≤ j.made.length + 1 := by
  unfold buildP
  split
  · simp
  · split
    · simp
    · split
      split <;> simp
theorem aboveP_made (j : Jb) (n : Nd) (label : UInt8) (kid : UInt64) (e : Int) : (aboveP j n label kid e).1.made.length ≤ j.made.length + 1 := by
  unfold aboveP
  split
  · simp
  · split
    · exact buildP_made _ _
    · simp
theorem leafP_made : ∀ (f : Nat) (j : Jb) (l : List UInt8) (value : UInt64), (leafP f j l value).1.made.length ≤ j.made.length + f
  | 0, j, l, value => by simp [leafP]
  | f + 1, j, l, value => by
    unfold leafP
    split
    · have := buildP_made j ⟨l, value, [], []⟩; omega
    · have h1 := leafP_made f j (l.drop 16) value
      split
      rename_i j1 kid e he
      rw [he] at h1
      have := aboveP_made j1 ⟨l.take 15, 0, [], []⟩ (l.getD 15 0) kid e
      simp only at h1
      omega

end Go.Proofs.YtklcklflnkbccaaGreatDoor

/- Walks of package index: stands, value. -/
namespace Go.Proofs.YtklcklflnkbccaaGreatDoor
open Go.RowKit

set_option maxHeartbeats 400000 in
theorem equalB_any (A B : Option Addr) (n m c d : Nat) (a b : List UInt8) (w : World) (hn : n ≤ 4294967296) (_hm : m ≤ 4294967296) (ha : Bs w A n a) (hb : Bs w B m b) :
    Calls Tryz.prog 73 #[.slice A n c, .slice B m d] w fun e w' => e = .returned (.bool (decide (a = b))) ∧ Dr w w' := by
  have hla := ha.len
  have hlb := hb.len
  by_cases hnm : n = m
  · subst hnm
    have t1 : ((n : Int) != (n : Int)) = false := by simp
    go_enter Tryz.func73, Tryz.ntmps73
    go_wp2
    go_loopw [13] (fun i wr => ∃ k : Nat, k ≤ n ∧ i = .int .i64 k ∧ (∀ j (h1 : j < a.length) (h2 : j < b.length), j < k → a[j] = b[j]) ∧ Dr w wr) (fun i _ => n - (intOf i).toNat)
    case atStart => exact ⟨0, Nat.zero_le _, rfl, fun j _ _ h => absurd h (by omega), Dr.refl _⟩
    case round =>
      obtain ⟨k, hk, rfl, heq, q, rfl⟩ := hrel
      by_cases hlt : k < n
      · obtain ⟨hq, p, off, rfl, hp, hc⟩ := ha.at hlt
        obtain ⟨hq2, p2, off2, rfl, hp2, hc2⟩ := hb.at hlt
        by_cases he : a[k] = b[k]
        · have t2 : (((a[k].toNat : Int)) != (b[k].toNat : Int)) = false := by simp [he]
          have HE : Hid (∀ j (h1 : j < a.length) (h2 : j < b.length), j < k + 1 → a[j] = b[j]) := Lib.hid fun j h1 h2 hj => by
            by_cases e : j = k
            · subst e; exact he
            · exact heq j h1 h2 (by omega)
          clear heq he
          go_wp2
          go_quiet (fail)
          go_wp2
          go_roundw
          case rel => exact ⟨k + 1, by omega, by go_num, HE.out, by first | exact Dr.one _ _ | exact Dr.two _ _ _⟩
          case measure => simp [intOf]; omega
        · have t2 : (((a[k].toNat : Int)) != (b[k].toNat : Int)) = true := by
            rw [bne_iff_ne]; intro e; exact he (UInt8.toNat_inj.1 (by omega))
          have HD : Hid (decide (a = b) = false) := Lib.hid (by rw [decide_eq_false_iff_not]; intro e; subst e; exact he rfl)
          clear heq he
          go_wp2
          go_quiet (fail)
          go_wp2
          go_ret
          exact ⟨by rw [HD.out]; rfl, by first | exact Dr.one _ _ | exact Dr.two _ _ _⟩
      · have hkn : k = n := by omega
        subst hkn
        have HD : Hid (decide (a = b) = true) := Lib.hid (by
          rw [decide_eq_true_iff]
          apply List.ext_getElem (by omega)
          intro j h1 h2
          exact heq j h1 h2 (by omega))
        clear heq
        go_wp2
        go_ret
        exact ⟨by rw [HD.out]; rfl, Dr.one _ _⟩
  · have t1 : ((n : Int) != (m : Int)) = true := by simp; omega
    have HD : Hid (decide (a = b) = false) := Lib.hid (by rw [decide_eq_false_iff_not]; intro e; subst e; omega)
    go_enter Tryz.func73, Tryz.ntmps73
    go_wp2
    go_ret
    exact ⟨by rw [HD.out]; rfl, Dr.refl _⟩

theorem blk_two (w : World) (o : Obj) (xs : List Value) (t : TypeId) : Blk ((w.alloc o).alloc (.cells xs.toArray t)) (w.heap.size + 1) t xs := by
  have := heap_alloc_new (w.alloc o) (.cells xs.toArray t)
  rw [show (w.alloc o).heap.size = w.heap.size + 1 by simp] at this
  exact this
theorem NdV.below {w w' : World} {base : Nat} {v : Value} {x : Nd} (h : NdV w base v x) (k : Below w.heap.size w w') : NdV w' base v x := by
  obtain ⟨A1, c1, A2, c2, A3, c3, e, h1, h2, h3⟩ := h
  exact ⟨A1, c1, A2, c2, A3, c3, e, own_below h1 k, own_below h2 k, own_below h3 k⟩
theorem PlV.len {w : World} {base : Nat} {cs : List Value} {p : Pl} (h : PlV w base cs p) : cs.length = 7 := by
  obtain ⟨a, b, c, d, rfl, _⟩ := h; rfl
theorem PlsV.get {w : World} {base : Nat} : ∀ (vs : List (List Value)) (ps : List Pl), PlsV w base vs ps → ∀ i (h : i < ps.length), ∃ cs, PlV w base cs ps[i] ∧ ∀ j, j < 7 → vs.flatten[7 * i + j]? = cs[j]?
  | [], [], _, i, hi => by simp at hi
  | [], _ :: _, h, _, _ => h.elim
  | _ :: _, [], h, _, _ => h.elim
  | c :: vs, p :: ps, h, 0, hi => ⟨c, h.1, fun j hj => by
      have := h.1.len
      rw [List.flatten_cons, List.getElem?_append_left (by omega)]; simp⟩
  | c :: vs, p :: ps, h, i + 1, hi => by
      obtain ⟨cs, h1, h2⟩ := PlsV.get vs ps h.2 i (by simpa using hi)
      refine ⟨cs, by simpa using h1, fun j hj => ?_⟩
      have := h.1.len
      rw [List.flatten_cons, List.getElem?_append_right (by omega), ← h2 j hj]
      congr 1
      omega

/-- A place of a way, in memory. -/
structure WayCell (w : World) (base : Nat) (g i : Nat) (pl : Pl) (a b c d : Value) : Prop where
  cells : ∀ j u, [a, b, c, d, .int .i64 pl.off, .int .u8 (pl.label.toNat : Int), .int .i64 pl.word][j]? = some u → w.cell? ⟨g, 7 * i + j, none⟩ = some u
  nd : NdV w base (.agg #[a, b, c, d]) pl.nd

theorem WayAt.at {w : World} {base : Nat} {v : Value} {way : List Pl} (h : WayAt w base v way) (h0 : way ≠ []) : ∃ g c, v = .slice (some ⟨g, 0, none⟩) way.length c ∧ way.length ≤ c ∧ base ≤ g ∧ g < w.heap.size ∧
    ∀ i (hi : i < way.length), ∃ a b c' d, WayCell w base g i way[i] a b c' d := by
  obtain ⟨vs, ho, hp⟩ := h
  rcases ho.2 with ⟨_, h2⟩ | ⟨g, cap, cur, h1, h2, h3, h4, h5, h6, h7⟩
  · exact absurd (List.length_eq_zero_iff.1 h2) h0
  · refine ⟨g, cap, h1, h4, h2, (Array.getElem?_eq_some_iff.1 h3).1, fun i hi => ?_⟩
    obtain ⟨cs, ⟨a, b, c, d, rfl, hn⟩, hc⟩ := PlsV.get vs way hp i hi
    refine ⟨a, b, c, d, ⟨fun j u hj => ?_, hn⟩⟩
    have hj7 : j < 7 := by have := (List.getElem?_eq_some_iff.1 hj).1; simpa using this
    rw [cell_of_row w g _ cur _ (0, 0) h3, ← hj, ← hc j hj7, ← h7, List.getElem?_take, if_pos (by omega)]
    simp

theorem Tryz.placeSize : (Tryz.prog.info? 98).map (·.size) = some 7 := by kernel_rfl

def zeroPl : Value := .agg #[.slice none 0 0, .int .u64 0, .slice none 0 0, .slice none 0 0, .int .i64 0, .int .u8 0, .int .i64 0]

theorem fro7 {w : World} {g : Nat} {e : TypeId} {a b c d k l m : Value} (h : Blk w g e [a, b, c, d, k, l, m]) : w.frozen? ⟨g, 0, none⟩ = false ∧ w.frozen? ⟨g, 1, none⟩ = false ∧ w.frozen? ⟨g, 2, none⟩ = false ∧ w.frozen? ⟨g, 3, none⟩ = false ∧ w.frozen? ⟨g, 4, none⟩ = false ∧ w.frozen? ⟨g, 5, none⟩ = false ∧ w.frozen? ⟨g, 6, none⟩ = false :=
  ⟨h.frozen 0, h.frozen 1, h.frozen 2, h.frozen 3, h.frozen 4, h.frozen 5, h.frozen 6⟩

theorem place_ret {Q : Ending → World → Prop} {W : World} {tmps : Array Value} {fn : Func} (hr : fn.results = #[.cell 4 98, .tmp 5]) (g : Nat) {a b c d k l m : Value} (h : Blk W g 98 [a, b, c, d, k, l, m]) (v : Value) (h2 : tmps[4]? = some (.pointer (some ⟨g, 0, none⟩))) (h3 : tmps[5]? = some v)
    (hq : Q (.returned (.tuple #[.agg #[a, b, c, d, k, l, m], v])) W) : bodyPost Tryz.prog fn Q Exit.ret { tmps := tmps, defers := [] } W := by
  obtain ⟨y0, y1, y2, y3, y4, y5, y6⟩ := cell7 h
  have hu := run_underlying (P := Tryz.prog) Tryz.underlying98
  refine bodyPost_ret (v := .tuple #[.agg #[a, b, c, d, k, l, m], v]) (by simp [results, hr, go_sem, h2, h3, y0, y1, y2, y3, y4, y5, y6]) rfl hq

/-- Seven cells are written. -/
theorem set7 {w W : World} {base g : Nat} {e : TypeId} {a0 a1 a2 a3 a4 a5 a6 : Value} (h : Blk W g e [a0, a1, a2, a3, a4, a5, a6]) (hb : Below base w W) (hg : base ≤ g) (b0 b1 b2 b3 b4 b5 b6 : Value) :
    ∃ W', W' = (((((((W.setCell ⟨g, 0, none⟩ b0).setCell ⟨g, 1, none⟩ b1).setCell ⟨g, 2, none⟩ b2).setCell ⟨g, 3, none⟩ b3).setCell ⟨g, 4, none⟩ b4).setCell ⟨g, 5, none⟩ b5).setCell ⟨g, 6, none⟩ b6) ∧ Blk W' g e [b0, b1, b2, b3, b4, b5, b6] ∧
    Below base w W' ∧
    Kept W W' (some g) :=
  ⟨_, rfl, ((((((h.set_ 0 b0).set_ 1 b1).set_ 2 b2).set_ 3 b3).set_ 4 b4).set_ 5 b5).set_ 6 b6,
    ((((((hb.setCell (p := ⟨g, 0, none⟩) hg b0).setCell (p := ⟨g, 1, none⟩) hg b1).setCell (p := ⟨g, 2, none⟩) hg b2).setCell (p := ⟨g, 3, none⟩) hg b3).setCell (p := ⟨g, 4, none⟩) hg b4).setCell (p := ⟨g, 5, none⟩) hg b5).setCell (p := ⟨g, 6, none⟩) hg b6,
    ((((((Kept.set_ W g 0 b0).trans' (Kept.set_ _ g 1 b1)).trans' (Kept.set_ _ g 2 b2)).trans' (Kept.set_ _ g 3 b3)).trans' (Kept.set_ _ g 4 b4)).trans' (Kept.set_ _ g 5 b5)).trans' (Kept.set_ _ g 6 b6)⟩

def StandsPost (way : List Pl) (rest : List UInt8) (base : Nat) (w : World) (e : Ending) (w' : World) : Prop :=
  Below w.heap.size w w' ∧ match standsP way rest with
    | none => e = .returned (.tuple #[zeroPl, .bool false])
    | some last => ∃ a b c d, e = .returned (.tuple #[.agg #[a, b, c, d, .int .i64 last.off, .int .u8 (last.label.toNat : Int), .int .i64 last.word], .bool true]) ∧ NdV w' base (.agg #[a, b, c, d]) last.nd

set_option maxHeartbeats 4000000 in
set_option maxRecDepth 100000 in
theorem stands_any {w : World} {base c : Nat} {vw : Value} {way : List Pl} {A : Option Addr} {rest : List UInt8} (hW : WayAt w base vw way) (hl : way.length ≤ 1000000) (hp : ∀ pl ∈ way, pl.nd.pre.length ≤ 1000) (hR : Bs w A rest.length rest) (hr : rest.length ≤ 1000000) :
    Calls Tryz.prog 43 #[vw, .slice A rest.length c] w (StandsPost way rest base w) := by
  have B0 : Blk (w.alloc (.cells #[.slice none 0 0, .int .u64 0, .slice none 0 0, .slice none 0 0, .int .i64 0, .int .u8 0, .int .i64 0] 98)) w.heap.size 98 [.slice none 0 0, .int .u64 0, .slice none 0 0, .slice none 0 0, .int .i64 0, .int .u8 0, .int .i64 0] := heap_alloc_new _ _
  have hb0 : Below w.heap.size w (w.alloc (.cells #[.slice none 0 0, .int .u64 0, .slice none 0 0, .slice none 0 0, .int .i64 0, .int .u8 0, .int .i64 0] 98)) := (Below.refl _ _).alloc (Nat.le_refl _) _
  by_cases h0 : way = []
  · subst h0
    obtain ⟨Av, cv, hvw⟩ : ∃ Av cv, vw = .slice Av 0 cv := by
      obtain ⟨vs, ho, _⟩ := hW
      rcases ho.2 with ⟨h1, _⟩ | ⟨g, cap, cur, h1, _⟩
      · exact ⟨_, _, h1⟩
      · exact ⟨_, _, h1⟩
    subst hvw
    have HV : Hid (standsP [] rest = none) := Lib.hid rfl
    clear hW hR hl
    obtain ⟨f0, f1, f2, f3, f4, f5, f6⟩ := fro7 B0
    obtain ⟨y0, y1, y2, y3, y4, y5, y6⟩ := cell7 B0
    go_enter Tryz.func43, Tryz.ntmps43
    go_wp2_with fail
    refine place_ret rfl w.heap.size B0 (.bool false) rfl rfl ⟨hb0, ?_⟩
    rw [HV.out]
    rfl
  · obtain ⟨g, cv, rfl, hcv, hbg, hgw, hat⟩ := hW.at h0
    have hn0 : 0 < way.length := List.length_pos_iff.2 h0
    obtain ⟨a, b, c', d', hwc⟩ := hat (way.length - 1) (by omega)
    have hlast : way.getLast? = some (way[way.length - 1]'(by omega)) := by rw [List.getLast?_eq_getElem?, List.getElem?_eq_getElem (by omega)]
    have HPn := Lib.hid (hp (way[way.length - 1]'(by omega)) (List.getElem_mem _))
    generalize way[way.length - 1]'(by omega) = last at *
    have HSt : Hid (standsP way rest = if last.nd.pre = rest then some last else none) := Lib.hid (by rw [standsP, hlast])
    have t0 : ((way.length : Int) == 0) = false := by rw [beq_eq_false_iff_ne]; omega
    obtain ⟨m, hm⟩ : ∃ m, m = way.length - 1 := ⟨_, rfl⟩
    have hw1 : IntKind.i64.wrap ((way.length : Int) - 1) = (m : Int) := (wrap64 _ (by omega) (by omega)).trans (by omega)
    have hx1 : decide ((m : Int) < (way.length : Int)) = true := decide_eq_true (by omega)
    have hx2 : m < way.length := by omega
    have hx3 : (m : Int) < (way.length : Int) := by omega
    obtain ⟨A1, p1, A2, p2, A3, p3, e, o1, o2, o3⟩ := hwc.nd
    simp only [Value.agg.injEq] at e
    simp at e
    obtain ⟨rfl, rfl, rfl, rfl⟩ := e
    have HC : Hid (∀ j v, [Value.slice A1 last.nd.pre.length p1, .int .u64 (last.nd.val.toNat : Int), .slice A2 last.nd.labels.length p2, .slice A3 last.nd.kids.length p3, .int .i64 last.off, .int .u8 (last.label.toNat : Int), .int .i64 last.word][j]? = some v → w.cell? ⟨g, 7 * m + j, none⟩ = some v) := Lib.hid (by rw [hm]; exact hwc.cells)
    have HN := Lib.hid hwc.nd
    have hz : ∀ j v, [Value.slice A1 last.nd.pre.length p1, .int .u64 (last.nd.val.toNat : Int), .slice A2 last.nd.labels.length p2, .slice A3 last.nd.kids.length p3, .int .i64 last.off, .int .u8 (last.label.toNat : Int), .int .i64 last.word][j]? = some v → (w.alloc (.cells #[.slice none 0 0, .int .u64 0, .slice none 0 0, .slice none 0 0, .int .i64 0, .int .u8 0, .int .i64 0] 98)).cell? ⟨g, m * 7 + j, none⟩ = some v := fun j v hj => by
      rw [hb0.cell (p := ⟨g, m * 7 + j, none⟩) hgw, Nat.mul_comm]; exact HC.out j v hj
    have z0 := hz 0 _ rfl
    have z1 := hz 1 _ rfl
    have z2 := hz 2 _ rfl
    have z3 := hz 3 _ rfl
    have z4 := hz 4 _ rfl
    have z5 := hz 5 _ rfl
    have z6 := hz 6 _ rfl
    rw [Nat.add_zero] at z0
    have HB0 := Lib.hid B0
    have Hb0 := Lib.hid hb0
    have HR := Lib.hid hR
    clear hat hlast hW hwc o1 o2 o3 hm B0 hz HC hR hb0
    go_enter Tryz.func43, Tryz.ntmps43
    go_wp2_with fail
    have B1 := HB0.out.below ((Below.refl _ _).alloc (Nat.le_refl _) (.cells #[Value.slice A1 last.nd.pre.length p1, .int .u64 (last.nd.val.toNat : Int), .slice A2 last.nd.labels.length p2, .slice A3 last.nd.kids.length p3, .int .i64 last.off, .int .u8 (last.label.toNat : Int), .int .i64 last.word] 98)) HB0.out.lt
    have B2 : Blk ((w.alloc (.cells #[.slice none 0 0, .int .u64 0, .slice none 0 0, .slice none 0 0, .int .i64 0, .int .u8 0, .int .i64 0] 98)).alloc (.cells #[Value.slice A1 last.nd.pre.length p1, .int .u64 (last.nd.val.toNat : Int), .slice A2 last.nd.labels.length p2, .slice A3 last.nd.kids.length p3, .int .i64 last.off, .int .u8 (last.label.toNat : Int), .int .i64 last.word] 98)) (w.heap.size + 1) 98 [Value.slice A1 last.nd.pre.length p1, .int .u64 (last.nd.val.toNat : Int), .slice A2 last.nd.labels.length p2, .slice A3 last.nd.kids.length p3, .int .i64 last.off, .int .u8 (last.label.toNat : Int), .int .i64 last.word] := blk_two _ _ _ _
    have hb2 := Hb0.out.alloc Hb0.out.size (.cells #[Value.slice A1 last.nd.pre.length p1, .int .u64 (last.nd.val.toNat : Int), .slice A2 last.nd.labels.length p2, .slice A3 last.nd.kids.length p3, .int .i64 last.off, .int .u8 (last.label.toNat : Int), .int .i64 last.word] 98)
    clear z0 z1 z2 z3 z4 z5 z6
    generalize ((w.alloc (.cells #[.slice none 0 0, .int .u64 0, .slice none 0 0, .slice none 0 0, .int .i64 0, .int .u8 0, .int .i64 0] 98)).alloc (.cells #[Value.slice A1 last.nd.pre.length p1, .int .u64 (last.nd.val.toNat : Int), .slice A2 last.nd.labels.length p2, .slice A3 last.nd.kids.length p3, .int .i64 last.off, .int .u8 (last.label.toNat : Int), .int .i64 last.word] 98)) = W2 at *
    obtain ⟨A1', p1', A2', p2', A3', p3', e, o1, o2, o3⟩ := HN.out
    simp only [Value.agg.injEq] at e
    simp at e
    obtain ⟨⟨rfl, rfl⟩, ⟨rfl, rfl⟩, ⟨rfl, rfl⟩⟩ := e
    refine (equalB_any A1 A last.nd.pre.length rest.length p1 c last.nd.pre rest W2 (by have := HPn.out; omega) (by omega) (rd_own (own_below o1 hb2)).2 (HR.out.below hb2)).mono ?_
    clear o1 o2 o3
    rintro e w3 ⟨rfl, hd3⟩
    have hb3 := hb2.trans ((hd3.below W2.heap.size).mono hb2.size)
    replace B1 := B1.below (hd3.below _) B1.lt
    replace B2 := B2.below (hd3.below _) B2.lt
    clear hb2 hd3 HR
    obtain ⟨f0, f1, f2, f3, f4, f5, f6⟩ := fro7 B1
    obtain ⟨y0, y1, y2, y3, y4, y5, y6⟩ := cell7 B1
    obtain ⟨z0, z1, z2, z3, z4, z5, z6⟩ := cell7 B2
    have hg1 : w.heap.size ≠ w.heap.size + 1 := by omega
    by_cases he : last.nd.pre = rest
    · have HV : Hid (standsP way rest = some last) := Lib.hid (by rw [HSt.out, if_pos he])
      have hd : decide (last.nd.pre = rest) = true := decide_eq_true he
      rw [hd]
      clear HSt hd he
      have HB := Lib.hid B1
      have Hb := Lib.hid hb3
      clear B1 B2 hb3 HB0 Hb0
      go_wp2_with fail
      obtain ⟨W9, hW9, BF, hbF, -⟩ := set7 HB.out Hb.out (Nat.le_refl _) (Value.slice A1 last.nd.pre.length p1) (.int .u64 (last.nd.val.toNat : Int)) (.slice A2 last.nd.labels.length p2) (.slice A3 last.nd.kids.length p3) (.int .i64 last.off) (.int .u8 (last.label.toNat : Int)) (.int .i64 last.word)
      rw [← hW9]
      refine place_ret rfl w.heap.size BF (.bool true) rfl rfl ⟨hbF, ?_⟩
      rw [HV.out]
      exact ⟨_, _, _, _, rfl, HN.out.below hbF⟩
    · have HV : Hid (standsP way rest = none) := Lib.hid (by rw [HSt.out, if_neg he])
      have hd : decide (last.nd.pre = rest) = false := decide_eq_false he
      rw [hd]
      clear HSt hd he
      have HB := Lib.hid B1
      have Hb := Lib.hid hb3
      clear B1 B2 hb3 HB0 Hb0 z0 z1 z2 z3 z4 z5 z6
      go_wp2_with fail
      obtain ⟨W9, hW9, BF, hbF, -⟩ := set7 HB.out Hb.out (Nat.le_refl _) (.slice none 0 0) (.int .u64 0) (.slice none 0 0) (.slice none 0 0) (.int .i64 0) (.int .u8 0) (.int .i64 0)
      rw [← hW9]
      refine place_ret rfl w.heap.size BF (.bool false) rfl rfl ⟨hbF, ?_⟩
      rw [HV.out]
      rfl

end Go.Proofs.YtklcklflnkbccaaGreatDoor
