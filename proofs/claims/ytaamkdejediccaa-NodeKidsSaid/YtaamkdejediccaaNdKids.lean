/- The law NodeKids of layer 9, as a walk. -/
import Derived.Test.YtaamkdejediccaaNdRefC
import Derived.Test.YtaamkdejediccaaNdRefD
import Derived.Test.YtaamkdejediccaaNodeS
namespace Go.Proofs.Ytaamkdejediccaa
open Go.RowKit

def nilN : Nd := { pre := [], val := 0, labels := [], kids := [] }
/-- A node that is handed back with a word on whether there is one, and where it lies. -/
def OutB (b : Bool) (y : Nd) (w' : World) (e : Ending) : Prop := ∃ A1 c1 A2 c2 A3 c3, e = .returned (.tuple #[.agg #[.slice A1 y.pre.length c1, .int .u64 (y.val.toNat : Int), .slice A2 y.labels.length c2, .slice A3 y.kids.length c3], .bool b]) ∧ Bs w' A1 y.pre.length y.pre ∧ Bs w' A2 y.labels.length y.labels ∧ Ws w' A3 y.kids.length y.kids
theorem outB_no {w' : World} {e : Ending} (h : e = .returned noNode) : OutB false nilN w' e := ⟨none, 0, none, 0, none, 0, h, Rd.nil, Rd.nil, Rd.nil⟩
def withY (x : Nd) (label : UInt8) (kid : UInt64) : Nd := if withOk x label kid then withN x label kid else nilN
def outOk (x : Nd) (label : UInt8) : Bool := rightB x && (findL x.labels label).isSome
def outY (x : Nd) (label : UInt8) : Nd := match findL x.labels label with | some i => if rightB x then outN x i else nilN | none => nilN

section
variable (A1 A2 A3 : Option Addr) (n1 c1 n2 c2 n3 c3 : Nat) (x : Nd) (label : UInt8) (kid : UInt64) (w : World) (b1 : n1 ≤ 1000) (b2 : n2 ≤ 1000) (b3 : n3 ≤ 1000) (h1 : Bs w A1 n1 x.pre) (h2 : Bs w A2 n2 x.labels) (h3 : Ws w A3 n3 x.kids)
include b1 b2 b3 h1 h2 h3

theorem with_all : Calls Try.prog 38 #[.agg #[.slice A1 n1 c1, .int .u64 (x.val.toNat : Int), .slice A2 n2 c2, .slice A3 n3 c3], .int .u8 (label.toNat : Int), .int .u64 (kid.toNat : Int)] w fun e w' => OutB (withOk x label kid) (withY x label kid) w' e ∧ Below w.heap.size w w' := by
  unfold withY
  cases hok : withOk x label kid with
  | false => exact (with_no A1 A2 A3 n1 c1 n2 c2 n3 c3 x label kid w (by omega) (by omega) (by omega) h1 h2 h3 hok).mono fun e w' h => ⟨outB_no h.1, h.2⟩
  | true => exact (with_yes A1 A2 A3 n1 c1 n2 c2 n3 c3 x label kid w b1 b2 b3 h1 h2 h3 hok).mono fun e w' h => ⟨h.1, h.2⟩

theorem withR_all : Calls Try.prog 39 #[.agg #[.slice A1 n1 c1, .int .u64 (x.val.toNat : Int), .slice A2 n2 c2, .slice A3 n3 c3], .int .u8 (label.toNat : Int), .int .u64 (kid.toNat : Int)] w fun e w' => OutB (withOk x label kid) (withY x label kid) w' e ∧ Below w.heap.size w w' := by
  unfold withY
  cases hok : withOk x label kid with
  | false => exact (withR_no A1 A2 A3 n1 c1 n2 c2 n3 c3 x label kid w (by omega) (by omega) (by omega) h1 h2 h3 hok).mono fun e w' h => ⟨outB_no h.1, h.2⟩
  | true => exact (withR_yes A1 A2 A3 n1 c1 n2 c2 n3 c3 x label kid w b1 b2 b3 h1 h2 h3 hok).mono fun e w' h => ⟨h.1, h.2⟩

theorem without_all : Calls Try.prog 40 #[.agg #[.slice A1 n1 c1, .int .u64 (x.val.toNat : Int), .slice A2 n2 c2, .slice A3 n3 c3], .int .u8 (label.toNat : Int)] w fun e w' => OutB (outOk x label) (outY x label) w' e ∧ Below w.heap.size w w' := by
  unfold outY outOk
  cases hf : findL x.labels label with
  | none =>
    rw [Option.isSome_none, Bool.and_false]
    exact (without_no A1 A2 A3 n1 c1 n2 c2 n3 c3 x label w (by omega) (by omega) (by omega) h1 h2 h3 (.inl hf)).mono fun e w' h => ⟨outB_no h.1, h.2⟩
  | some i =>
    rw [Option.isSome_some, Bool.and_true]
    cases hR : rightB x with
    | false => exact (without_no A1 A2 A3 n1 c1 n2 c2 n3 c3 x label w (by omega) (by omega) (by omega) h1 h2 h3 (.inr hR)).mono fun e w' h => ⟨outB_no h.1, h.2⟩
    | true => exact (without_yes A1 A2 A3 n1 c1 n2 c2 n3 c3 x label i w b1 b2 b3 h1 h2 h3 hf hR).mono fun e w' h => ⟨h.1, h.2⟩

theorem withoutR_all : Calls Try.prog 41 #[.agg #[.slice A1 n1 c1, .int .u64 (x.val.toNat : Int), .slice A2 n2 c2, .slice A3 n3 c3], .int .u8 (label.toNat : Int)] w fun e w' => OutB (outOk x label) (outY x label) w' e ∧ Below w.heap.size w w' := by
  unfold outY outOk
  cases hf : findL x.labels label with
  | none =>
    rw [Option.isSome_none, Bool.and_false]
    exact (withoutR_no A1 A2 A3 n1 c1 n2 c2 n3 c3 x label w (by omega) (by omega) (by omega) h1 h2 h3 (.inl hf)).mono fun e w' h => ⟨outB_no h.1, h.2⟩
  | some i =>
    rw [Option.isSome_some, Bool.and_true]
    cases hR : rightB x with
    | false => exact (withoutR_no A1 A2 A3 n1 c1 n2 c2 n3 c3 x label w (by omega) (by omega) (by omega) h1 h2 h3 (.inr hR)).mono fun e w' h => ⟨outB_no h.1, h.2⟩
    | true => exact (withoutR_yes A1 A2 A3 n1 c1 n2 c2 n3 c3 x label i w b1 b2 b3 h1 h2 h3 hf hR).mono fun e w' h => ⟨h.1, h.2⟩
end

theorem withY_len (x : Nd) (label : UInt8) (kid : UInt64) (h : x.kids.length ≤ 1000) : (withY x label kid).kids.length ≤ 1000000 := by
  unfold withY
  split
  · show (ins _ _ _).length ≤ _
    unfold ins; simp; omega
  · exact Nat.zero_le _
theorem outY_len (x : Nd) (label : UInt8) (h : x.kids.length ≤ 1000) : (outY x label).kids.length ≤ 1000000 := by
  unfold outY
  split
  · split
    · show (del _ _).length ≤ _
      unfold del; simp; omega
    · exact Nat.zero_le _
  · exact Nat.zero_le _

theorem kidV_shape (x : Nd) (label : UInt8) : ∃ (u i : Int) (b : Bool), kidV x label = .tuple #[.int .u64 u, .int .i64 i, .bool b] := by
  unfold kidV
  split
  · split
    · exact ⟨_, _, _, rfl⟩
    · exact ⟨_, _, _, rfl⟩
  · exact ⟨_, _, _, rfl⟩

set_option maxHeartbeats 8000000 in
theorem nodeKids_law (A1 A2 A3 : Option Addr) (n1 c1 n2 c2 n3 c3 : Nat) (x : Nd) (label : UInt8) (kid : UInt64) (w : World) (m1 : n1 ≤ maxLen) (m2 : n2 ≤ maxLen) (m3 : n3 ≤ maxLen) (h1 : Bs w A1 n1 x.pre) (h2 : Bs w A2 n2 x.labels) (h3 : Ws w A3 n3 x.kids) :
    Calls Try.prog 12 #[.agg #[.slice A1 n1 c1, .int .u64 (x.val.toNat : Int), .slice A2 n2 c2, .slice A3 n3 c3], .int .u8 (label.toNat : Int), .int .u64 (kid.toNat : Int)] w fun e w' => e = .returned (.bool true) ∧ Below w.heap.size w w' := by
  have hl3 := h3.len
  obtain ⟨W, hW, e0, e1, e2, e3, hb, hs⟩ := box4 w 40 (.slice A1 n1 c1) (.int .u64 (x.val.toNat : Int)) (.slice A2 n2 c2) (.slice A3 n3 c3)
  have HW := Lib.hid hW
  have BX : Blk W w.heap.size 40 [.slice A1 n1 c1, .int .u64 (x.val.toNat : Int), .slice A2 n2 c2, .slice A3 n3 c3] := by rw [hW]; exact heap_alloc_new w _
  clear hW e0 e1 e2 e3
  go_enter Try.func12, Try.ntmps12
  go_wp2_with fail
  rw [← HW.out]
  refine (alive9_any W).mono ?_
  rintro e w1 ⟨rfl, hb1⟩
  replace BX := BX.below hb1 BX.lt
  have hb01 := hb.trans (hb1.mono hb.size)
  clear hb1 HW hb
  obtain ⟨p0, p1, p2, p3, _⟩ := blk4 BX
  go_wp2_with fail
  refine (few_any A1 A2 A3 n1 c1 n2 c2 n3 c3 (.int .u64 (x.val.toNat : Int)) w1 m1 m2 m3).mono ?_
  rintro e w2 ⟨rfl, hb2⟩
  replace BX := BX.below hb2 BX.lt
  have hb02 := hb01.trans (hb2.mono hb01.size)
  clear p0 p1 p2 p3 hb01 hb2
  obtain ⟨p0, p1, p2, p3, _⟩ := blk4 BX
  cases hf : decide (n1 ≤ 200) && decide (n2 ≤ 200) && decide (n3 ≤ 200) with
  | false =>
    clear hf
    go_wp2_with fail
    go_ret
    exact ⟨rfl, hb02⟩
  | true =>
    simp only [Bool.and_eq_true, decide_eq_true_eq] at hf
    obtain ⟨⟨f1, f2⟩, f3⟩ := hf
    have hlb : label.toNat < 256 := label.toNat_lt
    obtain ⟨ku, ki, kb, hkv⟩ := kidV_shape x label
    have HKV := Lib.hid hkv
    have HL3 := Lib.hid hl3
    clear hkv hl3
    go_wp2_with fail
    refine (kid_node A1 A2 A3 n1 c1 n2 c2 n3 c3 x label w2 (by omega) (by omega) (by omega) (h1.below hb02) (h2.below hb02) (h3.below hb02)).mono ?_
    rintro e w3 ⟨rfl, hb3⟩
    rw [HKV.out]
    replace BX := BX.below hb3 BX.lt
    have hb03 := hb02.trans (hb3.mono hb02.size)
    clear p0 p1 p2 p3 hb02 hb3
    obtain ⟨p0, p1, p2, p3, _⟩ := blk4 BX
    go_wp2_with fail
    refine (kidR_any A1 A2 A3 n1 c1 n2 c2 n3 c3 x label w3 (by omega) (by omega) (by omega) (h1.below hb03) (h2.below hb03) (h3.below hb03)).mono ?_
    rintro e w4 ⟨rfl, hb4⟩
    rw [HKV.out]
    replace BX := BX.below hb4 BX.lt
    have hb0 := hb03.trans (hb4.mono hb03.size)
    clear p0 p1 p2 p3 hb03 hb4 HKV
    obtain ⟨p0, p1, p2, p3, _⟩ := blk4 BX
    go_wp2_with fail
    obtain ⟨wc, hwc⟩ : ∃ wc, wc = w4 := ⟨_, rfl⟩
    rw [← hwc] at BX hb0 ⊢
    clear hwc p0 p1 p2 p3
    refine (with_all A1 A2 A3 n1 c1 n2 c2 n3 c3 x label kid wc (by omega) (by omega) (by omega) (h1.below hb0) (h2.below hb0) (h3.below hb0)).mono ?_
    rintro e wG ⟨⟨G1, g1, G2, g2, G3, g3, rfl, rG1, rG2, rG3⟩, hbG⟩
    replace BX := BX.below hbG BX.lt
    replace hb0 := hb0.trans (hbG.mono hb0.size)
    clear hbG
    have hx : Below wG.heap.size wG (wG.alloc (.cells #[.slice G1 (withY x label kid).pre.length g1, .int .u64 ((withY x label kid).val.toNat : Int), .slice G2 (withY x label kid).labels.length g2, .slice G3 (withY x label kid).kids.length g3] 44)) := (Below.refl _ _).alloc (Nat.le_refl _) _
    have BG : Blk (wG.alloc (.cells #[.slice G1 (withY x label kid).pre.length g1, .int .u64 ((withY x label kid).val.toNat : Int), .slice G2 (withY x label kid).labels.length g2, .slice G3 (withY x label kid).kids.length g3] 44)) wG.heap.size 44 [.slice G1 (withY x label kid).pre.length g1, .int .u64 ((withY x label kid).val.toNat : Int), .slice G2 (withY x label kid).labels.length g2, .slice G3 (withY x label kid).kids.length g3] := heap_alloc_new wG _
    replace BX := BX.below hx BX.lt
    replace rG1 := rG1.below hx
    replace rG2 := rG2.below hx
    replace rG3 := rG3.below hx
    replace hb0 := hb0.trans (hx.mono hb0.size)
    clear hx
    obtain ⟨VG, hVG⟩ : ∃ V, V = wG.alloc (.cells #[.slice G1 (withY x label kid).pre.length g1, .int .u64 ((withY x label kid).val.toNat : Int), .slice G2 (withY x label kid).labels.length g2, .slice G3 (withY x label kid).kids.length g3] 44) := ⟨_, rfl⟩
    have HVG := Lib.hid hVG
    obtain ⟨p0, p1, p2, p3, _⟩ := blk4 BX
    rw [← hVG] at BX hb0 BG rG1 rG2 rG3
    clear hVG
    go_wp2_with fail
    rw [← HVG.out]
    clear p0 p1 p2 p3 HVG
    refine (withR_all A1 A2 A3 n1 c1 n2 c2 n3 c3 x label kid VG (by omega) (by omega) (by omega) (h1.below hb0) (h2.below hb0) (h3.below hb0)).mono ?_
    rintro e wJ ⟨⟨J1, j1, J2, j2, J3, j3, rfl, rJ1, rJ2, rJ3⟩, hbJ⟩
    replace BX := BX.below hbJ BX.lt
    replace BG := BG.below hbJ BG.lt
    replace rG1 := rG1.below hbJ
    replace rG2 := rG2.below hbJ
    replace rG3 := rG3.below hbJ
    replace hb0 := hb0.trans (hbJ.mono hb0.size)
    clear hbJ
    have hx : Below wJ.heap.size wJ (wJ.alloc (.cells #[.slice J1 (withY x label kid).pre.length j1, .int .u64 ((withY x label kid).val.toNat : Int), .slice J2 (withY x label kid).labels.length j2, .slice J3 (withY x label kid).kids.length j3] 40)) := (Below.refl _ _).alloc (Nat.le_refl _) _
    have BJ : Blk (wJ.alloc (.cells #[.slice J1 (withY x label kid).pre.length j1, .int .u64 ((withY x label kid).val.toNat : Int), .slice J2 (withY x label kid).labels.length j2, .slice J3 (withY x label kid).kids.length j3] 40)) wJ.heap.size 40 [.slice J1 (withY x label kid).pre.length j1, .int .u64 ((withY x label kid).val.toNat : Int), .slice J2 (withY x label kid).labels.length j2, .slice J3 (withY x label kid).kids.length j3] := heap_alloc_new wJ _
    replace BX := BX.below hx BX.lt
    replace rJ1 := rJ1.below hx
    replace rJ2 := rJ2.below hx
    replace rJ3 := rJ3.below hx
    replace BG := BG.below hx BG.lt
    replace rG1 := rG1.below hx
    replace rG2 := rG2.below hx
    replace rG3 := rG3.below hx
    replace hb0 := hb0.trans (hx.mono hb0.size)
    clear hx
    obtain ⟨VJ, hVJ⟩ : ∃ V, V = wJ.alloc (.cells #[.slice J1 (withY x label kid).pre.length j1, .int .u64 ((withY x label kid).val.toNat : Int), .slice J2 (withY x label kid).labels.length j2, .slice J3 (withY x label kid).kids.length j3] 40) := ⟨_, rfl⟩
    have HVJ := Lib.hid hVJ
    obtain ⟨p0, p1, p2, p3, _⟩ := blk4 BX
    rw [← hVJ] at BX hb0 BG rG1 rG2 rG3 BJ rJ1 rJ2 rJ3
    clear hVJ
    go_wp2_with fail
    rw [← HVJ.out]
    clear p0 p1 p2 p3 HVJ
    refine (without_all A1 A2 A3 n1 c1 n2 c2 n3 c3 x label VJ (by omega) (by omega) (by omega) (h1.below hb0) (h2.below hb0) (h3.below hb0)).mono ?_
    rintro e wS ⟨⟨S1, s1, S2, s2, S3, s3, rfl, rS1, rS2, rS3⟩, hbS⟩
    replace BX := BX.below hbS BX.lt
    replace BG := BG.below hbS BG.lt
    replace rG1 := rG1.below hbS
    replace rG2 := rG2.below hbS
    replace rG3 := rG3.below hbS
    replace BJ := BJ.below hbS BJ.lt
    replace rJ1 := rJ1.below hbS
    replace rJ2 := rJ2.below hbS
    replace rJ3 := rJ3.below hbS
    replace hb0 := hb0.trans (hbS.mono hb0.size)
    clear hbS
    have hx : Below wS.heap.size wS (wS.alloc (.cells #[.slice S1 (outY x label).pre.length s1, .int .u64 ((outY x label).val.toNat : Int), .slice S2 (outY x label).labels.length s2, .slice S3 (outY x label).kids.length s3] 44)) := (Below.refl _ _).alloc (Nat.le_refl _) _
    have BS : Blk (wS.alloc (.cells #[.slice S1 (outY x label).pre.length s1, .int .u64 ((outY x label).val.toNat : Int), .slice S2 (outY x label).labels.length s2, .slice S3 (outY x label).kids.length s3] 44)) wS.heap.size 44 [.slice S1 (outY x label).pre.length s1, .int .u64 ((outY x label).val.toNat : Int), .slice S2 (outY x label).labels.length s2, .slice S3 (outY x label).kids.length s3] := heap_alloc_new wS _
    replace BX := BX.below hx BX.lt
    replace rS1 := rS1.below hx
    replace rS2 := rS2.below hx
    replace rS3 := rS3.below hx
    replace BG := BG.below hx BG.lt
    replace rG1 := rG1.below hx
    replace rG2 := rG2.below hx
    replace rG3 := rG3.below hx
    replace BJ := BJ.below hx BJ.lt
    replace rJ1 := rJ1.below hx
    replace rJ2 := rJ2.below hx
    replace rJ3 := rJ3.below hx
    replace hb0 := hb0.trans (hx.mono hb0.size)
    clear hx
    obtain ⟨VS, hVS⟩ : ∃ V, V = wS.alloc (.cells #[.slice S1 (outY x label).pre.length s1, .int .u64 ((outY x label).val.toNat : Int), .slice S2 (outY x label).labels.length s2, .slice S3 (outY x label).kids.length s3] 44) := ⟨_, rfl⟩
    have HVS := Lib.hid hVS
    obtain ⟨p0, p1, p2, p3, _⟩ := blk4 BX
    rw [← hVS] at BX hb0 BG rG1 rG2 rG3 BJ rJ1 rJ2 rJ3 BS rS1 rS2 rS3
    clear hVS
    go_wp2_with fail
    rw [← HVS.out]
    clear p0 p1 p2 p3 HVS
    refine (withoutR_all A1 A2 A3 n1 c1 n2 c2 n3 c3 x label VS (by omega) (by omega) (by omega) (h1.below hb0) (h2.below hb0) (h3.below hb0)).mono ?_
    rintro e wT ⟨⟨T1, t1, T2, t2, T3, t3, rfl, rT1, rT2, rT3⟩, hbT⟩
    replace BX := BX.below hbT BX.lt
    replace BG := BG.below hbT BG.lt
    replace rG1 := rG1.below hbT
    replace rG2 := rG2.below hbT
    replace rG3 := rG3.below hbT
    replace BJ := BJ.below hbT BJ.lt
    replace rJ1 := rJ1.below hbT
    replace rJ2 := rJ2.below hbT
    replace rJ3 := rJ3.below hbT
    replace BS := BS.below hbT BS.lt
    replace rS1 := rS1.below hbT
    replace rS2 := rS2.below hbT
    replace rS3 := rS3.below hbT
    replace hb0 := hb0.trans (hbT.mono hb0.size)
    clear hbT
    have hx : Below wT.heap.size wT (wT.alloc (.cells #[.slice T1 (outY x label).pre.length t1, .int .u64 ((outY x label).val.toNat : Int), .slice T2 (outY x label).labels.length t2, .slice T3 (outY x label).kids.length t3] 40)) := (Below.refl _ _).alloc (Nat.le_refl _) _
    have BT : Blk (wT.alloc (.cells #[.slice T1 (outY x label).pre.length t1, .int .u64 ((outY x label).val.toNat : Int), .slice T2 (outY x label).labels.length t2, .slice T3 (outY x label).kids.length t3] 40)) wT.heap.size 40 [.slice T1 (outY x label).pre.length t1, .int .u64 ((outY x label).val.toNat : Int), .slice T2 (outY x label).labels.length t2, .slice T3 (outY x label).kids.length t3] := heap_alloc_new wT _
    replace BX := BX.below hx BX.lt
    replace rT1 := rT1.below hx
    replace rT2 := rT2.below hx
    replace rT3 := rT3.below hx
    replace BG := BG.below hx BG.lt
    replace rG1 := rG1.below hx
    replace rG2 := rG2.below hx
    replace rG3 := rG3.below hx
    replace BJ := BJ.below hx BJ.lt
    replace rJ1 := rJ1.below hx
    replace rJ2 := rJ2.below hx
    replace rJ3 := rJ3.below hx
    replace BS := BS.below hx BS.lt
    replace rS1 := rS1.below hx
    replace rS2 := rS2.below hx
    replace rS3 := rS3.below hx
    replace hb0 := hb0.trans (hx.mono hb0.size)
    clear hx
    obtain ⟨VT, hVT⟩ : ∃ V, V = wT.alloc (.cells #[.slice T1 (outY x label).pre.length t1, .int .u64 ((outY x label).val.toNat : Int), .slice T2 (outY x label).labels.length t2, .slice T3 (outY x label).kids.length t3] 40) := ⟨_, rfl⟩
    have HVT := Lib.hid hVT
    have hlk : x.kids.length ≤ 1000 := by have := HL3.out; omega
    have L1 := withY_len x label kid hlk
    have L2 := outY_len x label hlk
    rw [← hVT] at BX hb0 BG BJ BS BT rG1 rG2 rG3 rJ1 rJ2 rJ3 rS1 rS2 rS3 rT1 rT2 rT3
    have s1' := same_true G1 G2 G3 J1 J2 J3 _ g1 _ g2 _ g3 _ j1 _ j2 _ j3 (withY x label kid) VT L1 rG1 rG2 rG3 rJ1 rJ2 rJ3
    have HS1 := Lib.hid s1'
    obtain ⟨a0, a1, a2, a3, _⟩ := blk4 BG
    obtain ⟨d0, d1, d2, d3, _⟩ := blk4 BJ
    rw [hVT] at a0 a1 a2 a3 d0 d1 d2 d3
    clear hVT s1' rG1 rG2 rG3 rJ1 rJ2 rJ3 L1
    generalize hwy : withY x label kid = y1 at *
    generalize hoy : outY x label = y2 at *
    generalize hwb : withOk x label kid = wb at *
    generalize hob : outOk x label = ob at *
    clear hwy hoy hwb hob
    have tu : (ku == ku) = true := by simp
    have ti : (ki == ki) = true := by simp
    have tb : (kb == kb) = true := by simp
    have tw : (wb == wb) = true := by simp
    have tob : (ob == ob) = true := by simp
    go_wp2_with fail
    rw [← HVT.out]
    refine HS1.out.mono ?_
    rintro e wz ⟨rfl, hbz⟩
    clear a0 a1 a2 a3 d0 d1 d2 d3 HVT HS1
    replace BS := BS.below hbz BS.lt
    replace BT := BT.below hbz BT.lt
    replace rS1 := rS1.below hbz
    replace rS2 := rS2.below hbz
    replace rS3 := rS3.below hbz
    replace rT1 := rT1.below hbz
    replace rT2 := rT2.below hbz
    replace rT3 := rT3.below hbz
    replace hb0 := hb0.trans (hbz.mono hb0.size)
    have s2' := same_true S1 S2 S3 T1 T2 T3 _ s1 _ s2 _ s3 _ t1 _ t2 _ t3 y2 wz L2 rS1 rS2 rS3 rT1 rT2 rT3
    have HS2 := Lib.hid s2'
    obtain ⟨a0, a1, a2, a3, _⟩ := blk4 BS
    obtain ⟨d0, d1, d2, d3, _⟩ := blk4 BT
    clear s2' rS1 rS2 rS3 rT1 rT2 rT3 hbz
    go_wp2_with fail
    refine HS2.out.mono ?_
    rintro e wy ⟨rfl, hby⟩
    clear a0 a1 a2 a3 d0 d1 d2 d3 HS2
    replace hb0 := hb0.trans (hby.mono hb0.size)
    go_wp2_with fail
    go_ret
    exact ⟨rfl, hb0⟩

end Go.Proofs.Ytaamkdejediccaa
