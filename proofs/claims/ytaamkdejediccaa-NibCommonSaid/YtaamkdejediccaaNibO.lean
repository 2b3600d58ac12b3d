/- The laws NibCommon, NibOrder and NibJoins of layer 8, as walks. -/
import Derived.Test.YtaamkdejediccaaNibL
import Derived.Test.YtaamkdejediccaaNibP3
namespace Go.Proofs.Ytaamkdejediccaa
open Go.RowKit

set_option maxHeartbeats 4000000 in
theorem nibCommon_law (A B : Option Addr) (n c m d : Nat) (a b : List UInt8) (w : World) (hn : n ≤ maxLen) (hm : m ≤ maxLen) (hnc : n ≤ c) (hmd : m ≤ d) (ha : Bs w A n a) (hb : Bs w B m b) :
    Calls Try.prog 7 #[.slice A n c, .slice B m d] w fun e w' => e = .returned (.bool true) ∧ Below w.heap.size w w' := by
  unfold maxLen at hn hm
  go_enter Try.func7, Try.ntmps7
  go_wp2_with fail
  refine (alive8_any w).mono ?_
  rintro e w1 ⟨rfl, hb1⟩
  by_cases h2 : 500 < n
  · go_wp2_with fail
    go_ret
    exact ⟨rfl, hb1⟩
  by_cases h3 : 500 < m
  · go_wp2_with fail
    go_ret
    exact ⟨rfl, hb1⟩
  have d2 : decide (500 < (n : Int)) = false := by simp; omega
  have d3 : decide (500 < (m : Int)) = false := by simp; omega
  have ha1 := ha.below hb1
  have hb11 := hb.below hb1
  clear ha hb
  go_wp2_with fail
  refine (common_any A B n m c d a b w1 (by omega) (by omega) ha1 hb11).mono ?_
  rintro e w' ⟨rfl, q, rfl⟩
  have hla := ha1.len
  have hlb := hb11.len
  have hk1 := common_le_left a b
  have hk2 := common_le_right a b
  have hck := common_take a b
  have hst := common_stop' a b
  have hca := common_append a b
  generalize common a b = k at *
  have hkn : k ≤ n := by omega
  have hkm : k ≤ m := by omega
  have ka : ∀ j, (convert 22 9 (.slice A k c)).run Try.prog (w1.drewN j) = .ok (.string ⟨(a.take k).toArray⟩) (w1.drewN j) := fun j => conv_bs (w := w1.drewN j) (Bs.take ha1 hkn) c
  have kb : ∀ j, (convert 22 9 (.slice B k d)).run Try.prog (w1.drewN j) = .ok (.string ⟨(a.take k).toArray⟩) (w1.drewN j) := fun j => by rw [hck]; exact conv_bs (w := w1.drewN j) (Bs.take hb11 hkm) d
  have g1 : decide (n < k) = false := by simpa using hkn
  have g2 : decide (m < k) = false := by simpa using hkm
  by_cases hlt : k < n
  · by_cases hlt2 : k < m
    · obtain ⟨q1, p, off, rfl, hp, hc1⟩ := ha1.at hlt
      obtain ⟨q2, p2, off2, rfl, hp2, hc2⟩ := hb11.at hlt2
      have hne := u8_beq_false (hst q1 q2)
      have sa := run_upto Try.bytesTy (some ⟨p, off, none⟩) n c .i64 k (by omega)
      have sb := run_upto Try.bytesTy (some ⟨p2, off2, none⟩) m d .i64 k (by omega)
      clear hck hst
      go_wp2_with fail
      go_quiet (fail)
      go_wp2_with (first
        | (at_builtin; refine wpList_app_rd rfl (.const (.slice none 0 0)) (.tmp 64) 22 rfl Try.bytesTy w1.heap.size (.slice none 0 0) 0 [] (a.map bv) rfl (World.ownsRow_nil _ _ _ _) (some ⟨p, off, none⟩) n c rfl (by exact ha1) (oneCell_bv _) (by omega) (by decide) (by exact Nat.le_refl _) ?_; intro v2 w2 hown2 hb2)
        | (at_builtin; refine wpList_app_rd rfl (.tmp 65) (.tmp 66) 22 rfl Try.bytesTy w1.heap.size v2 (0 + n) ([] ++ a.map bv) (b.map bv) rfl hown2 (some ⟨p2, off2, none⟩) m d rfl (by exact Rd.below hb11 ⟨hb2.os, hb2.tape, hb2.output, hb2.size, hb2.block⟩) (oneCell_bv _) (by omega) (by decide) (by exact hb2.size) ?_; intro v3 w3 hown3 hb3))
      obtain ⟨A3, c3, rfl, _, hr3⟩ := rd_of_own hown3
      have hX : Below w1.heap.size w1 w3 := Below.trans ⟨hb2.os, hb2.tape, hb2.output, hb2.size, hb2.block⟩ hb3
      have hr3' : Bs w3 A3 (0 + n + m) (a ++ b) := by rw [Bs, List.map_append]; exact hr3
      have ha3 := ha1.below hX
      clear hown2 hown3 hr3 hb2 hb3 ka kb sa sb
      have hcc := common_any (some ⟨p, off, none⟩) A3 n (0 + n + m) c c3 a (a ++ b) w3 (by omega) (by omega) ha3 hr3'
      rw [hca, hla] at hcc
      have HCC := Lib.hid hcc
      clear hcc hca hla hr3' ha3
      go_wp2_with fail
      refine HCC.out.mono ?_
      rintro e w' ⟨rfl, q9, rfl⟩
      clear HCC
      go_wp2_with fail
      go_ret
      exact ⟨by simp, hb1.trans (hX.mono hb1.size |>.trans ((Dr.one _ _).below _))⟩
    · have hd : decide (k < m) = false := by simpa using hlt2
      have sa := run_upto Try.bytesTy A n c .i64 k (by omega)
      have sb := run_upto Try.bytesTy B m d .i64 k (by omega)
      clear hck hst
      go_wp2_with fail
      go_quiet (fail)
      go_wp2_with (first
        | (at_builtin; refine wpList_app_rd rfl (.const (.slice none 0 0)) (.tmp 64) 22 rfl Try.bytesTy w1.heap.size (.slice none 0 0) 0 [] (a.map bv) rfl (World.ownsRow_nil _ _ _ _) A n c rfl (by exact ha1) (oneCell_bv _) (by omega) (by decide) (by exact Nat.le_refl _) ?_; intro v2 w2 hown2 hb2)
        | (at_builtin; refine wpList_app_rd rfl (.tmp 65) (.tmp 66) 22 rfl Try.bytesTy w1.heap.size v2 (0 + n) ([] ++ a.map bv) (b.map bv) rfl hown2 B m d rfl (by exact Rd.below hb11 ⟨hb2.os, hb2.tape, hb2.output, hb2.size, hb2.block⟩) (oneCell_bv _) (by omega) (by decide) (by exact hb2.size) ?_; intro v3 w3 hown3 hb3))
      obtain ⟨A3, c3, rfl, _, hr3⟩ := rd_of_own hown3
      have hX : Below w1.heap.size w1 w3 := Below.trans ⟨hb2.os, hb2.tape, hb2.output, hb2.size, hb2.block⟩ hb3
      have hr3' : Bs w3 A3 (0 + n + m) (a ++ b) := by rw [Bs, List.map_append]; exact hr3
      have ha3 := ha1.below hX
      clear hown2 hown3 hr3 hb2 hb3 ka kb sa sb
      have hcc := common_any A A3 n (0 + n + m) c c3 a (a ++ b) w3 (by omega) (by omega) ha3 hr3'
      rw [hca, hla] at hcc
      have HCC := Lib.hid hcc
      clear hcc hca hla hr3' ha3
      go_wp2_with fail
      refine HCC.out.mono ?_
      rintro e w' ⟨rfl, q9, rfl⟩
      clear HCC
      go_wp2_with fail
      go_ret
      exact ⟨by simp, hb1.trans (hX.mono hb1.size |>.trans ((Dr.one _ _).below _))⟩
  · have hd : decide (k < n) = false := by simpa using hlt
    have sa := run_upto Try.bytesTy A n c .i64 k (by omega)
    have sb := run_upto Try.bytesTy B m d .i64 k (by omega)
    clear hck hst
    go_wp2_with fail
    go_quiet (fail)
    go_wp2_with (first
      | (at_builtin; refine wpList_app_rd rfl (.const (.slice none 0 0)) (.tmp 64) 22 rfl Try.bytesTy w1.heap.size (.slice none 0 0) 0 [] (a.map bv) rfl (World.ownsRow_nil _ _ _ _) A n c rfl (by exact ha1) (oneCell_bv _) (by omega) (by decide) (by exact Nat.le_refl _) ?_; intro v2 w2 hown2 hb2)
      | (at_builtin; refine wpList_app_rd rfl (.tmp 65) (.tmp 66) 22 rfl Try.bytesTy w1.heap.size v2 (0 + n) ([] ++ a.map bv) (b.map bv) rfl hown2 B m d rfl (by exact Rd.below hb11 ⟨hb2.os, hb2.tape, hb2.output, hb2.size, hb2.block⟩) (oneCell_bv _) (by omega) (by decide) (by exact hb2.size) ?_; intro v3 w3 hown3 hb3))
    obtain ⟨A3, c3, rfl, _, hr3⟩ := rd_of_own hown3
    have hX : Below w1.heap.size w1 w3 := Below.trans ⟨hb2.os, hb2.tape, hb2.output, hb2.size, hb2.block⟩ hb3
    have hr3' : Bs w3 A3 (0 + n + m) (a ++ b) := by rw [Bs, List.map_append]; exact hr3
    have ha3 := ha1.below hX
    clear hown2 hown3 hr3 hb2 hb3 ka kb sa sb
    have hcc := common_any A A3 n (0 + n + m) c c3 a (a ++ b) w3 (by omega) (by omega) ha3 hr3'
    rw [hca, hla] at hcc
    have HCC := Lib.hid hcc
    clear hcc hca hla hr3' ha3
    go_wp2_with fail
    refine HCC.out.mono ?_
    rintro e w' ⟨rfl, q9, rfl⟩
    clear HCC
    go_wp2_with fail
    go_ret
    exact ⟨by simp, hb1.trans (hX.mono hb1.size |>.trans ((Dr.one _ _).below _))⟩

end Go.Proofs.Ytaamkdejediccaa
