/- The laws NibBack and NibCommon of layer 8, as walks. -/
import Derived.Test.YtaamkdejediccaaNibL
namespace Go.Proofs.Ytaamkdejediccaa
open Go.RowKit

theorem keyV_nibs (s : ByteArray) : keyV (nibs s.data.toList) = .tuple #[.string s, .bool true] := by
  rw [keyV, if_pos (keyOk_nibs _), pairs_nibs, str_eta]

set_option maxHeartbeats 1000000 in
theorem nibBack_law (key : ByteArray) (A : Option Addr) (n c : Nat) (l : List UInt8) (x : Nat) (w : World) (hk : key.size ≤ maxLen) (hn : n ≤ maxLen) (h : Bs w A n l) (hx : x < 18446744073709551616) :
    Calls Try.prog 5 #[.string key, .slice A n c, .int .u64 (x : Int)] w fun e w' => e = .returned (.bool true) ∧ Below w.heap.size w w' := by
  unfold maxLen at hk hn
  go_enter Try.func5, Try.ntmps5
  go_wp2_with fail
  refine (alive8_any w).mono ?_
  rintro e w1 ⟨rfl, hb1⟩
  by_cases h1 : 500 < key.size
  · go_wp2_with fail
    go_ret
    exact ⟨rfl, hb1⟩
  by_cases h2 : 500 < n
  · go_wp2_with fail
    go_ret
    exact ⟨rfl, hb1⟩
  have h1' := h.below hb1
  clear h
  go_wp2_with fail
  refine (of_any key w1 (by omega)).mono ?_
  rintro e w2 ⟨v2, rfl, ho2, hb2⟩
  obtain ⟨A2, c2, rfl, _, r2⟩ := rd_of_own ho2
  clear ho2
  go_wp2_with fail
  have hkey := key_any A2 (2 * key.size) c2 _ w2 (by omega) r2
  rw [keyV_nibs] at hkey
  have HK := Lib.hid hkey
  clear hkey r2
  refine HK.out.mono ?_
  rintro e w3 ⟨rfl, hb3⟩
  clear HK
  go_wp2_with fail
  refine (of_any key w3 (by omega)).mono ?_
  rintro e w4 ⟨v4, rfl, ho4, hb4⟩
  obtain ⟨A4, c4, rfl, _, r4⟩ := rd_of_own ho4
  clear ho4 r4
  have hb14 : Below w1.heap.size w1 w4 := (hb2.trans (hb3.mono hb2.size)).trans (hb4.mono (by have := hb2.size; have := hb3.size; omega))
  have hb04 := hb1.trans (hb14.mono hb1.size)
  have hl4 := h1'.below hb14
  clear hb1 hb14 hb2 hb3 hb4 h1'
  by_cases h15 : n ≤ 15
  · by_cases hnib : l.all isNib = true
    · have hlen := hl4.len
      obtain ⟨u1, u2, u3, u4, u5⟩ := unpack_pack l (by omega) hnib
      have hpk := packN_any A n c l w4 h15 hl4
      rw [packV, if_pos hnib] at hpk
      obtain ⟨p, hp⟩ : ∃ p, p = l.length + 16 * packN l := ⟨_, rfl⟩
      rw [← hp] at hpk u1 u2 u5
      have HPK := Lib.hid hpk
      have U1 := Lib.hid u1
      have U2 := Lib.hid u2
      have U3 := Lib.hid u3
      have U4 := Lib.hid u4
      have HL := Lib.hid hlen
      clear hpk hp u1 u2 u3 u4 hlen hnib
      go_wp2_with fail
      refine HPK.out.mono ?_
      rintro e w' ⟨rfl, rfl⟩
      clear HPK
      go_wp2_with fail
      refine (unpack_any p w4 u5).mono ?_
      rintro e w5 ⟨hb5, hu⟩
      rw [U1.out, U2.out, if_pos U3.out, U4.out, HL.out] at hu
      obtain ⟨v5, rfl, ho5⟩ := hu
      obtain ⟨A5, c5, rfl, _, r5⟩ := rd_of_own ho5
      have k5 := conv_bs r5 c5
      have kl := conv_bs (hl4.below hb5) c
      have hb05 := hb04.trans (hb5.mono hb04.size)
      clear ho5 r5 hl4 hb04 hb5 u5 U1 U2 U3 U4 HL
      go_wp2_with fail
      refine (unpack_any x w5 hx).mono ?_
      rintro e w7 ⟨hb7, hu⟩
      by_cases hz : x / 16 / 16 ^ (x % 16) = 0
      · rw [if_pos hz] at hu
        obtain ⟨v7, rfl, ho7⟩ := hu
        obtain ⟨A7, c7, rfl, _, r7⟩ := rd_of_own ho7
        have hp7 := packN_any A7 (x % 16) c7 (digits (x % 16) (x / 16)) w7 (by omega) r7
        have ht7 := (unpack_test x).2 hz
        rw [packV, if_pos (digits_nib _ _), digits_length, ht7] at hp7
        have HP7 := Lib.hid hp7
        clear ho7 hz ht7 hp7 r7
        go_wp2_with fail
        refine HP7.out.mono ?_
        rintro e w' ⟨rfl, rfl⟩
        clear HP7
        go_wp2_with fail
        go_ret
        exact ⟨rfl, hb05.trans (hb7.mono (hb05.size))⟩
      · rw [if_neg hz] at hu
        subst hu
        clear hz
        go_wp2_with fail
        go_ret
        exact ⟨rfl, hb05.trans (hb7.mono (hb05.size))⟩
    · have hpk := packN_any A n c l w4 h15 hl4
      rw [packV, if_neg hnib] at hpk
      have HPK := Lib.hid hpk
      clear hpk
      go_wp2_with fail
      refine HPK.out.mono ?_
      rintro e w' ⟨rfl, rfl⟩
      clear HPK hl4 hnib
      go_wp2_with fail
      refine (unpack_any x w4 hx).mono ?_
      rintro e w7 ⟨hb7, hu⟩
      by_cases hz : x / 16 / 16 ^ (x % 16) = 0
      · rw [if_pos hz] at hu
        obtain ⟨v7, rfl, ho7⟩ := hu
        obtain ⟨A7, c7, rfl, _, r7⟩ := rd_of_own ho7
        have hp7 := packN_any A7 (x % 16) c7 (digits (x % 16) (x / 16)) w7 (by omega) r7
        have ht7 := (unpack_test x).2 hz
        rw [packV, if_pos (digits_nib _ _), digits_length, ht7] at hp7
        have HP7 := Lib.hid hp7
        clear ho7 hz ht7 hp7 r7
        go_wp2_with fail
        refine HP7.out.mono ?_
        rintro e w' ⟨rfl, rfl⟩
        clear HP7
        go_wp2_with fail
        go_ret
        exact ⟨rfl, hb04.trans (hb7.mono (hb04.size))⟩
      · rw [if_neg hz] at hu
        subst hu
        clear hz
        go_wp2_with fail
        go_ret
        exact ⟨rfl, hb04.trans (hb7.mono (hb04.size))⟩
  · go_wp2_with fail
    refine (pack_big A n c w4 (by omega) (by omega)).mono ?_
    rintro e w' ⟨rfl, rfl⟩
    clear hl4
    go_wp2_with fail
    refine (unpack_any x w4 hx).mono ?_
    rintro e w7 ⟨hb7, hu⟩
    by_cases hz : x / 16 / 16 ^ (x % 16) = 0
    · rw [if_pos hz] at hu
      obtain ⟨v7, rfl, ho7⟩ := hu
      obtain ⟨A7, c7, rfl, _, r7⟩ := rd_of_own ho7
      have hp7 := packN_any A7 (x % 16) c7 (digits (x % 16) (x / 16)) w7 (by omega) r7
      have ht7 := (unpack_test x).2 hz
      rw [packV, if_pos (digits_nib _ _), digits_length, ht7] at hp7
      have HP7 := Lib.hid hp7
      clear ho7 hz ht7 hp7 r7
      go_wp2_with fail
      refine HP7.out.mono ?_
      rintro e w' ⟨rfl, rfl⟩
      clear HP7
      go_wp2_with fail
      go_ret
      exact ⟨rfl, hb04.trans (hb7.mono (hb04.size))⟩
    · rw [if_neg hz] at hu
      subst hu
      clear hz
      go_wp2_with fail
      go_ret
      exact ⟨rfl, hb04.trans (hb7.mono (hb04.size))⟩

end Go.Proofs.Ytaamkdejediccaa
