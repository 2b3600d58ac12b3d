import Derived.Test.YtkimaejoeapmnaaGreatDoorH42
import Derived.Test.YtkimaejoeapmnaaGreatDoorH46
import Derived.Test.YtkimaejoeapmnaaGreatDoorH47
set_option linter.defProp false
set_option maxHeartbeats 32000000
set_option maxRecDepth 100000
open List renaming mem_map->Ba,map_map->Gp,length->LU,getElem_toArray->Ap,getElem_cons_succ->Ah,getElem_cons_zero->Ag,setIfInBounds_toArray->Ae,set_cons_zero->Aj,set_cons_succ->Aq,size_toArray->Yf
open Go.Lib renaming hid->Aa
open Nat renaming le_trans->Bc
namespace Go.Proofs.YtkimaejoeapmnaaGreatDoor
open Go.RowKit
open Go.Proofs.Tryz
def Aix:shapeOf 200=some ((shapeOf 200).getD FV):=by decide+kernel
def Ii.str{ks:List (ByteArray×List Lk)}{at_:Nat}{seen:Nat->Prop}{es:List (ByteArray×Value)}(h:Ii ks at_ seen es):∀p∈es,∃t,p.2= .string t:=λp hp=>by
 obtain⟨_,_,_,_,t,_,e⟩:=(h.2 p.1 p.2).1 hp;exact⟨_,e⟩
def Yb{L:Nat}{s:St}{items:List Kv}{ch:List UInt8->List Lk}(hs:Ce L s items ch){m:List (ByteArray×LkV)}(he:m.map (λq=>(q.1,q.2.l))=items.map (λkv=>((Xk kv).k,ch kv.1))):∀q∈m,q.2.l.length<=100000/\∀y∈q.2.l,y.rc.text.size<=1000:=λq hq=>by
 obtain⟨_,_,h3⟩:=Ait he;obtain⟨c1,c2,_⟩:=Ya hs;refine⟨Ω (h3 q hq),?_⟩;have h4:(q.1,q.2.l)∈items.map (λkv=>((Xk kv).k,ch kv.1)):=he▸Ba.2 ⟨q,hq,rfl⟩;obtain⟨kv,hkv,e⟩:=Ba.1 h4;injection e with _ e
 rw [<-e];exact Ad2 (hs.chain kv hkv).1
def eH (l : List (List Wr)) (A : Option Addr) (c y : Nat) (w : World) (hl : l.length <= maxLen) (h : Xo w A l) (hy : y < 256) (hT : Tabs w) :
    Calls prog 4 #[.slice A l.length c, .int .u8 (y : Int)] w λe w' => e = .returned (.bool true) /\ η w w' := by
  have HA := Aa (Abf XX hT)
  have HSs := Aa (λW (k : η w W) => Apc l A c W hl (h.below k))
  obtain ⟨sh, Aim⟩ : ∃ sh, sh = (shapeOf 200).getD FV := ⟨_, rfl⟩
  have hsh := Aix
  rw [<- Aim] at hsh
  have HBg := Aa (λW (k : η w W) => Aa6 (w := W) (L := 200) U U hsh (hT.below k))
  rw [show ((200 : Nat) : Int) = 200 from rfl] at HBg
  have Ap4 := Aa (yS (L := 200) U hsh)
  have H80 : Hid (((st0 sh).ws 8).toNat = 0) := Aa (by rw [show (st0 sh).ws 8 = 0 from Iz sh 8 U]; rfl)
  obtain ⟨N, hN⟩ : ∃ N, N = y % 20 := ⟨_, rfl⟩
  have Ax1 : N < 20 := O
  have q20 : (y : Int) % 20 = (N : Int) := O
  have Auk : y % 20 = N := hN.symm
  have q21 : IntKind.i64.wrap (N : Int) = (N : Int) := IntWalk.i64_in _ O
  clear hT h hl hsh Aim hN
  go_enter func4, ntmps4
  go_wp2_with fail
  refine HA.out.mono ?_
  rintro e w1 ⟨rfl, hb1⟩
  have HB1 := Aa hb1
  clear hb1 HA
  go_wp2_with fail
  refine (HSs.out w1 HB1.out).mono ?_
  rintro e w2 ⟨hb2, (rfl | ⟨v, ps, rfl, hps, Ax2⟩)⟩
  · have HB2 := Aa (τ HB1.out hb2)
    go_wp2_with fail
    go_ret
    exact ⟨rfl, HB2.out⟩
  have HB2 := Aa (τ HB1.out hb2)
  obtain ⟨Av, cv, rfl, _⟩ := id hps
  have HPs : Hid (OI w2 (λb => w2.heap.size <= b) (.slice Av ps.length cv) ps) := Aa (hps.mono (λb h1 h2 => O))
  clear hps hb2 HB1 HSs
  go_wp2_with fail
  refine (HBg.out w2 HB2.out).mono ?_
  rintro e w3 ⟨d, p, x, F, rfl, hx, hb3, hF, hxw⟩
  obtain ⟨wb, hwb⟩ : ∃ wb, wb = w3.heap.size := ⟨_, rfl⟩
  obtain ⟨W4, VV, hb4, -⟩ := EZ w3 49 [Az d, Az p, Az x]
  have B4 : CS W4 wb 49 [Az d, Az p, Az x] := by rw [hwb]; exact VV ▸ heap_alloc_new _ _
  have HB4 := Aa ((τ HB2.out hb3).trans (hb4.mono (Bc HB2.out.size hb3.size)))
  have HX4 := Aa (hx.below hb4)
  have HP4 := Aa ((HPs.out.below hb3).below hb4)
  have Aul := Aa B4
  have HF4 : Hid (∀ b, F b -> w2.heap.size <= b /\ b ≠ wb) := Aa (λb hb => ⟨hF b hb, by have := hx.sys.lt b hb; omega⟩)
  have YE := Aa VV
  have Hwb := Aa hwb
  have Aw2 : Hid (w2.heap.size <= wb) := Aa (by rw [hwb]; exact hb3.size)
  clear HBg hx hb3 hF hxw hb4 B4 VV hwb HPs
  unfold wV
  obtain ⟨s0, hs0⟩ : ∃ s0, s0 = st0 sh := ⟨_, rfl⟩
  rw [<- hs0] at HX4 Ap4 H80
  have HS0 := Aa hs0
  clear hs0
  go_wp2_with fail
  rw [<- YE.out, <- Hwb.out]
  go_wp2_with fail
  go_loopw [38] (λi wr => ∃ (k : Nat) (s : St) (items : List Kv) (ch : List UInt8 -> List Lk) (F : Nat -> Prop), k <= ps.length /\ i = .int .i64 (k : Nat) /\ Ix wr x d p 200 s F /\ Ce 200 s items ch /\ (s.ws 8).toNat <= k /\ (∀ key, ∀ y ∈ ch key, y.rc.stamp.toNat <= (s.ws 8).toNat) /\ (s.sh = s0.sh /\ ∀ j, j < 8 -> s.ws j = s0.ws j) /\ (∀ b, F b -> w2.heap.size <= b /\ b ≠ wb) /\
    OI wr (λb => w2.heap.size <= b) (.slice Av ps.length cv) ps /\ CS wr wb 49 [Az d, Az p, Az x] /\ η w wr) (λi _ => ps.length - (intOf i).toNat)
  case atStart => exact ⟨0, s0, [], λ_ => [], F, Nat.zero_le _, rfl, HX4.out, Ap4.out, by rw [H80.out]; exact Nat.le_refl _, λ_ _ h => (nomatch h), ⟨rfl, λ_ _ => rfl⟩, HF4.out, HP4.out, Aul.out, HB4.out⟩
  case round =>
    obtain ⟨k, s, items, ch, F1, hk, rfl, hx1, hs1, h81, hst1, Al4, hF1, hP1, Aex, hb1⟩ := hrel
    clear HX4 Ap4 HF4 HB4 HP4 Aul YE Hwb H80
    by_cases hlt : k < ps.length
    · have Aw3 : (k : Int) < (ps.length : Int) := O
      have hx2 : decide ((k : Int) < (ps.length : Int)) = true := decide_eq_true Aw3
      have hx5 : decide (k < ps.length) = true := decide_eq_true hlt
      have hwk := eX k O
      obtain ⟨Av', cv', ev, hrd, hall⟩ := id hP1
      simp only [Value.slice.injEq, true_and] at ev
      obtain ⟨rfl, rfl⟩ := ev
      obtain ⟨b, off, rfl, hbw, hc⟩ := hrd.1.2 O
      have q0 := hc k hlt
      rw [List.getElem?_map, List.getElem?_eq_getElem hlt, Option.map_some] at q0
      obtain ⟨hset, hgood⟩ := hall _ (List.getElem_mem hlt)
      generalize ps[k] = pk at *
      obtain ⟨vs, set⟩ := pk
      simp only at q0 hset hgood
      obtain ⟨y0, y1, y2⟩ := Aex.p3
      have HCm := Ah9 hx1 hs1 hset hgood.1 hgood.2.1 hgood.2.2 O hst1
      unfold UH wV at HCm
      have HCm := Aa HCm
      have HF := Aa hF1
      have HP := Aa hP1
      have HWb := Aa Aex
      have HB := Aa hb1
      have MX := Aa hst1
      have HLw := Aa Al4
      clear hx1 hs1 hF1 hP1 Aex hb1 hset hgood hst1 Al4 hrd hall hc q20 Auk q21
      go_wp2_with fail
      refine HCm.out.mono ?_
      clear HCm
      rintro e w8 hcp
      have hM : ∃ (er : Int) (s8 : St) (F8 : Nat -> Prop) (it : List Kv) (c8 : List UInt8 -> List Lk), e = .returned (.int .i64 er) /\ Ix w8 x d p 200 s8 F8 /\ AP F1 F8 wr w8 /\ Ce 200 s8 it c8 /\ (s8.ws 8).toNat <= k + 1 /\ (∀ key, ∀ y ∈ c8 key, y.rc.stamp.toNat <= (s8.ws 8).toNat) /\ (s8.sh = s0.sh /\ ∀ j, j < 8 -> s8.ws j = s0.ws j) := by
        obtain ⟨hl1, hl2⟩ := HLw.out
        rcases hcp with ⟨rfl, s8, F8, hs8, hlow, hx8, hM8⟩ | ⟨rfl, s8, F8, h88, hsh, hlo, ⟨it, c8, hs8, Al5⟩, hx8, hM8⟩
        · have e8 : s8.ws 8 = s.ws 8 := hlow.2 8 U U
          exact ⟨6, s8, F8, items, ch, rfl, hx8, hM8, hs8, by rw [e8]; omega, λkey y hy => by rw [e8]; exact MX.out key y hy, hlow.1.trans hl1, λj hj => (hlow.2 j O O).trans (hl2 j hj)⟩
        · exact ⟨0, s8, F8, it, c8, rfl, hx8, hM8, hs8, O, λkey y hy => by rw [h88]; exact Al5 key y hy, hsh.trans hl1, λj hj => (hlo j O O O).trans (hl2 j hj)⟩
      obtain ⟨er, s8, F8, it, c8, rfl, hx8, hM8, hs8, h88, Al5, Aum⟩ := hM
      have HR : Hid (Ix w8 x d p 200 s8 F8 /\ Ce 200 s8 it c8 /\ (s8.ws 8).toNat <= k + 1 /\ (∀ key, ∀ y ∈ c8 key, y.rc.stamp.toNat <= (s8.ws 8).toNat) /\ (s8.sh = s0.sh /\ ∀ j, j < 8 -> s8.ws j = s0.ws j) /\ (∀ b, F8 b -> w2.heap.size <= b /\ b ≠ wb) /\
          OI w8 (λb => w2.heap.size <= b) (.slice (some ⟨b, off, none⟩) ps.length cv) ps /\ CS w8 wb 49 [Az d, Az p, Az x] /\ η w w8) := Aa
        ⟨hx8, hs8, h88, Al5, Aum, λb hb => (hM8.own b hb).elim (HF.out b) (λh => by have := HWb.out.lt; have := Aw2.out; omega), HP.out.moved (⟨hM8.touch.mono (λb hb => (HF.out b hb).1), λb h => .inl h⟩ : AP (λb => w2.heap.size <= b) (λb => w2.heap.size <= b) wr w8), HWb.out.touch hM8.touch (λh => (HF.out _ h).2 rfl), HB.out.trans (hM8.touch.below HB.out.size (λb h => Bc HB2.out.size (HF.out b h).1))⟩
      clear hcp hx8 hM8 hs8 h88 Al5 Aum HB HWb HP HF HLw MX y0 y1 y2 q0
      go_wp2_with fail
      go_roundw
      case rel => exact ⟨k + 1, s8, it, c8, F8, O, by go_num, HR.out⟩
      case measure => simp [intOf]; omega
    · obtain ⟨hx2, hx5⟩ := mQ hlt
      obtain ⟨y0, y1, y2⟩ := Aex.p3
      have UQ := Aa (mi hx1 hs1)
      unfold wV at UQ
      have HX := Aa hx1
      have HS := Aa hs1
      have HF := Aa hF1
      have MC : Hid (∀ b, F1 b -> b < wr.heap.size) := Aa hx1.sys.lt
      have HWb := Aa Aex
      have HB := Aa hb1
      have MX := Aa hst1
      have HLw := Aa Al4
      have Aw4 : Hid ((s.ws 8).toNat <= 60000) := Aa O
      clear hx1 hs1 hF1 hP1 Aex hb1 hst1 Al4
      go_wp2_with fail
      refine UQ.out.mono ?_
      rintro e w5 ⟨mb1, m1, rfl, hm1, Aun, he1, hnd1, hb5⟩
      have Jz := Aa hb5
      have zY := Aa hm1
      have Ao7 := Aa Aun
      have HE1 := Aa he1
      have HN1 := Aa hnd1
      have Al6 := Aa (HWb.out.ξ hb5)
      clear y0 y1
      obtain ⟨y0, y1⟩ := Al6.out.p2
      have UO := Aa (show Calls prog 17 #[Az p] w5 λe w' => ∃ v, e = .returned v /\ w'.ownsRow w5.heap.size 3 1 v (DC s).length (VB (DC s)) /\ η w5 w' from by
        obtain ⟨tb, hb, n, cT, cH, own, hr, -⟩ := (HX.out.below hb5).sys
        exact RV hr.at)
      obtain ⟨n, hn⟩ : ∃ n, n = (DC s).length := ⟨_, rfl⟩
      have hn1 : n <= 100000 := by have := (Ya HS.out).2.1; omega
      have HN := Aa hn
      rw [<- hn] at UO
      clear UQ hm1 Aun he1 hnd1 hb5 y2 hn
      go_wp2_with fail
      refine UO.out.mono ?_
      rintro e w6 ⟨v6, rfl, YN, hb6⟩
      obtain ⟨A6, c6, rfl, hc6, _⟩ := DL YN
      have uP : Hid (Ja w6 F1 A6 n (VB (DC s))) := Aa (Ja.JU YN (λb h1 _ h3 => absurd (MC.out b h3) (by have := Jz.out.size; omega)))
      have Auo : Hid (η wr w6) := Aa (τ Jz.out hb6)
      have Me := Aa (τ HB.out Auo.out)
      have nM := Aa (HX.out.below Auo.out)
      have U2 := Aa (zY.out.below hb6)
      have Aw5 := Aa (Al6.out.ξ hb6)
      clear UO YN hb6 hc6 HX zY Al6 y0 y1
      go_wp2_with fail
      go_loopw [57] (λi wq => ∃ (k2 : Nat) (s2 : St) (Y F2 : Nat -> Prop), k2 <= N /\ i = .int .i64 (k2 : Nat) /\ Ix wq x d p 200 s2 F2 /\ Loose 200 s s2 Y items ch /\ AP F1 F2 w6 wq) (λi _ => N - (intOf i).toNat)
      case atStart => exact ⟨0, s, _, F1, Nat.zero_le _, rfl, nM.out, Loose.start HS.out, AP.refl _ _⟩
      case round =>
        obtain ⟨k2, s2, Y, F2, hk2, rfl, Ap5, hlo2, hm2⟩ := hrel
        clear nM q20 Auk q21
        have HWq := Aa (λ(W : World) (F' : Nat -> Prop) (m : AP F1 F' w6 W) => Aw5.out.touch m.touch (λh => (HF.out _ h).2 rfl))
        have b2 := HWq.out _ _ hm2
        obtain ⟨y0, y1⟩ := b2.p2
        obtain ⟨cc, hcc⟩ : ∃ cc, cc = 1 + k2 % 2 := ⟨_, rfl⟩
        have hc12 : cc = 1 \/ cc = 2 := O
        have hcw : IntKind.i64.wrap (1 + (k2 : Int) % 2) = (cc : Int) := by rw [IntWalk.i64_in _ O]; omega
        have HRs := Aa (NC Ap5.sys cc O O)
        have VD := Aa hlo2
        have Vx := Aa hm2
        have xh := Aa Ap5
        clear hlo2 hm2 Ap5 b2 hcc
        by_cases hgo : k2 < N /\ ∃ off t, CO s2 cc = some (off, t)
        · obtain ⟨hlt2, off, t, hres⟩ := hgo
          obtain ⟨s3, e3, h6, hlo3⟩ := VD.out.Ao0 hc12 hres
          have hV : resV s2 cc = .tuple #[.int .i64 (off : Int), .int .i64 0] := by unfold resV; rw [hres]
          have hS : OV s2 cc = t := by unfold OV; rw [hres]
          rw [hV, hS] at HRs
          have HE3 := Aa e3
          have Aw6 := Aa hlo3
          obtain ⟨hz1, hz2, hz5⟩ := Yg hlt2
          have hwk := eX k2 O
          clear e3 hlo3 hV hS hres
          go_wp2_with fail
          refine HRs.out.mono ?_
          rintro e w8 ⟨rfl, hs8, WN⟩
          have HX8 := Aa (xh.out.move hs8 WN)
          have qC := Aa (Vx.out.trans WN)
          have UN := Aa (gp hs8 (off : Int) O)
          rw [HE3.out] at UN
          have b8 := HWq.out _ _ qC.out
          clear y0 y1
          obtain ⟨y0, y1⟩ := b8.p2
          clear HRs hs8 WN b8
          go_wp2_with fail
          refine UN.out.mono ?_
          rintro e w9 ⟨rfl, F9, hs9, hm9⟩
          have HX9 := Aa (HX8.out.move hs9 hm9)
          have HM9 := Aa (qC.out.trans hm9)
          clear UN hs9 hm9 y0 y1
          go_wp2_with fail
          go_roundw
          case rel => exact ⟨k2 + 1, s3, _, F9, O, by go_num, HX9.out, Aw6.out, HM9.out⟩
          case measure => simp [intOf]; omega
        · have hcs : (k2 < N /\ CO s2 cc = none) \/ ¬ k2 < N := by
            by_cases h1 : k2 < N
            · refine .inl ⟨h1, ?_⟩
              cases h2 : CO s2 cc with
              | none => rfl
              | some r => exact absurd ⟨h1, r.1, r.2, h2⟩ hgo
            · exact .inr h1
          clear hgo
          rcases hcs with ⟨hlt2, hres⟩ | hlt2
          case' inl =>
            have hV : resV s2 cc = .tuple #[.int .i64 0, .int .i64 6] := by unfold resV; rw [hres]
            have hS : OV s2 cc = s2 := by unfold OV; rw [hres]
            rw [hV, hS] at HRs
            obtain ⟨hz1, hz2, hz5⟩ := Yg hlt2
            clear hV hS hres
            go_wp2_with fail
            refine HRs.out.mono ?_
            rintro e wr ⟨rfl, hs7, yc⟩
            have HX7 := Aa (xh.out.move hs7 yc)
            have YF := Aa (Vx.out.trans yc)
            clear HRs hs7 yc hz1 hz2 hz5 hlt2
          case' inr =>
            obtain ⟨hz2, hz5⟩ := mQ hlt2
            have HX7 := xh
            have YF := Vx
            clear HRs hlt2
          all_goals (
            have b7 := HWq.out _ _ YF.out
            clear y0 y1
            have y0 := b7.p1
            have HMo := Aa (Aen XX HX7.out (Ao1 (sh := sh) (by rw [VD.out.sh, HLw.out.1, HS0.out]; rfl) (λj hj => by rw [VD.out.low j O, HLw.out.2 j hj, HS0.out])) VD.out HS.out.ix.ok (λk y hy => by rw [VD.out.low 8 U]; exact MX.out k y hy) (by rw [VD.out.low 8 U]; exact Aw4.out))
            have H28 := Aa (VD.out.low 8 U)
            clear b7 xh Vx HX7
            go_wp2_with fail
            refine HMo.out.mono ?_
            rintro e w8 ⟨p2, x2, F8, s8, rfl, hx8, ⟨hs8, h88, Am0⟩, WN⟩
            obtain ⟨pb, hpb⟩ : ∃ pb, pb = w8.heap.size := ⟨_, rfl⟩
            obtain ⟨w9, hw9, au, -⟩ := EZ w8 30 [Az p2, Az x2, .int .u64 ((s2.ws 8).toNat : Int)]
            have B9 : CS w9 pb 30 [Az p2, Az x2, .int .u64 ((s2.ws 8).toNat : Int)] := by rw [hpb]; exact hw9 ▸ heap_alloc_new _ _
            have qC := Aa (YF.out.trans WN)
            have bw9 := (HWq.out _ _ qC.out).below au (HWq.out _ _ qC.out).lt
            have HC : Hid (∀ W, η w9 W -> W.cell? ⟨wb, 0, none⟩ = some (Az d) /\ W.cell? ⟨pb, 0, none⟩ = some (Az p2) /\ W.cell? ⟨pb, 1, none⟩ = some (Az x2) /\ W.cell? ⟨pb, 2, none⟩ = some (.int .u64 ((s2.ws 8).toNat : Int))) := Aa (λW kk => ⟨(bw9.ξ kk).cell 0, (B9.ξ kk).cell 0, (B9.ξ kk).cell 1, (B9.ξ kk).cell 2⟩)
            have hx9 := hx8.below au
            have QX := Aiu hx9 hs8 (λk y hy => by rw [h88, H28.out]; exact MX.out k y hy)
            rw [h88] at QX
            have QX := Aa QX
            have HX9 := Aa hx9
            have HS8 := Aa hs8
            have HA8 := Aa Am0
            have Aup : Hid (η w w9) := Aa (Me.out.trans ((qC.out.touch.below Me.out.size (λb hb => Bc HB2.out.size (HF.out b hb).1)).trans (au.mono (Bc Me.out.size qC.out.touch.size))))
            have HR9 : Hid (Rd w9 A6 n (VB (DC s))) := Aa (Rd.below (uP.out.moved qC.out).1 au)
            have HM9 := Aa ((U2.out.touch Ao7.out qC.out.touch MC.out).below au)
            clear y0
            obtain ⟨y0, z0, z1, z2⟩ := HC.out w9 (Below.refl _ _)
            rw [hw9] at y0
            rw [hw9, hpb] at z0 z1 z2
            have HW9 := Aa hw9
            have Hpb := Aa hpb
            clear HMo hx8 hs8 h88 Am0 WN hw9 hpb au B9 bw9 hx9 uP U2 HWq YF qC
            go_wp2_with fail
            rw [<- HW9.out, <- Hpb.out]
            refine QX.out.mono ?_
            rintro e w10 ⟨rfl, WI⟩
            have dO := Aa WI
            clear y0 z0 z1 z2 QX WI
            obtain ⟨y0, z0, z1, z2⟩ := HC.out w10 dO.out
            have UO := Aa (show Calls prog 17 #[Az p2] w10 λe w' => ∃ v, e = .returned v /\ w'.ownsRow w10.heap.size 3 1 v (DC s8).length (VB (DC s8)) /\ η w10 w' from by
              obtain ⟨tb, hb, n, cT, cH, own, hr, -⟩ := (HX9.out.below dO.out).sys
              exact RV hr.at)
            rw [HA8.out, <- HN.out] at UO
            go_wp2_with fail
            refine UO.out.mono ?_
            rintro e w11 ⟨v11, rfl, Auq, dZ⟩
            obtain ⟨A11, c11, rfl, Aw7, Aur⟩ := DL Auq
            have sU := Aa (τ dO.out dZ)
            have hnl : ((DC s).map Int.ofNat).length = n := by rw [List.length_map, HN.out]
            have HSm := jf ((DC s).map Int.ofNat) A11 A6 c11 c6 w11 O (by have h := Aur; rw [Nat.mul_one] at h; rw [hnl]; simpa [VB, TL, Gp, Function.comp_def] using h) (by have h := Rd.below HR9.out sU.out; rw [hnl]; simpa [VB, TL, Gp, Function.comp_def] using h)
            rw [hnl] at HSm
            have HSm := Aa HSm
            clear y0 z0 z1 z2 UO Auq dZ Aw7 Aur hnl
            go_wp2_with fail
            refine HSm.out.mono ?_
            rintro e w12 ⟨rfl, hdr⟩
            have dY := Aa (τ sU.out (hdr.below _))
            have Aiy := mi (HX9.out.below dY.out) HS8.out
            unfold wV at Aiy
            have Aiy := Aa Aiy
            clear hdr HSm
            obtain ⟨y0, z0, z1, z2⟩ := HC.out w12 dY.out
            go_wp2_with fail
            refine Aiy.out.mono ?_
            rintro e uT ⟨mb2, m2, rfl, hm2, Aw8, he2, dW, Q8⟩
            have uw := Aa (τ dY.out Q8)
            have HBe := Aa (τ Aup.out uw.out)
            have hm1 := HM9.out.below uw.out
            have hM1 := hm1.map
            have hM2 := hm2.map
            have HSS : Hid (∀ W, η uT W -> W.cell? ⟨pb, 2, none⟩ = some (.int .u64 ((s2.ws 8).toNat : Int)) /\ Jj W mb1 (QU m1) /\ Jj W mb2 (QU m2)) := Aa (λW kk => ⟨(HC.out W (τ uw.out kk)).2.2.2, hM1.below kk, hM2.below kk⟩)
            have HT1 := Aa (λW (kk : η uT W) => Aa9 (hm1.below kk) HN1.out (Yb HS.out HE1.out) (s2.ws 8))
            have HT2 := Aa (λW (kk : η uT W) => Aa9 (hm2.below kk) dW (Yb HS8.out he2) (s2.ws 8))
            rw [HE1.out] at HT1
            rw [he2] at HT2
            obtain ⟨nI, hnI⟩ : ∃ nI, nI = items.length := ⟨_, rfl⟩
            have HL1 : Hid (m1.length = nI) := Aa (by have := congrArg LU HE1.out; simp at this; omega)
            have HL2 : Hid (m2.length = nI) := Aa (by have := congrArg LU he2; simp at this; omega)
            clear y0 z0 z1 z2 Aiy hm1 hm2 Aw8 he2 dW Q8 hnI
            obtain ⟨y0, z0, z1, z2⟩ := HC.out uT uw.out
            go_wp2_with fail
            refine wp_region_held_drew (S := (λw' => w'.cell? ⟨pb, 2, none⟩ = some (.int .u64 ((s2.ws 8).toNat : Int)) /\ Jj w' mb1 (QU m1) /\ Jj w' mb2 (QU m2))) Γ ⟨z2, hM1, hM2⟩ (λhHeld => ?_)
            refine Eo 0 (.bool true) hHeld ?_
            refine Eo 1 (.bool true) hHeld ?_
            refine Eo 2 (.map (some mb1)) hHeld ?_
            refine Eo 3 (.pointer (some ⟨pb, 2, none⟩)) hHeld ?_
            try simp only [Act.put, Ap, Ah, Ag, Ae, Aj, Aq]
            refine Eo 4 (.int .u64 ((s2.ws 8).toNat : Int)) hHeld (hy := λw hSw => by obtain ⟨s0, s1, s2⟩ := hSw; clear s1 s2; go_simp) ?_
            refine Eo 6 (.map (some mb2)) hHeld ?_
            refine Eo 7 (.pointer (some ⟨pb, 2, none⟩)) hHeld ?_
            refine Eo 8 (.int .u64 ((s2.ws 8).toNat : Int)) hHeld (hy := λw hSw => by obtain ⟨s0, s1, s2⟩ := hSw; clear s1 s2; go_simp) ?_
            try simp only [Act.put, Ap, Ah, Ag, Ae, Aj, Aq]
            refine wpAnyH_ready (rs := [5]) Γ Θ ?_
            refine AllReadyH.cons rfl (λK hK => ?_) AllReadyH.nil
            go_simp
            go_at_call 23
            refine (HT1.out _ ((Dr.drew _).below _)).mono ?_
            rintro e w14 ⟨tb1, es1, rfl, ht1, hw1, Ap6, Yv⟩
            have Abi : η uT w14 := ((Dr.drew uT).below _).trans Yv
            refine hK.out _ _ (HSS.out _ Abi) (λhHeld => ?_)
            clear hK K
            try simp only [Act.put, Ap, Ah, Ag, Ae, Aj, Aq]
            refine wpAnyH_ready (rs := [9]) Γ Θ ?_
            refine AllReadyH.cons rfl (λK hK => ?_) AllReadyH.nil
            go_simp
            go_at_call 23
            refine (HT2.out _ Abi).mono ?_
            rintro e w15 ⟨tb2, es2, rfl, ht2, hw2, Ap7, eG⟩
            have jh : η uT w15 := τ Abi eG
            refine hK.out _ _ (HSS.out _ jh) (λhHeld => ?_)
            clear hK K
            try simp only [Act.put, Ap, Ah, Ag, Ae, Aj, Aq]
            refine wpAnyH_ready (rs := [10]) Γ Θ ?_
            refine AllReadyH.cons rfl (λK hK => ?_) AllReadyH.nil
            go_simp
            go_at_call 22
            refine (tq (ht1.below eG) ht2 Ap7.1 Ap6.str (Ap6.same Ap7).1 (Ap6.same Ap7).2).mono ?_
            rintro e w16 ⟨rfl, hb16⟩
            have Am1 : η uT w16 := τ jh hb16
            refine hK.out _ _ (HSS.out _ Am1) (λhHeld => ?_)
            clear hK K
            try simp only [Act.put, Ap, Ah, Ag, Ae, Aj, Aq]
            refine Eo 11 (.bool true) hHeld ?_
            refine Eo 12 (.bool true) hHeld ?_
            refine Eo 13 (.map (some mb1)) hHeld ?_
            refine Eo 14 (.int .i64 (nI : Int)) hHeld (hy := λw hSw => by obtain ⟨s0, s1, s2⟩ := hSw; have q := run_len_map (P := prog) (w := w) 55 3 mb1 _ _ Γ s1; simp only [Yf, YB, VO, HL1.out] at q; clear s0 s1 s2; go_simp) ?_
            try simp only [Act.put, Ap, Ah, Ag, Ae, Aj, Aq]
            refine Eo 15 (.map (some mb2)) hHeld ?_
            refine Eo 16 (.int .i64 (nI : Int)) hHeld (hy := λw hSw => by obtain ⟨s0, s1, s2⟩ := hSw; have q := run_len_map (P := prog) (w := w) 55 3 mb2 _ _ Γ s2; simp only [Yf, YB, VO, HL2.out] at q; clear s0 s1 s2; go_simp) ?_
            refine Eo 17 (.bool true) hHeld ?_
            refine Eo 18 (.bool true) hHeld ?_
            try simp only [Act.put, Ap, Ah, Ag, Ae, Aj, Aq]
            refine Eo 19 (.bool true) hHeld ?_
            try simp only [Act.put, Ap, Ah, Ag, Ae, Aj, Aq]
            refine wpAnyH_done Γ ?_ _
            go_wp2_with fail
            go_ret
            exact ⟨rfl, τ HBe.out Am1⟩)
