import Derived.Deep.CutRange
import Derived.Deep.CutBlock
import Derived.Deep.RegionHeld3
import Derived.Test.YtfhagbcfbbggeaaGreatDoorG27
namespace Go.Proofs.YtfhagbcfbbggeaaGreatDoor
open Go.RowKit
theorem small_shape(r:Nat)(h:r<3):∃sh,shapeOf (3+16*(1+r))=some sh:=by
 rcases(show r=0∨r=1∨r=2 by omega)with rfl| rfl| rfl
 ·exact⟨_,(by decide+kernel:shapeOf 19=some ((shapeOf 19).getD sh100))⟩
 ·exact⟨_,(by decide+kernel:shapeOf 35=some ((shapeOf 35).getD sh100))⟩
 ·exact⟨_,(by decide+kernel:shapeOf 51=some ((shapeOf 51).getD sh100))⟩
set_option maxHeartbeats 8000000 in
set_option maxRecDepth 100000 in
theorem indexSmall_any(y:Nat)(l:List Ac)(A:Option Addr)(c:Nat)(w:World)(hy:y<256)(hl:l.length≤9223372036854775807)(h:Rd w A (l.length*3) (acCs l))(hT:Tabs w):
 Calls Tryz.prog 4 #[.int .u8 (y:Int),.slice A l.length c] w fun e w'=>e= .returned (.bool true)∧Below w.heap.size w w':=by
 have HAl:=Lib.hid (alive10 hT)
 have HT:=Lib.hid hT
 have HR:=Lib.hid h
 have HHv:=Lib.hid (fun W(k:Below w.heap.size w W)=>heavy10 l A c W hl (h.below k))
 obtain⟨r,hr⟩:∃r,r=y%3:=⟨_,rfl⟩
 have hr3:r<3:=by omega
 obtain⟨L,hL⟩:∃L,L=3+16*(1+r):=⟨_,rfl⟩
 obtain⟨sh,hsh⟩:=small_shape r hr3
 rw [←hL]at hsh
 have HBg:=Lib.hid (fun W(k:Below w.heap.size w W)=>begin10_any (w:=W) (L:=L) (by omega) (by omega) hsh (hT.below k))
 have HOk0:=Lib.hid (st0_ok (L:=L) (by omega) hsh)
 have Q3:Hid ((3+16*(1+(y:Int)%3))=(L:Int)):=Lib.hid (by omega)
 clear hr hL hr3
 clear hT h hl
 go_enter Tryz.func4,Tryz.ntmps4
 go_wp2_with fail
 refine HAl.out.mono ?_
 rintro e w1⟨rfl,hb1⟩
 have HB1:=Lib.hid hb1
 clear hb1 HAl
 go_wp2_with fail
 refine(HHv.out w1 HB1.out).mono ?_
 rintro e w2⟨rfl,hb2⟩
 have HB2:=Lib.hid (HB1.out.trans (hb2.mono HB1.out.size))
 clear hb2 HHv HB1
 cases hv:heavyB l with
 | true=>
   go_wp2_with fail
   go_ret
   exact⟨rfl,HB2.out⟩
 | false=>
   obtain⟨hl1,hk1⟩:=heavy_out hv
   have HK:=Lib.hid hk1
   clear hv hk1
   go_wp2_with fail
   rw [Q3.out]
   refine(HBg.out w2 HB2.out).mono ?_
   rintro e w3⟨d,p,x,F,rfl,hx,hb3,hF,hxw⟩
   have HB3:=Lib.hid (HB2.out.trans (hb3.mono HB2.out.size))
   have HX:=Lib.hid hx
   have HF:Hid (∀b,F b→w.heap.size≤b):=Lib.hid (fun b h=>Nat.le_trans HB2.out.size (hF b h))
   clear HBg hx hb3 hF Q3 hxw
   generalize st0 sh=s0 at HX HOk0
   go_wp2_with fail
   go_loopw [37](fun i wr=>∃(k:Nat)(s:St)(items:List Kv)(F:Nat→Prop),k≤l.length∧i= .int .i64 (k:Nat)∧Ix wr x d p L s F∧IxOk L s items∧items.length≤k∧(∀b,F b→w.heap.size≤b)∧Below w.heap.size w wr)(fun i _=>l.length- (intOf i).toNat)
   case atStart=>exact⟨0,s0,[],F,Nat.zero_le _,rfl,HX.out,HOk0.out,Nat.le_refl _,HF.out,HB3.out⟩
   case round=>
    obtain⟨k,s,items,F1,hk,rfl,hx1,hok1,hil,hF1,hb1⟩:=hrel
    have HX1:=Lib.hid hx1
    have HO1:=Lib.hid hok1
    have HF1:=Lib.hid hF1
    have HB:=Lib.hid hb1
    clear HX HOk0 HF HB3 hx1 hok1 hF1 hb1 HB2
    by_cases hlt:k<l.length
    ·have hx1:(k:Int)<(l.length:Int):=by omega
     have hx2:decide ((k:Int)<(l.length:Int))=true:=decide_eq_true hx1
     have hx5:decide (k<l.length)=true:=decide_eq_true hlt
     have hwk:IntKind.i64.wrap ((k:Int)+1)=(k:Int)+1:=IntWalk.i64_in _ (by omega)
     obtain⟨b,off,rfl,hbw,q0,q1,q2⟩:=ac_at (Rd.below HR.out HB.out) k hlt
     have hks:=HK.out _ (List.getElem_mem hlt)
     generalize l[k]=a at*
     obtain⟨W,hW⟩:∃W,W=wr.alloc (.cells #[.int .u8 (a.kind.toNat:Int),.string a.key,.int .u64 (a.n.toNat:Int)] 35):=⟨_,rfl⟩
     have hbW:Below wr.heap.size wr W:=hW▸(Below.refl _ _).alloc (Nat.le_refl _) _
     have hblk:Blk W wr.heap.size 35 [.int .u8 (a.kind.toNat:Int),.string a.key,.int .u64 (a.n.toNat:Int)]:=hW▸heap_alloc_new _ _
     have HW:=Lib.hid hW
     have HBk:=Lib.hid hblk
     have HXW:=Lib.hid (HX1.out.below hbW)
     have hgF:¬F1 wr.heap.size:=fun h=>by have:=HX1.out.sys.lt _ h;omega
     have HAll:=Lib.hid (all_right HXW.out HO1.out)
     have HBW:=Lib.hid (HB.out.trans (hbW.mono HB.out.size))
     clear hW hbW hblk HX1
     go_wp2_with fail
     rw [←HW.out]
     refine HAll.out.mono ?_
     rintro e w4⟨A1,c1,rfl,hr1,hn1,hl1',hb4⟩
     have HX4:=Lib.hid (HXW.out.below hb4)
     have HB4:=Lib.hid (HBW.out.trans (hb4.mono HBW.out.size))
     have hbk4:=HBk.out.below hb4 HBk.out.lt
     obtain⟨g,hg⟩:∃g,g=wr.heap.size:=⟨_,rfl⟩
     rw [←hg]at hbk4 hgF⊢
     have z0:=hbk4.cell 0
     have z1:=hbk4.cell 1
     have z2:=hbk4.cell 2
     simp only [List.getElem?_cons_zero,List.getElem?_cons_succ]at z0 z1 z2
     have HBk4:=Lib.hid hbk4
     have HR1:=Lib.hid hr1
     have HN1:=Lib.hid hn1
     have HGF:=Lib.hid hgF
     have HRd:=Lib.hid (fun key v=>put_round HO1.out key v)
     have HRc:=Lib.hid (fun key=>cut_round HO1.out key)
     obtain⟨B0,hB0⟩:∃B0,B0=items.map kvIt:=⟨_,rfl⟩
     have hB1:B0.length=items.length:=by rw [hB0];simp
     have HB0:=Lib.hid hB0
     rw [←hB0]at HRd HRc HR1 hl1'⊢
     clear hB0
     obtain⟨nb,hnb⟩:∃nb,nb=B0.length:=⟨_,rfl⟩
     have HNb:=Lib.hid hnb
     rw [←hnb]at hl1'⊢
     have hnb5:nb≤100:=by omega
     clear hr1 hn1 hgF hbk4 hb4 HAll HXW HBW HBk HW q0 q1 q2 hg hnb hB1
     go_upto_block 2 with fail
     go_cut [12,13,37]from 37 to 152(fun s12 s13 s37 wx=>∃(f:Int)(s':St)(want:List It)(A':Option Addr)(c':Nat)(F':Nat→Prop),s12= .int .i64 f∧s13= .slice A' want.length c'∧s37= .int .i64 (k:Nat)∧Ix wx x d p L s' F'∧ItR wx A' want∧want.length≤100000∧RoundOk L items (decide (a.kind.toNat%2=1)) want s' f∧Moved F1 F' w4 wx)
     case first=>
      by_cases hpar:a.kind.toNat%2=0
      ·have t1:((a.kind.toNat:Int)%2==0)=true:=by simp;omega
       have HPar:Hid (decide (a.kind.toNat%2=1)=false):=Lib.hid (decide_eq_false (by omega))
       have HCp:=Lib.hid (put_index HX4.out a.key (by omega) a.n)
       have HRo:=Lib.hid (HRd.out a.key a.n)
       obtain⟨rs,hrs⟩:∃rs,rs=(putK s a.key.data.toList a.n):=⟨_,rfl⟩
       rw [←hrs]at HCp HRo
       clear hrs HRd HRc hpar
       go_wp2_with fail
       refine HCp.out.mono ?_
       rintro e w5⟨rfl,F5,hx5,hm5⟩
       have HX5:=Lib.hid hx5
       have HM5:=Lib.hid hm5
       have HKp:Hid (∀X,Below w5.heap.size w5 X→X.cell? ⟨g,0,none⟩=some (.int .u8 (a.kind.toNat:Int))∧X.cell? ⟨g,1,none⟩=some (.string a.key)∧X.cell? ⟨g,2,none⟩=some (.int .u64 (a.n.toNat:Int))):=Lib.hid (fun X k=>by
        have hb:=(HBk4.out.touch hm5.touch HGF.out)
        have hb:=hb.below k hb.lt
        exact⟨hb.cell 0,hb.cell 1,hb.cell 2⟩)
       have HOu:Hid (∀X,Below w5.heap.size w5 X→Calls Tryz.prog 17 #[.slice A1 nb c1] X fun e w'=>∃A' c',e= .returned (.slice A' B0.length c')∧B0.length≤c'∧(A'=none→c'=0)∧ItR w' A' B0∧Below X.heap.size X w'):=Lib.hid (fun X k=>by
        have:=ours_right B0 A1 c1 X (by have:=HNb.out;omega) ((HR1.out.moved hm5 HN1.out).below k)
        rw [←HNb.out]at this⊢
        exact this)
       obtain⟨k0,k1,k2⟩:=HKp.out w5 (Below.refl _ _)
       clear HCp hx5 hm5
       go_wp2_with fail
       go_region_held3(fun w'=>w'.cell? ⟨g,1,none⟩=some (.string a.key)∧w'.cell? ⟨g,2,none⟩=some (.int .u64 (a.n.toNat:Int)))
        (first| exact⟨k1,k2⟩| exact(HKp.out _ ((Dr.drew w5).below _)).2| exact(HKp.out _ (((Dr.drew w5).below _).trans hb6)).2| exact(HKp.out _ ((((Dr.drew w5).below _).trans hb6).trans (hb7.mono hb6.size))).2)
        ((first| (go_at_call 17;refine(HOu.out _ ((Dr.drew w5).below _)).mono ?_;rintro e w6⟨A6,c6,rfl,hc6,hz6,hr6,hb6⟩)| (go_at_call 16;refine(putR_any B0 A6 c6 a.key a.n w6 (by have:=HNb.out;omega) hc6 hz6 (by omega) hr6).mono ?_;rintro e w7⟨A7,c7,rfl,_,_,hr7,hb7,_⟩)))
       all_goals(
        have hbb:Below w5.heap.size w5 w7:=(((Dr.drew w5).below _).trans hb6).trans (hb7.mono hb6.size)
        have HQ:=Lib.hid hbb
        have HR7:=Lib.hid hr7
        clear hbb hb6 hb7 hr6 hr7 k0 k1 k2
        go_wp2_with fail
        go_meet
        exact⟨rs.2,rs.1,_,A7,c7,F5,rfl,rfl,rfl,HX5.out.below HQ.out,HR7.out,(by have:=putR_len B0 a.key a.n;have:=HNb.out;omega),(by rw [HPar.out];exact HRo.out),HM5.out.below HQ.out⟩)
      ·have t1:((a.kind.toNat:Int)%2==0)=false:=by rw [beq_eq_false_iff_ne];omega
       have HPar:Hid (decide (a.kind.toNat%2=1)=true):=Lib.hid (decide_eq_true (by omega))
       have HCp:=Lib.hid (cut_any HX4.out a.key (by omega))
       have HRo:=Lib.hid (HRc.out a.key)
       obtain⟨rs,hrs⟩:∃rs,rs=(cutK s a.key.data.toList):=⟨_,rfl⟩
       rw [←hrs]at HCp HRo
       clear hrs HRd HRc hpar
       go_wp2_with fail
       refine HCp.out.mono ?_
       rintro e w5⟨rfl,F5,hx5,hm5⟩
       have HX5:=Lib.hid hx5
       have HM5:=Lib.hid hm5
       have HKp:Hid (∀X,Below w5.heap.size w5 X→X.cell? ⟨g,0,none⟩=some (.int .u8 (a.kind.toNat:Int))∧X.cell? ⟨g,1,none⟩=some (.string a.key)∧X.cell? ⟨g,2,none⟩=some (.int .u64 (a.n.toNat:Int))):=Lib.hid (fun X k=>by
        have hb:=(HBk4.out.touch hm5.touch HGF.out)
        have hb:=hb.below k hb.lt
        exact⟨hb.cell 0,hb.cell 1,hb.cell 2⟩)
       have HOu:Hid (∀X,Below w5.heap.size w5 X→Calls Tryz.prog 17 #[.slice A1 nb c1] X fun e w'=>∃A' c',e= .returned (.slice A' B0.length c')∧B0.length≤c'∧(A'=none→c'=0)∧ItR w' A' B0∧Below X.heap.size X w'):=Lib.hid (fun X k=>by
        have:=ours_right B0 A1 c1 X (by have:=HNb.out;omega) ((HR1.out.moved hm5 HN1.out).below k)
        rw [←HNb.out]at this⊢
        exact this)
       obtain⟨k0,k1,k2⟩:=HKp.out w5 (Below.refl _ _)
       clear HCp hx5 hm5
       go_wp2_with fail
       go_region_held3(fun w'=>w'.cell? ⟨g,1,none⟩=some (.string a.key))
        (first| exact k1| exact(HKp.out _ ((Dr.drew w5).below _)).2.1| exact(HKp.out _ (((Dr.drew w5).below _).trans hb6)).2.1| exact(HKp.out _ ((((Dr.drew w5).below _).trans hb6).trans (hb7.mono hb6.size))).2.1)
        ((first| (go_at_call 17;refine(HOu.out _ ((Dr.drew w5).below _)).mono ?_;rintro e w6⟨A6,c6,rfl,hc6,hz6,hr6,hb6⟩)| (go_at_call 19;refine(cutR_any B0 A6 c6 a.key w6 (by have:=HNb.out;omega) hc6 (by omega) hr6).mono ?_;rintro e w7⟨A7,c7,rfl,hr7,hb7⟩)))
       all_goals(
        have hbb:Below w5.heap.size w5 w7:=(((Dr.drew w5).below _).trans hb6).trans (hb7.mono hb6.size)
        have HQ:=Lib.hid hbb
        have HR7:=Lib.hid hr7
        clear hbb hb6 hb7 hr6 hr7 k0 k1 k2
        go_wp2_with fail
        go_meet
        exact⟨rs.2.2,rs.1,_,A7,c7,F5,rfl,rfl,rfl,HX5.out.below HQ.out,HR7.out,(by have:=cutR_len B0 a.key;have:=HNb.out;omega),(by rw [HPar.out];exact HRo.out),HM5.out.below HQ.out⟩)
     case rest=>
      obtain⟨f,s5,want,A5,c5,F5,hs12,hs13,hs37,hx5,hw5,hwl,hro,hm5⟩:=hcut
      subst hs12
      subst hs13
      subst hs37
      obtain⟨items5,hok5,hlen5,hcase⟩:=hro
      have HAl:=Lib.hid (all_right hx5 hok5)
      have HO5:=Lib.hid hok5
      obtain⟨D0,hD0⟩:∃D0,D0=items5.map kvIt:=⟨_,rfl⟩
      have hD1:D0.length=items5.length:=by rw [hD0];simp
      rw [←hD0]at HAl hcase
      have hdl:D0.length≤200:=by omega
      have HCa:Hid ((f=0∧D0.map itP=want.map itP)∨(D0.map itP=B0.map itP∧(f=3∨f=7∨f=2∨(f=6∧decide (a.kind.toNat%2=1)=false)))):=Lib.hid (by
       rcases hcase with h| ⟨h1,h2⟩
       ·exact .inl h
       ·exact .inr ⟨by rw [hD0,h1,HB0.out],h2⟩)
      have HX5:=Lib.hid hx5
      have HF5:Hid (∀b,F5 b→w.heap.size≤b):=Lib.hid (fun b h=>(hm5.own b h).elim (HF1.out b) (fun h=>Nat.le_trans HB4.out.size h))
      have HBc:=Lib.hid (HB4.out.trans (hm5.touch.below HB4.out.size HF1.out))
      have HRb:=Lib.hid (HR1.out.moved hm5 HN1.out)
      have HBk5:=Lib.hid (HBk4.out.touch hm5.touch HGF.out)
      have HW5:=Lib.hid hw5
      have hil5:items5.length≤k+1:=by omega
      clear hx5 hok5 hcase hm5 hw5 hD0 hD1 HX4 HRd HRc HR1 HN1 HGF HBk4 z0 z1 z2
      go_wp2_with fail
      refine HAl.out.mono ?_
      rintro e w6⟨A6,c6,rfl,hr6,_,_,hb6⟩
      have HX6:=Lib.hid (HX5.out.below hb6)
      have HB6:=Lib.hid (HBc.out.trans (hb6.mono HBc.out.size))
      have HR6:=Lib.hid hr6
      have HRb6:=Lib.hid (HRb.out.below hb6)
      have HW6:=Lib.hid (HW5.out.below hb6)
      have HK6:Hid (∀X,Below w6.heap.size w6 X→X.cell? ⟨g,0,none⟩=some (.int .u8 (a.kind.toNat:Int))):=Lib.hid (fun X k=>by
       have hb:=HBk5.out.below hb6 HBk5.out.lt
       have hb:=hb.below k hb.lt
       exact hb.cell 0)
      have HNo:=Lib.hid (nodes_right HX6.out HO5.out)
      clear HAl hr6 hb6 HX5 HRb HW5 HBk5 HBc
      go_wp2_with fail
      refine HNo.out.mono ?_
      rintro e w7⟨A7,c7,rfl,hr7,hl7,hb7⟩
      have HB7:=Lib.hid hb7
      have HR7:=Lib.hid hr7
      have HPa:=Lib.hid (alls_right (HX6.out.below hb7))
      obtain⟨na,hna⟩:∃na,na=(allP s5).length:=⟨_,rfl⟩
      have HNa:=Lib.hid hna
      rw [←hna]at hl7 HPa⊢
      clear HNo hr7 hb7 hna
      go_wp2_with fail
      refine HPa.out.mono ?_
      rintro e w8⟨A8,c8,rfl,hr8,hb8⟩
      have HB8:=Lib.hid (HB7.out.trans (hb8.mono HB7.out.size))
      have HSn:Hid (Calls Tryz.prog 21 #[.slice A7 na c7,.slice A8 na c8] w8 fun e w'=>e= .returned (.bool true)∧Dr w8 w'):=Lib.hid (by
       have h:=sameN (allP s5) A7 A8 c7 c8 w8 (by have:=HNa.out;omega) (HR7.out.below hb8) (by rw [←HNa.out];exact hr8)
       rw [←HNa.out]at h
       exact h)
      have HHe:=Lib.hid (fun X(k:Below w6.heap.size w6 X)=>held_right (HX6.out.below k) HO5.out)
      clear HPa hr8 hb8 HR7
      go_wp2_with fail
      refine HSn.out.mono ?_
      rintro e w9⟨rfl,hd9⟩
      have HB9:=Lib.hid (HB8.out.trans (hd9.below _))
      clear HSn hd9
      go_wp2_with fail
      refine(HHe.out _ HB9.out).mono ?_
      rintro e w10⟨rfl,hb10⟩
      have HB10:=Lib.hid (HB9.out.trans (hb10.mono HB9.out.size))
      have HOd:=Lib.hid (ours_right D0 A6 c6 w10 (by omega) (HR6.out.below HB10.out))
      clear HHe hb10 HB7 HB8 HB9
      rcases HCa.out with⟨hf,hsame⟩| ⟨hsame,hf⟩
      ·subst hf
       have HS:=Lib.hid hsame
       clear hsame HCa
       go_wp2_with fail
       refine HOd.out.mono ?_
       rintro e w11⟨A11,c11,rfl,_,_,hr11,hb11⟩
       have HB11:=Lib.hid (HB10.out.trans (hb11.mono HB10.out.size))
       have HSa:=Lib.hid (same_right D0 want A11 A5 c11 c5 w11 (by omega) hr11 (HW6.out.below HB11.out) HS.out)
       clear HOd hr11 hb11
       go_wp2_with fail
       refine HSa.out.mono ?_
       rintro e w12⟨rfl,hd12⟩
       have HB12:=Lib.hid (HB11.out.trans (hd12.below _))
       clear HSa hd12
       go_wp2_with fail
       go_roundw
       case rel=>exact⟨k+1,s5,items5,F5,by omega,by go_num,HX6.out.below HB12.out,HO5.out,hil5,HF5.out,HB6.out.trans (HB12.out.mono HB6.out.size)⟩
       case measure=>simp [intOf];omega
      ·have HS:=Lib.hid hsame
       have hf2:f≠0:=by omega
       have tpar:f=6→((a.kind.toNat:Int)%2 !=0)=false:=fun e=>by
        have h1:a.kind.toNat%2=0:=by
         rcases hf with h| h| h| ⟨_,h⟩
         ·omega
         ·omega
         ·omega
         ·have:=of_decide_eq_false h;omega
        simp;omega
       have hf4:f=3∨f=7∨f=2∨f=6:=by
        rcases hf with h| h| h| ⟨h,_⟩
        ·exact .inl h
        ·exact .inr (.inl h)
        ·exact .inr (.inr (.inl h))
        ·exact .inr (.inr (.inr h))
       clear hsame HCa hf
       rcases hf4 with rfl| rfl| rfl| rfl
       all_goals(
        first| replace tpar:=tpar rfl| clear tpar
        clear hf2
        go_wp2_with fail
        refine HOd.out.mono ?_
        rintro e w11⟨A11,c11,rfl,_,_,hr11,hb11⟩
        have HB11:=Lib.hid (HB10.out.trans (hb11.mono HB10.out.size))
        have HOb:Hid (Calls Tryz.prog 17 #[.slice A1 nb c1] w11 fun e w'=>∃A' c',e= .returned (.slice A' B0.length c')∧B0.length≤c'∧(A'=none→c'=0)∧ItR w' A' B0∧Below w11.heap.size w11 w'):=Lib.hid (by
         have h:=ours_right B0 A1 c1 w11 (by have:=HNb.out;omega) (HRb6.out.below HB11.out)
         rw [←HNb.out]at h⊢
         exact h)
        have HR11:=Lib.hid hr11
        clear HOd hr11 hb11
        go_wp2_with fail
        refine HOb.out.mono ?_
        rintro e w12⟨A12,c12,rfl,_,_,hr12,hb12⟩
        have HB12:=Lib.hid (HB11.out.trans (hb12.mono HB11.out.size))
        have HSa:=Lib.hid (same_right D0 B0 A11 A12 c11 c12 w12 (by omega) (HR11.out.below hb12) hr12 HS.out)
        clear HOb hr12 hb12 HR11
        go_wp2_with fail
        refine HSa.out.mono ?_
        rintro e w13⟨rfl,hd13⟩
        have HB13:=Lib.hid (HB12.out.trans (hd13.below _))
        have z0:=HK6.out _ HB13.out
        clear HSa hd13
        go_wp2_with fail
        go_roundw
        case rel=>exact⟨k+1,s5,items5,F5,by omega,by go_num,HX6.out.below HB13.out,HO5.out,hil5,HF5.out,HB6.out.trans (HB13.out.mono HB6.out.size)⟩
        case measure=>simp [intOf];omega)
    ·have hx1:decide ((k:Int)<(l.length:Int))=false:=decide_eq_false (by omega)
     have hx5:decide (k<l.length)=false:=decide_eq_false hlt
     go_wp2_with fail
     go_ret
     exact⟨rfl,HB.out⟩
end Go.Proofs.YtfhagbcfbbggeaaGreatDoor
