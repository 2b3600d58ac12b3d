import Derived.Laws.BitsAllLaws
import Derived.Test.YtfhagbcfbbggeaaGreatDoorG33
import Derived.Test.YtfhagbcfbbggeaaGreatDoorG34
namespace Go.Proofs.YtfhagbcfbbggeaaGreatDoor
open Go.RowKit
theorem corrupt_shape:shapeOf 100=some ((shapeOf 100).getD sh100):=by decide+kernel
theorem turned_word(a b:UInt64):bits .xor .u64 (a.toNat:Int) (b.toNat:Int)=((a^^^b).toNat:Int):=by
 rw [u64_xor_nat _ _ (UInt64.toNat_lt _) (UInt64.toNat_lt _),UInt64.toNat_xor]
theorem turned_head{s:St}{sh:Sh}(h:Low (st0 sh) s)(j:Nat)(x:UInt64)(hj:8≤j):wordsAt (put1 s.ws j x) 0 8=wordsOf s.sh:=by
 rw [←again_head h]
 apply List.ext_getElem
 ·simp [wordsAt]
 ·intro i h1 h2
  rw [wordsAt_get,wordsAt_get]
  have h1':i<8:=by simpa [wordsAt]using h1
  unfold put1
  rw [if_neg (by omega)]
theorem surveyed{ws:Nat→UInt64}{sh:Sh}(hsl:sh.slabs≤6)(h:(surveyP (openS ws sh)).isSome=true):∃l,allK (openS ws sh)=some l∧l.length≤96:=by
 obtain⟨r,hr⟩:=Option.isSome_iff_exists.1 h
 refine⟨r.1.map toIt,by unfold allK;rw [hr];rfl,?_⟩
 have:=survey_count hr
 rw [List.length_map]
 have e:(openS ws sh).tk.length=sh.slabs:=by simp [openS,wordsAt]
 omega
set_option maxHeartbeats 8000000 in
set_option maxRecDepth 100000 in
theorem indexCorrupt_any(l:List Ac)(A:Option Addr)(c at0:Nat)(by0:UInt64)(key:ByteArray)(w:World)(hl:l.length≤9223372036854775807)(h:Rd w A (l.length*3) (acCs l))(hat:at0<65536)(hT:Tabs w):
 Calls Tryz.prog 3 #[.slice A l.length c,.agg #[.int .u16 (at0:Int),.int .u64 (by0.toNat:Int)],.string key] w fun e w'=>e= .returned (.bool true)∧Below w.heap.size w w':=by
 obtain⟨W,hW⟩:∃W,W=w.alloc (.cells #[.int .u16 (at0:Int),.int .u64 (by0.toNat:Int)] 26):=⟨_,rfl⟩
 have hbW:Below w.heap.size w W:=hW▸(Below.refl _ _).alloc (Nat.le_refl _) _
 have BT:Blk W w.heap.size 26 [.int .u16 (at0:Int),.int .u64 (by0.toNat:Int)]:=hW▸heap_alloc_new _ _
 have HT0:Hid (∀W',Below W.heap.size W W'→Blk W' w.heap.size 26 [.int .u16 (at0:Int),.int .u64 (by0.toNat:Int)]):=Lib.hid (fun W' k=>BT.below k BT.lt)
 have HW:=Lib.hid hW
 have HBW:=Lib.hid hbW
 have HAl:=Lib.hid (alive10 (hT.below hbW))
 have HR:=Lib.hid h
 have HHv:=Lib.hid (fun W(k:Below w.heap.size w W)=>heavy10 l A c W hl (h.below k))
 obtain⟨sh,hsh⟩:∃sh,sh=(shapeOf 100).getD sh100:=⟨_,rfl⟩
 have hs:=corrupt_shape
 rw [←hsh]at hs
 have HSl:Hid (sh.slabs≤6):=Lib.hid (by have:=shape_ok hs;have:=this.fits;omega)
 have HBg:Hid (∀W,Below w.heap.size w W→Calls Tryz.prog 9 #[.int .i64 100] W fun e w'=>∃d p x F,e= .returned (.tuple #[.pointer (some ⟨d,0,none⟩),.pointer (some ⟨p,0,none⟩),.pointer (some ⟨x,0,none⟩)])∧
  Ix w' x d p 100 (st0 sh) F∧Below W.heap.size W w'∧(∀b,F b→W.heap.size≤b)∧W.heap.size≤x):=Lib.hid (fun W k=>begin10_any (L:=100) (by decide) (by decide) hs (hT.below k))
 have HOk0:=Lib.hid (st0_ok (L:=100) (by decide) hs)
 have HSh:=Lib.hid hs
 clear hT h hl hs hsh hW hbW BT
 go_enter Tryz.func3,Tryz.ntmps3
 go_wp2_with fail
 rw [←HW.out]
 refine HAl.out.mono ?_
 rintro e w1⟨rfl,hb1⟩
 have HB1:=Lib.hid (HBW.out.trans (hb1.mono HBW.out.size))
 have BT1:=HT0.out _ hb1
 have y0:=BT1.cell 0
 have y1:=BT1.cell 1
 simp only [List.getElem?_cons_succ,List.getElem?_cons_zero]at y0 y1
 clear hb1 HAl HT0 BT1
 go_wp2_with fail
 go_region
 obtain⟨w2,hw2⟩:∃w2,w2=w1.drew:=⟨_,rfl⟩
 rw [←hw2]
 have HB2:Hid (Below w.heap.size w w2):=Lib.hid (hw2▸HB1.out.trans ((Dr.drew w1).below _))
 clear hw2 y0 y1
 go_wp2_with fail
 refine(HHv.out w2 HB2.out).mono ?_
 rintro e w3⟨rfl,hb3⟩
 have HB3:=Lib.hid (HB2.out.trans (hb3.mono HB2.out.size))
 clear hb3 HHv HB2 HB1
 cases hv:heavyB l with
 | true=>
   go_wp2_with fail
   go_ret
   exact⟨rfl,HB3.out⟩
 | false=>
   obtain⟨hl1,hk1⟩:=heavy_out hv
   have HK:=Lib.hid hk1
   clear hv hk1
   by_cases hkz:(40:Int)<(key.size:Int)
   ·have t1:decide ((40:Int)<(key.size:Int))=true:=decide_eq_true hkz
    go_wp2_with fail
    go_ret
    exact⟨rfl,HB3.out⟩
   ·have t1:decide ((40:Int)<(key.size:Int))=false:=decide_eq_false hkz
    go_wp2_with fail
    refine(HBg.out w3 HB3.out).mono ?_
    rintro e w4⟨d,p,x,F,rfl,hx,hb4,hF,hxw⟩
    have HB4:=Lib.hid (HB3.out.trans (hb4.mono HB3.out.size))
    have HX:=Lib.hid hx
    have HF:Hid (∀b,F b→w.heap.size≤b):=Lib.hid (fun b h=>Nat.le_trans HB3.out.size (hF b h))
    clear HBg hx hb4 hF hxw
    obtain⟨s0,hs0⟩:∃s0,s0=st0 sh:=⟨_,rfl⟩
    rw [←hs0]at HX HOk0
    have HLo0:Hid (Low (st0 sh) s0):=Lib.hid (hs0▸Low.refl _)
    clear hs0
    go_wp2_with fail
    go_loopw [46](fun i wr=>∃(k:Nat)(s:St)(items:List Kv)(F:Nat→Prop),k≤l.length∧i= .int .i64 (k:Nat)∧Ix wr x d p 100 s F∧IxOk 100 s items∧(∀b,F b→w.heap.size≤b)∧Low (st0 sh) s∧Below w.heap.size w wr)(fun i _=>l.length- (intOf i).toNat)
    case atStart=>exact⟨0,s0,[],F,Nat.zero_le _,rfl,HX.out,HOk0.out,HF.out,HLo0.out,HB4.out⟩
    case round=>
     obtain⟨k,s,items,F1,hk,rfl,hx1,hok1,hF1,hlo1,hb1⟩:=hrel
     have HX1:=Lib.hid hx1
     have HO1:=Lib.hid hok1
     have HF1:=Lib.hid hF1
     have HL1:=Lib.hid hlo1
     have HB:=Lib.hid hb1
     clear HX HOk0 HF HB4 hx1 hok1 hF1 hb1 HB3 hlo1 HLo0
     by_cases hlt:k<l.length
     ·have hx1:(k:Int)<(l.length:Int):=by omega
      have hx2:decide ((k:Int)<(l.length:Int))=true:=decide_eq_true hx1
      have hx5:decide (k<l.length)=true:=decide_eq_true hlt
      have hwk:IntKind.i64.wrap ((k:Int)+1)=(k:Int)+1:=IntWalk.i64_in _ (by omega)
      obtain⟨b,off,rfl,hbw,q0,q1,q2⟩:=ac_at (Rd.below HR.out HB.out) k hlt
      have hks:=HK.out _ (List.getElem_mem hlt)
      generalize l[k]=a at*
      obtain⟨W,hW⟩:∃W,W=wr.alloc (.cells #[.int .u8 (a.kind.toNat:Int),.string a.key,.int .u64 (a.n.toNat:Int)] 35):=⟨_,rfl⟩
      have hbW:Below wr.heap.size wr W:=hW▸(Below.refl _ _).alloc (Nat.le_refl _) _
      have HW:=Lib.hid hW
      have HXW:=Lib.hid (HX1.out.below hbW)
      have HBW:=Lib.hid (HB.out.trans (hbW.mono HB.out.size))
      have hfar:Far s.sh:=far_of HO1.out.ok.sh
      have HCp:=Lib.hid (put_index HXW.out a.key (by omega) a.n)
      have HRo:=Lib.hid (put_round HO1.out a.key a.n)
      have HLs:=Lib.hid (HL1.out.trans (low_putK s hfar a.key.data.toList a.n))
      clear hW hbW HX1 hfar
      go_wp2_with fail
      rw [←HW.out]
      refine HCp.out.mono ?_
      rintro e w5⟨rfl,F5,hx5',hm5⟩
      obtain⟨items5,ho5,hl5,_⟩:=HRo.out
      have HX5:=Lib.hid hx5'
      have HO5:=Lib.hid ho5
      have HF5:Hid (∀b,F5 b→w.heap.size≤b):=Lib.hid (fun b h=>(hm5.own b h).elim (HF1.out b) (fun h=>Nat.le_trans HBW.out.size h))
      have HB5:=Lib.hid (HBW.out.trans (hm5.touch.below HBW.out.size HF1.out))
      clear HCp hx5' hm5 ho5 HRo
      go_wp2_with fail
      go_roundw
      case rel=>exact⟨k+1,_,items5,F5,by omega,by go_num,HX5.out,HO5.out,HF5.out,HLs.out,HB5.out⟩
      case measure=>simp [intOf];omega
     ·have hx1:decide ((k:Int)<(l.length:Int))=false:=decide_eq_false (by omega)
      have hx5:decide (k<l.length)=false:=decide_eq_false hlt
      obtain⟨j,hj⟩:∃j,j=8+at0%792:=⟨_,rfl⟩
      have hj8:8≤j∧j<800:=by omega
      have HLd:=Lib.hid (load_sys HX1.out.sys j (by omega))
      have HSt:=Lib.hid (store_sys HX1.out.sys j (s.ws j^^^by0) (by omega) (by simp))
      have HsE:Hid (s.sh=sh):=Lib.hid HL1.out.1
      have HHd:=Lib.hid (turned_head HL1.out j (s.ws j^^^by0) hj8.1)
      have HxW:=Lib.hid (turned_word (s.ws j) by0)
      have HJ:Hid ((64:Int)+8*((at0:Int)%792)=((8*j:Nat):Int)):=Lib.hid (by omega)
      clear HX1 hj
      go_wp2_with fail
      rw [HJ.out]
      refine HLd.out.mono ?_
      rintro e w5⟨rfl,rfl⟩
      clear HLd HJ
      go_wp2_with fail
      rw [HxW.out]
      refine HSt.out.mono ?_
      rintro e w6⟨rfl,len',own,hd6,ht6,hT6,g1,g2⟩
      obtain⟨ws',hws⟩:∃ws',ws'=put1 s.ws j (s.ws j^^^by0):=⟨_,rfl⟩
      have HB6:=Lib.hid (HB.out.trans (ht6.below HB.out.size HF1.out))
      have HHd':wordsAt (put1 s.ws j (s.ws j^^^by0)) 0 8=wordsOf sh:=by rw [HHd.out,HsE.out]
      rw [←hws]at hd6 HHd'
      have HAg:=Lib.hid (again10_any (by decide) (by decide) HSh.out hd6 hT6 g1 g2 HHd')
      generalize(s.ws j^^^by0).toNat=sx at*
      generalize(s.ws j).toNat=sy at*
      clear HSt hd6 ht6 hT6 g1 g2 HHd' hws HHd HxW
      go_wp2_with fail
      refine HAg.out.mono ?_
      rintro e w7⟨hb7,hc7⟩
      have HB7:=Lib.hid (HB6.out.trans (hb7.mono HB6.out.size))
      clear HAg hb7
      rcases hc7 with⟨v,rfl⟩| ⟨p7,x7,F7,rfl,hx7,hsv⟩
      ·go_wp2_with fail
       go_ret
       exact⟨rfl,HB7.out⟩
      ·obtain⟨l7,hl7,hl96⟩:=surveyed HSl.out hsv
       have HAl:=allK_own hx7
       rw [hl7]at HAl
       have HAl:=Lib.hid HAl
       have HX7:=Lib.hid hx7
       have HSv:=Lib.hid hsv
       clear hx7 hsv hl7
       go_wp2_with fail
       refine HAl.out.mono ?_
       rintro e w8⟨hb8,A8,c8,rfl,_,_,_,_⟩
       have HB8:=Lib.hid (HB7.out.trans (hb8.mono HB7.out.size))
       have HGt:=Lib.hid (get_index (HX7.out.below hb8) key (by omega))
       have HG3:=survey_get HSv.out key.data.toList
       clear hb8 HX7 HAl HSv
       generalize getP (openS ws' sh) key.data.toList=r at HGt HG3
       obtain⟨rv,re⟩:=r
       simp only at HG3
       have t8:decide ((l7.length:Int)≤1000)=true:=decide_eq_true (by omega)
       go_wp2_with fail
       refine HGt.out.mono ?_
       rintro e w9⟨rfl,hb9⟩
       have HB9:=Lib.hid (HB8.out.trans (hb9.mono HB8.out.size))
       clear hb9 HGt
       rcases HG3 with h3| h3| h3
       all_goals(subst h3;go_wp2_with fail;go_ret;exact⟨rfl,HB9.out⟩)
end Go.Proofs.YtfhagbcfbbggeaaGreatDoor
