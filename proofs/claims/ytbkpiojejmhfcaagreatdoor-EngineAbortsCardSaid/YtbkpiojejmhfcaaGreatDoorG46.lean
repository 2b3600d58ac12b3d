import Derived.Test.YtbkpiojejmhfcaaGreatDoorG33
import Derived.Test.YtbkpiojejmhfcaaGreatDoorG42
import Derived.Test.YtbkpiojejmhfcaaGreatDoorG44
import Derived.Test.YtbkpiojejmhfcaaGreatDoorG45
namespace Go.Proofs.YtbkpiojejmhfcaaGreatDoor
open Go.RowKit
def sh200':Sh:={lines:=200,slabs:=12,table:=128,data:=256}
theorem shape200':shapeOf 200=some sh200':=by decide+kernel
theorem one200:oneB sh200' ⟨#[97]⟩ ⟨#[120]⟩=true:=by decide+kernel
theorem chk200:chkOne (one3 sh200' ⟨#[97]⟩ ⟨#[120]⟩) ⟨#[97]⟩ ⟨#[120]⟩=true:=by decide+kernel
def ax:Wr:=⟨⟨#[97]⟩,⟨#[120]⟩,false⟩
def axL:List Pr:=[⟨⟨#[97]⟩,⟨#[120]⟩⟩]
theorem ivs_nvs(l:List Nat):ivs (l.map Int.ofNat)=nvs l:=by unfold ivs nvs;rw [List.map_map];rfl
theorem ax_in:withinB ⟨#[97]⟩ ⟨#[]⟩ ⟨#[]⟩=true:=by decide+kernel
theorem scan_ax{w:World}{g d p x tt bk:Nat}{b:Bk}{t:Tb}{F J:Nat→Prop}{slot:UInt64}{jv:Value}{id:Int}{sv:Value}{st:UInt64}
 (h:EngAt w g d p x tt bk 200 (one3 sh200' ⟨#[97]⟩ ⟨#[120]⟩) b t F J slot jv id sv st)(ho:t.wt.ops 0=true)(hs:t.sets 0=[])(ha:t.wt.ats 0=1):
 Calls Tryz.prog 21 #[.pointer (some ⟨g,0,none⟩),.int .i64 0,.string ⟨#[]⟩,.string ⟨#[]⟩] w fun e w'=>∃v,e= .returned (.tuple #[v,.int .i64 0])∧w'.ownsRow w.heap.size 147 2 v 1 (prCs axL)∧Below w.heap.size w w':=by
 obtain⟨v,m,k,hsv,hgt,hls,hst,hgo,htx,hne,hal⟩:=chkOne_out chk200
 refine egScan0 h (i:=0) (by decide) ho hs ⟨#[]⟩ ⟨#[]⟩ hsv axL rfl (by simp) (fun j h1 h2=> ?_)
 obtain rfl:j=0:=by simpa using h1
 refine⟨rfl,ax_in,[k],hls,by simp,?_⟩
 rw [ha]
 show seeP [k] 1=some ⟨#[120]⟩
 rw [←htx]
 exact see_one hst hgo
set_option maxHeartbeats 16000000 in
set_option maxRecDepth 100000 in
theorem engineAborts_any(l:List Wr)(A:Option Addr)(c:Nat)(w:World)(hm:l.length≤maxLen)(h:Rd w A (l.length*3) (wrCs l))(hT:Tabs w):Calls Tryz.prog 5 #[.slice A l.length c] w fun e w'=>e= .returned (.bool true)∧Below w.heap.size w w':=by
 have htl:=hT.lt
 unfold maxLen at hm
 have HA:=Lib.hid (alive20 hT)
 have HR:=Lib.hid h
 have HFw:=Lib.hid (fun W(k:Below w.heap.size w W)=>few_writes l A c W (by omega) (Rd.below h k))
 have HBg:=Lib.hid (fun W(k:Below w.heap.size w W)=>egBegun (L:=200) (sh:=sh200') (by decide) (by decide) shape200' (hT.below k))
 rw [show((200:Nat):Int)=200 from rfl]at HBg
 have HLt:Hid (∀a,A=some a→0<l.length→a.block<w.heap.size):=Lib.hid (fun a ea hn=>by
  obtain⟨b,off,e,hb,_⟩:=h.2 (by omega)
  rw [ea]at e;injection e with e;rw [e];exact hb)
 obtain⟨v0,m0,k0, -, -, -, -, -, -, -,hal⟩:=chkOne_out chk200
 have HAl:=Lib.hid hal
 clear hT h hal
 go_enter Tryz.func5,Tryz.ntmps5
 go_wp2_with fail
 refine HA.out.mono ?_
 rintro e w1⟨rfl,hb1⟩
 have HB1:=Lib.hid hb1
 clear hb1 HA
 obtain⟨fw,hfw⟩:∃fw,fewW l=fw:=⟨_,rfl⟩
 rw [hfw]at HFw
 have HFo:=Lib.hid hfw
 clear hfw
 cases fw with
 | false=>
   go_wp2_with fail
   refine(HFw.out _ HB1.out).mono ?_
   rintro e w2⟨rfl,hb2⟩
   have HB2:=Lib.hid (HB1.out.trans (hb2.mono HB1.out.size))
   go_wp2_with fail
   go_ret
   exact⟨rfl,HB2.out⟩
 | true=>
   go_wp2_with fail
   refine(HFw.out _ HB1.out).mono ?_
   rintro e w2⟨rfl,hb2⟩
   have HB2:=Lib.hid (HB1.out.trans (hb2.mono HB1.out.size))
   clear hb2 HB1 HFw
   go_wp2_with fail
   refine(HBg.out _ HB2.out).mono ?_
   rintro e w3⟨d,g,p,x,tt,bk,nt,F,rfl,hE,hb3,hf⟩
   obtain⟨X0,hX0⟩:∃X0:Nat→Prop,X0=fun q=>q<w2.heap.size∧q≠0∧q≠1:=⟨_,rfl⟩
   have HX0:Hid (∀q,Outs X0 q→w2.heap.size≤q):=Lib.hid (fun q hq=>by
    by_cases h:w2.heap.size≤q
    ·exact h
    ·refine absurd ?_ hq
     by_cases h1:q=0
     ·exact .inr (.inl h1)
     ·by_cases h2:q=1
      ·exact .inr (.inr h2)
      ·exact .inl (hX0▸⟨by omega,h1,h2⟩))
   have hI:=hE.begun hf (X:=X0) (fun q hq=>by rw [hX0]at hq;exact hq)
   have HS:=Lib.hid (one_s0 (ky:=⟨#[97]⟩) (tx:=⟨#[120]⟩) _ _ hI)
   have HB3:=Lib.hid (HB2.out.trans (hb3.mono HB2.out.size))
   have HB23:=Lib.hid hb3
   clear HBg hE hb3 hf hI hX0
   go_wp2_with fail
   refine HS.out.mono ?_
   rintro e w4⟨rfl,hS,ht⟩
   have HT:=Lib.hid ht
   have HS2:=Lib.hid (one_s1 (by decide) (by decide) _ _ hS)
   clear HS hS ht
   go_wp2_with fail
   refine HS2.out.mono ?_
   rintro e w5⟨rfl,hS,ht⟩
   have HT3:=Lib.hid (HT.out.trans ht (fun _ h=> .inl h))
   have HS3:=Lib.hid (one_s2 (by decide) (by decide) _ _ hS)
   clear HS2 hS ht HT
   go_wp2_with fail
   refine HS3.out.mono ?_
   rintro e w6⟨rfl,hS,ht⟩
   have HT4:=Lib.hid (HT3.out.trans ht (fun _ h=> .inl h))
   have HS4:=Lib.hid (one_s3 (by decide) (by decide) one200 _ _ hS)
   clear HS3 hS ht HT3
   go_wp2_with fail
   refine HS4.out.mono ?_
   rintro e w7⟨rfl,hS,ht⟩
   have HT5:=Lib.hid (HT4.out.trans ht (fun _ h=> .inl h))
   have HS5:=Lib.hid (one_s4 _ _ hS)
   clear HS4 hS ht HT4
   go_wp2_with fail
   refine HS5.out.mono ?_
   rintro e w8⟨rfl,hS,ht⟩
   have HT6:=Lib.hid (HT5.out.trans ht (fun _ h=> .inl h))
   have hS6:EgI g d p x tt bk 200 (one3 sh200' ⟨#[97]⟩ ⟨#[120]⟩) (noteT (endT (writeT (beginT tb0 0 0) 0 [ax]) 0) [ax] 1) 1 1 (fun _=>True) w8 X0:=hS
   obtain⟨b6,J6,F6,hE6, -⟩:=id hS6
   have HBl:=Lib.hid (egBlocks hE6)
   rw [HAl.out]at HBl
   have HS6:=Lib.hid hS6
   have HSl:=Lib.hid (fun W(kb:Below w8.heap.size w8 W)=>egSlot (hE6.below kb))
   rw [show(((1:UInt64).toNat:Nat):Int)=1 from rfl]at HSl
   clear HS5 hS hS6 ht HT5 hE6
   go_wp2_with fail
   refine HBl.out.mono ?_
   rintro e w9⟨vb,rfl,hO9,hb9⟩
   obtain⟨A9,c9,rfl,hc9,hr9⟩:=own_rowk hO9
   have ha9:=own_at hO9
   have HB9:=Lib.hid hb9
   have hS9:=HS6.out.below hb9
   have HT9:=Lib.hid (HT6.out.trans (Touch.of_below hb9) (fun _ h=> .inl h))
   obtain⟨X1,hX1⟩:∃X1:Nat→Prop,X1=fun q=>X0 q∨(w8.heap.size≤q∧q<w9.heap.size):=⟨_,rfl⟩
   rw [←hX1]at hS9
   have HX1:Hid (∀q,Outs X1 q→Outs X0 q):=Lib.hid (fun q hq h=>hq (h.imp (fun h=>by rw [hX1];exact .inl h) id))
   have HR9:Hid (∀W',Touch (Outs X1) w9 W'→Rd W' A9 2 (nvs (allP (one3 sh200' ⟨#[97]⟩ ⟨#[120]⟩)))):=Lib.hid (fun W' kt=>by
    have:=Rd.touch hr9 kt (fun a ea h=>h (.inl (by rw [hX1];exact .inr (ha9 a ea))))
    rwa [Nat.mul_one]at this)
   have HS9:=Lib.hid hS9
   have HSb:=Lib.hid (sBegin (i:=0) rfl (by decide) _ _ hS9)
   clear HBl HS6 hO9 hr9 ha9 hb9 hS9 hX1 HT6
   go_wp2_with fail
   refine(HSl.out _ HB9.out).mono ?_
   rintro e w10⟨rfl,rfl⟩
   clear HSl HB9
   go_wp2_with fail
   refine HSb.out.mono ?_
   rintro e w10⟨rfl,hS10,ht⟩
   have HT10:=Lib.hid (HT9.out.trans ht (fun q h=> .inl (HX1.out q h)))
   have HT91:=Lib.hid ht
   have hS10:EgI g d p x tt bk 200 (one3 sh200' ⟨#[97]⟩ ⟨#[120]⟩) (tb20 ax) 1 2 _ w10 X1:=hS10
   obtain⟨b10,J10,F10,hE10, -⟩:=id hS10
   have HSc:=Lib.hid (scan_ax hE10 rfl rfl rfl)
   have HS10:=Lib.hid hS10
   clear HSb hS10 hE10 ht HT9
   go_wp2_with fail
   refine HSc.out.mono ?_
   rintro e w11⟨vs,rfl,hO11,hb11⟩
   obtain⟨A11,c11,rfl,hc11,hr11⟩:=own_rowk hO11
   have ha11:=own_at hO11
   have hS11:=HS10.out.below hb11
   have HT11:=Lib.hid (HT10.out.trans (Touch.of_below hb11) (fun _ h=> .inl h))
   have HT911:=Lib.hid (HT91.out.trans (Touch.of_below hb11) (fun _ h=> .inl h))
   obtain⟨X2,hX2⟩:∃X2:Nat→Prop,X2=fun q=>X1 q∨(w10.heap.size≤q∧q<w11.heap.size):=⟨_,rfl⟩
   rw [←hX2]at hS11
   have HX2:Hid (∀q,Outs X2 q→Outs X1 q):=Lib.hid (fun q hq h=>hq (h.imp (fun h=>by rw [hX2];exact .inl h) id))
   have HR11:Hid (∀W',Touch (Outs X2) w11 W'→PrR W' A11 axL):=Lib.hid (fun W' kt=>Rd.touch hr11 kt (fun a ea h=>h (.inl (by rw [hX2];exact .inr (ha11 a ea)))))
   have hS11':EgI g d p x tt bk 200 (one3 sh200' ⟨#[97]⟩ ⟨#[120]⟩) (tb20 ax) 1 2 (fun _=>True) w11 X2:=by
    obtain⟨b,J,F,h1,h2,_,h4⟩:=hS11
    exact⟨b,J,F,h1,h2,trivial,h4⟩
   have HS11:=Lib.hid hS11'
   have HRl:Hid (∀W',Touch (Outs X2) w11 W'→Rd W' A (l.length*3) (wrCs l)):=Lib.hid (fun W' kt=>by
    have hsz:=HB3.out.size
    have hsz2:=HB2.out.size
    have h3:Touch (Outs X0) w3 W':=HT11.out.trans kt (fun q h=> .inl (HX1.out q (HX2.out q h)))
    refine⟨HR.out.1,fun hn=> ?_⟩
    refine(Rd.touch (Rd.below HR.out HB3.out) h3 (fun a ea h=> ?_)).2 hn
    have h1:=HLt.out a ea (by omega)
    have h2:=HX0.out _ h
    omega)
   have hl60:=(fewW_out HFo.out).1
   have HSh:=Lib.hid (fewW_out HFo.out).2
   clear HSc HS10 hO11 hr11 ha11 hb11 hS11 hS11' hX2 HT10 HT91
   go_wp2_with fail
   go_loopw [61](fun i wr=>∃(k:Nat)(t':Tb),k≤l.length∧i= .int .i64 (k:Nat)∧t'.wt=(tb20 ax).wt∧(t'.sets 0).length≤16∧UpS (t'.sets 0)∧EgI g d p x tt bk 200 (one3 sh200' ⟨#[97]⟩ ⟨#[120]⟩) t' 1 2 (fun _=>True) wr X2∧Touch (Outs X2) w11 wr)(fun i _=>l.length- (intOf i).toNat)
   case atStart=>exact⟨0,tb20 ax,Nat.zero_le _,rfl,rfl,by decide,List.Pairwise.nil,HS11.out,Touch.refl _ _⟩
   case round=>
    obtain⟨k,t',hk,rfl,hwt,hsl,hup,hSr,hTr⟩:=hrel
    have ho:t'.wt.ops 0=true:=by rw [hwt];rfl
    have HSr:=Lib.hid hSr
    have HTr:=Lib.hid hTr
    have HWt:=Lib.hid hwt
    clear hSr hTr hwt
    by_cases hlt:k<l.length
    ·obtain⟨bb,off,rfl,hbw,q0,q1,q2⟩:=wr_at (HRl.out _ HTr.out) k hlt
     have hx1:(k:Int)<(l.length:Int):=by omega
     have hx2:decide ((k:Int)<(l.length:Int))=true:=decide_eq_true hx1
     have hx5:decide (k<l.length)=true:=decide_eq_true hlt
     have hwk:IntKind.i64.wrap ((k:Int)+1)=(k:Int)+1:=IntWalk.i64_in _ (by omega)
     obtain⟨hs1,hs2⟩:=HSh.out l[k] (List.getElem_mem hlt)
     generalize l[k]=y at*
     obtain⟨ky,tx,gn⟩:=y
     simp only at q0 q1 q2 hs1 hs2
     obtain⟨W,hW⟩:∃W,W=wr.alloc (.cells #[.string ky,.string tx,.bool gn] 37):=⟨_,rfl⟩
     have B:Blk W wr.heap.size 37 [.string ky,.string tx,.bool gn]:=hW▸heap_alloc_new _ _
     have hbW:Below wr.heap.size wr W:=hW▸(Below.refl _ _).alloc (Nat.le_refl _) _
     have hTW:=Lib.hid (HTr.out.trans (Touch.of_below hbW (F:=Outs X2)) (fun _ h=> .inl h))
     have hSW:=HSr.out.stay hbW
     cases gn with
     | true=>
       have HC:=Lib.hid (sDelAny (i:=0) (by decide) ho hsl hup ky (by omega) _ _ hSW)
       obtain⟨cd,hcd⟩:∃cd,(putS (t'.sets 0) ⟨ky,⟨#[]⟩,true⟩).2=cd:=⟨_,rfl⟩
       rw [hcd]at HC
       rw [show((0:Nat):Int)=0 from rfl]at HC
       have HW:=Lib.hid hW
       clear hW B hbW hSW hcd HSr HTr
       go_wp2_with fail
       rw [←HW.out]
       refine HC.out.mono ?_
       rintro e w12⟨rfl,hS12,ht12⟩
       have HS12:=Lib.hid hS12
       have HT12:=Lib.hid (hTW.out.trans ht12 (fun _ h=> .inl h))
       clear hS12 ht12 HC
       go_wp2_with fail
       go_roundw
       case rel=>exact⟨k+1,wrT t' 0 ⟨ky,⟨#[]⟩,true⟩,by omega,by go_num,by rw [wrT_wt];exact HWt.out,(wrT_set t' 0 _ hsl hup).1,(wrT_set t' 0 _ hsl hup).2,HS12.out,HT12.out⟩
       case measure=>simp [intOf];omega
     | false=>
       have HC:=Lib.hid (sPutAny (i:=0) (by decide) ho hsl hup ky tx (by omega) (by omega) _ _ hSW)
       obtain⟨cd,hcd⟩:∃cd,(putS (t'.sets 0) ⟨ky,tx,false⟩).2=cd:=⟨_,rfl⟩
       rw [hcd]at HC
       rw [show((0:Nat):Int)=0 from rfl]at HC
       have HW:=Lib.hid hW
       clear hW B hbW hSW hcd HSr HTr
       go_wp2_with fail
       rw [←HW.out]
       refine HC.out.mono ?_
       rintro e w12⟨rfl,hS12,ht12⟩
       have HS12:=Lib.hid hS12
       have HT12:=Lib.hid (hTW.out.trans ht12 (fun _ h=> .inl h))
       clear hS12 ht12 HC
       go_wp2_with fail
       go_roundw
       case rel=>exact⟨k+1,wrT t' 0 ⟨ky,tx,false⟩,by omega,by go_num,by rw [wrT_wt];exact HWt.out,(wrT_set t' 0 _ hsl hup).1,(wrT_set t' 0 _ hsl hup).2,HS12.out,HT12.out⟩
       case measure=>simp [intOf];omega
    ·have hx2:decide ((k:Int)<(l.length:Int))=false:=decide_eq_false (by omega)
     have hx5:decide (k<l.length)=false:=decide_eq_false hlt
     have HC:=Lib.hid (sAbort (i:=0) (by decide) ho _ _ HSr.out)
     rw [show((0:Nat):Int)=0 from rfl]at HC
     clear HS11
     go_wp2_with fail
     refine HC.out.mono ?_
     rintro e w12⟨rfl,hS12,ht12⟩
     have HT12:=Lib.hid (HTr.out.trans ht12 (fun _ h=> .inl h))
     have hwe:(endT t' 0).wt=setW (tb20 ax).wt 0 0 false:=by show setW t'.wt 0 0 false=_;rw [HWt.out]
     obtain⟨b12,J12,F12,hE12, -⟩:=id hS12
     have HNo:=Lib.hid (egAbort_no hE12 (i:=0) (by rw [hwe];rfl))
     have HSb:=Lib.hid (sBegin (i:=0) (by rw [hwe];rfl) (by decide) _ _ hS12)
     have HWe:=Lib.hid hwe
     clear HC hS12 ht12 hE12 HSr HTr hwe
     go_wp2_with fail
     refine HNo.out.mono ?_
     rintro e w13⟨rfl,rfl⟩
     clear HNo
     go_wp2_with fail
     refine HSb.out.mono ?_
     rintro e w13⟨rfl,hS13,ht13⟩
     have HT13:=Lib.hid (HT12.out.trans ht13 (fun _ h=> .inl h))
     obtain⟨b13,J13,F13,hE13, -⟩:=id hS13
     have HSc:=Lib.hid (scan_ax hE13 (by simp [beginT,setW,updF]) (by simp [beginT,setW,updF]) (by simp [beginT,setW,updF]))
     have HE13:=Lib.hid hE13
     clear HSb hS13 ht13 hE13 HT12
     go_wp2_with fail
     refine HSc.out.mono ?_
     rintro e w14⟨vt,rfl,hO14,hb14⟩
     obtain⟨A14,c14,rfl,hc14,hr14⟩:=own_rowk hO14
     have HT14:=Lib.hid (HT13.out.trans (Touch.of_below (F:=Outs X2) hb14) (fun _ h=> .inl h))
     have HE14:=Lib.hid (HE13.out.below hb14)
     have HR14:Hid (PrR w14 A14 axL):=Lib.hid hr14
     have HBk1:=Lib.hid (lawBack axL A11 c11 w14 (by decide) (HR11.out _ HT14.out))
     rw [show axL.length=1 from rfl]at HBk1
     clear HSc hO14 hr14 hc14 hb14 HT13 HE13
     go_wp2_with fail
     refine HBk1.out.mono ?_
     rintro e w15⟨v15,rfl,hO15,hb15⟩
     obtain⟨A15,c15,rfl,hc15,hr15⟩:=own_rowk hO15
     have HB15:=Lib.hid hb15
     have HR15:Hid (PrR w15 A15 axL):=Lib.hid hr15
     have HBk2:=Lib.hid (lawBack axL A14 c14 w15 (by decide) (HR14.out.below hb15))
     rw [show axL.length=1 from rfl]at HBk2
     clear HBk1 hO15 hr15 hc15 hb15
     go_wp2_with fail
     refine HBk2.out.mono ?_
     rintro e w16⟨v16,rfl,hO16,hb16⟩
     obtain⟨A16,c16,rfl,hc16,hr16⟩:=own_rowk hO16
     have HB16:=Lib.hid (HB15.out.trans (hb16.mono HB15.out.size))
     have HPs:=Lib.hid (refPairs axL axL A15 A16 c15 c16 w16 (by decide) (HR15.out.below hb16) hr16)
     rw [show axL.length=1 from rfl,eqL_refl samePr_refl]at HPs
     clear HBk2 hO16 hr16 hc16 hb16
     go_wp2_with fail
     refine HPs.out.mono ?_
     rintro e w17⟨rfl,hd17⟩
     have hb17:=HB16.out.trans ((hd17.below w16.heap.size).mono HB16.out.size)
     have HB17:=Lib.hid hb17
     have HBl:=Lib.hid (egBlocks (HE14.out.below hb17))
     rw [HAl.out]at HBl
     clear HPs hd17 hb17
     go_wp2_with fail
     refine HBl.out.mono ?_
     rintro e w18⟨v18,rfl,hO18,hb18⟩
     obtain⟨A18,c18,rfl,hc18,hr18⟩:=own_rowk hO18
     rw [Nat.mul_one]at hr18
     have hb18':=HB17.out.trans (hb18.mono HB17.out.size)
     have HB18:=Lib.hid hb18'
     have HIn:=Lib.hid (lawInts ((allP (one3 sh200' ⟨#[97]⟩ ⟨#[120]⟩)).map Int.ofNat) A9 A18 c9 c18 w18 (by rw [List.length_map,HAl.out];decide)
      (by rw [List.length_map,HAl.out,ivs_nvs];exact HR9.out _ (HT911.out.trans ((HT14.out.trans (Touch.of_below hb18') (fun _ h=> .inl h))) (fun q h=> .inl (HX2.out q h))))
      (by rw [List.length_map,HAl.out,ivs_nvs];exact hr18))
     rw [List.length_map,HAl.out]at HIn
     have HSl:=Lib.hid (fun W(kb:Below w14.heap.size w14 W)=>egSlot (HE14.out.below kb))
     rw [show(((1:UInt64).toNat:Nat):Int)=1 from rfl]at HSl
     clear HBl hO18 hb18 hr18 hc18 hb18'
     go_wp2_with fail
     refine HIn.out.mono ?_
     rintro e w19⟨rfl,hd19⟩
     have HB19:=Lib.hid (HB18.out.trans ((hd19.below w18.heap.size).mono HB18.out.size))
     clear HIn hd19
     go_wp2_with fail
     refine(HSl.out _ HB19.out).mono ?_
     rintro e w20⟨rfl,rfl⟩
     go_wp2_with fail
     go_ret
     have hT0:Touch (Outs X0) w3 w19:=HT11.out.trans (HT14.out.trans (Touch.of_below HB19.out) (fun _ h=> .inl h)) (fun q h=> .inl (HX1.out q (HX2.out q h)))
     exact⟨rfl,HB2.out.trans (((HB23.out.trans (hT0.below HB23.out.size (fun q h=>HX0.out q h))).mono HB2.out.size))⟩
end Go.Proofs.YtbkpiojejmhfcaaGreatDoor
