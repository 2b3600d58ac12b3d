import Derived.Test.YtbkpiojejmhfcaaGreatDoorG23
import Derived.Test.YtbkpiojejmhfcaaGreatDoorG28
namespace Go.Proofs.YtbkpiojejmhfcaaGreatDoor
open Go.RowKit
def CleanP(s:St)(slot:Nat)(items:List (List UInt8×UInt64)):Prop:=∀k(h:k<items.length),∃a t,listP s items[k].2=some (a::t)∧a.rc.stamp.toNat≤slot
section
variable{w w':World}{x d p L:Nat}{s:St}{F:Nat→Prop}
set_option maxHeartbeats 4000000 in
set_option maxRecDepth 100000 in
theorem mendBack(h:Ix w x d p L s F){items:List (List UInt8×UInt64)}{met:List Int}(hs:surveyP s=some (items,met))(slot:UInt64)(hc:CleanP s slot.toNat items):
 Calls Tryz.prog 121 #[.pointer (some ⟨d,0,none⟩),.pointer (some ⟨p,0,none⟩),.pointer (some ⟨x,0,none⟩),.int .u64 (slot.toNat:Int)] w fun e w'=>e= .returned (.int .i64 0)∧Below w.heap.size w w':=by
 have HAll:=Lib.hid (all_index h)
 have HX:=Lib.hid h
 have HS:=Lib.hid hs
 have HC:=Lib.hid hc
 clear h hs hc
 go_enter Tryz.func121,Tryz.ntmps121
 go_wp2_with fail
 refine HAll.out.mono ?_
 rintro e w2⟨hb2,hp2⟩
 rw [HS.out]at hp2
 obtain⟨v2,rfl,ho2,hm2⟩:=hp2
 obtain⟨A2,c2,rfl,hc2,hr2⟩:=own_rowk ho2
 have HB2:=Lib.hid hb2
 have HR2:=Lib.hid hr2
 clear HAll ho2 hb2 hr2 hc2
 go_wp2_with fail
 go_loopw [26](fun i wr=>∃k:Nat,k≤items.length∧i= .int .i64 (k:Nat)∧Below w2.heap.size w2 wr)(fun i _=>items.length- (intOf i).toNat)
 case atStart=>exact⟨0,Nat.zero_le _,rfl,Below.refl _ _⟩
 case round=>
  obtain⟨k,hk,rfl,hb⟩:=hrel
  have HBr:=Lib.hid hb
  clear hb
  by_cases hlt:k<items.length
  ·obtain⟨b,off,rfl,hbw,q0,q1⟩:=itV_at (Rd.below HR2.out HBr.out) k hlt
   have hx1:(k:Int)<(items.length:Int):=by omega
   have hx2:decide ((k:Int)<(items.length:Int))=true:=decide_eq_true hx1
   have hx5:decide (k<items.length)=true:=decide_eq_true hlt
   have hwk:IntKind.i64.wrap ((k:Int)+1)=(k:Int)+1:=IntWalk.i64_in _ (by omega)
   obtain⟨a,t,hl,hst⟩:=HC.out k hlt
   obtain⟨⟨ky,vl⟩,hit⟩:∃it,it=items[k]:=⟨_,rfl⟩
   rw [←hit]at q0 q1 hl
   simp only at q0 q1 hl
   have HM:=Lib.hid hl
   obtain⟨w4,hw4⟩:∃w4,w4=wr.alloc (.cells #[.string ⟨ky.toArray⟩,.int .u64 (vl.toNat:Int)] 145):=⟨_,rfl⟩
   have hb4:Below wr.heap.size wr w4:=hw4▸(Below.refl _ _).alloc (Nat.le_refl _) _
   have HB4:=Lib.hid (HBr.out.trans (hb4.mono HBr.out.size))
   have hbw4:=HB2.out.trans (HB4.out.mono HB2.out.size)
   have HLs:=Lib.hid (chainList (HX.out.below hbw4).sys vl)
   have HW4:=Lib.hid hw4
   clear hl hit hw4 hb4 hbw4 HBr
   go_wp2_with fail
   rw [←HW4.out]
   refine HLs.out.mono ?_
   rintro e w5⟨hb5,hp5⟩
   rw [HM.out]at hp5
   obtain⟨hinv5,v5,rfl,ho5⟩:=hp5
   have hfew:=hinv5.few
   obtain⟨A5,c5,rfl,hc5,hr5⟩:=own_lkr ho5
   have HB5:=Lib.hid (HB4.out.trans (hb5.mono HB4.out.size))
   obtain⟨b5,off5,rfl,hbw5,z0,z1,z2,z3,z4⟩:=hr5.at 0 (by simp)
   obtain⟨n,hn⟩:∃n,n=(a::t).length:=⟨_,rfl⟩
   have hn0:0<n:=by rw [hn];simp
   rw [←hn]
   rw [Nat.zero_mul,Nat.add_zero]at z0 z1 z2 z3 z4
   simp only [List.getElem_cons_zero]at z1
   have t0:decide ((0:Int)<(n:Int))=true:=decide_eq_true (by omega)
   have t1:decide ((slot.toNat:Int)<(a.rc.stamp.toNat:Int))=false:=decide_eq_false (by omega)
   have t2:decide (slot.toNat<a.rc.stamp.toNat)=false:=decide_eq_false (by omega)
   generalize a.rc.stamp=st at*
   clear HLs ho5 hb5 hr5 hinv5 hc5 hn z0 z2 z3 z4 hst hfew HM
   go_wp2_with fail
   go_loopw [15](fun i wq=>i= .int .i64 0∧wq=w5)(fun _ _=>0)
   case atStart=>exact⟨rfl,rfl⟩
   case round=>
    obtain⟨rfl,rfl⟩:=hrel
    go_wp2_with fail
    go_roundw
    case rel=>exact⟨k+1,by omega,by go_num,HB5.out⟩
    case measure=>simp [intOf];omega
  ·have hx2:decide ((k:Int)<(items.length:Int))=false:=decide_eq_false (by omega)
   have hx5:decide (k<items.length)=false:=decide_eq_false hlt
   go_wp2_with fail
   go_ret
   exact⟨rfl,HB2.out.trans (HBr.out.mono HB2.out.size)⟩
set_option maxHeartbeats 4000000 in
theorem mendFree0(h:Ix w x d p L s F){items:List (List UInt8×UInt64)}{met:List Int}(hs:surveyP s=some (items,met)){l:List Int}(ho:offsP s items (sortZ met)=some l)(hl:l.length≤100000)(hd:oncePP (sortZ l)=true)(h0:allP s=[]):
 Calls Tryz.prog 122 #[.pointer (some ⟨d,0,none⟩),.pointer (some ⟨p,0,none⟩),.pointer (some ⟨x,0,none⟩)] w fun e w'=>e= .returned (.int .i64 0)∧Below w.heap.size w w':=by
 have HR:=Lib.hid (mendReach h hs ho hl hd)
 have HX:=Lib.hid h
 have H0:=Lib.hid h0
 clear h hs ho hd h0
 go_enter Tryz.func122,Tryz.ntmps122
 go_wp2_with fail
 refine HR.out.mono ?_
 rintro e w2⟨v2,rfl,ho2,hb2⟩
 obtain⟨A2,c2,rfl,hc2,hr2⟩:=own_rowk ho2
 have HB2:=Lib.hid hb2
 have HA:=Lib.hid (show Calls Tryz.prog 75 #[.pointer (some ⟨p,0,none⟩)] w2 fun e w'=>∃v,e= .returned v∧w'.ownsRow w2.heap.size 3 1 v (allP s).length (nvs (allP s))∧Below w2.heap.size w2 w' from by
  obtain⟨tb,hb,n,cT,cH,own,hr, -⟩:=(HX.out.below hb2).sys
  exact all_pool hr.at)
 rw [H0.out]at HA
 simp only [List.length_nil]at HA
 clear HR ho2 hb2 hr2 hc2
 go_wp2_with fail
 refine HA.out.mono ?_
 rintro e w3⟨v3,rfl,ho3,hb3⟩
 obtain⟨A3,c3,rfl,hc3,hr3⟩:=own_rowk ho3
 have HB3:=Lib.hid (HB2.out.trans (hb3.mono HB2.out.size))
 clear HA ho3 hb3 hr3 hc3
 go_wp2_with fail
 go_loopw [26](fun i wq=>i= .int .i64 0∧wq=w3)(fun _ _=>0)
 case atStart=>exact⟨rfl,rfl⟩
 case round=>
  obtain⟨rfl,rfl⟩:=hrel
  go_wp2_with fail
  go_ret
  exact⟨rfl,HB3.out⟩
set_option maxHeartbeats 4000000 in
set_option maxRecDepth 100000 in
theorem mendOpen{ws:Nat→UInt64}{own:Nat→Prop}{sh:Sh}(hL0:0<L)(hL:L≤1024)(hsh:shapeOf L=some sh)(h:Dev w d L ws (fun _=>0) (fun _=>0) own)(hT:Tabs w)(g1:¬own 0)(g2:¬own 1)
 (h8:wordsAt ws 0 8=wordsOf sh)(hall:∀i,i<sh.slabs→rightW (ws (sh.table/8+i)).toNat=true){s:St}(hst:s={sh:=sh,ws:=ws,tk:=wordsAt ws (sh.table/8) sh.slabs,hd:=List.replicate sh.slabs 0})
 {items:List (List UInt8×UInt64)}{met:List Int}(hs:surveyP s=some (items,met)){l:List Int}(ho:offsP s items (sortZ met)=some l)(hl:l.length≤100000)(hd:oncePP (sortZ l)=true)(hsl:(ws 8).toNat≤60000)(hc:CleanP s (ws 8).toNat items)
 (hF:∀(W:World)(p x:Nat)(F:Nat→Prop),Ix W x d p L s F→Calls Tryz.prog 122 #[.pointer (some ⟨d,0,none⟩),.pointer (some ⟨p,0,none⟩),.pointer (some ⟨x,0,none⟩)] W fun e w'=>e= .returned (.int .i64 0)∧Below W.heap.size W w'):
 Calls Tryz.prog 76 #[.pointer (some ⟨d,0,none⟩)] w fun e w'=>∃p x F,e= .returned (.tuple #[.agg #[.pointer (some ⟨p,0,none⟩),.pointer (some ⟨x,0,none⟩),.int .u64 ((ws 8).toNat:Int)],.int .i64 0])∧
  Ix w' x d p L s F∧Below w.heap.size w w'∧(∀b,F b→own b∨w.heap.size≤b)∧w.heap.size≤x:=by
 have htl:=hT.lt
 obtain⟨w1,hw1⟩:∃w1,w1=w.alloc (.cells #[.pointer none,.pointer none,.int .u64 0] 156):=⟨_,rfl⟩
 have hb1:Below w.heap.size w w1:=hw1▸(Below.refl _ _).alloc (Nat.le_refl _) _
 have hB1:Blk w1 w.heap.size 156 [.pointer none,.pointer none,.int .u64 0]:=hw1▸heap_alloc_new _ _
 have HK1:=Lib.hid hB1
 have HO:=Lib.hid (open_pool hL0 hL hsh (h.below hb1) (hT.below hb1) g1 g2 h8 hall)
 rw [←hst]at HO
 have HB1:=Lib.hid hb1
 have HW1:=Lib.hid hw1
 have hs1:w1.heap.size=w.heap.size+1:=by rw [hw1];simp
 have HOwn:Hid (∀b,own b→b<w.heap.size):=Lib.hid (fun b hb=>h.lt b hb)
 have h88:s.ws 8=ws 8:=by rw [hst]
 have H88:=Lib.hid h88
 have HS:=Lib.hid hs
 have HRc:=Lib.hid (fun(W:World)(p x:Nat)(F:Nat→Prop)(hx:Ix W x d p L s F)=>mendReach hx hs ho hl hd)
 have HBk:=Lib.hid (fun(W:World)(p x:Nat)(F:Nat→Prop)(hx:Ix W x d p L s F)=>mendBack hx hs (ws 8) hc)
 have HFr:=Lib.hid hF
 have t6:decide ((60000:Int)<((ws 8).toNat:Int))=false:=decide_eq_false (by omega)
 have t7:decide (60000<(ws 8).toNat)=false:=decide_eq_false (by omega)
 have HLe:Hid (8<8*L):=Lib.hid (by have:=(shape_ok hsh).fits;have:=(shape_ok hsh).tfits;have:=(shape_ok hsh).slabs;omega)
 clear h hT g1 g2 h8 hall hst hs ho hd hsl hc hF hw1 hb1 hB1 h88 hsh
 go_enter Tryz.func76,Tryz.ntmps76
 go_wp2_with fail
 rw [←HW1.out]
 refine HO.out.mono ?_
 rintro e w2⟨p,F,rfl,hsy2,hb2,hF2⟩
 have HB2:=Lib.hid hb2
 have HOx:=Lib.hid (open_index hsy2)
 have HF2:=Lib.hid hF2
 clear HO hsy2 hb2 hF2
 go_wp2_with fail
 refine HOx.out.mono ?_
 rintro e w3⟨hb3,hp3⟩
 rw [HS.out]at hp3
 obtain⟨x,rfl,hx3,hxs⟩:=hp3
 have HB3:=Lib.hid (HB2.out.trans (hb3.mono HB2.out.size))
 have HX3:=Lib.hid hx3
 have HXs:=Lib.hid hxs
 have HR3:=Lib.hid (HRc.out _ _ _ _ hx3)
 clear HOx hb3 hx3 hxs HRc
 go_wp2_with fail
 refine HR3.out.mono ?_
 rintro e w4⟨v4,rfl,ho4,hb4⟩
 obtain⟨A4,c4,rfl,hc4,hr4⟩:=own_rowk ho4
 have HB4:=Lib.hid (HB3.out.trans (hb4.mono HB3.out.size))
 have hx4:=HX3.out.below hb4
 have HX4:=Lib.hid hx4
 have HLd:=Lib.hid (hx4.sys.load 8 HLe.out)
 rw [H88.out,show((8*8:Nat):Int)=64 from rfl]at HLd
 have HBk4:=Lib.hid (HBk.out _ _ _ _ hx4)
 clear HR3 ho4 hb4 hr4 hc4 hx4 HBk
 go_wp2_with fail
 refine HLd.out.mono ?_
 rintro e w5⟨rfl,rfl⟩
 clear HLd
 go_wp2_with fail
 refine HBk4.out.mono ?_
 rintro e w6⟨rfl,hb6⟩
 have HB6:=Lib.hid (HB4.out.trans (hb6.mono HB4.out.size))
 have hx6:=HX4.out.below hb6
 have HX6:=Lib.hid hx6
 have HFr6:=Lib.hid (HFr.out _ _ _ _ hx6)
 clear HBk4 hb6 hx6 HFr
 go_wp2_with fail
 refine HFr6.out.mono ?_
 rintro e w7⟨rfl,hb7⟩
 have HB7:=Lib.hid (HB6.out.trans (hb7.mono HB6.out.size))
 have HX7:=Lib.hid (HX6.out.below hb7)
 have k7:=HK1.out.below HB7.out HK1.out.lt
 have f0:=k7.frozen 0
 have f1:=k7.frozen 1
 have f2:=k7.frozen 2
 have e0:=k7.cell 0
 have e1:=k7.cell 1
 have e2:=k7.cell 2
 simp only [List.getElem?_cons_zero,List.getElem?_cons_succ]at e0 e1 e2
 have HK7:=Lib.hid k7
 clear HFr6 hb7 k7
 go_wp2_with fail
 obtain⟨W,hW⟩:∃W,W=((w7.setCell ⟨w.heap.size,0,none⟩ (.pointer (some ⟨p,0,none⟩))).setCell ⟨w.heap.size,1,none⟩ (.pointer (some ⟨x,0,none⟩))).setCell ⟨w.heap.size,2,none⟩ (.int .u64 ((ws 8).toNat:Int)):=⟨_,rfl⟩
 rw [←hW]
 have tg:Touch (fun k=>k=w.heap.size) w7 W:=by rw [hW];exact(((Touch.refl (fun k=>k=w.heap.size) w7).setCell (p:=⟨w.heap.size,0,none⟩) (.inl rfl) _).setCell (p:=⟨w.heap.size,1,none⟩) (.inl rfl) _).setCell (p:=⟨w.heap.size,2,none⟩) (.inl rfl) _
 have bg:Blk W w.heap.size 156 [.pointer (some ⟨p,0,none⟩),.pointer (some ⟨x,0,none⟩),.int .u64 ((ws 8).toNat:Int)]:=by rw [hW];exact((HK7.out.set_ 0 _).set_ 1 _).set_ 2 _
 have y0:=bg.cell 0
 have y1:=bg.cell 1
 have y2:=bg.cell 2
 simp only [List.getElem?_cons_zero,List.getElem?_cons_succ]at y0 y1 y2
 refine bodyPost_ret (v:= .tuple #[.agg #[.pointer (some ⟨p,0,none⟩),.pointer (some ⟨x,0,none⟩),.int .u64 ((ws 8).toNat:Int)],.int .i64 0]) (by simp [results,Tryz.results76,go_sem,y0,y1,y2]) rfl ?_
 have hs7:=HB7.out.size
 have hs2:=HB2.out.size
 have hF2:∀b,F b→own b∨w.heap.size+1≤b:=fun b hb=>(HF2.out b hb).imp id (fun h=>by omega)
 have hFn:∀b,F b→¬b=w.heap.size:=fun b hb e=>(hF2 b hb).elim (fun h=>by have:=HOwn.out b h;omega) (fun h=>by omega)
 have hxs:=HXs.out
 refine⟨p,x,F,rfl,⟨HX7.out.sys.keep tg hFn (fun e=>by omega) (fun e=>by omega),HX7.out.box.touch tg (fun e=>by omega),HX7.out.out⟩,HB1.out.trans ((HB7.out.mono HB1.out.size).trans (tg.below (by omega) (fun k e=>by omega))),fun b hb=>(hF2 b hb).imp id (fun h=>by omega),by omega⟩
end
section
variable{w w':World}{d L:Nat}{s:St}
set_option maxHeartbeats 4000000 in
set_option maxRecDepth 100000 in
theorem egOpen{own:Nat→Prop}{slot:UInt64}(hT:Tabs w)
 (hM:Calls Tryz.prog 76 #[.pointer (some ⟨d,0,none⟩)] w fun e w'=>∃p x F,e= .returned (.tuple #[.agg #[.pointer (some ⟨p,0,none⟩),.pointer (some ⟨x,0,none⟩),.int .u64 (slot.toNat:Int)],.int .i64 0])∧
  Ix w' x d p L s F∧Below w.heap.size w w'∧(∀b,F b→own b∨w.heap.size≤b)∧w.heap.size≤x):
 Calls Tryz.prog 31 #[.pointer (some ⟨d,0,none⟩)] w fun e w'=>∃g p x tt bk nt F,e= .returned (.tuple #[.pointer (some ⟨g,0,none⟩),.int .i64 0])∧
  EngAt w' g d p x tt bk L s (bk0 nt) tb0 F (fun k=>k=g) slot .nilIface 0 (.slice none 0 0) 0∧Below w.heap.size w w'∧(∀b,F b→own b∨w.heap.size≤b)∧w.heap.size≤x∧w.heap.size≤g∧w.heap.size≤tt∧w.heap.size≤bk∧w.heap.size≤nt:=by
 have htl:=hT.lt
 have HM:=Lib.hid hM
 clear hM hT
 go_enter Tryz.func31,Tryz.ntmps31
 go_wp2_with fail
 refine HM.out.mono ?_
 rintro e w1⟨p,x,F,rfl,hx1,hb1,hF1,hxs⟩
 have HB1:=Lib.hid hb1
 have HX1:=Lib.hid hx1
 have HF1:=Lib.hid hF1
 have HXs:=Lib.hid hxs
 obtain⟨w2,hw2⟩:∃w2,w2=w1.alloc (.cells #[.pointer (some ⟨p,0,none⟩),.pointer (some ⟨x,0,none⟩),.int .u64 (slot.toNat:Int)] 156):=⟨_,rfl⟩
 have hb2:Below w1.heap.size w1 w2:=hw2▸(Below.refl _ _).alloc (Nat.le_refl _) _
 have B2:Blk w2 w1.heap.size 156 [.pointer (some ⟨p,0,none⟩),.pointer (some ⟨x,0,none⟩),.int .u64 (slot.toNat:Int)]:=hw2▸heap_alloc_new _ _
 have hs2:w2.heap.size=w1.heap.size+1:=by rw [hw2];simp
 have HX2:=Lib.hid (hx1.below hb2)
 have HB2:=Lib.hid (hb1.trans (hb2.mono hb1.size))
 have HTn:=Lib.hid (tabNew F w2.drew (fun k hk=>(hx1.below hb2).sys.lt k hk))
 have HK:Hid (∀W,Below w2.heap.size w2 W→W.cell? ⟨w1.heap.size,0,none⟩=some (.pointer (some ⟨p,0,none⟩))∧W.cell? ⟨w1.heap.size,1,none⟩=some (.pointer (some ⟨x,0,none⟩))∧W.cell? ⟨w1.heap.size,2,none⟩=some (.int .u64 (slot.toNat:Int))):=Lib.hid (fun W k=>⟨(B2.below k B2.lt).cell 0,(B2.below k B2.lt).cell 1,(B2.below k B2.lt).cell 2⟩)
 obtain⟨z0,z1,z2⟩:=HK.out w2 (Below.refl _ _)
 have HW2:=Lib.hid hw2
 clear hx1 hb1 hF1 hxs hw2 hb2 B2 HM
 go_wp2_with fail
 rw [←HW2.out]
 go_region_held3(fun w'=>w'.cell? ⟨w1.heap.size,0,none⟩=some (.pointer (some ⟨p,0,none⟩))∧w'.cell? ⟨w1.heap.size,1,none⟩=some (.pointer (some ⟨x,0,none⟩))∧w'.cell? ⟨w1.heap.size,2,none⟩=some (.int .u64 (slot.toNat:Int)))
  (first| exact⟨z0,z1,z2⟩| exact HK.out _ (((Dr.drew w2).below _).trans hb3)| exact HK.out _ ((((Dr.drew w2).below _).trans hb3).alloc (((Dr.drew w2).below _).trans hb3).size _))
  ((first| (go_at_call 77;refine HTn.out.mono ?_;rintro e w3⟨tt,bk,nt,rfl,htt,hbk,hnt,hT3,hb3⟩)))
 all_goals(go_wp2_with fail)
 all_goals(go_ret2)
 all_goals(
  obtain⟨W,hW⟩:∃W,W=w3.alloc (.cells (engCells d p x tt slot .nilIface 0 (.slice none 0 0) 0).toArray 58):=⟨_,rfl⟩
  have hbW:Below w3.heap.size w3 W:=hW▸(Below.refl _ _).alloc (Nat.le_refl _) _
  have hG:Blk W w3.heap.size 58 (engCells d p x tt slot .nilIface 0 (.slice none 0 0) 0):=hW▸heap_alloc_new _ _
  have htt:w2.heap.size≤tt:=htt
  have hbk:w2.heap.size≤bk:=hbk
  have hnt:w2.heap.size≤nt:=hnt
  have hb23:Below w2.heap.size w2 w3:=((Dr.drew w2).below _).trans hb3
  have hxl:=HX2.out.box.lt
  have hFl:=HX2.out.sys.lt
  have l1:=hT3.box.lt
  have l2:=hT3.book.lt
  have l3:nt<w3.heap.size:=hT3.map.lt
  have s2:=HB2.out.size
  have s3:=hb23.size
  have hgl:=hG.lt
  refine⟨w3.heap.size,p,x,tt,bk,nt,F,rfl,?_,?_,HF1.out,HXs.out,by omega,by omega,by omega,by omega⟩
  ·show EngAt (w3.alloc (.cells (engCells d p x tt slot .nilIface 0 (.slice none 0 0) 0).toArray 58)) _ _ _ _ _ _ _ _ _ _ _ _ _ _ _ _ _
   rw [←hW]
   refine⟨(HX2.out.below hb23).below hbW,hT3.moved ⟨Touch.of_below hbW,fun k hk=>hk.imp id (fun e=>by omega)⟩,rfl,fun k e=>by rw [e];exact hgl,hG,fun hf=>by have:=hFl _ hf;omega,by omega,by omega,by show w3.heap.size≠nt;omega,by omega,by omega,by show x≠nt;omega,⟨by omega,by omega⟩,⟨by show nt≠_;omega,by show nt≠_;omega⟩,⟨by omega,by omega⟩⟩
  ·show Below w.heap.size w (w3.alloc (.cells (engCells d p x tt slot .nilIface 0 (.slice none 0 0) 0).toArray 58))
   rw [←hW]
   exact HB2.out.trans ((hb23.trans (hbW.mono hb23.size)).mono HB2.out.size))
end
theorem tkN_st0(sh:Sh)(i:Nat):tkN (st0 sh) i=0:=by
 unfold tkN st0
 simp only [List.getD_eq_getElem?_getD,List.getElem?_replicate]
 split<;>rfl
theorem allP_st0(sh:Sh):allP (st0 sh)=[]:=by
 unfold allP
 rw [List.flatMap_eq_nil_iff]
 intro i _
 rw [tkN_st0,show listW 0=[]from by decide]
 rfl
theorem survey_st0(sh:Sh):surveyP (st0 sh)=some ([],[]):=by
 unfold surveyP
 rw [if_pos (show(st0 sh).ws 9=0 from format_above sh 9 (by decide))]
theorem once0:oncePP (sortZ [])=true:=by unfold sortZ;simp [oncePP]
theorem offs0{s:St}:offsP s [] (sortZ [])=some []:=by unfold sortZ;simp [offsP]
structure Fresh(B g x tt bk nt:Nat)(F:Nat→Prop):Prop where
 f:∀b,F b→B≤b
 g:B≤g
 x:B≤x
 tt:B≤tt
 bk:B≤bk
 nt:B≤nt
set_option maxHeartbeats 4000000 in
set_option maxRecDepth 100000 in
theorem egBegun{w:World}{L:Nat}{sh:Sh}(hL0:0<L)(hL:L≤1024)(hs:shapeOf L=some sh)(hT:Tabs w):
 Calls Tryz.prog 33 #[.int .i64 (L:Int)] w fun e w'=>∃d g p x tt bk nt F,e= .returned (.tuple #[.pointer (some ⟨d,0,none⟩),.pointer (some ⟨g,0,none⟩)])∧
  EngAt w' g d p x tt bk L (st0 sh) (bk0 nt) tb0 F (fun k=>k=g) 0 .nilIface 0 (.slice none 0 0) 0∧Below w.heap.size w w'∧Fresh w.heap.size g x tt bk nt F:=by
 have htl:=hT.lt
 obtain⟨v0,v1,v2,v3,hsv⟩:∃v0 v1 v2 v3:Nat,shV sh= .agg #[.int .i64 (v0:Int),.int .i64 (v1:Int),.int .i64 (v2:Int),.int .i64 (v3:Int)]:=⟨_,_,_,_,rfl⟩
 have HSV:=Lib.hid hsv
 have HTb:=Lib.hid (shape_ok hs).table
 clear hsv
 go_enter Tryz.func33,Tryz.ntmps33
 go_wp2_with fail
 refine(new_dev L w hL0 hL).mono ?_
 rintro e w1⟨d,g0,rfl,hr,hd1,hg1,hb1⟩
 have hD1:Dev w1 d L (fun _=>0) (fun _=>0) (fun _=>0) (devOwn d L g0 (fun _=>none)):=⟨g0,_,hr,fun _=>Iff.rfl⟩
 have ho1:∀b,devOwn d L g0 (fun _=>none) b→w.heap.size≤b:=fun b h=>by
  rcases h with h| h| ⟨_,_,h⟩
  ·omega
  ·omega
  ·cases h
 have HF:=format_dev hL0 hL hs hD1 (hT.below hb1) (fun h=>by have:=ho1 _ h;omega) (fun h=>by have:=ho1 _ h;omega)
 rw [putWs_zero,show putWs (fun _=>0) 0 (wordsOf sh)=formatW sh from rfl,HSV.out]at HF
 have HF:=Lib.hid HF
 clear hr hD1
 go_wp2_with fail
 refine HF.out.mono ?_
 rintro e w2⟨rfl,own2,hD2,hM2⟩
 have hb2:Below w.heap.size w w2:=hb1.trans (hM2.touch.below hb1.size ho1)
 have ho2:∀b,own2 b→w.heap.size≤b:=fun b h=>(hM2.own b h).elim (ho1 b) (fun h=>Nat.le_trans hb1.size h)
 obtain⟨w3,hw3⟩:∃w3,w3=w2.alloc (.cells #[.int .i64 (v0:Int),.int .i64 (v1:Int),.int .i64 (v2:Int),.int .i64 (v3:Int)] 161):=⟨_,rfl⟩
 have hb23:Below w2.heap.size w2 w3:=hw3▸(Below.refl _ _).alloc (Nat.le_refl _) _
 have hb3:=hb2.trans (hb23.mono hb2.size)
 have hst:st0 sh={sh:=sh,ws:=formatW sh,tk:=wordsAt (formatW sh) (sh.table/8) sh.slabs,hd:=List.replicate sh.slabs 0}:=by rw [format_taken sh HTb.out];rfl
 have h80:formatW sh 8=0:=format_above sh 8 (by decide)
 have HM:=mendOpen hL0 hL hs (hD2.below hb23) (hT.below hb3) (fun h=>by have:=ho2 _ h;omega) (fun h=>by have:=ho2 _ h;omega) (format_head sh) (fun i hi=>by rw [format_above sh _ (by rw [HTb.out];omega)];rfl) hst
  (survey_st0 sh) (l:=[]) offs0 (by decide) once0 (by rw [h80];decide) (fun k hk=>absurd hk (Nat.not_lt_zero _)) (fun W p x F hx=>mendFree0 hx (survey_st0 sh) (l:=[]) offs0 (by decide) once0 (allP_st0 sh))
 have HO:=Lib.hid (egOpen (s:=st0 sh) (L:=L) (slot:=formatW sh 8) (own:=own2) (hT.below hb3) HM)
 rw [h80]at HO
 have HB3:=Lib.hid hb3
 have HO2:=Lib.hid ho2
 have HW3:=Lib.hid hw3
 clear hb2 hb23 hD2 hM2 HF hb3 HM hst h80 hw3
 go_wp2_with fail
 rw [←HW3.out]
 refine HO.out.mono ?_
 rintro e w4⟨g,p,x,tt,bk,nt,F,rfl,hE,hb4,hF4,h1,h2,h3,h4,h5⟩
 have HE:=Lib.hid hE
 have HB4:=Lib.hid (HB3.out.trans (hb4.mono HB3.out.size))
 have hsz:=HB3.out.size
 clear hE hb4 HO
 go_wp2_with fail
 go_ret2
 exact⟨d,g,p,x,tt,bk,nt,F,rfl,HE.out,HB4.out,⟨fun b hb=>(hF4 b hb).elim (HO2.out b) (fun h=>Nat.le_trans hsz h),by omega,by omega,by omega,by omega,by omega⟩⟩
section
variable{w w':World}{g d p x tt bk L:Nat}{s:St}{b:Bk}{t:Tb}{F J:Nat→Prop}{slot:UInt64}{jv:Value}{id:Int}{sv:Value}{st:UInt64}
def NeedP(s:St)(low:Nat)(items:List (List UInt8×UInt64)):Prop:=∀k(h:k<items.length),∃l,listP s items[k].2=some l∧l.length≤100000∧0<l.length∧needP l low=l.length
set_option maxHeartbeats 8000000 in
set_option maxRecDepth 100000 in
theorem egVacuum(h:EngAt w g d p x tt bk L s b t F J slot .nilIface id sv st){items:List (List UInt8×UInt64)}{met:List Int}(hs:surveyP s=some (items,met))(hn:NeedP s (leastW t.wt slot).toNat items):
 Calls Tryz.prog 23 #[.pointer (some ⟨g,0,none⟩)] w fun e w'=>e= .returned (.tuple #[.int .i64 0,.int .i64 0])∧
  ∃b',b'.many≤b.many∧b'.nt=b.nt∧EngAt w' g d p x tt bk L s b' t F J slot .nilIface id sv st∧Touch (fun k=>k=bk) w w':=by
 have HN:=Lib.hid (egNone h)
 have HI:=Lib.hid (egIdle h)
 have HA:=Lib.hid (all_index h.ix)
 have HS:=Lib.hid hs
 have HNd:=Lib.hid hn
 have HE:=Lib.hid h
 have c2:=h.box.cell 2
 unfold engCells at c2
 simp only [List.getElem?_cons_zero,List.getElem?_cons_succ]at c2
 obtain⟨low,hlow⟩:∃low,low=leastW t.wt slot:=⟨_,rfl⟩
 have HLow:=Lib.hid hlow
 rw [←hlow]at HNd
 clear h hs hn hlow
 go_enter Tryz.func23,Tryz.ntmps23
 go_wp2_with fail
 refine HN.out.mono ?_
 rintro e w1⟨rfl,rfl⟩
 go_wp2_with fail
 refine HI.out.mono ?_
 rintro e w1⟨rfl,rfl⟩
 go_wp2_with fail
 refine HA.out.mono ?_
 rintro e w2⟨hb2,hp2⟩
 rw [HS.out]at hp2
 obtain⟨v2,rfl,ho2,hm2⟩:=hp2
 obtain⟨A2,cc2,rfl,hc2,hr2⟩:=own_rowk ho2
 have hE2:=HE.out.below hb2
 have hat:=own_at ho2
 have HAt:=Lib.hid hat
 have HB2:=Lib.hid hb2
 have HR2:=Lib.hid hr2
 have HE2:=Lib.hid hE2
 have d3:=hE2.box.cell 3
 have d4:=hE2.box.cell 4
 unfold engCells at d3 d4
 simp only [List.getElem?_cons_zero,List.getElem?_cons_succ]at d3 d4
 have HL:=Lib.hid (fun X(k:Below w2.heap.size w2 X)=>tabLeast (hE2.tb.below k) slot)
 rw [←HLow.out]at HL
 have HK:Hid (∀X,Touch (fun k=>k=bk) w2 X→X.cell? ⟨g,3,none⟩=some (.pointer (some ⟨tt,0,none⟩))∧X.cell? ⟨g,4,none⟩=some (.int .u64 (slot.toNat:Int))):=Lib.hid (fun X k=>⟨(HE2.out.box.touch k HE2.out.g2).cell 3,(HE2.out.box.touch k HE2.out.g2).cell 4⟩)
 have hbkl:=HE.out.tb.book.lt
 clear HN HI HA hb2 ho2 hc2 hr2 hE2 hat c2
 go_wp2_with fail
 go_region_held3(fun w'=>w'.cell? ⟨g,3,none⟩=some (.pointer (some ⟨tt,0,none⟩))∧w'.cell? ⟨g,4,none⟩=some (.int .u64 (slot.toNat:Int)))
  (first| exact⟨d3,d4⟩| exact HK.out _ ((Touch.of_below ((Dr.drew w2).below _)).trans ht3 (fun _ e=> .inl e)))
  ((first| (go_at_call 69;refine(HL.out _ ((Dr.drew w2).below _)).mono ?_;rintro e w3⟨rfl,b3,hm3,hn3,hb3,ht3⟩)))
 all_goals(
  have ht23:Touch (fun k=>k=bk) w2 w3:=(Touch.of_below ((Dr.drew w2).below _)).trans ht3 (fun _ e=> .inl e)
  have HE3:=Lib.hid (HE2.out.book hb3 hn3 ht23)
  have HR3:Hid (Rd w3 A2 (items.length*2) ((items.map itV).flatten)):=Lib.hid (Rd.touch HR2.out ht23 (fun a ea e=>by have:=(HAt.out a ea).1;omega))
  have HT3:=Lib.hid ((Touch.of_below (F:=fun k=>k=bk) HB2.out).trans ht23 (fun _ e=> .inl e))
  have HM3:=Lib.hid hm3
  have HN3:=Lib.hid hn3
  clear hb3 ht3 ht23 hm3 hn3 d3 d4 HL HK HR2 HE2
  go_wp2_with fail)
 go_loopw [7,38](fun v i wr=>∃k:Nat,k≤items.length∧i= .int .i64 (k:Nat)∧v= .int .i64 0∧Below w3.heap.size w3 wr)(fun _ i _=>items.length- (intOf i).toNat)
 case atStart=>exact⟨0,Nat.zero_le _,rfl,rfl,Below.refl _ _⟩
 case round=>
  obtain⟨k,hk,rfl,rfl,hb⟩:=hrel
  have HBr:=Lib.hid hb
  clear hb
  by_cases hlt:k<items.length
  ·obtain⟨bb,off,rfl,hbw,q0,q1⟩:=itV_at (Rd.below HR3.out HBr.out) k hlt
   have hx1:(k:Int)<(items.length:Int):=by omega
   have hx2:decide ((k:Int)<(items.length:Int))=true:=decide_eq_true hx1
   have hx5:decide (k<items.length)=true:=decide_eq_true hlt
   have hwk:IntKind.i64.wrap ((k:Int)+1)=(k:Int)+1:=IntWalk.i64_in _ (by omega)
   obtain⟨l,hl,hl1,hl2,hl3⟩:=HNd.out k hlt
   obtain⟨⟨ky,vl⟩,hit⟩:∃it,it=items[k]:=⟨_,rfl⟩
   rw [←hit]at q0 q1 hl
   simp only at q0 q1 hl
   obtain⟨w4,hw4⟩:∃w4,w4=wr.alloc (.cells #[.string ⟨ky.toArray⟩,.int .u64 (vl.toNat:Int)] 145):=⟨_,rfl⟩
   have hb4:Below wr.heap.size wr w4:=hw4▸(Below.refl _ _).alloc (Nat.le_refl _) _
   have hb34:=HBr.out.trans (hb4.mono HBr.out.size)
   have HB4:=Lib.hid hb34
   have HCl:=Lib.hid (egClean (HE3.out.below hb34) ⟨ky.toArray⟩ vl low hl hl1 hl2 hl3)
   have HW4:=Lib.hid hw4
   have i0:IntKind.i64.wrap ((0:Int)+0)=0:=IntWalk.i64_in _ (by omega)
   clear hl hit hw4 hb4 hb34 HBr
   go_wp2_with fail
   rw [←HW4.out]
   refine HCl.out.mono ?_
   rintro e w5⟨rfl,hb5⟩
   have HB5:=Lib.hid (HB4.out.trans (hb5.mono HB4.out.size))
   clear HCl hb5
   go_wp2_with fail
   go_roundw
   case rel=>exact⟨k+1,by omega,by go_num,by go_num,HB5.out⟩
   case measure=>simp [intOf];omega
  ·have hx2:decide ((k:Int)<(items.length:Int))=false:=decide_eq_false (by omega)
   have hx5:decide (k<items.length)=false:=decide_eq_false hlt
   go_wp2_with fail
   go_ret2
   exact⟨rfl,b3,HM3.out,HN3.out,HE3.out.below HBr.out,HT3.out.trans (Touch.of_below HBr.out) (fun _ e=> .inl e)⟩
end
end Go.Proofs.YtbkpiojejmhfcaaGreatDoor
