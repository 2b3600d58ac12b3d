import Derived.Deep.RegionHeld3
import Derived.Test.YtjcppneoncpdbaaGreatDoorG12
import Derived.Test.YtjcppneoncpdbaaGreatDoorG13
import Derived.Test.YtjcppneoncpdbaaGreatDoorG14
import Derived.Test.YtjcppneoncpdbaaGreatDoorG20
namespace Go.Proofs.YtjcppneoncpdbaaGreatDoor
open Go.RowKit
def jobCells(x d p:Nat)(stamp:UInt64)(vs vd:Value)(over:Bool)(en:Int):List Value:=
 [.pointer (some ⟨d,0,none⟩),.pointer (some ⟨p,0,none⟩),.pointer (some ⟨x,0,none⟩),.int .u64 (stamp.toNat:Int),vs,vd,.bool over,.int .i64 en]
section
variable{w w':World}{x d p L:Nat}{s:St}{F:Nat→Prop}
theorem SysL.load{len:Nat→Nat}(h:SysL len w d p L s F)(j:Nat)(hj:j<8*L):Calls Tryz.prog 41 #[.pointer (some ⟨d,0,none⟩),.int .i64 ((8*j:Nat):Int)] w fun e w'=>e= .returned (.tuple #[.int .u64 ((s.ws j).toNat:Int),.int .i64 0])∧w=w':=by
 obtain⟨tb,hb,n,cT,cH,own,h,_⟩:=h
 obtain⟨g,hb0,hr,ho⟩:=h.dev
 exact load_dev d L s.ws _ _ g hb0 j w h.L1 hr hj
theorem jobNone(jb:Nat)(xs:List Value)(h:Blk w jb 113 (.pointer (some ⟨d,0,none⟩)::xs)):Calls Tryz.prog 47 #[.pointer (some ⟨jb,0,none⟩)] w fun e w'=>e= .returned (.bool false)∧w=w':=by
 have c:=h.cell 0
 simp only [List.getElem?_cons_zero]at c
 clear h
 go_enter Tryz.func47,Tryz.ntmps47
 go_wp2
 go_ret
 exact⟨rfl,rfl⟩
end
section
variable{w w':World}{x d p L:Nat}{s:St}{F:Nat→Prop}
structure JobB(w:World)(jb x d p:Nat)(stamp:UInt64)(vs vd:Value)(over:Bool)(en:Int)(F:Nat→Prop):Prop where
 box:Blk w jb 113 (jobCells x d p stamp vs vd over en)
 out:¬F jb
set_option maxHeartbeats 8000000 in
set_option maxRecDepth 100000 in
theorem jobWrite(h:Ix w x d p L s F){jb:Nat}{stamp:UInt64}{vs vd:Value}{en:Int}(hj:JobB w jb x d p stamp vs vd false en F)(y:Wr)(hk:y.key.size≤16)(ht:y.text.size≤40)
 (hg:getP s y.key.data.toList=(0,7))(hgo:y.gone=false)(hT:∀off s1,reserveP s 1=some (off,s1)→(takeP {s1 with ws:=putWs s1.ws (off/8) (encRc ⟨stamp,0,y.gone,y.text⟩)} off).2=0)
 {s1 s2:St}{place:UInt64}(ha:addP s ⟨stamp,0,y.gone,y.text⟩=(s1,place,0))(hp:putK s1 y.key.data.toList place=(s2,0)):
 Calls Tryz.prog 48 #[.pointer (some ⟨jb,0,none⟩),wrV y] w fun e w'=>e= .returned (.tuple #[.agg #[.int .u64 0,.int .u64 (place.toNat:Int)],.int .i64 0])∧
  ∃F',Ix w' x d p L s2 F'∧JobB w' jb x d p stamp vs vd false en F'∧Moved F F' w w':=by
 obtain⟨W,hW⟩:∃W,W=(w.alloc (.cells #[.string y.key,.string y.text,.bool false] 87)).alloc (.cells #[.int .u64 0,.int .u64 0] 115):=⟨_,rfl⟩
 have hb0:Below w.heap.size w W:=by rw [hW];exact((Below.refl _ _).alloc (Nat.le_refl _) _).alloc (by simp) _
 have BY:Blk W w.heap.size 87 [.string y.key,.string y.text,.bool false]:=by rw [hW];exact(heap_alloc_old _ _ (by simp)).trans (heap_alloc_new _ _)
 have BP:Blk W (w.heap.size+1) 115 [.int .u64 0,.int .u64 0]:=by
  have:=heap_alloc_new (w.alloc (.cells #[.string y.key,.string y.text,.bool false] 87)) (.cells #[.int .u64 0,.int .u64 0] 115)
  rw [show(w.alloc (.cells #[.string y.key,.string y.text,.bool false] 87)).heap.size=w.heap.size+1 by simp,←hW]at this
  exact this
 have hJ0:=hj.box.below hb0 hj.box.lt
 have hX0:=h.below hb0
 have HG:=Lib.hid (fun W'(k:Below W.heap.size W W')=>get_index (hX0.below k) y.key (by omega))
 rw [hg]at HG
 unfold GetPost at HG
 have HJ:=Lib.hid hj
 have HX:=Lib.hid h
 have HW:=Lib.hid hW
 have Hb0:=Lib.hid hb0
 have HBY:=Lib.hid BY
 have HBP:=Lib.hid BP
 have y0:=BY.cell 0
 have y1:=BY.cell 1
 have y2:=BY.cell 2
 have j2:=hJ0.cell 2
 have j0:=hJ0.cell 0
 have j1:=hJ0.cell 1
 have j3:=hJ0.cell 3
 unfold jobCells at j0 j1 j2 j3
 simp only [List.getElem?_cons_zero,List.getElem?_cons_succ]at y0 y1 y2 j0 j1 j2 j3
 unfold wrV
 rw [hgo]at hT ha⊢
 clear h hj hb0 hW BY BP hJ0 hX0 hg hgo
 go_enter Tryz.func48,Tryz.ntmps48
 go_wp2_with fail
 rw [←HW.out]
 have HFl:Hid (∀b,F b→b<w.heap.size):=Lib.hid (fun b hb=>HX.out.sys.lt b hb)
 have HK:Hid (∀W',Touch F W W'→Blk W' jb 113 (jobCells x d p stamp vs vd false en)∧Blk W' w.heap.size 87 [.string y.key,.string y.text,.bool false]∧Blk W' (w.heap.size+1) 115 [.int .u64 0,.int .u64 0]):=Lib.hid (fun W' k=>
  ⟨(HJ.out.box.below Hb0.out HJ.out.box.lt).touch k HJ.out.out,HBY.out.touch k (fun hf=>absurd (HFl.out _ hf) (by omega)),HBP.out.touch k (fun hf=>absurd (HFl.out _ hf) (by omega))⟩)
 have HK2:Hid (∀W',Touch F W W'→W'.cell? ⟨jb,2,none⟩=some (.pointer (some ⟨x,0,none⟩))∧W'.cell? ⟨w.heap.size,0,none⟩=some (.string y.key)):=Lib.hid (fun W' k=>⟨(HK.out W' k).1.cell 2,(HK.out W' k).2.1.cell 0⟩)
 clear HBY HBP
 go_region_held3(fun w'=>w'.cell? ⟨jb,2,none⟩=some (.pointer (some ⟨x,0,none⟩))∧w'.cell? ⟨w.heap.size,0,none⟩=some (.string y.key))
  (first| exact⟨j2,y0⟩| exact HK2.out _ (Touch.of_below hbG))
  ((first| (go_at_call 91;refine(HG.out _ ((Dr.drew _).below _)).mono ?_;rintro e w3⟨rfl,hbg⟩;have hbG:Below W.heap.size W w3:=((Dr.drew W).below _).trans hbg)))
 have HT3:=Lib.hid (Touch.of_below (F:=F) hbG)
 have HB3:=Lib.hid hbG
 obtain⟨K1,K2,K3⟩:=HK.out w3 HT3.out
 replace y0:=K2.cell 0
 replace y1:=K2.cell 1
 replace y2:=K2.cell 2
 replace j3:=K1.cell 3
 replace j0:=K1.cell 0
 replace j1:=K1.cell 1
 unfold jobCells at j0 j1 j3
 simp only [List.getElem?_cons_zero,List.getElem?_cons_succ]at y0 y1 y2 j0 j1 j3
 have l1:=K1.lt
 have l2:=K2.lt
 clear K1 K2 K3 hbg hbG j2 HG
 go_wp2_with fail
 go_region
 all_goals(
  obtain⟨W8,hW8⟩:∃W8,W8=(w3.alloc (.cells #[.int .u64 (stamp.toNat:Int),.int .u64 0,.bool false,.string y.text] 89)).drew:=⟨_,rfl⟩
  rw [←hW8]
  have hb8:Below w3.heap.size w3 W8:=by rw [hW8];exact((Below.refl _ _).alloc (Nat.le_refl _) _).drew
  have BR:Blk W8 w3.heap.size 89 [.int .u64 (stamp.toNat:Int),.int .u64 0,.bool false,.string y.text]:=by rw [hW8];exact heap_alloc_new _ _
  have hB8:Below W.heap.size W W8:=HB3.out.trans (hb8.mono HB3.out.size)
  have HB8:=Lib.hid hB8
  have HA:=Lib.hid (fun W'(k:Below W8.heap.size W8 W')=>chainAdd (((HX.out.sys.below Hb0.out).below hB8).below k) ⟨stamp,0,false,y.text⟩ (by show y.text.size≤_;omega) hT)
  unfold AddPost at HA
  rw [ha]at HA
  unfold rcV at HA
  simp only [show((0:UInt64).toNat:Int)=0 from rfl]at HA
  have hRf:¬F w3.heap.size:=fun hf=>absurd (HFl.out _ hf) (by have:=HB3.out.size;have:=Hb0.out.size;omega)
  have HK8:Hid (∀W',Touch F W8 W'→W'.cell? ⟨jb,0,none⟩=some (.pointer (some ⟨d,0,none⟩))∧W'.cell? ⟨jb,1,none⟩=some (.pointer (some ⟨p,0,none⟩))∧W'.cell? ⟨w3.heap.size,0,none⟩=some (.int .u64 (stamp.toNat:Int))∧W'.cell? ⟨w3.heap.size,1,none⟩=some (.int .u64 0)∧W'.cell? ⟨w3.heap.size,2,none⟩=some (.bool false)∧W'.cell? ⟨w3.heap.size,3,none⟩=some (.string y.text)):=Lib.hid (fun W' k=>
   ⟨(HK.out W' ((Touch.of_below hB8).trans k (fun _ e=> .inl e))).1.cell 0,(HK.out W' ((Touch.of_below hB8).trans k (fun _ e=> .inl e))).1.cell 1,(BR.touch k hRf).cell 0,(BR.touch k hRf).cell 1,(BR.touch k hRf).cell 2,(BR.touch k hRf).cell 3⟩)
  have hk8:=HK8.out W8 (Touch.refl _ _)
  clear hW8 hb8 BR hB8 j0 j1 j3 y0 y1 y2 l1 l2 hRf
  go_wp2_with fail
  go_region_held3(fun w'=>w'.cell? ⟨jb,0,none⟩=some (.pointer (some ⟨d,0,none⟩))∧w'.cell? ⟨jb,1,none⟩=some (.pointer (some ⟨p,0,none⟩))∧w'.cell? ⟨w3.heap.size,0,none⟩=some (.int .u64 (stamp.toNat:Int))∧w'.cell? ⟨w3.heap.size,1,none⟩=some (.int .u64 0)∧w'.cell? ⟨w3.heap.size,2,none⟩=some (.bool false)∧w'.cell? ⟨w3.heap.size,3,none⟩=some (.string y.text))
   (first| exact hk8| exact HK8.out _ ((Touch.of_below ((Dr.drew W8).below _)).trans hM5.touch (fun _ e=> .inl e)))
   ((first| (go_at_call 92;refine(HA.out _ ((Dr.drew W8).below _)).mono ?_;rintro e w5⟨rfl,F5,hS5,hM5⟩))))
 all_goals(
  have hM5':Moved F F5 W w5:=(Moved.of_below (HB8.out.trans (((Dr.drew W8).below _).mono HB8.out.size))).trans hM5
  have hX5:Ix w5 x d p L s1 F5:=(HX.out.below Hb0.out).move hS5 hM5'
  have HPu:=Lib.hid (fun W'(k:Below w5.heap.size w5 W')=>put_index (hX5.below k) y.key (by omega) place)
  rw [hp]at HPu
  unfold PutPost at HPu
  have hk5:=HK2.out w5 hM5'.touch
  have HM5:=Lib.hid hM5'
  clear hM5 hM5' hX5 hS5 hk8 HA HK8 HB8
  go_wp2_with fail
  go_region_held3(fun w'=>w'.cell? ⟨jb,2,none⟩=some (.pointer (some ⟨x,0,none⟩))∧w'.cell? ⟨w.heap.size,0,none⟩=some (.string y.key))
   (first| exact hk5| exact HK2.out _ (HM5.out.trans ((Moved.of_below ((Dr.drew w5).below _)).trans hM6)).touch)
   ((first| (go_at_call 93;refine(HPu.out _ ((Dr.drew w5).below _)).mono ?_;rintro e w6⟨rfl,F6,hX6,hM6⟩))))
 all_goals(
  have HM6:=Lib.hid (HM5.out.trans ((Moved.of_below ((Dr.drew w5).below _)).trans hM6))
  have HX6:=Lib.hid hX6
  have k3:=(HK.out w6 HM6.out.touch).2.2
  have p0:=k3.cell 0
  have p1:=k3.cell 1
  have f0:=k3.frozen 0
  have f1:=k3.frozen 1
  simp only [List.getElem?_cons_zero,List.getElem?_cons_succ]at p0 p1
  have HK3:=Lib.hid k3
  clear hX6 hM6 hk5 HPu k3
  go_wp2_with fail)
 all_goals(
  have K7:=(HK3.out.set_ 0 (.int .u64 0)).set_ 1 (.int .u64 (place.toNat:Int))
  have q0:=K7.cell 0
  have q1:=K7.cell 1
  simp only [List.set_cons_zero,List.set_cons_succ,List.getElem?_cons_zero,List.getElem?_cons_succ]at q0 q1
  have ht7:Touch (fun k=>k=w.heap.size+1) w6 ((w6.setCell ⟨w.heap.size+1,0,none⟩ (.int .u64 0)).setCell ⟨w.heap.size+1,1,none⟩ (.int .u64 (place.toNat:Int))):=
   ((Touch.refl (fun k=>k=w.heap.size+1) w6).setCell (p:=⟨w.heap.size+1,0,none⟩) (.inl rfl) _).setCell (p:=⟨w.heap.size+1,1,none⟩) (.inl rfl) _
  have hM:Moved F F6 w w6:=(Moved.of_below Hb0.out).trans HM6.out
  have hM7:=(hM.set (p:=⟨w.heap.size+1,0,none⟩) (.inr (Nat.le_succ _)) (.int .u64 0)).set (p:=⟨w.heap.size+1,1,none⟩) (.inr (Nat.le_succ _)) (.int .u64 (place.toNat:Int))
  have hnf:¬F6 (w.heap.size+1):=fun h6=>(HM6.out.own _ h6).elim (fun hf=>absurd (HFl.out _ hf) (by omega)) (fun hs=>absurd HK3.out.lt (by have:=(HK.out W (Touch.refl _ _)).2.2.lt;omega))
  have htab:=HX.out.sys.tabs.lt
  refine bodyPost_ret (v:= .tuple #[.agg #[.int .u64 0,.int .u64 (place.toNat:Int)],.int .i64 0]) (by simp [results,Tryz.results48,go_sem,q0,q1]) rfl ?_
  refine⟨rfl,F6,⟨HX6.out.sys.keep ht7 (fun b hb e=>hnf (e▸hb)) (by omega) (by omega),HX6.out.box.touch ht7 ?_,HX6.out.out⟩,⟨((HK.out w6 HM6.out.touch).1).touch ht7 ?_,hM.out HJ.out.box.lt HJ.out.out⟩,hM7⟩
  ·have:=HX.out.box.lt;show x≠_;omega
  ·have:=HJ.out.box.lt;show jb≠_;omega)
end
section
variable{w w':World}{x d p L:Nat}{s:St}{F:Nat→Prop}
set_option maxHeartbeats 16000000 in
set_option maxRecDepth 100000 in
theorem jobWrite_skip(h:Ix w x d p L s F){jb:Nat}{stamp:UInt64}{vs vd:Value}{en:Int}(hj:JobB w jb x d p stamp vs vd false en F)(y:Wr)(hk:y.key.size≤16)(_:y.text.size≤40)
 (hg:getP s y.key.data.toList=(0,7))(hgo:y.gone=true)
  :
 Calls Tryz.prog 48 #[.pointer (some ⟨jb,0,none⟩),wrV y] w fun e w'=>e= .returned (.tuple #[.agg #[.int .u64 0,.int .u64 0],.int .i64 0])∧
  ∃F',Ix w' x d p L s F'∧JobB w' jb x d p stamp vs vd false en F'∧Moved F F' w w':=by
 obtain⟨W,hW⟩:∃W,W=(w.alloc (.cells #[.string y.key,.string y.text,.bool true] 87)).alloc (.cells #[.int .u64 0,.int .u64 0] 115):=⟨_,rfl⟩
 have hb0:Below w.heap.size w W:=by rw [hW];exact((Below.refl _ _).alloc (Nat.le_refl _) _).alloc (by simp) _
 have BY:Blk W w.heap.size 87 [.string y.key,.string y.text,.bool true]:=by rw [hW];exact(heap_alloc_old _ _ (by simp)).trans (heap_alloc_new _ _)
 have BP:Blk W (w.heap.size+1) 115 [.int .u64 0,.int .u64 0]:=by
  have:=heap_alloc_new (w.alloc (.cells #[.string y.key,.string y.text,.bool true] 87)) (.cells #[.int .u64 0,.int .u64 0] 115)
  rw [show(w.alloc (.cells #[.string y.key,.string y.text,.bool true] 87)).heap.size=w.heap.size+1 by simp,←hW]at this
  exact this
 have hJ0:=hj.box.below hb0 hj.box.lt
 have hX0:=h.below hb0
 have HG:=Lib.hid (fun W'(k:Below W.heap.size W W')=>get_index (hX0.below k) y.key (by omega))
 rw [hg]at HG
 unfold GetPost at HG
 have HJ:=Lib.hid hj
 have HX:=Lib.hid h
 have HW:=Lib.hid hW
 have Hb0:=Lib.hid hb0
 have HBY:=Lib.hid BY
 have HBP:=Lib.hid BP
 have y0:=BY.cell 0
 have y1:=BY.cell 1
 have y2:=BY.cell 2
 have j2:=hJ0.cell 2
 have j0:=hJ0.cell 0
 have j1:=hJ0.cell 1
 have j3:=hJ0.cell 3
 unfold jobCells at j0 j1 j2 j3
 simp only [List.getElem?_cons_zero,List.getElem?_cons_succ]at y0 y1 y2 j0 j1 j2 j3
 unfold wrV
 rw [hgo]
 clear h hj hb0 hW BY BP hJ0 hX0 hg hgo
 go_enter Tryz.func48,Tryz.ntmps48
 go_wp2_with fail
 rw [←HW.out]
 have HFl:Hid (∀b,F b→b<w.heap.size):=Lib.hid (fun b hb=>HX.out.sys.lt b hb)
 have HK:=Lib.hid (fun W'(k:Touch F W W')=>And.intro ((HJ.out.box.below Hb0.out HJ.out.box.lt).touch k HJ.out.out) (And.intro (HBY.out.touch k (fun hf=>absurd (HFl.out _ hf) (by omega))) (HBP.out.touch k (fun hf=>absurd (HFl.out _ hf) (by omega)))))
 have HK2:Hid (∀W',Touch F W W'→W'.cell? ⟨jb,2,none⟩=some (.pointer (some ⟨x,0,none⟩))∧W'.cell? ⟨w.heap.size,0,none⟩=some (.string y.key)):=Lib.hid (fun W' k=>⟨(HK.out W' k).1.cell 2,(HK.out W' k).2.1.cell 0⟩)
 clear HBY HBP
 go_region_held3(fun w'=>w'.cell? ⟨jb,2,none⟩=some (.pointer (some ⟨x,0,none⟩))∧w'.cell? ⟨w.heap.size,0,none⟩=some (.string y.key))(first| exact⟨j2,y0⟩| exact HK2.out _ (Touch.of_below hbG))((first| (go_at_call 91;refine(HG.out _ ((Dr.drew _).below _)).mono ?_;rintro e w3⟨rfl,hbg⟩;have hbG:Below W.heap.size W w3:=((Dr.drew W).below _).trans hbg)))
 have HT3:=Lib.hid (Touch.of_below (F:=F) hbG)
 have HB3:=Lib.hid hbG
 obtain⟨K1,K2,K3⟩:=HK.out w3 HT3.out
 replace y0:=K2.cell 0
 replace y1:=K2.cell 1
 replace y2:=K2.cell 2
 replace j3:=K1.cell 3
 replace j0:=K1.cell 0
 replace j1:=K1.cell 1
 unfold jobCells at j0 j1 j3
 simp only [List.getElem?_cons_zero,List.getElem?_cons_succ]at y0 y1 y2 j0 j1 j3
 have l1:=K1.lt
 have l2:=K2.lt
 clear K1 K2 K3 hbg hbG j2 HG
 have HM3:Hid (Moved F F W w3):=Lib.hid (Moved.of_below HB3.out)
 have HX3:Hid (Ix w3 x d p L s F):=Lib.hid ((HX.out.below Hb0.out).below HB3.out)
 have k3:=(HK.out w3 HT3.out).2.2
 have p0:=k3.cell 0
 have p1:=k3.cell 1
 have f0:=k3.frozen 0
 have f1:=k3.frozen 1
 simp only [List.getElem?_cons_zero,List.getElem?_cons_succ]at p0 p1
 have HK3:=Lib.hid k3
 clear k3 j0 j1 j3 l1 l2
 go_wp2_with fail
 have K7:=(HK3.out.set_ 0 (.int .u64 0)).set_ 1 (.int .u64 0)
 have q0:=K7.cell 0
 have q1:=K7.cell 1
 simp only [List.set_cons_zero,List.set_cons_succ,List.getElem?_cons_zero,List.getElem?_cons_succ]at q0 q1
 have ht7:Touch (fun k=>k=w.heap.size+1) w3 ((w3.setCell ⟨w.heap.size+1,0,none⟩ (.int .u64 0)).setCell ⟨w.heap.size+1,1,none⟩ (.int .u64 0)):=((Touch.refl (fun k=>k=w.heap.size+1) w3).setCell (p:=⟨w.heap.size+1,0,none⟩) (.inl rfl) _).setCell (p:=⟨w.heap.size+1,1,none⟩) (.inl rfl) _
 have hM:Moved F F w w3:=(Moved.of_below Hb0.out).trans HM3.out
 have hM7:=(hM.set (p:=⟨w.heap.size+1,0,none⟩) (.inr (Nat.le_succ _)) (.int .u64 0)).set (p:=⟨w.heap.size+1,1,none⟩) (.inr (Nat.le_succ _)) (.int .u64 0)
 have hnf:¬F (w.heap.size+1):=fun hf=>absurd (HFl.out _ hf) (by omega)
 have htab:=HX.out.sys.tabs.lt
 refine bodyPost_ret (v:= .tuple #[.agg #[.int .u64 0,.int .u64 0],.int .i64 0]) (by simp [results,Tryz.results48,go_sem,q0,q1]) rfl ?_
 refine⟨rfl,F,⟨HX3.out.sys.keep ht7 (fun b hb e=>hnf (e▸hb)) (by omega) (by omega),HX3.out.box.touch ht7 ?_,HX3.out.out⟩,⟨((HK.out w3 HM3.out.touch).1).touch ht7 ?_,HJ.out.out⟩,hM7⟩
 ·have:=HX.out.box.lt;show x≠_;omega
 ·have:=HJ.out.box.lt;show jb≠_;omega
end
end Go.Proofs.YtjcppneoncpdbaaGreatDoor
