import Derived.Deep.RegionHeld3
import Derived.Test.YtjcppneoncpdbaaGreatDoorG12
import Derived.Test.YtjcppneoncpdbaaGreatDoorG13
import Derived.Test.YtjcppneoncpdbaaGreatDoorG14
import Derived.Test.YtjcppneoncpdbaaGreatDoorG18
set_option maxHeartbeats 32000000
set_option maxRecDepth 100000
open List renaming getElem?_cons_zero->Ac,getElem?_cons_succ->Ae,set_cons_zero->Aj,set_cons_succ->Am
open Nat renaming le_refl->Ad,le_succ->Di
open Go.Lib renaming hid->Aa
namespace Go.Proofs.YtjcppneoncpdbaaGreatDoor
open Go.RowKit
def Bv(x d p:Nat)(stamp:UInt64)(vs vd:Value)(over:Bool)(en:Int):List Value:=
 [.pointer (some ⟨d,0,none⟩),.pointer (some ⟨p,0,none⟩),.pointer (some ⟨x,0,none⟩),.int .u64 (stamp.toNat:Int),vs,vd,.bool over,.int .i64 en]
section
variable{w w':World}{x d p L:Nat}{s:St}{F:Nat->Prop}
theorem GU.load{len:Nat->Nat}(h:GU len w d p L s F)(j:Nat)(hj:j<8*L):Calls Tryz.prog 41 #[.pointer (some ⟨d,0,none⟩),.int .i64 ((8*j:Nat):Int)] w fun e w'=>e= .returned (.tuple #[.int .u64 ((s.ws j).toNat:Int),.int .i64 0])/\w=w':=by
 obtain⟨tb,hb,n,cT,cH,own,h,_⟩:=h;obtain⟨g,hb0,hr,ho⟩:=h.dev;exact SH d L s.ws _ _ g hb0 j w h.L1 hr hj
theorem Tq(jb:Nat)(xs:List Value)(h:BH w jb 113 (.pointer (some ⟨d,0,none⟩)::xs)):Calls Tryz.prog 47 #[.pointer (some ⟨jb,0,none⟩)] w fun e w'=>e= .returned (.bool false)/\w=w':=by
 have c:=h.cell 0;simp only [Ac]at c;clear h;go_enter Tryz.func47,Tryz.ntmps47;go_wp2;go_ret;exact⟨rfl,rfl⟩
end
section
variable{w w':World}{x d p L:Nat}{s:St}{F:Nat->Prop}
structure IM(w:World)(jb x d p:Nat)(stamp:UInt64)(vs vd:Value)(over:Bool)(en:Int)(F:Nat->Prop):Prop where
 box:BH w jb 113 (Bv x d p stamp vs vd over en)
 out:¬F jb
theorem iW(h:Ix w x d p L s F){jb:Nat}{stamp:UInt64}{vs vd:Value}{en:Int}(hj:IM w jb x d p stamp vs vd false en F)(y:Wr)(hk:y.key.size<=16)(ht:y.text.size<=40)
 (hg:EZ s y.key.data.toList=(0,7))(hgo:y.gone=false)(hT:∀off s1,CJ s 1=some (off,s1)->(FX {s1 with ws:=CP s1.ws (off/8) (Dl ⟨stamp,0,y.gone,y.text⟩)} off).2=0)
 {s1 s2:St}{place:UInt64}(ha:FQ s ⟨stamp,0,y.gone,y.text⟩=(s1,place,0))(hp:FZ s1 y.key.data.toList place=(s2,0)):
 Calls Tryz.prog 48 #[.pointer (some ⟨jb,0,none⟩),ND y] w fun e w'=>e= .returned (.tuple #[.agg #[.int .u64 0,.int .u64 (place.toNat:Int)],.int .i64 0])/\
  ∃F',Ix w' x d p L s2 F'/\IM w' jb x d p stamp vs vd false en F'/\Aq F F' w w':=by
 obtain⟨W,hW⟩:∃W,W=(w.alloc (.cells #[.string y.key,.string y.text,.bool false] 87)).alloc (.cells #[.int .u64 0,.int .u64 0] 115):=⟨_,rfl⟩;have hb0:Below w.heap.size w W:=by rw [hW];exact((Below.refl _ _).alloc (Ad _) _).alloc (by simp) _
 have BY:BH W w.heap.size 87 [.string y.key,.string y.text,.bool false]:=by rw [hW];exact(heap_alloc_old _ _ (by simp)).trans (heap_alloc_new _ _)
 have BP:BH W (w.heap.size+1) 115 [.int .u64 0,.int .u64 0]:=by
  have:=heap_alloc_new (w.alloc (.cells #[.string y.key,.string y.text,.bool false] 87)) (.cells #[.int .u64 0,.int .u64 0] 115);rw [show(w.alloc (.cells #[.string y.key,.string y.text,.bool false] 87)).heap.size=w.heap.size+1 by simp,<-hW]at this;exact this
 have hJ0:=hj.box.below hb0 hj.box.lt;have hX0:=h.below hb0;have HG:=Aa (fun W'(k:Below W.heap.size W W')=>GR (hX0.below k) y.key (by omega));rw [hg]at HG;unfold GetPost at HG;have HJ:=Aa hj;have HX:=Aa h;have HW:=Aa hW;have Hb0:=Aa hb0;have Tt:=Aa BY;have Tu:=Aa BP;have y0:=BY.cell 0;have y1:=BY.cell 1;have y2:=BY.cell 2;have j2:=hJ0.cell 2;have j0:=hJ0.cell 0;have j1:=hJ0.cell 1;have j3:=hJ0.cell 3;unfold Bv at j0 j1 j2 j3;simp only [Ac,Ae]at y0 y1 y2 j0 j1 j2 j3;unfold ND;rw [hgo]at hT ha⊢;clear h hj hb0 hW BY BP hJ0 hX0 hg hgo;go_enter Tryz.func48,Tryz.ntmps48
 go_wp2_with fail
 rw [<-HW.out];have Hg:Hid (∀b,F b->b<w.heap.size):=Aa (fun b hb=>HX.out.sys.lt b hb);have HK:Hid (∀W',Touch F W W'->BH W' jb 113 (Bv x d p stamp vs vd false en)/\BH W' w.heap.size 87 [.string y.key,.string y.text,.bool false]/\BH W' (w.heap.size+1) 115 [.int .u64 0,.int .u64 0]):=Aa (fun W' k=>
  ⟨(HJ.out.box.below Hb0.out HJ.out.box.lt).touch k HJ.out.out,Tt.out.touch k (fun hf=>absurd (Hg.out _ hf) (by omega)),Tu.out.touch k (fun hf=>absurd (Hg.out _ hf) (by omega))⟩)
 have RJ:Hid (∀W',Touch F W W'->W'.cell? ⟨jb,2,none⟩=some (.pointer (some ⟨x,0,none⟩))/\W'.cell? ⟨w.heap.size,0,none⟩=some (.string y.key)):=Aa (fun W' k=>⟨(HK.out W' k).1.cell 2,(HK.out W' k).2.1.cell 0⟩);clear Tt Tu
 go_region_held3(fun w'=>w'.cell? ⟨jb,2,none⟩=some (.pointer (some ⟨x,0,none⟩))/\w'.cell? ⟨w.heap.size,0,none⟩=some (.string y.key))
  (first| exact⟨j2,y0⟩| exact RJ.out _ (Touch.of_below Lt))
  ((first| (go_at_call 91;refine(HG.out _ ((Dr.drew _).below _)).mono ?_;rintro e w3⟨rfl,hbg⟩;have Lt:Below W.heap.size W w3:=((Dr.drew W).below _).trans hbg)))
 have HT3:=Aa (Touch.of_below (F:=F) Lt);have HB3:=Aa Lt;obtain⟨K1,K2,K3⟩:=HK.out w3 HT3.out;replace y0:=K2.cell 0;replace y1:=K2.cell 1;replace y2:=K2.cell 2;replace j3:=K1.cell 3;replace j0:=K1.cell 0;replace j1:=K1.cell 1;unfold Bv at j0 j1 j3;simp only [Ac,Ae]at y0 y1 y2 j0 j1 j3;have l1:=K1.lt;have l2:=K2.lt;clear K1 K2 K3 hbg Lt j2 HG
 go_wp2_with fail
 go_region
 all_goals(
  obtain⟨W8,Nc⟩:∃W8,W8=(w3.alloc (.cells #[.int .u64 (stamp.toNat:Int),.int .u64 0,.bool false,.string y.text] 89)).drew:=⟨_,rfl⟩;rw [<-Nc];have hb8:Below w3.heap.size w3 W8:=by rw [Nc];exact((Below.refl _ _).alloc (Ad _) _).drew
  have BR:BH W8 w3.heap.size 89 [.int .u64 (stamp.toNat:Int),.int .u64 0,.bool false,.string y.text]:=by rw [Nc];exact heap_alloc_new _ _
  have Jf:Below W.heap.size W W8:=HB3.out.trans (hb8.mono HB3.out.size);have JM:=Aa Jf;have HA:=Aa (fun W'(k:Below W8.heap.size W8 W')=>Jp (((HX.out.sys.below Hb0.out).below Jf).below k) ⟨stamp,0,false,y.text⟩ (by show y.text.size<=_;omega) hT);unfold Ku at HA;rw [ha]at HA;unfold gY at HA;simp only [show((0:UInt64).toNat:Int)=0 from rfl]at HA;have J7:¬F w3.heap.size:=fun hf=>absurd (Hg.out _ hf) (by have:=HB3.out.size;have:=Hb0.out.size;omega)
  have PX:Hid (∀W',Touch F W8 W'->W'.cell? ⟨jb,0,none⟩=some (.pointer (some ⟨d,0,none⟩))/\W'.cell? ⟨jb,1,none⟩=some (.pointer (some ⟨p,0,none⟩))/\W'.cell? ⟨w3.heap.size,0,none⟩=some (.int .u64 (stamp.toNat:Int))/\W'.cell? ⟨w3.heap.size,1,none⟩=some (.int .u64 0)/\W'.cell? ⟨w3.heap.size,2,none⟩=some (.bool false)/\W'.cell? ⟨w3.heap.size,3,none⟩=some (.string y.text)):=Aa (fun W' k=>
   ⟨(HK.out W' ((Touch.of_below Jf).trans k (fun _ e=> .inl e))).1.cell 0,(HK.out W' ((Touch.of_below Jf).trans k (fun _ e=> .inl e))).1.cell 1,(BR.touch k J7).cell 0,(BR.touch k J7).cell 1,(BR.touch k J7).cell 2,(BR.touch k J7).cell 3⟩)
  have hk8:=PX.out W8 (Touch.refl _ _);clear Nc hb8 BR Jf j0 j1 j3 y0 y1 y2 l1 l2 J7
  go_wp2_with fail
  go_region_held3(fun w'=>w'.cell? ⟨jb,0,none⟩=some (.pointer (some ⟨d,0,none⟩))/\w'.cell? ⟨jb,1,none⟩=some (.pointer (some ⟨p,0,none⟩))/\w'.cell? ⟨w3.heap.size,0,none⟩=some (.int .u64 (stamp.toNat:Int))/\w'.cell? ⟨w3.heap.size,1,none⟩=some (.int .u64 0)/\w'.cell? ⟨w3.heap.size,2,none⟩=some (.bool false)/\w'.cell? ⟨w3.heap.size,3,none⟩=some (.string y.text))
   (first| exact hk8| exact PX.out _ ((Touch.of_below ((Dr.drew W8).below _)).trans Hz.touch (fun _ e=> .inl e)))
   ((first| (go_at_call 92;refine(HA.out _ ((Dr.drew W8).below _)).mono ?_;rintro e w5⟨rfl,F5,hS5,Hz⟩))))
 all_goals(
  have FO:Aq F F5 W w5:=(Aq.of_below (JM.out.trans (((Dr.drew W8).below _).mono JM.out.size))).trans Hz;have LQ:Ix w5 x d p L s1 F5:=(HX.out.below Hb0.out).move hS5 FO;have Pz:=Aa (fun W'(k:Below w5.heap.size w5 W')=>JR (LQ.below k) y.key (by omega) place);rw [hp]at Pz;unfold I7 at Pz;have hk5:=RJ.out w5 FO.touch;have KP:=Aa FO;clear Hz FO LQ hS5 hk8 HA PX JM
  go_wp2_with fail
  go_region_held3(fun w'=>w'.cell? ⟨jb,2,none⟩=some (.pointer (some ⟨x,0,none⟩))/\w'.cell? ⟨w.heap.size,0,none⟩=some (.string y.key))
   (first| exact hk5| exact RJ.out _ (KP.out.trans ((Aq.of_below ((Dr.drew w5).below _)).trans RN)).touch)
   ((first| (go_at_call 93;refine(Pz.out _ ((Dr.drew w5).below _)).mono ?_;rintro e w6⟨rfl,F6,iY,RN⟩))))
 all_goals(
  have Tm:=Aa (KP.out.trans ((Aq.of_below ((Dr.drew w5).below _)).trans RN));have XY:=Aa iY;have k3:=(HK.out w6 Tm.out.touch).2.2;have p0:=k3.cell 0;have p1:=k3.cell 1;have f0:=k3.frozen 0;have f1:=k3.frozen 1;simp only [Ac,Ae]at p0 p1;have LP:=Aa k3;clear iY RN hk5 Pz k3
  go_wp2_with fail)
 all_goals(
  have K7:=(LP.out.AV 0 (.int .u64 0)).AV 1 (.int .u64 (place.toNat:Int));have q0:=K7.cell 0;have q1:=K7.cell 1;simp only [Aj,Am,Ac,Ae]at q0 q1;have Nz:Touch (fun k=>k=w.heap.size+1) w6 ((w6.setCell ⟨w.heap.size+1,0,none⟩ (.int .u64 0)).setCell ⟨w.heap.size+1,1,none⟩ (.int .u64 (place.toNat:Int))):=
   ((Touch.refl (fun k=>k=w.heap.size+1) w6).setCell (p:=⟨w.heap.size+1,0,none⟩) (.inl rfl) _).setCell (p:=⟨w.heap.size+1,1,none⟩) (.inl rfl) _
  have hM:Aq F F6 w w6:=(Aq.of_below Hb0.out).trans Tm.out;have Un:=(hM.set (p:=⟨w.heap.size+1,0,none⟩) (.inr (Di _)) (.int .u64 0)).set (p:=⟨w.heap.size+1,1,none⟩) (.inr (Di _)) (.int .u64 (place.toNat:Int));have hnf:¬F6 (w.heap.size+1):=fun h6=>(Tm.out.own _ h6).elim (fun hf=>absurd (Hg.out _ hf) (by omega)) (fun hs=>absurd LP.out.lt (by have:=(HK.out W (Touch.refl _ _)).2.2.lt;omega))
  have htab:=HX.out.sys.tabs.lt;refine bodyPost_ret (v:= .tuple #[.agg #[.int .u64 0,.int .u64 (place.toNat:Int)],.int .i64 0]) (by simp [results,Tryz.results48,go_sem,q0,q1]) rfl ?_;refine⟨rfl,F6,⟨XY.out.sys.keep Nz (fun b hb e=>hnf (e▸hb)) (by omega) (by omega),XY.out.box.touch Nz ?_,XY.out.out⟩,⟨((HK.out w6 Tm.out.touch).1).touch Nz ?_,hM.out HJ.out.box.lt HJ.out.out⟩,Un⟩
  ·have:=HX.out.box.lt;show x≠_;omega
  ·have:=HJ.out.box.lt;show jb≠_;omega)
end
section
variable{w w':World}{x d p L:Nat}{s:St}{F:Nat->Prop}
theorem QN(h:Ix w x d p L s F){jb:Nat}{stamp:UInt64}{vs vd:Value}{en:Int}(hj:IM w jb x d p stamp vs vd false en F)(y:Wr)(hk:y.key.size<=16)(_:y.text.size<=40)
 (hg:EZ s y.key.data.toList=(0,7))(hgo:y.gone=true)
  :
 Calls Tryz.prog 48 #[.pointer (some ⟨jb,0,none⟩),ND y] w fun e w'=>e= .returned (.tuple #[.agg #[.int .u64 0,.int .u64 0],.int .i64 0])/\
  ∃F',Ix w' x d p L s F'/\IM w' jb x d p stamp vs vd false en F'/\Aq F F' w w':=by
 obtain⟨W,hW⟩:∃W,W=(w.alloc (.cells #[.string y.key,.string y.text,.bool true] 87)).alloc (.cells #[.int .u64 0,.int .u64 0] 115):=⟨_,rfl⟩;have hb0:Below w.heap.size w W:=by rw [hW];exact((Below.refl _ _).alloc (Ad _) _).alloc (by simp) _
 have BY:BH W w.heap.size 87 [.string y.key,.string y.text,.bool true]:=by rw [hW];exact(heap_alloc_old _ _ (by simp)).trans (heap_alloc_new _ _)
 have BP:BH W (w.heap.size+1) 115 [.int .u64 0,.int .u64 0]:=by
  have:=heap_alloc_new (w.alloc (.cells #[.string y.key,.string y.text,.bool true] 87)) (.cells #[.int .u64 0,.int .u64 0] 115);rw [show(w.alloc (.cells #[.string y.key,.string y.text,.bool true] 87)).heap.size=w.heap.size+1 by simp,<-hW]at this;exact this
 have hJ0:=hj.box.below hb0 hj.box.lt;have hX0:=h.below hb0;have HG:=Aa (fun W'(k:Below W.heap.size W W')=>GR (hX0.below k) y.key (by omega));rw [hg]at HG;unfold GetPost at HG;have HJ:=Aa hj;have HX:=Aa h;have HW:=Aa hW;have Hb0:=Aa hb0;have Tt:=Aa BY;have Tu:=Aa BP;have y0:=BY.cell 0;have y1:=BY.cell 1;have y2:=BY.cell 2;have j2:=hJ0.cell 2;have j0:=hJ0.cell 0;have j1:=hJ0.cell 1;have j3:=hJ0.cell 3;unfold Bv at j0 j1 j2 j3;simp only [Ac,Ae]at y0 y1 y2 j0 j1 j2 j3;unfold ND;rw [hgo];clear h hj hb0 hW BY BP hJ0 hX0 hg hgo;go_enter Tryz.func48,Tryz.ntmps48
 go_wp2_with fail
 rw [<-HW.out];have Hg:Hid (∀b,F b->b<w.heap.size):=Aa (fun b hb=>HX.out.sys.lt b hb);have HK:=Aa (fun W'(k:Touch F W W')=>And.intro ((HJ.out.box.below Hb0.out HJ.out.box.lt).touch k HJ.out.out) (And.intro (Tt.out.touch k (fun hf=>absurd (Hg.out _ hf) (by omega))) (Tu.out.touch k (fun hf=>absurd (Hg.out _ hf) (by omega)))));have RJ:Hid (∀W',Touch F W W'->W'.cell? ⟨jb,2,none⟩=some (.pointer (some ⟨x,0,none⟩))/\W'.cell? ⟨w.heap.size,0,none⟩=some (.string y.key)):=Aa (fun W' k=>⟨(HK.out W' k).1.cell 2,(HK.out W' k).2.1.cell 0⟩);clear Tt Tu
 go_region_held3(fun w'=>w'.cell? ⟨jb,2,none⟩=some (.pointer (some ⟨x,0,none⟩))/\w'.cell? ⟨w.heap.size,0,none⟩=some (.string y.key))(first| exact⟨j2,y0⟩| exact RJ.out _ (Touch.of_below Lt))((first| (go_at_call 91;refine(HG.out _ ((Dr.drew _).below _)).mono ?_;rintro e w3⟨rfl,hbg⟩;have Lt:Below W.heap.size W w3:=((Dr.drew W).below _).trans hbg)))
 have HT3:=Aa (Touch.of_below (F:=F) Lt);have HB3:=Aa Lt;obtain⟨K1,K2,K3⟩:=HK.out w3 HT3.out;replace y0:=K2.cell 0;replace y1:=K2.cell 1;replace y2:=K2.cell 2;replace j3:=K1.cell 3;replace j0:=K1.cell 0;replace j1:=K1.cell 1;unfold Bv at j0 j1 j3;simp only [Ac,Ae]at y0 y1 y2 j0 j1 j3;have l1:=K1.lt;have l2:=K2.lt;clear K1 K2 K3 hbg Lt j2 HG;have wP:Hid (Aq F F W w3):=Aa (Aq.of_below HB3.out);have HX3:Hid (Ix w3 x d p L s F):=Aa ((HX.out.below Hb0.out).below HB3.out);have k3:=(HK.out w3 HT3.out).2.2;have p0:=k3.cell 0;have p1:=k3.cell 1;have f0:=k3.frozen 0;have f1:=k3.frozen 1;simp only [Ac,Ae]at p0 p1;have LP:=Aa k3;clear k3 j0 j1 j3 l1 l2
 go_wp2_with fail
 have K7:=(LP.out.AV 0 (.int .u64 0)).AV 1 (.int .u64 0);have q0:=K7.cell 0;have q1:=K7.cell 1;simp only [Aj,Am,Ac,Ae]at q0 q1;have Nz:Touch (fun k=>k=w.heap.size+1) w3 ((w3.setCell ⟨w.heap.size+1,0,none⟩ (.int .u64 0)).setCell ⟨w.heap.size+1,1,none⟩ (.int .u64 0)):=((Touch.refl (fun k=>k=w.heap.size+1) w3).setCell (p:=⟨w.heap.size+1,0,none⟩) (.inl rfl) _).setCell (p:=⟨w.heap.size+1,1,none⟩) (.inl rfl) _;have hM:Aq F F w w3:=(Aq.of_below Hb0.out).trans wP.out;have Un:=(hM.set (p:=⟨w.heap.size+1,0,none⟩) (.inr (Di _)) (.int .u64 0)).set (p:=⟨w.heap.size+1,1,none⟩) (.inr (Di _)) (.int .u64 0);have hnf:¬F (w.heap.size+1):=fun hf=>absurd (Hg.out _ hf) (by omega)
 have htab:=HX.out.sys.tabs.lt;refine bodyPost_ret (v:= .tuple #[.agg #[.int .u64 0,.int .u64 0],.int .i64 0]) (by simp [results,Tryz.results48,go_sem,q0,q1]) rfl ?_;refine⟨rfl,F,⟨HX3.out.sys.keep Nz (fun b hb e=>hnf (e▸hb)) (by omega) (by omega),HX3.out.box.touch Nz ?_,HX3.out.out⟩,⟨((HK.out w3 wP.out.touch).1).touch Nz ?_,HJ.out.out⟩,Un⟩
 ·have:=HX.out.box.lt;show x≠_;omega
 ·have:=HJ.out.box.lt;show jb≠_;omega
theorem Xz(h:Ix w x d p L s F){jb:Nat}{stamp:UInt64}{vs vd:Value}{en:Int}(hj:IM w jb x d p stamp vs vd false en F)(y:Wr)(hk:y.key.size<=16)(ht:y.text.size<=40)
 (hg:EZ s y.key.data.toList=(0,7))(hgo:y.gone=false)(hT:∀off s1,CJ s 1=some (off,s1)->(FX {s1 with ws:=CP s1.ws (off/8) (Dl ⟨stamp,0,y.gone,y.text⟩)} off).2=0)
 {s1:St}{place:UInt64}(ha:FQ s ⟨stamp,0,y.gone,y.text⟩=(s1,place,6)):
 Calls Tryz.prog 48 #[.pointer (some ⟨jb,0,none⟩),ND y] w fun e w'=>e= .returned (.tuple #[.agg #[.int .u64 0,.int .u64 0],.int .i64 6])/\
  ∃F',Ix w' x d p L s1 F'/\IM w' jb x d p stamp vs vd false en F'/\Aq F F' w w':=by
 obtain⟨W,hW⟩:∃W,W=(w.alloc (.cells #[.string y.key,.string y.text,.bool false] 87)).alloc (.cells #[.int .u64 0,.int .u64 0] 115):=⟨_,rfl⟩;have hb0:Below w.heap.size w W:=by rw [hW];exact((Below.refl _ _).alloc (Ad _) _).alloc (by simp) _
 have BY:BH W w.heap.size 87 [.string y.key,.string y.text,.bool false]:=by rw [hW];exact(heap_alloc_old _ _ (by simp)).trans (heap_alloc_new _ _)
 have BP:BH W (w.heap.size+1) 115 [.int .u64 0,.int .u64 0]:=by
  have:=heap_alloc_new (w.alloc (.cells #[.string y.key,.string y.text,.bool false] 87)) (.cells #[.int .u64 0,.int .u64 0] 115);rw [show(w.alloc (.cells #[.string y.key,.string y.text,.bool false] 87)).heap.size=w.heap.size+1 by simp,<-hW]at this;exact this
 have hJ0:=hj.box.below hb0 hj.box.lt;have hX0:=h.below hb0;have HG:=Aa (fun W'(k:Below W.heap.size W W')=>GR (hX0.below k) y.key (by omega));rw [hg]at HG;unfold GetPost at HG;have HJ:=Aa hj;have HX:=Aa h;have HW:=Aa hW;have Hb0:=Aa hb0;have Tt:=Aa BY;have Tu:=Aa BP;have y0:=BY.cell 0;have y1:=BY.cell 1;have y2:=BY.cell 2;have j2:=hJ0.cell 2;have j0:=hJ0.cell 0;have j1:=hJ0.cell 1;have j3:=hJ0.cell 3;unfold Bv at j0 j1 j2 j3;simp only [Ac,Ae]at y0 y1 y2 j0 j1 j2 j3;unfold ND;rw [hgo]at hT ha⊢;clear h hj hb0 hW BY BP hJ0 hX0 hg hgo;go_enter Tryz.func48,Tryz.ntmps48
 go_wp2_with fail
 rw [<-HW.out];have Hg:Hid (∀b,F b->b<w.heap.size):=Aa (fun b hb=>HX.out.sys.lt b hb);have HK:=Aa (fun W'(k:Touch F W W')=>And.intro ((HJ.out.box.below Hb0.out HJ.out.box.lt).touch k HJ.out.out) (And.intro (Tt.out.touch k (fun hf=>absurd (Hg.out _ hf) (by omega))) (Tu.out.touch k (fun hf=>absurd (Hg.out _ hf) (by omega)))));have RJ:Hid (∀W',Touch F W W'->W'.cell? ⟨jb,2,none⟩=some (.pointer (some ⟨x,0,none⟩))/\W'.cell? ⟨w.heap.size,0,none⟩=some (.string y.key)):=Aa (fun W' k=>⟨(HK.out W' k).1.cell 2,(HK.out W' k).2.1.cell 0⟩);clear Tt Tu
 go_region_held3(fun w'=>w'.cell? ⟨jb,2,none⟩=some (.pointer (some ⟨x,0,none⟩))/\w'.cell? ⟨w.heap.size,0,none⟩=some (.string y.key))(first| exact⟨j2,y0⟩| exact RJ.out _ (Touch.of_below Lt))((first| (go_at_call 91;refine(HG.out _ ((Dr.drew _).below _)).mono ?_;rintro e w3⟨rfl,hbg⟩;have Lt:Below W.heap.size W w3:=((Dr.drew W).below _).trans hbg)))
 have HT3:=Aa (Touch.of_below (F:=F) Lt);have HB3:=Aa Lt;obtain⟨K1,K2,K3⟩:=HK.out w3 HT3.out;replace y0:=K2.cell 0;replace y1:=K2.cell 1;replace y2:=K2.cell 2;replace j3:=K1.cell 3;replace j0:=K1.cell 0;replace j1:=K1.cell 1;unfold Bv at j0 j1 j3;simp only [Ac,Ae]at y0 y1 y2 j0 j1 j3;have l1:=K1.lt;have l2:=K2.lt;clear K1 K2 K3 hbg Lt j2 HG
 go_wp2_with fail
 go_region
 all_goals(
  obtain⟨W8,Nc⟩:∃W8,W8=(w3.alloc (.cells #[.int .u64 (stamp.toNat:Int),.int .u64 0,.bool false,.string y.text] 89)).drew:=⟨_,rfl⟩;rw [<-Nc];have hb8:Below w3.heap.size w3 W8:=by rw [Nc];exact((Below.refl _ _).alloc (Ad _) _).drew
  have BR:BH W8 w3.heap.size 89 [.int .u64 (stamp.toNat:Int),.int .u64 0,.bool false,.string y.text]:=by rw [Nc];exact heap_alloc_new _ _
  have Jf:Below W.heap.size W W8:=HB3.out.trans (hb8.mono HB3.out.size);have JM:=Aa Jf;have HA:=Aa (fun W'(k:Below W8.heap.size W8 W')=>Jp (((HX.out.sys.below Hb0.out).below Jf).below k) ⟨stamp,0,false,y.text⟩ (by show y.text.size<=_;omega) hT);unfold Ku at HA;rw [ha]at HA;unfold gY at HA;simp only [show((0:UInt64).toNat:Int)=0 from rfl]at HA;have J7:¬F w3.heap.size:=fun hf=>absurd (Hg.out _ hf) (by have:=HB3.out.size;have:=Hb0.out.size;omega)
  have PX:Hid (∀w',Touch F W8 w'->w'.cell? ⟨jb,0,none⟩=some (.pointer (some ⟨d,0,none⟩))/\w'.cell? ⟨jb,1,none⟩=some (.pointer (some ⟨p,0,none⟩))/\w'.cell? ⟨w3.heap.size,0,none⟩=some (.int .u64 (stamp.toNat:Int))/\w'.cell? ⟨w3.heap.size,1,none⟩=some (.int .u64 0)/\w'.cell? ⟨w3.heap.size,2,none⟩=some (.bool false)/\w'.cell? ⟨w3.heap.size,3,none⟩=some (.string y.text)):=Aa (fun W' k=>⟨(HK.out W' ((Touch.of_below Jf).trans k (fun _ e=> .inl e))).1.cell 0,(HK.out W' ((Touch.of_below Jf).trans k (fun _ e=> .inl e))).1.cell 1,(BR.touch k J7).cell 0,(BR.touch k J7).cell 1,(BR.touch k J7).cell 2,(BR.touch k J7).cell 3⟩);have hk8:=PX.out W8 (Touch.refl _ _);clear Nc hb8 BR Jf j0 j1 j3 y0 y1 y2 l1 l2 J7
  go_wp2_with fail
  go_region_held3(fun w'=>w'.cell? ⟨jb,0,none⟩=some (.pointer (some ⟨d,0,none⟩))/\w'.cell? ⟨jb,1,none⟩=some (.pointer (some ⟨p,0,none⟩))/\w'.cell? ⟨w3.heap.size,0,none⟩=some (.int .u64 (stamp.toNat:Int))/\w'.cell? ⟨w3.heap.size,1,none⟩=some (.int .u64 0)/\w'.cell? ⟨w3.heap.size,2,none⟩=some (.bool false)/\w'.cell? ⟨w3.heap.size,3,none⟩=some (.string y.text))(first| exact hk8| exact PX.out _ ((Touch.of_below ((Dr.drew W8).below _)).trans Hz.touch (fun _ e=> .inl e)))((first| (go_at_call 92;refine(HA.out _ ((Dr.drew W8).below _)).mono ?_;rintro e w5⟨rfl,F5,hS5,Hz⟩))))
 all_goals(
  have FO:Aq F F5 W w5:=(Aq.of_below (JM.out.trans (((Dr.drew W8).below _).mono JM.out.size))).trans Hz;have LQ:Ix w5 x d p L s1 F5:=(HX.out.below Hb0.out).move hS5 FO;have KP:=Aa FO;have dI:=Aa LQ;clear Hz FO LQ hS5 hk8 HA PX JM;have k3:=(HK.out w5 KP.out.touch).2.2;have p0:=k3.cell 0;have p1:=k3.cell 1;have f0:=k3.frozen 0;have f1:=k3.frozen 1;simp only [Ac,Ae]at p0 p1;have LP:=Aa k3;clear k3
  go_wp2_with fail)
 all_goals(
  have K7:=(LP.out.AV 0 (.int .u64 0)).AV 1 (.int .u64 0);have q0:=K7.cell 0;have q1:=K7.cell 1;simp only [Aj,Am,Ac,Ae]at q0 q1;have Nz:Touch (fun k=>k=w.heap.size+1) w5 ((w5.setCell ⟨w.heap.size+1,0,none⟩ (.int .u64 0)).setCell ⟨w.heap.size+1,1,none⟩ (.int .u64 0)):=((Touch.refl (fun k=>k=w.heap.size+1) w5).setCell (p:=⟨w.heap.size+1,0,none⟩) (.inl rfl) _).setCell (p:=⟨w.heap.size+1,1,none⟩) (.inl rfl) _;have hM:Aq F F5 w w5:=(Aq.of_below Hb0.out).trans KP.out;have Un:=(hM.set (p:=⟨w.heap.size+1,0,none⟩) (.inr (Di _)) (.int .u64 0)).set (p:=⟨w.heap.size+1,1,none⟩) (.inr (Di _)) (.int .u64 0);have hnf:¬F5 (w.heap.size+1):=fun h6=>(KP.out.own _ h6).elim (fun hf=>absurd (Hg.out _ hf) (by omega)) (fun hs=>absurd LP.out.lt (by have:=(HK.out W (Touch.refl _ _)).2.2.lt;omega))
  have htab:=HX.out.sys.tabs.lt;refine bodyPost_ret (v:= .tuple #[.agg #[.int .u64 0,.int .u64 0],.int .i64 6]) (by simp [results,Tryz.results48,go_sem,q0,q1]) rfl ?_;refine⟨rfl,F5,⟨dI.out.sys.keep Nz (fun b hb e=>hnf (e▸hb)) (by omega) (by omega),dI.out.box.touch Nz ?_,dI.out.out⟩,⟨((HK.out w5 KP.out.touch).1).touch Nz ?_,hM.out HJ.out.box.lt HJ.out.out⟩,Un⟩
  ·have:=HX.out.box.lt;show x≠_;omega
  ·have:=HJ.out.box.lt;show jb≠_;omega)
theorem X0(h:Ix w x d p L s F){jb:Nat}{stamp:UInt64}{vs vd:Value}{en:Int}(hj:IM w jb x d p stamp vs vd false en F)(y:Wr)(hk:y.key.size<=16)(ht:y.text.size<=40)
 (hg:EZ s y.key.data.toList=(0,7))(hgo:y.gone=false)(hT:∀off s1,CJ s 1=some (off,s1)->(FX {s1 with ws:=CP s1.ws (off/8) (Dl ⟨stamp,0,y.gone,y.text⟩)} off).2=0)
 {s1 s2:St}{place:UInt64}(_:place.toNat<=65536)(ha:FQ s ⟨stamp,0,y.gone,y.text⟩=(s1,place,0))(hp:FZ s1 y.key.data.toList place=(s2,6)):
 Calls Tryz.prog 48 #[.pointer (some ⟨jb,0,none⟩),ND y] w fun e w'=>e= .returned (.tuple #[.agg #[.int .u64 0,.int .u64 0],.int .i64 6])/\
  ∃F',Ix w' x d p L (EJ s2 (AX place)).1 F'/\IM w' jb x d p stamp vs vd false en F'/\Aq F F' w w':=by
 obtain⟨W,hW⟩:∃W,W=(w.alloc (.cells #[.string y.key,.string y.text,.bool false] 87)).alloc (.cells #[.int .u64 0,.int .u64 0] 115):=⟨_,rfl⟩;have hb0:Below w.heap.size w W:=by rw [hW];exact((Below.refl _ _).alloc (Ad _) _).alloc (by simp) _
 have BY:BH W w.heap.size 87 [.string y.key,.string y.text,.bool false]:=by rw [hW];exact(heap_alloc_old _ _ (by simp)).trans (heap_alloc_new _ _)
 have BP:BH W (w.heap.size+1) 115 [.int .u64 0,.int .u64 0]:=by
  have:=heap_alloc_new (w.alloc (.cells #[.string y.key,.string y.text,.bool false] 87)) (.cells #[.int .u64 0,.int .u64 0] 115);rw [show(w.alloc (.cells #[.string y.key,.string y.text,.bool false] 87)).heap.size=w.heap.size+1 by simp,<-hW]at this;exact this
 have hJ0:=hj.box.below hb0 hj.box.lt;have hX0:=h.below hb0;have HG:=Aa (fun W'(k:Below W.heap.size W W')=>GR (hX0.below k) y.key (by omega));rw [hg]at HG;unfold GetPost at HG;have HJ:=Aa hj;have HX:=Aa h;have HW:=Aa hW;have Hb0:=Aa hb0;have Tt:=Aa BY;have Tu:=Aa BP;have y0:=BY.cell 0;have y1:=BY.cell 1;have y2:=BY.cell 2;have j2:=hJ0.cell 2;have j0:=hJ0.cell 0;have j1:=hJ0.cell 1;have j3:=hJ0.cell 3;unfold Bv at j0 j1 j2 j3;simp only [Ac,Ae]at y0 y1 y2 j0 j1 j2 j3;unfold ND;rw [hgo]at hT ha⊢;clear h hj hb0 hW BY BP hJ0 hX0 hg hgo;go_enter Tryz.func48,Tryz.ntmps48
 go_wp2_with fail
 rw [<-HW.out];have Hg:Hid (∀b,F b->b<w.heap.size):=Aa (fun b hb=>HX.out.sys.lt b hb);have HK:=Aa (fun W'(k:Touch F W W')=>And.intro ((HJ.out.box.below Hb0.out HJ.out.box.lt).touch k HJ.out.out) (And.intro (Tt.out.touch k (fun hf=>absurd (Hg.out _ hf) (by omega))) (Tu.out.touch k (fun hf=>absurd (Hg.out _ hf) (by omega)))));have RJ:Hid (∀W',Touch F W W'->W'.cell? ⟨jb,2,none⟩=some (.pointer (some ⟨x,0,none⟩))/\W'.cell? ⟨w.heap.size,0,none⟩=some (.string y.key)):=Aa (fun W' k=>⟨(HK.out W' k).1.cell 2,(HK.out W' k).2.1.cell 0⟩);clear Tt Tu
 go_region_held3(fun w'=>w'.cell? ⟨jb,2,none⟩=some (.pointer (some ⟨x,0,none⟩))/\w'.cell? ⟨w.heap.size,0,none⟩=some (.string y.key))(first| exact⟨j2,y0⟩| exact RJ.out _ (Touch.of_below Lt))((first| (go_at_call 91;refine(HG.out _ ((Dr.drew _).below _)).mono ?_;rintro e w3⟨rfl,hbg⟩;have Lt:Below W.heap.size W w3:=((Dr.drew W).below _).trans hbg)))
 have HT3:=Aa (Touch.of_below (F:=F) Lt);have HB3:=Aa Lt;obtain⟨K1,K2,K3⟩:=HK.out w3 HT3.out;replace y0:=K2.cell 0;replace y1:=K2.cell 1;replace y2:=K2.cell 2;replace j3:=K1.cell 3;replace j0:=K1.cell 0;replace j1:=K1.cell 1;unfold Bv at j0 j1 j3;simp only [Ac,Ae]at y0 y1 y2 j0 j1 j3;have l1:=K1.lt;have l2:=K2.lt;clear K1 K2 K3 hbg Lt j2 HG
 go_wp2_with fail
 go_region
 all_goals(
  obtain⟨W8,Nc⟩:∃W8,W8=(w3.alloc (.cells #[.int .u64 (stamp.toNat:Int),.int .u64 0,.bool false,.string y.text] 89)).drew:=⟨_,rfl⟩;rw [<-Nc];have hb8:Below w3.heap.size w3 W8:=by rw [Nc];exact((Below.refl _ _).alloc (Ad _) _).drew
  have BR:BH W8 w3.heap.size 89 [.int .u64 (stamp.toNat:Int),.int .u64 0,.bool false,.string y.text]:=by rw [Nc];exact heap_alloc_new _ _
  have Jf:Below W.heap.size W W8:=HB3.out.trans (hb8.mono HB3.out.size);have JM:=Aa Jf;have HA:=Aa (fun W'(k:Below W8.heap.size W8 W')=>Jp (((HX.out.sys.below Hb0.out).below Jf).below k) ⟨stamp,0,false,y.text⟩ (by show y.text.size<=_;omega) hT);unfold Ku at HA;rw [ha]at HA;unfold gY at HA;simp only [show((0:UInt64).toNat:Int)=0 from rfl]at HA;have J7:¬F w3.heap.size:=fun hf=>absurd (Hg.out _ hf) (by have:=HB3.out.size;have:=Hb0.out.size;omega)
  have PX:Hid (∀w',Touch F W8 w'->w'.cell? ⟨jb,0,none⟩=some (.pointer (some ⟨d,0,none⟩))/\w'.cell? ⟨jb,1,none⟩=some (.pointer (some ⟨p,0,none⟩))/\w'.cell? ⟨w3.heap.size,0,none⟩=some (.int .u64 (stamp.toNat:Int))/\w'.cell? ⟨w3.heap.size,1,none⟩=some (.int .u64 0)/\w'.cell? ⟨w3.heap.size,2,none⟩=some (.bool false)/\w'.cell? ⟨w3.heap.size,3,none⟩=some (.string y.text)):=Aa (fun W' k=>⟨(HK.out W' ((Touch.of_below Jf).trans k (fun _ e=> .inl e))).1.cell 0,(HK.out W' ((Touch.of_below Jf).trans k (fun _ e=> .inl e))).1.cell 1,(BR.touch k J7).cell 0,(BR.touch k J7).cell 1,(BR.touch k J7).cell 2,(BR.touch k J7).cell 3⟩);have hk8:=PX.out W8 (Touch.refl _ _);clear Nc hb8 BR Jf j0 j1 j3 y0 y1 y2 l1 l2 J7
  go_wp2_with fail
  go_region_held3(fun w'=>w'.cell? ⟨jb,0,none⟩=some (.pointer (some ⟨d,0,none⟩))/\w'.cell? ⟨jb,1,none⟩=some (.pointer (some ⟨p,0,none⟩))/\w'.cell? ⟨w3.heap.size,0,none⟩=some (.int .u64 (stamp.toNat:Int))/\w'.cell? ⟨w3.heap.size,1,none⟩=some (.int .u64 0)/\w'.cell? ⟨w3.heap.size,2,none⟩=some (.bool false)/\w'.cell? ⟨w3.heap.size,3,none⟩=some (.string y.text))(first| exact hk8| exact PX.out _ ((Touch.of_below ((Dr.drew W8).below _)).trans Hz.touch (fun _ e=> .inl e)))((first| (go_at_call 92;refine(HA.out _ ((Dr.drew W8).below _)).mono ?_;rintro e w5⟨rfl,F5,hS5,Hz⟩))))
 all_goals(
  have FO:Aq F F5 W w5:=(Aq.of_below (JM.out.trans (((Dr.drew W8).below _).mono JM.out.size))).trans Hz;have LQ:Ix w5 x d p L s1 F5:=(HX.out.below Hb0.out).move hS5 FO;have Pz:=Aa (fun W'(k:Below w5.heap.size w5 W')=>JR (LQ.below k) y.key (by omega) place);rw [hp]at Pz;unfold I7 at Pz;have hk5:=RJ.out w5 FO.touch;have KP:=Aa FO;clear Hz FO LQ hS5 hk8 HA PX JM
  go_wp2_with fail
  go_region_held3(fun w'=>w'.cell? ⟨jb,2,none⟩=some (.pointer (some ⟨x,0,none⟩))/\w'.cell? ⟨w.heap.size,0,none⟩=some (.string y.key))(first| exact hk5| exact RJ.out _ (KP.out.trans ((Aq.of_below ((Dr.drew w5).below _)).trans RN)).touch)((first| (go_at_call 93;refine(Pz.out _ ((Dr.drew w5).below _)).mono ?_;rintro e w6⟨rfl,F6,iY,RN⟩))))
 all_goals(
  have Tm:=Aa (KP.out.trans ((Aq.of_below ((Dr.drew w5).below _)).trans RN));have XY:=Aa iY;clear iY RN hk5 Pz;have hwr:IntKind.i64.wrap (place.toNat:Int)=AX place:=rfl;have hof: -9223372036854775808<=AX place/\AX place<=9223372036854775807:=Jo place;have HD:=Aa (fun W'(k:Below w6.heap.size w6 W')=>LK (XY.out.sys.below k) (AX place) hof);have K1:=(HK.out w6 Tm.out.touch).1;replace j1:=K1.cell 1;unfold Bv at j1;simp only [Ac,Ae]at j1;clear K1 hof
  go_wp2_with fail
  refine(HD.out _ (Below.refl _ _)).mono ?_;rintro e w7⟨rfl,F7,hS7,X3⟩;have zt:=Aa (XY.out.move hS7 X3);have Yy:=Aa (Tm.out.trans X3);clear HD hS7 X3 j1 hwr;have k3:=(HK.out w7 Yy.out.touch).2.2;have p0:=k3.cell 0;have p1:=k3.cell 1;have f0:=k3.frozen 0;have f1:=k3.frozen 1;simp only [Ac,Ae]at p0 p1;have LP:=Aa k3;clear k3
  go_wp2_with fail)
 all_goals(
  have K7:=(LP.out.AV 0 (.int .u64 0)).AV 1 (.int .u64 0);have q0:=K7.cell 0;have q1:=K7.cell 1;simp only [Aj,Am,Ac,Ae]at q0 q1;have Nz:Touch (fun k=>k=w.heap.size+1) w7 ((w7.setCell ⟨w.heap.size+1,0,none⟩ (.int .u64 0)).setCell ⟨w.heap.size+1,1,none⟩ (.int .u64 0)):=((Touch.refl (fun k=>k=w.heap.size+1) w7).setCell (p:=⟨w.heap.size+1,0,none⟩) (.inl rfl) _).setCell (p:=⟨w.heap.size+1,1,none⟩) (.inl rfl) _;have hM:Aq F F7 w w7:=(Aq.of_below Hb0.out).trans Yy.out;have Un:=(hM.set (p:=⟨w.heap.size+1,0,none⟩) (.inr (Di _)) (.int .u64 0)).set (p:=⟨w.heap.size+1,1,none⟩) (.inr (Di _)) (.int .u64 0);have hnf:¬F7 (w.heap.size+1):=fun h6=>(Yy.out.own _ h6).elim (fun hf=>absurd (Hg.out _ hf) (by omega)) (fun hs=>absurd LP.out.lt (by have:=(HK.out W (Touch.refl _ _)).2.2.lt;omega))
  have htab:=HX.out.sys.tabs.lt;refine bodyPost_ret (v:= .tuple #[.agg #[.int .u64 0,.int .u64 0],.int .i64 6]) (by simp [results,Tryz.results48,go_sem,q0,q1]) rfl ?_;refine⟨rfl,F7,⟨zt.out.sys.keep Nz (fun b hb e=>hnf (e▸hb)) (by omega) (by omega),zt.out.box.touch Nz ?_,zt.out.out⟩,⟨((HK.out w7 Yy.out.touch).1).touch Nz ?_,hM.out HJ.out.box.lt HJ.out.out⟩,Un⟩
  ·have:=HX.out.box.lt;show x≠_;omega
  ·have:=HJ.out.box.lt;show jb≠_;omega)
theorem X4(h:Ix w x d p L s F){jb:Nat}{stamp:UInt64}{vs vd:Value}{en:Int}(hj:IM w jb x d p stamp vs vd false en F)(y:Wr)(hk:y.key.size<=16)(ht:y.text.size<=40){v:UInt64}
 (hg:EZ s y.key.data.toList=(v,0))(hv0:v.toNat≠0)(hgo:y.gone=true)(hT:∀off s1,CJ s 1=some (off,s1)->(FX {s1 with ws:=CP s1.ws (off/8) (Dl ⟨stamp,v,y.gone,y.text⟩)} off).2=0)
 {s1:St}{place:UInt64}(ha:FQ s ⟨stamp,v,y.gone,y.text⟩=(s1,place,6)):
 Calls Tryz.prog 48 #[.pointer (some ⟨jb,0,none⟩),ND y] w fun e w'=>e= .returned (.tuple #[.agg #[.int .u64 0,.int .u64 0],.int .i64 6])/\
  ∃F',Ix w' x d p L s1 F'/\IM w' jb x d p stamp vs vd false en F'/\Aq F F' w w':=by
 obtain⟨W,hW⟩:∃W,W=(w.alloc (.cells #[.string y.key,.string y.text,.bool true] 87)).alloc (.cells #[.int .u64 0,.int .u64 0] 115):=⟨_,rfl⟩;have hb0:Below w.heap.size w W:=by rw [hW];exact((Below.refl _ _).alloc (Ad _) _).alloc (by simp) _
 have BY:BH W w.heap.size 87 [.string y.key,.string y.text,.bool true]:=by rw [hW];exact(heap_alloc_old _ _ (by simp)).trans (heap_alloc_new _ _)
 have BP:BH W (w.heap.size+1) 115 [.int .u64 0,.int .u64 0]:=by
  have:=heap_alloc_new (w.alloc (.cells #[.string y.key,.string y.text,.bool true] 87)) (.cells #[.int .u64 0,.int .u64 0] 115);rw [show(w.alloc (.cells #[.string y.key,.string y.text,.bool true] 87)).heap.size=w.heap.size+1 by simp,<-hW]at this;exact this
 have hJ0:=hj.box.below hb0 hj.box.lt;have hX0:=h.below hb0;have HG:=Aa (fun W'(k:Below W.heap.size W W')=>GR (hX0.below k) y.key (by omega));rw [hg]at HG;unfold GetPost at HG;have HJ:=Aa hj;have HX:=Aa h;have HW:=Aa hW;have Hb0:=Aa hb0;have Tt:=Aa BY;have Tu:=Aa BP;have y0:=BY.cell 0;have y1:=BY.cell 1;have y2:=BY.cell 2;have j2:=hJ0.cell 2;have j0:=hJ0.cell 0;have j1:=hJ0.cell 1;have j3:=hJ0.cell 3;unfold Bv at j0 j1 j2 j3;simp only [Ac,Ae]at y0 y1 y2 j0 j1 j2 j3;unfold ND;have tv:((v.toNat:Int)==0)=false:=by rw [beq_eq_false_iff_ne];omega
 have tv2:(v.toNat==0)=false:=by rw [beq_eq_false_iff_ne];exact hv0
 clear hv0;rw [hgo]at hT ha⊢;clear h hj hb0 hW BY BP hJ0 hX0 hg hgo;go_enter Tryz.func48,Tryz.ntmps48
 go_wp2_with fail
 rw [<-HW.out];have Hg:Hid (∀b,F b->b<w.heap.size):=Aa (fun b hb=>HX.out.sys.lt b hb);have HK:=Aa (fun W'(k:Touch F W W')=>And.intro ((HJ.out.box.below Hb0.out HJ.out.box.lt).touch k HJ.out.out) (And.intro (Tt.out.touch k (fun hf=>absurd (Hg.out _ hf) (by omega))) (Tu.out.touch k (fun hf=>absurd (Hg.out _ hf) (by omega)))));have RJ:Hid (∀W',Touch F W W'->W'.cell? ⟨jb,2,none⟩=some (.pointer (some ⟨x,0,none⟩))/\W'.cell? ⟨w.heap.size,0,none⟩=some (.string y.key)):=Aa (fun W' k=>⟨(HK.out W' k).1.cell 2,(HK.out W' k).2.1.cell 0⟩);clear Tt Tu
 go_region_held3(fun w'=>w'.cell? ⟨jb,2,none⟩=some (.pointer (some ⟨x,0,none⟩))/\w'.cell? ⟨w.heap.size,0,none⟩=some (.string y.key))(first| exact⟨j2,y0⟩| exact RJ.out _ (Touch.of_below Lt))((first| (go_at_call 91;refine(HG.out _ ((Dr.drew _).below _)).mono ?_;rintro e w3⟨rfl,hbg⟩;have Lt:Below W.heap.size W w3:=((Dr.drew W).below _).trans hbg)))
 have HT3:=Aa (Touch.of_below (F:=F) Lt);have HB3:=Aa Lt;obtain⟨K1,K2,K3⟩:=HK.out w3 HT3.out;replace y0:=K2.cell 0;replace y1:=K2.cell 1;replace y2:=K2.cell 2;replace j3:=K1.cell 3;replace j0:=K1.cell 0;replace j1:=K1.cell 1;unfold Bv at j0 j1 j3;simp only [Ac,Ae]at y0 y1 y2 j0 j1 j3;have l1:=K1.lt;have l2:=K2.lt;clear K1 K2 K3 hbg Lt j2 HG
 go_wp2_with fail
 go_region
 all_goals(
  obtain⟨W8,Nc⟩:∃W8,W8=(w3.alloc (.cells #[.int .u64 (stamp.toNat:Int),.int .u64 (v.toNat:Int),.bool true,.string y.text] 89)).drew:=⟨_,rfl⟩;rw [<-Nc];have hb8:Below w3.heap.size w3 W8:=by rw [Nc];exact((Below.refl _ _).alloc (Ad _) _).drew
  have BR:BH W8 w3.heap.size 89 [.int .u64 (stamp.toNat:Int),.int .u64 (v.toNat:Int),.bool true,.string y.text]:=by rw [Nc];exact heap_alloc_new _ _
  have Jf:Below W.heap.size W W8:=HB3.out.trans (hb8.mono HB3.out.size);have JM:=Aa Jf;have HA:=Aa (fun W'(k:Below W8.heap.size W8 W')=>Jp (((HX.out.sys.below Hb0.out).below Jf).below k) ⟨stamp,v,true,y.text⟩ (by show y.text.size<=_;omega) hT);unfold Ku at HA;rw [ha]at HA;unfold gY at HA;have J7:¬F w3.heap.size:=fun hf=>absurd (Hg.out _ hf) (by have:=HB3.out.size;have:=Hb0.out.size;omega)
  have PX:Hid (∀w',Touch F W8 w'->w'.cell? ⟨jb,0,none⟩=some (.pointer (some ⟨d,0,none⟩))/\w'.cell? ⟨jb,1,none⟩=some (.pointer (some ⟨p,0,none⟩))/\w'.cell? ⟨w3.heap.size,0,none⟩=some (.int .u64 (stamp.toNat:Int))/\w'.cell? ⟨w3.heap.size,1,none⟩=some (.int .u64 (v.toNat:Int))/\w'.cell? ⟨w3.heap.size,2,none⟩=some (.bool true)/\w'.cell? ⟨w3.heap.size,3,none⟩=some (.string y.text)):=Aa (fun W' k=>⟨(HK.out W' ((Touch.of_below Jf).trans k (fun _ e=> .inl e))).1.cell 0,(HK.out W' ((Touch.of_below Jf).trans k (fun _ e=> .inl e))).1.cell 1,(BR.touch k J7).cell 0,(BR.touch k J7).cell 1,(BR.touch k J7).cell 2,(BR.touch k J7).cell 3⟩);have hk8:=PX.out W8 (Touch.refl _ _);clear Nc hb8 BR Jf j0 j1 j3 y0 y1 y2 l1 l2 J7
  go_wp2_with fail
  go_region_held3(fun w'=>w'.cell? ⟨jb,0,none⟩=some (.pointer (some ⟨d,0,none⟩))/\w'.cell? ⟨jb,1,none⟩=some (.pointer (some ⟨p,0,none⟩))/\w'.cell? ⟨w3.heap.size,0,none⟩=some (.int .u64 (stamp.toNat:Int))/\w'.cell? ⟨w3.heap.size,1,none⟩=some (.int .u64 (v.toNat:Int))/\w'.cell? ⟨w3.heap.size,2,none⟩=some (.bool true)/\w'.cell? ⟨w3.heap.size,3,none⟩=some (.string y.text))(first| exact hk8| exact PX.out _ ((Touch.of_below ((Dr.drew W8).below _)).trans Hz.touch (fun _ e=> .inl e)))((first| (go_at_call 92;refine(HA.out _ ((Dr.drew W8).below _)).mono ?_;rintro e w5⟨rfl,F5,hS5,Hz⟩))))
 all_goals(
  have FO:Aq F F5 W w5:=(Aq.of_below (JM.out.trans (((Dr.drew W8).below _).mono JM.out.size))).trans Hz;have LQ:Ix w5 x d p L s1 F5:=(HX.out.below Hb0.out).move hS5 FO;have KP:=Aa FO;have dI:=Aa LQ;clear Hz FO LQ hS5 hk8 HA PX JM;have k3:=(HK.out w5 KP.out.touch).2.2;have p0:=k3.cell 0;have p1:=k3.cell 1;have f0:=k3.frozen 0;have f1:=k3.frozen 1;simp only [Ac,Ae]at p0 p1;have LP:=Aa k3;clear k3
  go_wp2_with fail)
 all_goals(
  have K7:=(LP.out.AV 0 (.int .u64 0)).AV 1 (.int .u64 0);have q0:=K7.cell 0;have q1:=K7.cell 1;simp only [Aj,Am,Ac,Ae]at q0 q1;have Nz:Touch (fun k=>k=w.heap.size+1) w5 ((w5.setCell ⟨w.heap.size+1,0,none⟩ (.int .u64 0)).setCell ⟨w.heap.size+1,1,none⟩ (.int .u64 0)):=((Touch.refl (fun k=>k=w.heap.size+1) w5).setCell (p:=⟨w.heap.size+1,0,none⟩) (.inl rfl) _).setCell (p:=⟨w.heap.size+1,1,none⟩) (.inl rfl) _;have hM:Aq F F5 w w5:=(Aq.of_below Hb0.out).trans KP.out;have Un:=(hM.set (p:=⟨w.heap.size+1,0,none⟩) (.inr (Di _)) (.int .u64 0)).set (p:=⟨w.heap.size+1,1,none⟩) (.inr (Di _)) (.int .u64 0);have hnf:¬F5 (w.heap.size+1):=fun h6=>(KP.out.own _ h6).elim (fun hf=>absurd (Hg.out _ hf) (by omega)) (fun hs=>absurd LP.out.lt (by have:=(HK.out W (Touch.refl _ _)).2.2.lt;omega))
  have htab:=HX.out.sys.tabs.lt;refine bodyPost_ret (v:= .tuple #[.agg #[.int .u64 0,.int .u64 0],.int .i64 6]) (by simp [results,Tryz.results48,go_sem,q0,q1]) rfl ?_;refine⟨rfl,F5,⟨dI.out.sys.keep Nz (fun b hb e=>hnf (e▸hb)) (by omega) (by omega),dI.out.box.touch Nz ?_,dI.out.out⟩,⟨((HK.out w5 KP.out.touch).1).touch Nz ?_,hM.out HJ.out.box.lt HJ.out.out⟩,Un⟩
  ·have:=HX.out.box.lt;show x≠_;omega
  ·have:=HJ.out.box.lt;show jb≠_;omega)
theorem X5(h:Ix w x d p L s F){jb:Nat}{stamp:UInt64}{vs vd:Value}{en:Int}(hj:IM w jb x d p stamp vs vd false en F)(y:Wr)(hk:y.key.size<=16)(ht:y.text.size<=40){v:UInt64}
 (hg:EZ s y.key.data.toList=(v,0))(hv0:v.toNat≠0)(hgo:y.gone=false)(hT:∀off s1,CJ s 1=some (off,s1)->(FX {s1 with ws:=CP s1.ws (off/8) (Dl ⟨stamp,v,y.gone,y.text⟩)} off).2=0)
 {s1:St}{place:UInt64}(ha:FQ s ⟨stamp,v,y.gone,y.text⟩=(s1,place,6)):
 Calls Tryz.prog 48 #[.pointer (some ⟨jb,0,none⟩),ND y] w fun e w'=>e= .returned (.tuple #[.agg #[.int .u64 0,.int .u64 0],.int .i64 6])/\
  ∃F',Ix w' x d p L s1 F'/\IM w' jb x d p stamp vs vd false en F'/\Aq F F' w w':=by
 obtain⟨W,hW⟩:∃W,W=(w.alloc (.cells #[.string y.key,.string y.text,.bool false] 87)).alloc (.cells #[.int .u64 0,.int .u64 0] 115):=⟨_,rfl⟩;have hb0:Below w.heap.size w W:=by rw [hW];exact((Below.refl _ _).alloc (Ad _) _).alloc (by simp) _
 have BY:BH W w.heap.size 87 [.string y.key,.string y.text,.bool false]:=by rw [hW];exact(heap_alloc_old _ _ (by simp)).trans (heap_alloc_new _ _)
 have BP:BH W (w.heap.size+1) 115 [.int .u64 0,.int .u64 0]:=by
  have:=heap_alloc_new (w.alloc (.cells #[.string y.key,.string y.text,.bool false] 87)) (.cells #[.int .u64 0,.int .u64 0] 115);rw [show(w.alloc (.cells #[.string y.key,.string y.text,.bool false] 87)).heap.size=w.heap.size+1 by simp,<-hW]at this;exact this
 have hJ0:=hj.box.below hb0 hj.box.lt;have hX0:=h.below hb0;have HG:=Aa (fun W'(k:Below W.heap.size W W')=>GR (hX0.below k) y.key (by omega));rw [hg]at HG;unfold GetPost at HG;have HJ:=Aa hj;have HX:=Aa h;have HW:=Aa hW;have Hb0:=Aa hb0;have Tt:=Aa BY;have Tu:=Aa BP;have y0:=BY.cell 0;have y1:=BY.cell 1;have y2:=BY.cell 2;have j2:=hJ0.cell 2;have j0:=hJ0.cell 0;have j1:=hJ0.cell 1;have j3:=hJ0.cell 3;unfold Bv at j0 j1 j2 j3;simp only [Ac,Ae]at y0 y1 y2 j0 j1 j2 j3;unfold ND;have tv:((v.toNat:Int)==0)=false:=by rw [beq_eq_false_iff_ne];omega
 have tv2:(v.toNat==0)=false:=by rw [beq_eq_false_iff_ne];exact hv0
 clear hv0;rw [hgo]at hT ha⊢;clear h hj hb0 hW BY BP hJ0 hX0 hg hgo;go_enter Tryz.func48,Tryz.ntmps48
 go_wp2_with fail
 rw [<-HW.out];have Hg:Hid (∀b,F b->b<w.heap.size):=Aa (fun b hb=>HX.out.sys.lt b hb);have HK:=Aa (fun W'(k:Touch F W W')=>And.intro ((HJ.out.box.below Hb0.out HJ.out.box.lt).touch k HJ.out.out) (And.intro (Tt.out.touch k (fun hf=>absurd (Hg.out _ hf) (by omega))) (Tu.out.touch k (fun hf=>absurd (Hg.out _ hf) (by omega)))));have RJ:Hid (∀W',Touch F W W'->W'.cell? ⟨jb,2,none⟩=some (.pointer (some ⟨x,0,none⟩))/\W'.cell? ⟨w.heap.size,0,none⟩=some (.string y.key)):=Aa (fun W' k=>⟨(HK.out W' k).1.cell 2,(HK.out W' k).2.1.cell 0⟩);clear Tt Tu
 go_region_held3(fun w'=>w'.cell? ⟨jb,2,none⟩=some (.pointer (some ⟨x,0,none⟩))/\w'.cell? ⟨w.heap.size,0,none⟩=some (.string y.key))(first| exact⟨j2,y0⟩| exact RJ.out _ (Touch.of_below Lt))((first| (go_at_call 91;refine(HG.out _ ((Dr.drew _).below _)).mono ?_;rintro e w3⟨rfl,hbg⟩;have Lt:Below W.heap.size W w3:=((Dr.drew W).below _).trans hbg)))
 have HT3:=Aa (Touch.of_below (F:=F) Lt);have HB3:=Aa Lt;obtain⟨K1,K2,K3⟩:=HK.out w3 HT3.out;replace y0:=K2.cell 0;replace y1:=K2.cell 1;replace y2:=K2.cell 2;replace j3:=K1.cell 3;replace j0:=K1.cell 0;replace j1:=K1.cell 1;unfold Bv at j0 j1 j3;simp only [Ac,Ae]at y0 y1 y2 j0 j1 j3;have l1:=K1.lt;have l2:=K2.lt;clear K1 K2 K3 hbg Lt j2 HG
 go_wp2_with fail
 go_region
 all_goals(
  obtain⟨W8,Nc⟩:∃W8,W8=(w3.alloc (.cells #[.int .u64 (stamp.toNat:Int),.int .u64 (v.toNat:Int),.bool false,.string y.text] 89)).drew:=⟨_,rfl⟩;rw [<-Nc];have hb8:Below w3.heap.size w3 W8:=by rw [Nc];exact((Below.refl _ _).alloc (Ad _) _).drew
  have BR:BH W8 w3.heap.size 89 [.int .u64 (stamp.toNat:Int),.int .u64 (v.toNat:Int),.bool false,.string y.text]:=by rw [Nc];exact heap_alloc_new _ _
  have Jf:Below W.heap.size W W8:=HB3.out.trans (hb8.mono HB3.out.size);have JM:=Aa Jf;have HA:=Aa (fun W'(k:Below W8.heap.size W8 W')=>Jp (((HX.out.sys.below Hb0.out).below Jf).below k) ⟨stamp,v,false,y.text⟩ (by show y.text.size<=_;omega) hT);unfold Ku at HA;rw [ha]at HA;unfold gY at HA;have J7:¬F w3.heap.size:=fun hf=>absurd (Hg.out _ hf) (by have:=HB3.out.size;have:=Hb0.out.size;omega)
  have PX:Hid (∀w',Touch F W8 w'->w'.cell? ⟨jb,0,none⟩=some (.pointer (some ⟨d,0,none⟩))/\w'.cell? ⟨jb,1,none⟩=some (.pointer (some ⟨p,0,none⟩))/\w'.cell? ⟨w3.heap.size,0,none⟩=some (.int .u64 (stamp.toNat:Int))/\w'.cell? ⟨w3.heap.size,1,none⟩=some (.int .u64 (v.toNat:Int))/\w'.cell? ⟨w3.heap.size,2,none⟩=some (.bool false)/\w'.cell? ⟨w3.heap.size,3,none⟩=some (.string y.text)):=Aa (fun W' k=>⟨(HK.out W' ((Touch.of_below Jf).trans k (fun _ e=> .inl e))).1.cell 0,(HK.out W' ((Touch.of_below Jf).trans k (fun _ e=> .inl e))).1.cell 1,(BR.touch k J7).cell 0,(BR.touch k J7).cell 1,(BR.touch k J7).cell 2,(BR.touch k J7).cell 3⟩);have hk8:=PX.out W8 (Touch.refl _ _);clear Nc hb8 BR Jf j0 j1 j3 y0 y1 y2 l1 l2 J7
  go_wp2_with fail
  go_region_held3(fun w'=>w'.cell? ⟨jb,0,none⟩=some (.pointer (some ⟨d,0,none⟩))/\w'.cell? ⟨jb,1,none⟩=some (.pointer (some ⟨p,0,none⟩))/\w'.cell? ⟨w3.heap.size,0,none⟩=some (.int .u64 (stamp.toNat:Int))/\w'.cell? ⟨w3.heap.size,1,none⟩=some (.int .u64 (v.toNat:Int))/\w'.cell? ⟨w3.heap.size,2,none⟩=some (.bool false)/\w'.cell? ⟨w3.heap.size,3,none⟩=some (.string y.text))(first| exact hk8| exact PX.out _ ((Touch.of_below ((Dr.drew W8).below _)).trans Hz.touch (fun _ e=> .inl e)))((first| (go_at_call 92;refine(HA.out _ ((Dr.drew W8).below _)).mono ?_;rintro e w5⟨rfl,F5,hS5,Hz⟩))))
 all_goals(
  have FO:Aq F F5 W w5:=(Aq.of_below (JM.out.trans (((Dr.drew W8).below _).mono JM.out.size))).trans Hz;have LQ:Ix w5 x d p L s1 F5:=(HX.out.below Hb0.out).move hS5 FO;have KP:=Aa FO;have dI:=Aa LQ;clear Hz FO LQ hS5 hk8 HA PX JM;have k3:=(HK.out w5 KP.out.touch).2.2;have p0:=k3.cell 0;have p1:=k3.cell 1;have f0:=k3.frozen 0;have f1:=k3.frozen 1;simp only [Ac,Ae]at p0 p1;have LP:=Aa k3;clear k3
  go_wp2_with fail)
 all_goals(
  have K7:=(LP.out.AV 0 (.int .u64 0)).AV 1 (.int .u64 0);have q0:=K7.cell 0;have q1:=K7.cell 1;simp only [Aj,Am,Ac,Ae]at q0 q1;have Nz:Touch (fun k=>k=w.heap.size+1) w5 ((w5.setCell ⟨w.heap.size+1,0,none⟩ (.int .u64 0)).setCell ⟨w.heap.size+1,1,none⟩ (.int .u64 0)):=((Touch.refl (fun k=>k=w.heap.size+1) w5).setCell (p:=⟨w.heap.size+1,0,none⟩) (.inl rfl) _).setCell (p:=⟨w.heap.size+1,1,none⟩) (.inl rfl) _;have hM:Aq F F5 w w5:=(Aq.of_below Hb0.out).trans KP.out;have Un:=(hM.set (p:=⟨w.heap.size+1,0,none⟩) (.inr (Di _)) (.int .u64 0)).set (p:=⟨w.heap.size+1,1,none⟩) (.inr (Di _)) (.int .u64 0);have hnf:¬F5 (w.heap.size+1):=fun h6=>(KP.out.own _ h6).elim (fun hf=>absurd (Hg.out _ hf) (by omega)) (fun hs=>absurd LP.out.lt (by have:=(HK.out W (Touch.refl _ _)).2.2.lt;omega))
  have htab:=HX.out.sys.tabs.lt;refine bodyPost_ret (v:= .tuple #[.agg #[.int .u64 0,.int .u64 0],.int .i64 6]) (by simp [results,Tryz.results48,go_sem,q0,q1]) rfl ?_;refine⟨rfl,F5,⟨dI.out.sys.keep Nz (fun b hb e=>hnf (e▸hb)) (by omega) (by omega),dI.out.box.touch Nz ?_,dI.out.out⟩,⟨((HK.out w5 KP.out.touch).1).touch Nz ?_,hM.out HJ.out.box.lt HJ.out.out⟩,Un⟩
  ·have:=HX.out.box.lt;show x≠_;omega
  ·have:=HJ.out.box.lt;show jb≠_;omega)
theorem X7(h:Ix w x d p L s F){jb:Nat}{stamp:UInt64}{vs vd:Value}{en:Int}(hj:IM w jb x d p stamp vs vd false en F)(y:Wr)(hk:y.key.size<=16)(ht:y.text.size<=40){v:UInt64}
 (hg:EZ s y.key.data.toList=(v,0))(hv0:v.toNat≠0)(hgo:y.gone=true)(hT:∀off s1,CJ s 1=some (off,s1)->(FX {s1 with ws:=CP s1.ws (off/8) (Dl ⟨stamp,v,y.gone,y.text⟩)} off).2=0)
 {s1 s2:St}{place:UInt64}(_:place.toNat<=65536)(ha:FQ s ⟨stamp,v,y.gone,y.text⟩=(s1,place,0))(hp:FZ s1 y.key.data.toList place=(s2,6)):
 Calls Tryz.prog 48 #[.pointer (some ⟨jb,0,none⟩),ND y] w fun e w'=>e= .returned (.tuple #[.agg #[.int .u64 0,.int .u64 0],.int .i64 6])/\
  ∃F',Ix w' x d p L (EJ s2 (AX place)).1 F'/\IM w' jb x d p stamp vs vd false en F'/\Aq F F' w w':=by
 obtain⟨W,hW⟩:∃W,W=(w.alloc (.cells #[.string y.key,.string y.text,.bool true] 87)).alloc (.cells #[.int .u64 0,.int .u64 0] 115):=⟨_,rfl⟩;have hb0:Below w.heap.size w W:=by rw [hW];exact((Below.refl _ _).alloc (Ad _) _).alloc (by simp) _
 have BY:BH W w.heap.size 87 [.string y.key,.string y.text,.bool true]:=by rw [hW];exact(heap_alloc_old _ _ (by simp)).trans (heap_alloc_new _ _)
 have BP:BH W (w.heap.size+1) 115 [.int .u64 0,.int .u64 0]:=by
  have:=heap_alloc_new (w.alloc (.cells #[.string y.key,.string y.text,.bool true] 87)) (.cells #[.int .u64 0,.int .u64 0] 115);rw [show(w.alloc (.cells #[.string y.key,.string y.text,.bool true] 87)).heap.size=w.heap.size+1 by simp,<-hW]at this;exact this
 have hJ0:=hj.box.below hb0 hj.box.lt;have hX0:=h.below hb0;have HG:=Aa (fun W'(k:Below W.heap.size W W')=>GR (hX0.below k) y.key (by omega));rw [hg]at HG;unfold GetPost at HG;have HJ:=Aa hj;have HX:=Aa h;have HW:=Aa hW;have Hb0:=Aa hb0;have Tt:=Aa BY;have Tu:=Aa BP;have y0:=BY.cell 0;have y1:=BY.cell 1;have y2:=BY.cell 2;have j2:=hJ0.cell 2;have j0:=hJ0.cell 0;have j1:=hJ0.cell 1;have j3:=hJ0.cell 3;unfold Bv at j0 j1 j2 j3;simp only [Ac,Ae]at y0 y1 y2 j0 j1 j2 j3;unfold ND;have tv:((v.toNat:Int)==0)=false:=by rw [beq_eq_false_iff_ne];omega
 have tv2:(v.toNat==0)=false:=by rw [beq_eq_false_iff_ne];exact hv0
 clear hv0;rw [hgo]at hT ha⊢;clear h hj hb0 hW BY BP hJ0 hX0 hg hgo;go_enter Tryz.func48,Tryz.ntmps48
 go_wp2_with fail
 rw [<-HW.out];have Hg:Hid (∀b,F b->b<w.heap.size):=Aa (fun b hb=>HX.out.sys.lt b hb);have HK:=Aa (fun W'(k:Touch F W W')=>And.intro ((HJ.out.box.below Hb0.out HJ.out.box.lt).touch k HJ.out.out) (And.intro (Tt.out.touch k (fun hf=>absurd (Hg.out _ hf) (by omega))) (Tu.out.touch k (fun hf=>absurd (Hg.out _ hf) (by omega)))));have RJ:Hid (∀W',Touch F W W'->W'.cell? ⟨jb,2,none⟩=some (.pointer (some ⟨x,0,none⟩))/\W'.cell? ⟨w.heap.size,0,none⟩=some (.string y.key)):=Aa (fun W' k=>⟨(HK.out W' k).1.cell 2,(HK.out W' k).2.1.cell 0⟩);clear Tt Tu
 go_region_held3(fun w'=>w'.cell? ⟨jb,2,none⟩=some (.pointer (some ⟨x,0,none⟩))/\w'.cell? ⟨w.heap.size,0,none⟩=some (.string y.key))(first| exact⟨j2,y0⟩| exact RJ.out _ (Touch.of_below Lt))((first| (go_at_call 91;refine(HG.out _ ((Dr.drew _).below _)).mono ?_;rintro e w3⟨rfl,hbg⟩;have Lt:Below W.heap.size W w3:=((Dr.drew W).below _).trans hbg)))
 have HT3:=Aa (Touch.of_below (F:=F) Lt);have HB3:=Aa Lt;obtain⟨K1,K2,K3⟩:=HK.out w3 HT3.out;replace y0:=K2.cell 0;replace y1:=K2.cell 1;replace y2:=K2.cell 2;replace j3:=K1.cell 3;replace j0:=K1.cell 0;replace j1:=K1.cell 1;unfold Bv at j0 j1 j3;simp only [Ac,Ae]at y0 y1 y2 j0 j1 j3;have l1:=K1.lt;have l2:=K2.lt;clear K1 K2 K3 hbg Lt j2 HG
 go_wp2_with fail
 go_region
 all_goals(
  obtain⟨W8,Nc⟩:∃W8,W8=(w3.alloc (.cells #[.int .u64 (stamp.toNat:Int),.int .u64 (v.toNat:Int),.bool true,.string y.text] 89)).drew:=⟨_,rfl⟩;rw [<-Nc];have hb8:Below w3.heap.size w3 W8:=by rw [Nc];exact((Below.refl _ _).alloc (Ad _) _).drew
  have BR:BH W8 w3.heap.size 89 [.int .u64 (stamp.toNat:Int),.int .u64 (v.toNat:Int),.bool true,.string y.text]:=by rw [Nc];exact heap_alloc_new _ _
  have Jf:Below W.heap.size W W8:=HB3.out.trans (hb8.mono HB3.out.size);have JM:=Aa Jf;have HA:=Aa (fun W'(k:Below W8.heap.size W8 W')=>Jp (((HX.out.sys.below Hb0.out).below Jf).below k) ⟨stamp,v,true,y.text⟩ (by show y.text.size<=_;omega) hT);unfold Ku at HA;rw [ha]at HA;unfold gY at HA;have J7:¬F w3.heap.size:=fun hf=>absurd (Hg.out _ hf) (by have:=HB3.out.size;have:=Hb0.out.size;omega)
  have PX:Hid (∀w',Touch F W8 w'->w'.cell? ⟨jb,0,none⟩=some (.pointer (some ⟨d,0,none⟩))/\w'.cell? ⟨jb,1,none⟩=some (.pointer (some ⟨p,0,none⟩))/\w'.cell? ⟨w3.heap.size,0,none⟩=some (.int .u64 (stamp.toNat:Int))/\w'.cell? ⟨w3.heap.size,1,none⟩=some (.int .u64 (v.toNat:Int))/\w'.cell? ⟨w3.heap.size,2,none⟩=some (.bool true)/\w'.cell? ⟨w3.heap.size,3,none⟩=some (.string y.text)):=Aa (fun W' k=>⟨(HK.out W' ((Touch.of_below Jf).trans k (fun _ e=> .inl e))).1.cell 0,(HK.out W' ((Touch.of_below Jf).trans k (fun _ e=> .inl e))).1.cell 1,(BR.touch k J7).cell 0,(BR.touch k J7).cell 1,(BR.touch k J7).cell 2,(BR.touch k J7).cell 3⟩);have hk8:=PX.out W8 (Touch.refl _ _);clear Nc hb8 BR Jf j0 j1 j3 y0 y1 y2 l1 l2 J7
  go_wp2_with fail
  go_region_held3(fun w'=>w'.cell? ⟨jb,0,none⟩=some (.pointer (some ⟨d,0,none⟩))/\w'.cell? ⟨jb,1,none⟩=some (.pointer (some ⟨p,0,none⟩))/\w'.cell? ⟨w3.heap.size,0,none⟩=some (.int .u64 (stamp.toNat:Int))/\w'.cell? ⟨w3.heap.size,1,none⟩=some (.int .u64 (v.toNat:Int))/\w'.cell? ⟨w3.heap.size,2,none⟩=some (.bool true)/\w'.cell? ⟨w3.heap.size,3,none⟩=some (.string y.text))(first| exact hk8| exact PX.out _ ((Touch.of_below ((Dr.drew W8).below _)).trans Hz.touch (fun _ e=> .inl e)))((first| (go_at_call 92;refine(HA.out _ ((Dr.drew W8).below _)).mono ?_;rintro e w5⟨rfl,F5,hS5,Hz⟩))))
 all_goals(
  have FO:Aq F F5 W w5:=(Aq.of_below (JM.out.trans (((Dr.drew W8).below _).mono JM.out.size))).trans Hz;have LQ:Ix w5 x d p L s1 F5:=(HX.out.below Hb0.out).move hS5 FO;have Pz:=Aa (fun W'(k:Below w5.heap.size w5 W')=>JR (LQ.below k) y.key (by omega) place);rw [hp]at Pz;unfold I7 at Pz;have hk5:=RJ.out w5 FO.touch;have KP:=Aa FO;clear Hz FO LQ hS5 hk8 HA PX JM
  go_wp2_with fail
  go_region_held3(fun w'=>w'.cell? ⟨jb,2,none⟩=some (.pointer (some ⟨x,0,none⟩))/\w'.cell? ⟨w.heap.size,0,none⟩=some (.string y.key))(first| exact hk5| exact RJ.out _ (KP.out.trans ((Aq.of_below ((Dr.drew w5).below _)).trans RN)).touch)((first| (go_at_call 93;refine(Pz.out _ ((Dr.drew w5).below _)).mono ?_;rintro e w6⟨rfl,F6,iY,RN⟩))))
 all_goals(
  have Tm:=Aa (KP.out.trans ((Aq.of_below ((Dr.drew w5).below _)).trans RN));have XY:=Aa iY;clear iY RN hk5 Pz;have hwr:IntKind.i64.wrap (place.toNat:Int)=AX place:=rfl;have hof: -9223372036854775808<=AX place/\AX place<=9223372036854775807:=Jo place;have HD:=Aa (fun W'(k:Below w6.heap.size w6 W')=>LK (XY.out.sys.below k) (AX place) hof);have K1:=(HK.out w6 Tm.out.touch).1;replace j1:=K1.cell 1;unfold Bv at j1;simp only [Ac,Ae]at j1;clear K1 hof
  go_wp2_with fail
  refine(HD.out _ (Below.refl _ _)).mono ?_;rintro e w7⟨rfl,F7,hS7,X3⟩;have zt:=Aa (XY.out.move hS7 X3);have Yy:=Aa (Tm.out.trans X3);clear HD hS7 X3 j1 hwr;have k3:=(HK.out w7 Yy.out.touch).2.2;have p0:=k3.cell 0;have p1:=k3.cell 1;have f0:=k3.frozen 0;have f1:=k3.frozen 1;simp only [Ac,Ae]at p0 p1;have LP:=Aa k3;clear k3
  go_wp2_with fail)
 all_goals(
  have K7:=(LP.out.AV 0 (.int .u64 0)).AV 1 (.int .u64 0);have q0:=K7.cell 0;have q1:=K7.cell 1;simp only [Aj,Am,Ac,Ae]at q0 q1;have Nz:Touch (fun k=>k=w.heap.size+1) w7 ((w7.setCell ⟨w.heap.size+1,0,none⟩ (.int .u64 0)).setCell ⟨w.heap.size+1,1,none⟩ (.int .u64 0)):=((Touch.refl (fun k=>k=w.heap.size+1) w7).setCell (p:=⟨w.heap.size+1,0,none⟩) (.inl rfl) _).setCell (p:=⟨w.heap.size+1,1,none⟩) (.inl rfl) _;have hM:Aq F F7 w w7:=(Aq.of_below Hb0.out).trans Yy.out;have Un:=(hM.set (p:=⟨w.heap.size+1,0,none⟩) (.inr (Di _)) (.int .u64 0)).set (p:=⟨w.heap.size+1,1,none⟩) (.inr (Di _)) (.int .u64 0);have hnf:¬F7 (w.heap.size+1):=fun h6=>(Yy.out.own _ h6).elim (fun hf=>absurd (Hg.out _ hf) (by omega)) (fun hs=>absurd LP.out.lt (by have:=(HK.out W (Touch.refl _ _)).2.2.lt;omega))
  have htab:=HX.out.sys.tabs.lt;refine bodyPost_ret (v:= .tuple #[.agg #[.int .u64 0,.int .u64 0],.int .i64 6]) (by simp [results,Tryz.results48,go_sem,q0,q1]) rfl ?_;refine⟨rfl,F7,⟨zt.out.sys.keep Nz (fun b hb e=>hnf (e▸hb)) (by omega) (by omega),zt.out.box.touch Nz ?_,zt.out.out⟩,⟨((HK.out w7 Yy.out.touch).1).touch Nz ?_,hM.out HJ.out.box.lt HJ.out.out⟩,Un⟩
  ·have:=HX.out.box.lt;show x≠_;omega
  ·have:=HJ.out.box.lt;show jb≠_;omega)
theorem X8(h:Ix w x d p L s F){jb:Nat}{stamp:UInt64}{vs vd:Value}{en:Int}(hj:IM w jb x d p stamp vs vd false en F)(y:Wr)(hk:y.key.size<=16)(ht:y.text.size<=40){v:UInt64}
 (hg:EZ s y.key.data.toList=(v,0))(hv0:v.toNat≠0)(hgo:y.gone=false)(hT:∀off s1,CJ s 1=some (off,s1)->(FX {s1 with ws:=CP s1.ws (off/8) (Dl ⟨stamp,v,y.gone,y.text⟩)} off).2=0)
 {s1 s2:St}{place:UInt64}(_:place.toNat<=65536)(ha:FQ s ⟨stamp,v,y.gone,y.text⟩=(s1,place,0))(hp:FZ s1 y.key.data.toList place=(s2,6)):
 Calls Tryz.prog 48 #[.pointer (some ⟨jb,0,none⟩),ND y] w fun e w'=>e= .returned (.tuple #[.agg #[.int .u64 0,.int .u64 0],.int .i64 6])/\
  ∃F',Ix w' x d p L (EJ s2 (AX place)).1 F'/\IM w' jb x d p stamp vs vd false en F'/\Aq F F' w w':=by
 obtain⟨W,hW⟩:∃W,W=(w.alloc (.cells #[.string y.key,.string y.text,.bool false] 87)).alloc (.cells #[.int .u64 0,.int .u64 0] 115):=⟨_,rfl⟩;have hb0:Below w.heap.size w W:=by rw [hW];exact((Below.refl _ _).alloc (Ad _) _).alloc (by simp) _
 have BY:BH W w.heap.size 87 [.string y.key,.string y.text,.bool false]:=by rw [hW];exact(heap_alloc_old _ _ (by simp)).trans (heap_alloc_new _ _)
 have BP:BH W (w.heap.size+1) 115 [.int .u64 0,.int .u64 0]:=by
  have:=heap_alloc_new (w.alloc (.cells #[.string y.key,.string y.text,.bool false] 87)) (.cells #[.int .u64 0,.int .u64 0] 115);rw [show(w.alloc (.cells #[.string y.key,.string y.text,.bool false] 87)).heap.size=w.heap.size+1 by simp,<-hW]at this;exact this
 have hJ0:=hj.box.below hb0 hj.box.lt;have hX0:=h.below hb0;have HG:=Aa (fun W'(k:Below W.heap.size W W')=>GR (hX0.below k) y.key (by omega));rw [hg]at HG;unfold GetPost at HG;have HJ:=Aa hj;have HX:=Aa h;have HW:=Aa hW;have Hb0:=Aa hb0;have Tt:=Aa BY;have Tu:=Aa BP;have y0:=BY.cell 0;have y1:=BY.cell 1;have y2:=BY.cell 2;have j2:=hJ0.cell 2;have j0:=hJ0.cell 0;have j1:=hJ0.cell 1;have j3:=hJ0.cell 3;unfold Bv at j0 j1 j2 j3;simp only [Ac,Ae]at y0 y1 y2 j0 j1 j2 j3;unfold ND;have tv:((v.toNat:Int)==0)=false:=by rw [beq_eq_false_iff_ne];omega
 have tv2:(v.toNat==0)=false:=by rw [beq_eq_false_iff_ne];exact hv0
 clear hv0;rw [hgo]at hT ha⊢;clear h hj hb0 hW BY BP hJ0 hX0 hg hgo;go_enter Tryz.func48,Tryz.ntmps48
 go_wp2_with fail
 rw [<-HW.out];have Hg:Hid (∀b,F b->b<w.heap.size):=Aa (fun b hb=>HX.out.sys.lt b hb);have HK:=Aa (fun W'(k:Touch F W W')=>And.intro ((HJ.out.box.below Hb0.out HJ.out.box.lt).touch k HJ.out.out) (And.intro (Tt.out.touch k (fun hf=>absurd (Hg.out _ hf) (by omega))) (Tu.out.touch k (fun hf=>absurd (Hg.out _ hf) (by omega)))));have RJ:Hid (∀W',Touch F W W'->W'.cell? ⟨jb,2,none⟩=some (.pointer (some ⟨x,0,none⟩))/\W'.cell? ⟨w.heap.size,0,none⟩=some (.string y.key)):=Aa (fun W' k=>⟨(HK.out W' k).1.cell 2,(HK.out W' k).2.1.cell 0⟩);clear Tt Tu
 go_region_held3(fun w'=>w'.cell? ⟨jb,2,none⟩=some (.pointer (some ⟨x,0,none⟩))/\w'.cell? ⟨w.heap.size,0,none⟩=some (.string y.key))(first| exact⟨j2,y0⟩| exact RJ.out _ (Touch.of_below Lt))((first| (go_at_call 91;refine(HG.out _ ((Dr.drew _).below _)).mono ?_;rintro e w3⟨rfl,hbg⟩;have Lt:Below W.heap.size W w3:=((Dr.drew W).below _).trans hbg)))
 have HT3:=Aa (Touch.of_below (F:=F) Lt);have HB3:=Aa Lt;obtain⟨K1,K2,K3⟩:=HK.out w3 HT3.out;replace y0:=K2.cell 0;replace y1:=K2.cell 1;replace y2:=K2.cell 2;replace j3:=K1.cell 3;replace j0:=K1.cell 0;replace j1:=K1.cell 1;unfold Bv at j0 j1 j3;simp only [Ac,Ae]at y0 y1 y2 j0 j1 j3;have l1:=K1.lt;have l2:=K2.lt;clear K1 K2 K3 hbg Lt j2 HG
 go_wp2_with fail
 go_region
 all_goals(
  obtain⟨W8,Nc⟩:∃W8,W8=(w3.alloc (.cells #[.int .u64 (stamp.toNat:Int),.int .u64 (v.toNat:Int),.bool false,.string y.text] 89)).drew:=⟨_,rfl⟩;rw [<-Nc];have hb8:Below w3.heap.size w3 W8:=by rw [Nc];exact((Below.refl _ _).alloc (Ad _) _).drew
  have BR:BH W8 w3.heap.size 89 [.int .u64 (stamp.toNat:Int),.int .u64 (v.toNat:Int),.bool false,.string y.text]:=by rw [Nc];exact heap_alloc_new _ _
  have Jf:Below W.heap.size W W8:=HB3.out.trans (hb8.mono HB3.out.size);have JM:=Aa Jf;have HA:=Aa (fun W'(k:Below W8.heap.size W8 W')=>Jp (((HX.out.sys.below Hb0.out).below Jf).below k) ⟨stamp,v,false,y.text⟩ (by show y.text.size<=_;omega) hT);unfold Ku at HA;rw [ha]at HA;unfold gY at HA;have J7:¬F w3.heap.size:=fun hf=>absurd (Hg.out _ hf) (by have:=HB3.out.size;have:=Hb0.out.size;omega)
  have PX:Hid (∀w',Touch F W8 w'->w'.cell? ⟨jb,0,none⟩=some (.pointer (some ⟨d,0,none⟩))/\w'.cell? ⟨jb,1,none⟩=some (.pointer (some ⟨p,0,none⟩))/\w'.cell? ⟨w3.heap.size,0,none⟩=some (.int .u64 (stamp.toNat:Int))/\w'.cell? ⟨w3.heap.size,1,none⟩=some (.int .u64 (v.toNat:Int))/\w'.cell? ⟨w3.heap.size,2,none⟩=some (.bool false)/\w'.cell? ⟨w3.heap.size,3,none⟩=some (.string y.text)):=Aa (fun W' k=>⟨(HK.out W' ((Touch.of_below Jf).trans k (fun _ e=> .inl e))).1.cell 0,(HK.out W' ((Touch.of_below Jf).trans k (fun _ e=> .inl e))).1.cell 1,(BR.touch k J7).cell 0,(BR.touch k J7).cell 1,(BR.touch k J7).cell 2,(BR.touch k J7).cell 3⟩);have hk8:=PX.out W8 (Touch.refl _ _);clear Nc hb8 BR Jf j0 j1 j3 y0 y1 y2 l1 l2 J7
  go_wp2_with fail
  go_region_held3(fun w'=>w'.cell? ⟨jb,0,none⟩=some (.pointer (some ⟨d,0,none⟩))/\w'.cell? ⟨jb,1,none⟩=some (.pointer (some ⟨p,0,none⟩))/\w'.cell? ⟨w3.heap.size,0,none⟩=some (.int .u64 (stamp.toNat:Int))/\w'.cell? ⟨w3.heap.size,1,none⟩=some (.int .u64 (v.toNat:Int))/\w'.cell? ⟨w3.heap.size,2,none⟩=some (.bool false)/\w'.cell? ⟨w3.heap.size,3,none⟩=some (.string y.text))(first| exact hk8| exact PX.out _ ((Touch.of_below ((Dr.drew W8).below _)).trans Hz.touch (fun _ e=> .inl e)))((first| (go_at_call 92;refine(HA.out _ ((Dr.drew W8).below _)).mono ?_;rintro e w5⟨rfl,F5,hS5,Hz⟩))))
 all_goals(
  have FO:Aq F F5 W w5:=(Aq.of_below (JM.out.trans (((Dr.drew W8).below _).mono JM.out.size))).trans Hz;have LQ:Ix w5 x d p L s1 F5:=(HX.out.below Hb0.out).move hS5 FO;have Pz:=Aa (fun W'(k:Below w5.heap.size w5 W')=>JR (LQ.below k) y.key (by omega) place);rw [hp]at Pz;unfold I7 at Pz;have hk5:=RJ.out w5 FO.touch;have KP:=Aa FO;clear Hz FO LQ hS5 hk8 HA PX JM
  go_wp2_with fail
  go_region_held3(fun w'=>w'.cell? ⟨jb,2,none⟩=some (.pointer (some ⟨x,0,none⟩))/\w'.cell? ⟨w.heap.size,0,none⟩=some (.string y.key))(first| exact hk5| exact RJ.out _ (KP.out.trans ((Aq.of_below ((Dr.drew w5).below _)).trans RN)).touch)((first| (go_at_call 93;refine(Pz.out _ ((Dr.drew w5).below _)).mono ?_;rintro e w6⟨rfl,F6,iY,RN⟩))))
 all_goals(
  have Tm:=Aa (KP.out.trans ((Aq.of_below ((Dr.drew w5).below _)).trans RN));have XY:=Aa iY;clear iY RN hk5 Pz;have hwr:IntKind.i64.wrap (place.toNat:Int)=AX place:=rfl;have hof: -9223372036854775808<=AX place/\AX place<=9223372036854775807:=Jo place;have HD:=Aa (fun W'(k:Below w6.heap.size w6 W')=>LK (XY.out.sys.below k) (AX place) hof);have K1:=(HK.out w6 Tm.out.touch).1;replace j1:=K1.cell 1;unfold Bv at j1;simp only [Ac,Ae]at j1;clear K1 hof
  go_wp2_with fail
  refine(HD.out _ (Below.refl _ _)).mono ?_;rintro e w7⟨rfl,F7,hS7,X3⟩;have zt:=Aa (XY.out.move hS7 X3);have Yy:=Aa (Tm.out.trans X3);clear HD hS7 X3 j1 hwr;have k3:=(HK.out w7 Yy.out.touch).2.2;have p0:=k3.cell 0;have p1:=k3.cell 1;have f0:=k3.frozen 0;have f1:=k3.frozen 1;simp only [Ac,Ae]at p0 p1;have LP:=Aa k3;clear k3
  go_wp2_with fail)
 all_goals(
  have K7:=(LP.out.AV 0 (.int .u64 0)).AV 1 (.int .u64 0);have q0:=K7.cell 0;have q1:=K7.cell 1;simp only [Aj,Am,Ac,Ae]at q0 q1;have Nz:Touch (fun k=>k=w.heap.size+1) w7 ((w7.setCell ⟨w.heap.size+1,0,none⟩ (.int .u64 0)).setCell ⟨w.heap.size+1,1,none⟩ (.int .u64 0)):=((Touch.refl (fun k=>k=w.heap.size+1) w7).setCell (p:=⟨w.heap.size+1,0,none⟩) (.inl rfl) _).setCell (p:=⟨w.heap.size+1,1,none⟩) (.inl rfl) _;have hM:Aq F F7 w w7:=(Aq.of_below Hb0.out).trans Yy.out;have Un:=(hM.set (p:=⟨w.heap.size+1,0,none⟩) (.inr (Di _)) (.int .u64 0)).set (p:=⟨w.heap.size+1,1,none⟩) (.inr (Di _)) (.int .u64 0);have hnf:¬F7 (w.heap.size+1):=fun h6=>(Yy.out.own _ h6).elim (fun hf=>absurd (Hg.out _ hf) (by omega)) (fun hs=>absurd LP.out.lt (by have:=(HK.out W (Touch.refl _ _)).2.2.lt;omega))
  have htab:=HX.out.sys.tabs.lt;refine bodyPost_ret (v:= .tuple #[.agg #[.int .u64 0,.int .u64 0],.int .i64 6]) (by simp [results,Tryz.results48,go_sem,q0,q1]) rfl ?_;refine⟨rfl,F7,⟨zt.out.sys.keep Nz (fun b hb e=>hnf (e▸hb)) (by omega) (by omega),zt.out.box.touch Nz ?_,zt.out.out⟩,⟨((HK.out w7 Yy.out.touch).1).touch Nz ?_,hM.out HJ.out.box.lt HJ.out.out⟩,Un⟩
  ·have:=HX.out.box.lt;show x≠_;omega
  ·have:=HJ.out.box.lt;show jb≠_;omega)
theorem bD(h:Ix w x d p L s F){jb:Nat}{stamp:UInt64}{vs vd:Value}{en:Int}(hj:IM w jb x d p stamp vs vd false en F)(y:Wr)(hk:y.key.size<=16)(ht:y.text.size<=40){v:UInt64}
 (hg:EZ s y.key.data.toList=(v,0))(hv0:v.toNat≠0)(hgo:y.gone=true)(hT:∀off s1,CJ s 1=some (off,s1)->(FX {s1 with ws:=CP s1.ws (off/8) (Dl ⟨stamp,v,y.gone,y.text⟩)} off).2=0)
 {s1 s2:St}{place:UInt64}(ha:FQ s ⟨stamp,v,y.gone,y.text⟩=(s1,place,0))(hp:FZ s1 y.key.data.toList place=(s2,0)):
 Calls Tryz.prog 48 #[.pointer (some ⟨jb,0,none⟩),ND y] w fun e w'=>e= .returned (.tuple #[.agg #[.int .u64 (v.toNat:Int),.int .u64 (place.toNat:Int)],.int .i64 0])/\
  ∃F',Ix w' x d p L s2 F'/\IM w' jb x d p stamp vs vd false en F'/\Aq F F' w w':=by
 obtain⟨W,hW⟩:∃W,W=(w.alloc (.cells #[.string y.key,.string y.text,.bool true] 87)).alloc (.cells #[.int .u64 0,.int .u64 0] 115):=⟨_,rfl⟩;have hb0:Below w.heap.size w W:=by rw [hW];exact((Below.refl _ _).alloc (Ad _) _).alloc (by simp) _
 have BY:BH W w.heap.size 87 [.string y.key,.string y.text,.bool true]:=by rw [hW];exact(heap_alloc_old _ _ (by simp)).trans (heap_alloc_new _ _)
 have BP:BH W (w.heap.size+1) 115 [.int .u64 0,.int .u64 0]:=by
  have:=heap_alloc_new (w.alloc (.cells #[.string y.key,.string y.text,.bool true] 87)) (.cells #[.int .u64 0,.int .u64 0] 115);rw [show(w.alloc (.cells #[.string y.key,.string y.text,.bool true] 87)).heap.size=w.heap.size+1 by simp,<-hW]at this;exact this
 have hJ0:=hj.box.below hb0 hj.box.lt;have hX0:=h.below hb0;have HG:=Aa (fun W'(k:Below W.heap.size W W')=>GR (hX0.below k) y.key (by omega));rw [hg]at HG;unfold GetPost at HG;have HJ:=Aa hj;have HX:=Aa h;have HW:=Aa hW;have Hb0:=Aa hb0;have Tt:=Aa BY;have Tu:=Aa BP;have y0:=BY.cell 0;have y1:=BY.cell 1;have y2:=BY.cell 2;have j2:=hJ0.cell 2;have j0:=hJ0.cell 0;have j1:=hJ0.cell 1;have j3:=hJ0.cell 3;unfold Bv at j0 j1 j2 j3;simp only [Ac,Ae]at y0 y1 y2 j0 j1 j2 j3;unfold ND;have tv:((v.toNat:Int)==0)=false:=by rw [beq_eq_false_iff_ne];omega
 have tv2:(v.toNat==0)=false:=by rw [beq_eq_false_iff_ne];exact hv0
 clear hv0;rw [hgo]at hT ha⊢;clear h hj hb0 hW BY BP hJ0 hX0 hg hgo;go_enter Tryz.func48,Tryz.ntmps48
 go_wp2_with fail
 rw [<-HW.out];have Hg:Hid (∀b,F b->b<w.heap.size):=Aa (fun b hb=>HX.out.sys.lt b hb);have HK:=Aa (fun W'(k:Touch F W W')=>And.intro ((HJ.out.box.below Hb0.out HJ.out.box.lt).touch k HJ.out.out) (And.intro (Tt.out.touch k (fun hf=>absurd (Hg.out _ hf) (by omega))) (Tu.out.touch k (fun hf=>absurd (Hg.out _ hf) (by omega)))));have RJ:Hid (∀W',Touch F W W'->W'.cell? ⟨jb,2,none⟩=some (.pointer (some ⟨x,0,none⟩))/\W'.cell? ⟨w.heap.size,0,none⟩=some (.string y.key)):=Aa (fun W' k=>⟨(HK.out W' k).1.cell 2,(HK.out W' k).2.1.cell 0⟩);clear Tt Tu
 go_region_held3(fun w'=>w'.cell? ⟨jb,2,none⟩=some (.pointer (some ⟨x,0,none⟩))/\w'.cell? ⟨w.heap.size,0,none⟩=some (.string y.key))(first| exact⟨j2,y0⟩| exact RJ.out _ (Touch.of_below Lt))((first| (go_at_call 91;refine(HG.out _ ((Dr.drew _).below _)).mono ?_;rintro e w3⟨rfl,hbg⟩;have Lt:Below W.heap.size W w3:=((Dr.drew W).below _).trans hbg)))
 have HT3:=Aa (Touch.of_below (F:=F) Lt);have HB3:=Aa Lt;obtain⟨K1,K2,K3⟩:=HK.out w3 HT3.out;replace y0:=K2.cell 0;replace y1:=K2.cell 1;replace y2:=K2.cell 2;replace j3:=K1.cell 3;replace j0:=K1.cell 0;replace j1:=K1.cell 1;unfold Bv at j0 j1 j3;simp only [Ac,Ae]at y0 y1 y2 j0 j1 j3;have l1:=K1.lt;have l2:=K2.lt;clear K1 K2 K3 hbg Lt j2 HG
 go_wp2_with fail
 go_region
 all_goals(
  obtain⟨W8,Nc⟩:∃W8,W8=(w3.alloc (.cells #[.int .u64 (stamp.toNat:Int),.int .u64 (v.toNat:Int),.bool true,.string y.text] 89)).drew:=⟨_,rfl⟩;rw [<-Nc];have hb8:Below w3.heap.size w3 W8:=by rw [Nc];exact((Below.refl _ _).alloc (Ad _) _).drew
  have BR:BH W8 w3.heap.size 89 [.int .u64 (stamp.toNat:Int),.int .u64 (v.toNat:Int),.bool true,.string y.text]:=by rw [Nc];exact heap_alloc_new _ _
  have Jf:Below W.heap.size W W8:=HB3.out.trans (hb8.mono HB3.out.size);have JM:=Aa Jf;have HA:=Aa (fun W'(k:Below W8.heap.size W8 W')=>Jp (((HX.out.sys.below Hb0.out).below Jf).below k) ⟨stamp,v,true,y.text⟩ (by show y.text.size<=_;omega) hT);unfold Ku at HA;rw [ha]at HA;unfold gY at HA;have J7:¬F w3.heap.size:=fun hf=>absurd (Hg.out _ hf) (by have:=HB3.out.size;have:=Hb0.out.size;omega)
  have PX:Hid (∀w',Touch F W8 w'->w'.cell? ⟨jb,0,none⟩=some (.pointer (some ⟨d,0,none⟩))/\w'.cell? ⟨jb,1,none⟩=some (.pointer (some ⟨p,0,none⟩))/\w'.cell? ⟨w3.heap.size,0,none⟩=some (.int .u64 (stamp.toNat:Int))/\w'.cell? ⟨w3.heap.size,1,none⟩=some (.int .u64 (v.toNat:Int))/\w'.cell? ⟨w3.heap.size,2,none⟩=some (.bool true)/\w'.cell? ⟨w3.heap.size,3,none⟩=some (.string y.text)):=Aa (fun W' k=>⟨(HK.out W' ((Touch.of_below Jf).trans k (fun _ e=> .inl e))).1.cell 0,(HK.out W' ((Touch.of_below Jf).trans k (fun _ e=> .inl e))).1.cell 1,(BR.touch k J7).cell 0,(BR.touch k J7).cell 1,(BR.touch k J7).cell 2,(BR.touch k J7).cell 3⟩);have hk8:=PX.out W8 (Touch.refl _ _);clear Nc hb8 BR Jf j0 j1 j3 y0 y1 y2 l1 l2 J7
  go_wp2_with fail
  go_region_held3(fun w'=>w'.cell? ⟨jb,0,none⟩=some (.pointer (some ⟨d,0,none⟩))/\w'.cell? ⟨jb,1,none⟩=some (.pointer (some ⟨p,0,none⟩))/\w'.cell? ⟨w3.heap.size,0,none⟩=some (.int .u64 (stamp.toNat:Int))/\w'.cell? ⟨w3.heap.size,1,none⟩=some (.int .u64 (v.toNat:Int))/\w'.cell? ⟨w3.heap.size,2,none⟩=some (.bool true)/\w'.cell? ⟨w3.heap.size,3,none⟩=some (.string y.text))(first| exact hk8| exact PX.out _ ((Touch.of_below ((Dr.drew W8).below _)).trans Hz.touch (fun _ e=> .inl e)))((first| (go_at_call 92;refine(HA.out _ ((Dr.drew W8).below _)).mono ?_;rintro e w5⟨rfl,F5,hS5,Hz⟩))))
 all_goals(
  have FO:Aq F F5 W w5:=(Aq.of_below (JM.out.trans (((Dr.drew W8).below _).mono JM.out.size))).trans Hz;have LQ:Ix w5 x d p L s1 F5:=(HX.out.below Hb0.out).move hS5 FO;have Pz:=Aa (fun W'(k:Below w5.heap.size w5 W')=>JR (LQ.below k) y.key (by omega) place);rw [hp]at Pz;unfold I7 at Pz;have hk5:=RJ.out w5 FO.touch;have KP:=Aa FO;clear Hz FO LQ hS5 hk8 HA PX JM
  go_wp2_with fail
  go_region_held3(fun w'=>w'.cell? ⟨jb,2,none⟩=some (.pointer (some ⟨x,0,none⟩))/\w'.cell? ⟨w.heap.size,0,none⟩=some (.string y.key))(first| exact hk5| exact RJ.out _ (KP.out.trans ((Aq.of_below ((Dr.drew w5).below _)).trans RN)).touch)((first| (go_at_call 93;refine(Pz.out _ ((Dr.drew w5).below _)).mono ?_;rintro e w6⟨rfl,F6,iY,RN⟩))))
 all_goals(
  have Tm:=Aa (KP.out.trans ((Aq.of_below ((Dr.drew w5).below _)).trans RN));have XY:=Aa iY;clear iY RN hk5 Pz;have k3:=(HK.out w6 Tm.out.touch).2.2;have p0:=k3.cell 0;have p1:=k3.cell 1;have f0:=k3.frozen 0;have f1:=k3.frozen 1;simp only [Ac,Ae]at p0 p1;have LP:=Aa k3;clear k3
  go_wp2_with fail)
 all_goals(
  have K7:=(LP.out.AV 0 (.int .u64 (v.toNat:Int))).AV 1 (.int .u64 (place.toNat:Int));have q0:=K7.cell 0;have q1:=K7.cell 1;simp only [Aj,Am,Ac,Ae]at q0 q1;have Nz:Touch (fun k=>k=w.heap.size+1) w6 ((w6.setCell ⟨w.heap.size+1,0,none⟩ (.int .u64 (v.toNat:Int))).setCell ⟨w.heap.size+1,1,none⟩ (.int .u64 (place.toNat:Int))):=((Touch.refl (fun k=>k=w.heap.size+1) w6).setCell (p:=⟨w.heap.size+1,0,none⟩) (.inl rfl) _).setCell (p:=⟨w.heap.size+1,1,none⟩) (.inl rfl) _;have hM:Aq F F6 w w6:=(Aq.of_below Hb0.out).trans Tm.out;have Un:=(hM.set (p:=⟨w.heap.size+1,0,none⟩) (.inr (Di _)) (.int .u64 (v.toNat:Int))).set (p:=⟨w.heap.size+1,1,none⟩) (.inr (Di _)) (.int .u64 (place.toNat:Int));have hnf:¬F6 (w.heap.size+1):=fun h6=>(Tm.out.own _ h6).elim (fun hf=>absurd (Hg.out _ hf) (by omega)) (fun hs=>absurd LP.out.lt (by have:=(HK.out W (Touch.refl _ _)).2.2.lt;omega))
  have htab:=HX.out.sys.tabs.lt;refine bodyPost_ret (v:= .tuple #[.agg #[.int .u64 (v.toNat:Int),.int .u64 (place.toNat:Int)],.int .i64 0]) (by simp [results,Tryz.results48,go_sem,q0,q1]) rfl ?_;refine⟨rfl,F6,⟨XY.out.sys.keep Nz (fun b hb e=>hnf (e▸hb)) (by omega) (by omega),XY.out.box.touch Nz ?_,XY.out.out⟩,⟨((HK.out w6 Tm.out.touch).1).touch Nz ?_,hM.out HJ.out.box.lt HJ.out.out⟩,Un⟩
  ·have:=HX.out.box.lt;show x≠_;omega
  ·have:=HJ.out.box.lt;show jb≠_;omega)
theorem bF(h:Ix w x d p L s F){jb:Nat}{stamp:UInt64}{vs vd:Value}{en:Int}(hj:IM w jb x d p stamp vs vd false en F)(y:Wr)(hk:y.key.size<=16)(ht:y.text.size<=40){v:UInt64}
 (hg:EZ s y.key.data.toList=(v,0))(hv0:v.toNat≠0)(hgo:y.gone=false)(hT:∀off s1,CJ s 1=some (off,s1)->(FX {s1 with ws:=CP s1.ws (off/8) (Dl ⟨stamp,v,y.gone,y.text⟩)} off).2=0)
 {s1 s2:St}{place:UInt64}(ha:FQ s ⟨stamp,v,y.gone,y.text⟩=(s1,place,0))(hp:FZ s1 y.key.data.toList place=(s2,0)):
 Calls Tryz.prog 48 #[.pointer (some ⟨jb,0,none⟩),ND y] w fun e w'=>e= .returned (.tuple #[.agg #[.int .u64 (v.toNat:Int),.int .u64 (place.toNat:Int)],.int .i64 0])/\
  ∃F',Ix w' x d p L s2 F'/\IM w' jb x d p stamp vs vd false en F'/\Aq F F' w w':=by
 obtain⟨W,hW⟩:∃W,W=(w.alloc (.cells #[.string y.key,.string y.text,.bool false] 87)).alloc (.cells #[.int .u64 0,.int .u64 0] 115):=⟨_,rfl⟩;have hb0:Below w.heap.size w W:=by rw [hW];exact((Below.refl _ _).alloc (Ad _) _).alloc (by simp) _
 have BY:BH W w.heap.size 87 [.string y.key,.string y.text,.bool false]:=by rw [hW];exact(heap_alloc_old _ _ (by simp)).trans (heap_alloc_new _ _)
 have BP:BH W (w.heap.size+1) 115 [.int .u64 0,.int .u64 0]:=by
  have:=heap_alloc_new (w.alloc (.cells #[.string y.key,.string y.text,.bool false] 87)) (.cells #[.int .u64 0,.int .u64 0] 115);rw [show(w.alloc (.cells #[.string y.key,.string y.text,.bool false] 87)).heap.size=w.heap.size+1 by simp,<-hW]at this;exact this
 have hJ0:=hj.box.below hb0 hj.box.lt;have hX0:=h.below hb0;have HG:=Aa (fun W'(k:Below W.heap.size W W')=>GR (hX0.below k) y.key (by omega));rw [hg]at HG;unfold GetPost at HG;have HJ:=Aa hj;have HX:=Aa h;have HW:=Aa hW;have Hb0:=Aa hb0;have Tt:=Aa BY;have Tu:=Aa BP;have y0:=BY.cell 0;have y1:=BY.cell 1;have y2:=BY.cell 2;have j2:=hJ0.cell 2;have j0:=hJ0.cell 0;have j1:=hJ0.cell 1;have j3:=hJ0.cell 3;unfold Bv at j0 j1 j2 j3;simp only [Ac,Ae]at y0 y1 y2 j0 j1 j2 j3;unfold ND;have tv:((v.toNat:Int)==0)=false:=by rw [beq_eq_false_iff_ne];omega
 have tv2:(v.toNat==0)=false:=by rw [beq_eq_false_iff_ne];exact hv0
 clear hv0;rw [hgo]at hT ha⊢;clear h hj hb0 hW BY BP hJ0 hX0 hg hgo;go_enter Tryz.func48,Tryz.ntmps48
 go_wp2_with fail
 rw [<-HW.out];have Hg:Hid (∀b,F b->b<w.heap.size):=Aa (fun b hb=>HX.out.sys.lt b hb);have HK:=Aa (fun W'(k:Touch F W W')=>And.intro ((HJ.out.box.below Hb0.out HJ.out.box.lt).touch k HJ.out.out) (And.intro (Tt.out.touch k (fun hf=>absurd (Hg.out _ hf) (by omega))) (Tu.out.touch k (fun hf=>absurd (Hg.out _ hf) (by omega)))));have RJ:Hid (∀W',Touch F W W'->W'.cell? ⟨jb,2,none⟩=some (.pointer (some ⟨x,0,none⟩))/\W'.cell? ⟨w.heap.size,0,none⟩=some (.string y.key)):=Aa (fun W' k=>⟨(HK.out W' k).1.cell 2,(HK.out W' k).2.1.cell 0⟩);clear Tt Tu
 go_region_held3(fun w'=>w'.cell? ⟨jb,2,none⟩=some (.pointer (some ⟨x,0,none⟩))/\w'.cell? ⟨w.heap.size,0,none⟩=some (.string y.key))(first| exact⟨j2,y0⟩| exact RJ.out _ (Touch.of_below Lt))((first| (go_at_call 91;refine(HG.out _ ((Dr.drew _).below _)).mono ?_;rintro e w3⟨rfl,hbg⟩;have Lt:Below W.heap.size W w3:=((Dr.drew W).below _).trans hbg)))
 have HT3:=Aa (Touch.of_below (F:=F) Lt);have HB3:=Aa Lt;obtain⟨K1,K2,K3⟩:=HK.out w3 HT3.out;replace y0:=K2.cell 0;replace y1:=K2.cell 1;replace y2:=K2.cell 2;replace j3:=K1.cell 3;replace j0:=K1.cell 0;replace j1:=K1.cell 1;unfold Bv at j0 j1 j3;simp only [Ac,Ae]at y0 y1 y2 j0 j1 j3;have l1:=K1.lt;have l2:=K2.lt;clear K1 K2 K3 hbg Lt j2 HG
 go_wp2_with fail
 go_region
 all_goals(
  obtain⟨W8,Nc⟩:∃W8,W8=(w3.alloc (.cells #[.int .u64 (stamp.toNat:Int),.int .u64 (v.toNat:Int),.bool false,.string y.text] 89)).drew:=⟨_,rfl⟩;rw [<-Nc];have hb8:Below w3.heap.size w3 W8:=by rw [Nc];exact((Below.refl _ _).alloc (Ad _) _).drew
  have BR:BH W8 w3.heap.size 89 [.int .u64 (stamp.toNat:Int),.int .u64 (v.toNat:Int),.bool false,.string y.text]:=by rw [Nc];exact heap_alloc_new _ _
  have Jf:Below W.heap.size W W8:=HB3.out.trans (hb8.mono HB3.out.size);have JM:=Aa Jf;have HA:=Aa (fun W'(k:Below W8.heap.size W8 W')=>Jp (((HX.out.sys.below Hb0.out).below Jf).below k) ⟨stamp,v,false,y.text⟩ (by show y.text.size<=_;omega) hT);unfold Ku at HA;rw [ha]at HA;unfold gY at HA;have J7:¬F w3.heap.size:=fun hf=>absurd (Hg.out _ hf) (by have:=HB3.out.size;have:=Hb0.out.size;omega)
  have PX:Hid (∀w',Touch F W8 w'->w'.cell? ⟨jb,0,none⟩=some (.pointer (some ⟨d,0,none⟩))/\w'.cell? ⟨jb,1,none⟩=some (.pointer (some ⟨p,0,none⟩))/\w'.cell? ⟨w3.heap.size,0,none⟩=some (.int .u64 (stamp.toNat:Int))/\w'.cell? ⟨w3.heap.size,1,none⟩=some (.int .u64 (v.toNat:Int))/\w'.cell? ⟨w3.heap.size,2,none⟩=some (.bool false)/\w'.cell? ⟨w3.heap.size,3,none⟩=some (.string y.text)):=Aa (fun W' k=>⟨(HK.out W' ((Touch.of_below Jf).trans k (fun _ e=> .inl e))).1.cell 0,(HK.out W' ((Touch.of_below Jf).trans k (fun _ e=> .inl e))).1.cell 1,(BR.touch k J7).cell 0,(BR.touch k J7).cell 1,(BR.touch k J7).cell 2,(BR.touch k J7).cell 3⟩);have hk8:=PX.out W8 (Touch.refl _ _);clear Nc hb8 BR Jf j0 j1 j3 y0 y1 y2 l1 l2 J7
  go_wp2_with fail
  go_region_held3(fun w'=>w'.cell? ⟨jb,0,none⟩=some (.pointer (some ⟨d,0,none⟩))/\w'.cell? ⟨jb,1,none⟩=some (.pointer (some ⟨p,0,none⟩))/\w'.cell? ⟨w3.heap.size,0,none⟩=some (.int .u64 (stamp.toNat:Int))/\w'.cell? ⟨w3.heap.size,1,none⟩=some (.int .u64 (v.toNat:Int))/\w'.cell? ⟨w3.heap.size,2,none⟩=some (.bool false)/\w'.cell? ⟨w3.heap.size,3,none⟩=some (.string y.text))(first| exact hk8| exact PX.out _ ((Touch.of_below ((Dr.drew W8).below _)).trans Hz.touch (fun _ e=> .inl e)))((first| (go_at_call 92;refine(HA.out _ ((Dr.drew W8).below _)).mono ?_;rintro e w5⟨rfl,F5,hS5,Hz⟩))))
 all_goals(
  have FO:Aq F F5 W w5:=(Aq.of_below (JM.out.trans (((Dr.drew W8).below _).mono JM.out.size))).trans Hz;have LQ:Ix w5 x d p L s1 F5:=(HX.out.below Hb0.out).move hS5 FO;have Pz:=Aa (fun W'(k:Below w5.heap.size w5 W')=>JR (LQ.below k) y.key (by omega) place);rw [hp]at Pz;unfold I7 at Pz;have hk5:=RJ.out w5 FO.touch;have KP:=Aa FO;clear Hz FO LQ hS5 hk8 HA PX JM
  go_wp2_with fail
  go_region_held3(fun w'=>w'.cell? ⟨jb,2,none⟩=some (.pointer (some ⟨x,0,none⟩))/\w'.cell? ⟨w.heap.size,0,none⟩=some (.string y.key))(first| exact hk5| exact RJ.out _ (KP.out.trans ((Aq.of_below ((Dr.drew w5).below _)).trans RN)).touch)((first| (go_at_call 93;refine(Pz.out _ ((Dr.drew w5).below _)).mono ?_;rintro e w6⟨rfl,F6,iY,RN⟩))))
 all_goals(
  have Tm:=Aa (KP.out.trans ((Aq.of_below ((Dr.drew w5).below _)).trans RN));have XY:=Aa iY;clear iY RN hk5 Pz;have k3:=(HK.out w6 Tm.out.touch).2.2;have p0:=k3.cell 0;have p1:=k3.cell 1;have f0:=k3.frozen 0;have f1:=k3.frozen 1;simp only [Ac,Ae]at p0 p1;have LP:=Aa k3;clear k3
  go_wp2_with fail)
 all_goals(
  have K7:=(LP.out.AV 0 (.int .u64 (v.toNat:Int))).AV 1 (.int .u64 (place.toNat:Int));have q0:=K7.cell 0;have q1:=K7.cell 1;simp only [Aj,Am,Ac,Ae]at q0 q1;have Nz:Touch (fun k=>k=w.heap.size+1) w6 ((w6.setCell ⟨w.heap.size+1,0,none⟩ (.int .u64 (v.toNat:Int))).setCell ⟨w.heap.size+1,1,none⟩ (.int .u64 (place.toNat:Int))):=((Touch.refl (fun k=>k=w.heap.size+1) w6).setCell (p:=⟨w.heap.size+1,0,none⟩) (.inl rfl) _).setCell (p:=⟨w.heap.size+1,1,none⟩) (.inl rfl) _;have hM:Aq F F6 w w6:=(Aq.of_below Hb0.out).trans Tm.out;have Un:=(hM.set (p:=⟨w.heap.size+1,0,none⟩) (.inr (Di _)) (.int .u64 (v.toNat:Int))).set (p:=⟨w.heap.size+1,1,none⟩) (.inr (Di _)) (.int .u64 (place.toNat:Int));have hnf:¬F6 (w.heap.size+1):=fun h6=>(Tm.out.own _ h6).elim (fun hf=>absurd (Hg.out _ hf) (by omega)) (fun hs=>absurd LP.out.lt (by have:=(HK.out W (Touch.refl _ _)).2.2.lt;omega))
  have htab:=HX.out.sys.tabs.lt;refine bodyPost_ret (v:= .tuple #[.agg #[.int .u64 (v.toNat:Int),.int .u64 (place.toNat:Int)],.int .i64 0]) (by simp [results,Tryz.results48,go_sem,q0,q1]) rfl ?_;refine⟨rfl,F6,⟨XY.out.sys.keep Nz (fun b hb e=>hnf (e▸hb)) (by omega) (by omega),XY.out.box.touch Nz ?_,XY.out.out⟩,⟨((HK.out w6 Tm.out.touch).1).touch Nz ?_,hM.out HJ.out.box.lt HJ.out.out⟩,Un⟩
  ·have:=HX.out.box.lt;show x≠_;omega
  ·have:=HJ.out.box.lt;show jb≠_;omega)
end
end Go.Proofs.YtjcppneoncpdbaaGreatDoor
