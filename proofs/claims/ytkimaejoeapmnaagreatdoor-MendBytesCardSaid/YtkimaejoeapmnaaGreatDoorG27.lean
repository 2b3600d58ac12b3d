import Derived.Deep.RegionHeld3
import Derived.Test.YtkimaejoeapmnaaGreatDoorG17
import Derived.Test.YtkimaejoeapmnaaGreatDoorG26
set_option maxHeartbeats 32000000
set_option maxRecDepth 100000
open Nat renaming le_succ->Yq,le_refl->Ad
open Go.World renaming alloc->Xy
open Array renaming getElem?_push->FD
open Go.Lib renaming hid->Aa
open List renaming getElem?_cons_zero->Aj,getElem?_cons_succ->Az,set_cons_zero->Am,set_cons_succ->Aq
namespace Go.Proofs.YtkimaejoeapmnaaGreatDoor
open Go.RowKit
def DI(x d p:Nat)(stamp:UInt64)(vs vd:Value)(over:Bool)(en:Int):List Value:=
 [Aw d,Aw p,Aw x,.int .u64 (stamp.toNat:Int),vs,vd,.bool over,.int .i64 en]
section
variable{w w':World}{x d p L:Nat}{s:St}{F:Nat->Prop}
theorem Ej.load{len:Mode}(h:Ej len w d p L s F)(j:Nat)(hj:j<8*L):Calls Tryz.prog 29 #[Aw d,.int .i64 ((8*j:Nat):Int)] w fun e w'=>e= .returned (.tuple #[.int .u64 ((s.ws j).toNat:Int),.int .i64 0])/\w=w':=by
 obtain⟨tb,hb,n,cT,cH,own,h,_⟩:=h;obtain⟨⟨g,hb0,hr,ho⟩,hu⟩:=h.dev;exact UD d L s.ws _ _ g hb0 j w h.L1 hu hr hj
theorem jD(jb:Nat)(xs:List Value)(h:CG w jb 187 (Aw d::xs)):Calls Tryz.prog 92 #[Aw jb] w fun e w'=>e= .returned (.bool false)/\w=w':=by
 have c:=h.p1;clear h;go_enter Tryz.func92,Tryz.ntmps92;go_wp2;go_ret;exact⟨rfl,rfl⟩
end
section
variable{w w':World}{x d p L:Nat}{s:St}{F:Nat->Prop}
structure NT(w:World)(jb x d p:Nat)(stamp:UInt64)(vs vd:Value)(over:Bool)(en:Int)(F:Nat->Prop):Prop where
 box:CG w jb 187 (DI x d p stamp vs vd over en)
 out:¬F jb
end
def Qk{α:Type}(er NI:Int)(a b c:α):α:=if er=0 then(if NI=0 then a else b)else c
theorem LH{α:Type}{a b c:α}:Qk 0 0 a b c=a:=rfl
theorem IA{α:Type}{NI:Int}{a b c:α}(h:NI≠0):Qk 0 NI a b c=b:=by unfold Qk;rw [if_pos rfl,if_neg h]
theorem J8{α:Type}{er NI:Int}{a b c:α}(h:er≠0):Qk er NI a b c=c:=if_neg h
section
variable{w w':World}{x d p L:Nat}{s:St}{F:Nat->Prop}
theorem Np{m0 m1 mW:DW}{sN sW:St}{F':Nat->Prop}{W wN:World}{jb:Nat}{stamp:UInt64}{vs vd:Value}{en:Int}{a b c a' b' c':Int}(hm:mW=m1)(hs:sW=sN)(hv:c'=c/\a'=a/\b'=b)(h:IX m0 w x d p L s F)(hj:NT w jb x d p stamp vs vd false en F)(hFl:∀b,F b->b<w.heap.size)(hb0:Below w.heap.size w W)(hM:AO F F' W wN)(hX:IX m1 wN x d p L sN F')
 (_:CG wN (w.heap.size+1) 189 [.int .u64 0,.int .u64 0])(hJ:CG wN jb 187 (DI x d p stamp vs vd false en))(hlt:w.heap.size+1<W.heap.size):
 Ending.returned (.tuple #[.agg #[.int .u64 a,.int .u64 b],.int .i64 c])= .returned (.tuple #[.agg #[.int .u64 a',.int .u64 b'],.int .i64 c'])/\∃F',IX mW ((wN.setCell ⟨w.heap.size+1,0,none⟩ (.int .u64 a)).setCell ⟨w.heap.size+1,1,none⟩ (.int .u64 b)) x d p L sW F'/\NT ((wN.setCell ⟨w.heap.size+1,0,none⟩ (.int .u64 a)).setCell ⟨w.heap.size+1,1,none⟩ (.int .u64 b)) jb x d p stamp vs vd false en F'/\AO F F' w ((wN.setCell ⟨w.heap.size+1,0,none⟩ (.int .u64 a)).setCell ⟨w.heap.size+1,1,none⟩ (.int .u64 b)):=by
 rw [hv.1,hv.2.1,hv.2.2];subst hm hs;have zl:Touch (fun k=>k=w.heap.size+1) wN ((wN.setCell ⟨w.heap.size+1,0,none⟩ (.int .u64 a)).setCell ⟨w.heap.size+1,1,none⟩ (.int .u64 b)):=((Touch.refl (fun k=>k=w.heap.size+1) wN).setCell (p:=⟨w.heap.size+1,0,none⟩) (.inl rfl) _).setCell (p:=⟨w.heap.size+1,1,none⟩) (.inl rfl) _;have hM1:AO F F' w wN:=(AO.of_below hb0).trans hM;have hM7:=(hM1.set (p:=⟨w.heap.size+1,0,none⟩) (.inr (Yq _)) (.int .u64 a)).set (p:=⟨w.heap.size+1,1,none⟩) (.inr (Yq _)) (.int .u64 b);have hnf:¬F' (w.heap.size+1):=fun h6=>(hM.own _ h6).elim (fun hf=>absurd (hFl _ hf) (by omega)) (fun hs=>by omega)
 have htab:=h.sys.tabs.lt;have hxl:=h.box.lt;have hjl:=hj.box.lt;exact⟨rfl,F',⟨hX.sys.keep zl (fun b hb e=>hnf (e▸hb)) (by omega) (by omega),hX.box.touch zl (by show x≠_;omega),hX.out⟩,⟨hJ.touch zl (by show jb≠_;omega),hM1.out hjl hj.out⟩,hM7⟩
theorem Ab3{m0 m1 m2 m3:DW}(h:IX m0 w x d p L s F){jb:Nat}{stamp:UInt64}{vs vd:Value}{en:Int}(hj:NT w jb x d p stamp vs vd false en F)(y:Wr)(_:y.key.size<=16)
 (hg:GI s y.key.data.toList=(0,7))(hgo:y.gone=false){er NI:Int}{s1 s2 s3:St}{pl:UInt64}
 (hget:∀W',Below w.heap.size w W'->Calls Tryz.prog 140 #[Aw x,.string y.key] W' (GetPost (GI s y.key.data.toList) W'))
 (hA:∀W',Below w.heap.size w W'->Calls Tryz.prog 141 #[Aw d,Aw p,yP ⟨stamp,0,y.gone,y.text⟩] W' fun e w''=>e= .returned (.tuple #[.int .u64 (pl.toNat:Int),.int .i64 er])/\∃F1,Ej m1 w'' d p L s1 F1/\AO F F1 W' w'')
 (hP:er=0->∀W' F1,IX m1 W' x d p L s1 F1->Calls Tryz.prog 71 #[Aw x,.string y.key,.int .u64 (pl.toNat:Int)] W' fun e w''=>e= .returned (.int .i64 NI)/\∃F2,IX m2 w'' x d p L s2 F2/\AO F1 F2 W' w'')
 (hD:er=0->NI≠0->∀W' F2,IX m2 W' x d p L s2 F2->Calls Tryz.prog 73 #[Aw p,.int .i64 (Bi pl)] W' fun e w''=>(∃v,e= .returned v)/\∃F3,Ej m3 w'' d p L s3 F3/\AO F2 F3 W' w''):
 Calls Tryz.prog 93 #[Aw jb,Xe y] w fun e w'=>e= .returned (.tuple #[.agg #[.int .u64 (Qk er NI 0 0 0),.int .u64 (Qk er NI (pl.toNat:Int) 0 0)],.int .i64 (Qk er NI 0 NI er)])/\
  ∃F',IX (Qk er NI m2 m3 m1) w' x d p L (Qk er NI s2 s3 s1) F'/\NT w' jb x d p stamp vs vd false en F'/\AO F F' w w':=by
 obtain⟨W,hW⟩:∃W,W=(w.alloc (.cells #[.string y.key,.string y.text,.bool y.gone] 74)).alloc (.cells #[.int .u64 0,.int .u64 0] 189):=⟨_,rfl⟩;have hb0:Below w.heap.size w W:=by rw [hW];exact((Below.refl _ _).alloc (Ad _) _).alloc (by simp) _
 have BY:CG W w.heap.size 74 [.string y.key,.string y.text,.bool y.gone]:=by rw [hW];exact(show(Xy _ _).heap[w.heap.size]? =_ by rw [Xy,FD,if_neg (by simp)];exact heap_alloc_new _ _)
 have BP:CG W (w.heap.size+1) 189 [.int .u64 0,.int .u64 0]:=by
  have:=heap_alloc_new (w.alloc (.cells #[.string y.key,.string y.text,.bool y.gone] 74)) (.cells #[.int .u64 0,.int .u64 0] 189);rw [show(w.alloc (.cells #[.string y.key,.string y.text,.bool y.gone] 74)).heap.size=w.heap.size+1 by simp,<-hW]at this;exact this
 have hJ0:=hj.box.below hb0 hj.box.lt;have HG:=Aa (fun W'(k:Below W.heap.size W W')=>hget W' (hb0.trans (k.mono hb0.size)));rw [hg]at HG;unfold GetPost at HG;have HAd:=Aa hA;have jv:=Aa hP;have HDp:=Aa hD;have HJ:=Aa hj;have HX:=Aa h;have HW:=Aa hW;have Hb0:=Aa hb0;have HBY:=Aa BY;have HBP:=Aa BP;have y0:=BY.cell 0;have y1:=BY.cell 1;have y2:=BY.cell 2;have j2:=hJ0.cell 2;have j0:=hJ0.cell 0;have j1:=hJ0.cell 1;have j3:=hJ0.cell 3;unfold DI at j0 j1 j2 j3;simp only [Aj,Az]at y0 y1 y2 j0 j1 j2 j3;unfold Xe;have Zt:=Aa hgo;clear hgo;clear h hj hb0 hW BY BP hJ0 hg hget hA hP hD;go_enter Tryz.func93,Tryz.ntmps93
 go_wp2_with fail
 rw [<-HW.out];have LG:Hid (∀b,F b->b<w.heap.size):=Aa (fun b hb=>HX.out.sys.lt b hb);have HK:=Aa (fun W'(k:Touch F W W')=>And.intro ((HJ.out.box.below Hb0.out HJ.out.box.lt).touch k HJ.out.out) (And.intro (HBY.out.touch k (fun hf=>absurd (LG.out _ hf) (by omega))) (HBP.out.touch k (fun hf=>absurd (LG.out _ hf) (by omega)))));have HK2:Hid (∀W',Touch F W W'->W'.cell? ⟨jb,2,none⟩=some (Aw x)/\W'.cell? ⟨w.heap.size,0,none⟩=some (.string y.key)):=Aa (fun W' k=>⟨(HK.out W' k).1.cell 2,(HK.out W' k).2.1.cell 0⟩);clear HBY HBP
 go_region_held3(fun w'=>w'.cell? ⟨jb,2,none⟩=some (Aw x)/\w'.cell? ⟨w.heap.size,0,none⟩=some (.string y.key))(first| exact⟨j2,y0⟩| exact HK2.out _ (Touch.of_below zn))((first| (go_at_call 140;refine(HG.out _ ((Dr.drew _).below _)).mono ?_;rintro e w3⟨rfl,hbg⟩;have zn:Below W.heap.size W w3:=((Dr.drew W).below _).trans hbg)))
 have HT3:=Aa (Touch.of_below (F:=F) zn);have HB3:=Aa zn;obtain⟨K1,K2,K3⟩:=HK.out w3 HT3.out;replace y0:=K2.cell 0;replace y1:=K2.cell 1;replace y2:=K2.cell 2;replace j3:=K1.cell 3;replace j0:=K1.cell 0;replace j1:=K1.cell 1;unfold DI at j0 j1 j3;simp only [Aj,Az]at y0 y1 y2 j0 j1 j3;have l1:=K1.lt;have l2:=K2.lt;clear K1 K2 K3 hbg zn j2 HG
 all_goals(
  rw [Zt.out]at y2
  go_wp2_with fail)
 all_goals(go_region)
 all_goals(
  obtain⟨W8,zo⟩:∃W8,W8=(w3.alloc (.cells #[.int .u64 (stamp.toNat:Int),.int .u64 0,.bool y.gone,.string y.text] 109)).drew:=⟨_,rfl⟩;have BR:CG W8 w3.heap.size 109 [.int .u64 (stamp.toNat:Int),.int .u64 0,.bool y.gone,.string y.text]:=by rw [zo];exact heap_alloc_new _ _
  have hb8:Below w3.heap.size w3 W8:=by rw [zo];exact((Below.refl _ _).alloc (Ad _) _).drew
  rw [Zt.out]at zo;rw [<-zo];have Yc:Below W.heap.size W W8:=HB3.out.trans (hb8.mono HB3.out.size);have az:=Aa Yc;have HA:=Aa (fun W'(k:Below W8.heap.size W8 W')=>HAd.out W' (Hb0.out.trans ((Yc.trans (k.mono Yc.size)).mono Hb0.out.size)));unfold yP at HA;simp only [show((0:UInt64).toNat:Int)=0 from rfl]at HA;have yN:¬F w3.heap.size:=fun hf=>absurd (LG.out _ hf) (by have:=HB3.out.size;have:=Hb0.out.size;omega)
  have HK8:Hid (∀w',Touch F W8 w'->w'.cell? ⟨jb,0,none⟩=some (Aw d)/\w'.cell? ⟨jb,1,none⟩=some (Aw p)/\w'.cell? ⟨w3.heap.size,0,none⟩=some (.int .u64 (stamp.toNat:Int))/\w'.cell? ⟨w3.heap.size,1,none⟩=some (.int .u64 0)/\w'.cell? ⟨w3.heap.size,2,none⟩=some (.bool y.gone)/\w'.cell? ⟨w3.heap.size,3,none⟩=some (.string y.text)):=Aa (fun W' k=>⟨(HK.out W' ((Touch.of_below Yc).trans k (fun _ e=> .inl e))).1.cell 0,(HK.out W' ((Touch.of_below Yc).trans k (fun _ e=> .inl e))).1.cell 1,(BR.touch k yN).cell 0,(BR.touch k yN).cell 1,(BR.touch k yN).cell 2,(BR.touch k yN).cell 3⟩);have hk8:=HK8.out W8 (Touch.refl _ _);clear zo hb8 BR Yc j0 j1 j3 y0 y1 y2 l1 l2 yN
  go_wp2_with fail
  go_region_held3(fun w'=>w'.cell? ⟨jb,0,none⟩=some (Aw d)/\w'.cell? ⟨jb,1,none⟩=some (Aw p)/\w'.cell? ⟨w3.heap.size,0,none⟩=some (.int .u64 (stamp.toNat:Int))/\w'.cell? ⟨w3.heap.size,1,none⟩=some (.int .u64 0)/\w'.cell? ⟨w3.heap.size,2,none⟩=some (.bool y.gone)/\w'.cell? ⟨w3.heap.size,3,none⟩=some (.string y.text))(first| exact hk8| exact HK8.out _ ((Touch.of_below ((Dr.drew W8).below _)).trans Pz.touch (fun _ e=> .inl e)))((first| (go_at_call 141;refine(HA.out _ ((Dr.drew W8).below _)).mono ?_;rintro e w5⟨rfl,F5,hS5,Pz⟩))))
 all_goals(
  have XH:AO F F5 W w5:=(AO.of_below (az.out.trans (((Dr.drew W8).below _).mono az.out.size))).trans Pz;have VV:IX m1 w5 x d p L s1 F5:=(HX.out.below Hb0.out).move hS5 XH;have QY:=Aa XH;have su:=Aa VV;have hk5:=HK2.out w5 XH.touch;clear Pz XH VV hS5 hk8 HA HK8 az HAd Zt)
 all_goals(
  by_cases her:er=0
  ·subst her;have vF:=Aa (fun W'(k:Below w5.heap.size w5 W')=>jv.out (by first| rfl| trivial) W' F5 (su.out.below k))
   go_wp2_with fail
   go_region_held3(fun w'=>w'.cell? ⟨jb,2,none⟩=some (Aw x)/\w'.cell? ⟨w.heap.size,0,none⟩=some (.string y.key))(first| exact hk5| exact HK2.out _ (QY.out.trans ((AO.of_below ((Dr.drew w5).below _)).trans kU)).touch)((first| (go_at_call 71;refine(vF.out _ ((Dr.drew w5).below _)).mono ?_;rintro e w6⟨rfl,F6,hX6,kU⟩)))
   all_goals(
    have TY:=Aa (QY.out.trans ((AO.of_below ((Dr.drew w5).below _)).trans kU));have kV:=Aa hX6;clear hX6 kU hk5 vF;by_cases Rn:NI=0
    ·subst Rn;have k3:=(HK.out w6 TY.out.touch).2.2;have p0:=k3.cell 0;have p1:=k3.cell 1;have f0:=k3.frozen 0;have f1:=k3.frozen 1;simp only [Aj,Az]at p0 p1;have Oi:=Aa k3;clear k3
     go_wp2_with fail
     have K7:=(Oi.out.AZ 0 (.int .u64 0)).AZ 1 (.int .u64 (pl.toNat:Int));have q0:=K7.cell 0;have q1:=K7.cell 1;simp only [Am,Aq,Aj,Az]at q0 q1;refine bodyPost_ret (v:= .tuple #[.agg #[.int .u64 0,.int .u64 (pl.toNat:Int)],.int .i64 0]) (by simp [results,Tryz.results93,go_sem,q0,q1]) rfl ?_;exact Np LH LH ⟨LH,LH,LH⟩ HX.out HJ.out LG.out Hb0.out TY.out kV.out Oi.out (HK.out w6 TY.out.touch).1 (HK.out W (Touch.refl _ _)).2.2.lt
    ·have te:(NI==0)=false:=by rw [beq_eq_false_iff_ne];exact Rn
     have hwr:IntKind.i64.wrap (pl.toNat:Int)=Bi pl:=rfl;have HD:=Aa (fun W'(k:Below w6.heap.size w6 W')=>HDp.out (by first| rfl| trivial) Rn W' F6 (kV.out.below k));have K1:=(HK.out w6 TY.out.touch).1;have j1:=K1.cell 1;unfold DI at j1;simp only [Aj,Az]at j1;clear K1
     go_wp2_with fail
     refine(HD.out _ (Below.refl _ _)).mono ?_;rintro e w7⟨⟨v7,rfl⟩,F7,hS7,wO⟩;have zq:=Aa (kV.out.move hS7 wO);have Ya:=Aa (TY.out.trans wO);clear HD hS7 wO j1 hwr;have k3:=(HK.out w7 Ya.out.touch).2.2;have p0:=k3.cell 0;have p1:=k3.cell 1;have f0:=k3.frozen 0;have f1:=k3.frozen 1;simp only [Aj,Az]at p0 p1;have Oi:=Aa k3;clear k3
     go_wp2_with fail
     have K7:=(Oi.out.AZ 0 (.int .u64 0)).AZ 1 (.int .u64 0);have q0:=K7.cell 0;have q1:=K7.cell 1;simp only [Am,Aq,Aj,Az]at q0 q1;refine bodyPost_ret (v:= .tuple #[.agg #[.int .u64 0,.int .u64 0],.int .i64 NI]) (by simp [results,Tryz.results93,go_sem,q0,q1]) rfl ?_;exact Np (IA Rn) (IA Rn) ⟨(IA Rn),(IA Rn),(IA Rn)⟩ HX.out HJ.out LG.out Hb0.out Ya.out zq.out Oi.out (HK.out w7 Ya.out.touch).1 (HK.out W (Touch.refl _ _)).2.2.lt
   )
  ·have te:(er==0)=false:=by rw [beq_eq_false_iff_ne];exact her
   clear hk5;have k3:=(HK.out w5 QY.out.touch).2.2;have p0:=k3.cell 0;have p1:=k3.cell 1;have f0:=k3.frozen 0;have f1:=k3.frozen 1;simp only [Aj,Az]at p0 p1;have Oi:=Aa k3;clear k3
   go_wp2_with fail
   have K7:=(Oi.out.AZ 0 (.int .u64 0)).AZ 1 (.int .u64 0);have q0:=K7.cell 0;have q1:=K7.cell 1;simp only [Am,Aq,Aj,Az]at q0 q1;refine bodyPost_ret (v:= .tuple #[.agg #[.int .u64 0,.int .u64 0],.int .i64 er]) (by simp [results,Tryz.results93,go_sem,q0,q1]) rfl ?_;exact Np (J8 her) (J8 her) ⟨(J8 her),(J8 her),(J8 her)⟩ HX.out HJ.out LG.out Hb0.out QY.out su.out Oi.out (HK.out w5 QY.out.touch).1 (HK.out W (Touch.refl _ _)).2.2.lt
  )
theorem eG{m0 m1 m2 m3:DW}(h:IX m0 w x d p L s F){jb:Nat}{stamp:UInt64}{vs vd:Value}{en:Int}(hj:NT w jb x d p stamp vs vd false en F)(y:Wr)(_:y.key.size<=16){v:UInt64}
 (hg:GI s y.key.data.toList=(v,0))(hv0:v.toNat≠0){er NI:Int}{s1 s2 s3:St}{pl:UInt64}
 (hget:∀W',Below w.heap.size w W'->Calls Tryz.prog 140 #[Aw x,.string y.key] W' (GetPost (GI s y.key.data.toList) W'))
 (hA:∀W',Below w.heap.size w W'->Calls Tryz.prog 141 #[Aw d,Aw p,yP ⟨stamp,v,y.gone,y.text⟩] W' fun e w''=>e= .returned (.tuple #[.int .u64 (pl.toNat:Int),.int .i64 er])/\∃F1,Ej m1 w'' d p L s1 F1/\AO F F1 W' w'')
 (hP:er=0->∀W' F1,IX m1 W' x d p L s1 F1->Calls Tryz.prog 71 #[Aw x,.string y.key,.int .u64 (pl.toNat:Int)] W' fun e w''=>e= .returned (.int .i64 NI)/\∃F2,IX m2 w'' x d p L s2 F2/\AO F1 F2 W' w'')
 (hD:er=0->NI≠0->∀W' F2,IX m2 W' x d p L s2 F2->Calls Tryz.prog 73 #[Aw p,.int .i64 (Bi pl)] W' fun e w''=>(∃v,e= .returned v)/\∃F3,Ej m3 w'' d p L s3 F3/\AO F2 F3 W' w''):
 Calls Tryz.prog 93 #[Aw jb,Xe y] w fun e w'=>e= .returned (.tuple #[.agg #[.int .u64 (Qk er NI (v.toNat:Int) 0 0),.int .u64 (Qk er NI (pl.toNat:Int) 0 0)],.int .i64 (Qk er NI 0 NI er)])/\
  ∃F',IX (Qk er NI m2 m3 m1) w' x d p L (Qk er NI s2 s3 s1) F'/\NT w' jb x d p stamp vs vd false en F'/\AO F F' w w':=by
 obtain⟨W,hW⟩:∃W,W=(w.alloc (.cells #[.string y.key,.string y.text,.bool y.gone] 74)).alloc (.cells #[.int .u64 0,.int .u64 0] 189):=⟨_,rfl⟩;have hb0:Below w.heap.size w W:=by rw [hW];exact((Below.refl _ _).alloc (Ad _) _).alloc (by simp) _
 have BY:CG W w.heap.size 74 [.string y.key,.string y.text,.bool y.gone]:=by rw [hW];exact(show(Xy _ _).heap[w.heap.size]? =_ by rw [Xy,FD,if_neg (by simp)];exact heap_alloc_new _ _)
 have BP:CG W (w.heap.size+1) 189 [.int .u64 0,.int .u64 0]:=by
  have:=heap_alloc_new (w.alloc (.cells #[.string y.key,.string y.text,.bool y.gone] 74)) (.cells #[.int .u64 0,.int .u64 0] 189);rw [show(w.alloc (.cells #[.string y.key,.string y.text,.bool y.gone] 74)).heap.size=w.heap.size+1 by simp,<-hW]at this;exact this
 have hJ0:=hj.box.below hb0 hj.box.lt;have HG:=Aa (fun W'(k:Below W.heap.size W W')=>hget W' (hb0.trans (k.mono hb0.size)));rw [hg]at HG;unfold GetPost at HG;have HAd:=Aa hA;have jv:=Aa hP;have HDp:=Aa hD;have HJ:=Aa hj;have HX:=Aa h;have HW:=Aa hW;have Hb0:=Aa hb0;have HBY:=Aa BY;have HBP:=Aa BP;have y0:=BY.cell 0;have y1:=BY.cell 1;have y2:=BY.cell 2;have j2:=hJ0.cell 2;have j0:=hJ0.cell 0;have j1:=hJ0.cell 1;have j3:=hJ0.cell 3;unfold DI at j0 j1 j2 j3;simp only [Aj,Az]at y0 y1 y2 j0 j1 j2 j3;unfold Xe;have tv:((v.toNat:Int)==0)=false:=by rw [beq_eq_false_iff_ne];omega
 have tv2:(v.toNat==0)=false:=by rw [beq_eq_false_iff_ne];exact hv0
 clear hv0;clear h hj hb0 hW BY BP hJ0 hg hget hA hP hD;go_enter Tryz.func93,Tryz.ntmps93
 go_wp2_with fail
 rw [<-HW.out];have LG:Hid (∀b,F b->b<w.heap.size):=Aa (fun b hb=>HX.out.sys.lt b hb);have HK:=Aa (fun W'(k:Touch F W W')=>And.intro ((HJ.out.box.below Hb0.out HJ.out.box.lt).touch k HJ.out.out) (And.intro (HBY.out.touch k (fun hf=>absurd (LG.out _ hf) (by omega))) (HBP.out.touch k (fun hf=>absurd (LG.out _ hf) (by omega)))));have HK2:Hid (∀W',Touch F W W'->W'.cell? ⟨jb,2,none⟩=some (Aw x)/\W'.cell? ⟨w.heap.size,0,none⟩=some (.string y.key)):=Aa (fun W' k=>⟨(HK.out W' k).1.cell 2,(HK.out W' k).2.1.cell 0⟩);clear HBY HBP
 go_region_held3(fun w'=>w'.cell? ⟨jb,2,none⟩=some (Aw x)/\w'.cell? ⟨w.heap.size,0,none⟩=some (.string y.key))(first| exact⟨j2,y0⟩| exact HK2.out _ (Touch.of_below zn))((first| (go_at_call 140;refine(HG.out _ ((Dr.drew _).below _)).mono ?_;rintro e w3⟨rfl,hbg⟩;have zn:Below W.heap.size W w3:=((Dr.drew W).below _).trans hbg)))
 have HT3:=Aa (Touch.of_below (F:=F) zn);have HB3:=Aa zn;obtain⟨K1,K2,K3⟩:=HK.out w3 HT3.out;replace y0:=K2.cell 0;replace y1:=K2.cell 1;replace y2:=K2.cell 2;replace j3:=K1.cell 3;replace j0:=K1.cell 0;replace j1:=K1.cell 1;unfold DI at j0 j1 j3;simp only [Aj,Az]at y0 y1 y2 j0 j1 j3;have l1:=K1.lt;have l2:=K2.lt;clear K1 K2 K3 hbg zn j2 HG;rcases Bool.eq_false_or_eq_true y.gone with hgo| hgo
 all_goals(
  have Zt:=Aa hgo;clear hgo;rw [Zt.out]at y2
  go_wp2_with fail)
 all_goals(go_region)
 all_goals(
  obtain⟨W8,zo⟩:∃W8,W8=(w3.alloc (.cells #[.int .u64 (stamp.toNat:Int),.int .u64 (v.toNat:Int),.bool y.gone,.string y.text] 109)).drew:=⟨_,rfl⟩;have BR:CG W8 w3.heap.size 109 [.int .u64 (stamp.toNat:Int),.int .u64 (v.toNat:Int),.bool y.gone,.string y.text]:=by rw [zo];exact heap_alloc_new _ _
  have hb8:Below w3.heap.size w3 W8:=by rw [zo];exact((Below.refl _ _).alloc (Ad _) _).drew
  rw [Zt.out]at zo;rw [<-zo];have Yc:Below W.heap.size W W8:=HB3.out.trans (hb8.mono HB3.out.size);have az:=Aa Yc;have HA:=Aa (fun W'(k:Below W8.heap.size W8 W')=>HAd.out W' (Hb0.out.trans ((Yc.trans (k.mono Yc.size)).mono Hb0.out.size)));unfold yP at HA;have yN:¬F w3.heap.size:=fun hf=>absurd (LG.out _ hf) (by have:=HB3.out.size;have:=Hb0.out.size;omega)
  have HK8:Hid (∀w',Touch F W8 w'->w'.cell? ⟨jb,0,none⟩=some (Aw d)/\w'.cell? ⟨jb,1,none⟩=some (Aw p)/\w'.cell? ⟨w3.heap.size,0,none⟩=some (.int .u64 (stamp.toNat:Int))/\w'.cell? ⟨w3.heap.size,1,none⟩=some (.int .u64 (v.toNat:Int))/\w'.cell? ⟨w3.heap.size,2,none⟩=some (.bool y.gone)/\w'.cell? ⟨w3.heap.size,3,none⟩=some (.string y.text)):=Aa (fun W' k=>⟨(HK.out W' ((Touch.of_below Yc).trans k (fun _ e=> .inl e))).1.cell 0,(HK.out W' ((Touch.of_below Yc).trans k (fun _ e=> .inl e))).1.cell 1,(BR.touch k yN).cell 0,(BR.touch k yN).cell 1,(BR.touch k yN).cell 2,(BR.touch k yN).cell 3⟩);have hk8:=HK8.out W8 (Touch.refl _ _);clear zo hb8 BR Yc j0 j1 j3 y0 y1 y2 l1 l2 yN
  go_wp2_with fail
  go_region_held3(fun w'=>w'.cell? ⟨jb,0,none⟩=some (Aw d)/\w'.cell? ⟨jb,1,none⟩=some (Aw p)/\w'.cell? ⟨w3.heap.size,0,none⟩=some (.int .u64 (stamp.toNat:Int))/\w'.cell? ⟨w3.heap.size,1,none⟩=some (.int .u64 (v.toNat:Int))/\w'.cell? ⟨w3.heap.size,2,none⟩=some (.bool y.gone)/\w'.cell? ⟨w3.heap.size,3,none⟩=some (.string y.text))(first| exact hk8| exact HK8.out _ ((Touch.of_below ((Dr.drew W8).below _)).trans Pz.touch (fun _ e=> .inl e)))((first| (go_at_call 141;refine(HA.out _ ((Dr.drew W8).below _)).mono ?_;rintro e w5⟨rfl,F5,hS5,Pz⟩))))
 all_goals(
  have XH:AO F F5 W w5:=(AO.of_below (az.out.trans (((Dr.drew W8).below _).mono az.out.size))).trans Pz;have VV:IX m1 w5 x d p L s1 F5:=(HX.out.below Hb0.out).move hS5 XH;have QY:=Aa XH;have su:=Aa VV;have hk5:=HK2.out w5 XH.touch;clear Pz XH VV hS5 hk8 HA HK8 az HAd Zt)
 all_goals(
  by_cases her:er=0
  ·subst her;have vF:=Aa (fun W'(k:Below w5.heap.size w5 W')=>jv.out (by first| rfl| trivial) W' F5 (su.out.below k))
   go_wp2_with fail
   go_region_held3(fun w'=>w'.cell? ⟨jb,2,none⟩=some (Aw x)/\w'.cell? ⟨w.heap.size,0,none⟩=some (.string y.key))(first| exact hk5| exact HK2.out _ (QY.out.trans ((AO.of_below ((Dr.drew w5).below _)).trans kU)).touch)((first| (go_at_call 71;refine(vF.out _ ((Dr.drew w5).below _)).mono ?_;rintro e w6⟨rfl,F6,hX6,kU⟩)))
   all_goals(
    have TY:=Aa (QY.out.trans ((AO.of_below ((Dr.drew w5).below _)).trans kU));have kV:=Aa hX6;clear hX6 kU hk5 vF;by_cases Rn:NI=0
    ·subst Rn;have k3:=(HK.out w6 TY.out.touch).2.2;have p0:=k3.cell 0;have p1:=k3.cell 1;have f0:=k3.frozen 0;have f1:=k3.frozen 1;simp only [Aj,Az]at p0 p1;have Oi:=Aa k3;clear k3
     go_wp2_with fail
     have K7:=(Oi.out.AZ 0 (.int .u64 (v.toNat:Int))).AZ 1 (.int .u64 (pl.toNat:Int));have q0:=K7.cell 0;have q1:=K7.cell 1;simp only [Am,Aq,Aj,Az]at q0 q1;refine bodyPost_ret (v:= .tuple #[.agg #[.int .u64 (v.toNat:Int),.int .u64 (pl.toNat:Int)],.int .i64 0]) (by simp [results,Tryz.results93,go_sem,q0,q1]) rfl ?_;exact Np LH LH ⟨LH,LH,LH⟩ HX.out HJ.out LG.out Hb0.out TY.out kV.out Oi.out (HK.out w6 TY.out.touch).1 (HK.out W (Touch.refl _ _)).2.2.lt
    ·have te:(NI==0)=false:=by rw [beq_eq_false_iff_ne];exact Rn
     have hwr:IntKind.i64.wrap (pl.toNat:Int)=Bi pl:=rfl;have HD:=Aa (fun W'(k:Below w6.heap.size w6 W')=>HDp.out (by first| rfl| trivial) Rn W' F6 (kV.out.below k));have K1:=(HK.out w6 TY.out.touch).1;have j1:=K1.cell 1;unfold DI at j1;simp only [Aj,Az]at j1;clear K1
     go_wp2_with fail
     refine(HD.out _ (Below.refl _ _)).mono ?_;rintro e w7⟨⟨v7,rfl⟩,F7,hS7,wO⟩;have zq:=Aa (kV.out.move hS7 wO);have Ya:=Aa (TY.out.trans wO);clear HD hS7 wO j1 hwr;have k3:=(HK.out w7 Ya.out.touch).2.2;have p0:=k3.cell 0;have p1:=k3.cell 1;have f0:=k3.frozen 0;have f1:=k3.frozen 1;simp only [Aj,Az]at p0 p1;have Oi:=Aa k3;clear k3
     go_wp2_with fail
     have K7:=(Oi.out.AZ 0 (.int .u64 0)).AZ 1 (.int .u64 0);have q0:=K7.cell 0;have q1:=K7.cell 1;simp only [Am,Aq,Aj,Az]at q0 q1;refine bodyPost_ret (v:= .tuple #[.agg #[.int .u64 0,.int .u64 0],.int .i64 NI]) (by simp [results,Tryz.results93,go_sem,q0,q1]) rfl ?_;exact Np (IA Rn) (IA Rn) ⟨(IA Rn),(IA Rn),(IA Rn)⟩ HX.out HJ.out LG.out Hb0.out Ya.out zq.out Oi.out (HK.out w7 Ya.out.touch).1 (HK.out W (Touch.refl _ _)).2.2.lt
   )
  ·have te:(er==0)=false:=by rw [beq_eq_false_iff_ne];exact her
   clear hk5;have k3:=(HK.out w5 QY.out.touch).2.2;have p0:=k3.cell 0;have p1:=k3.cell 1;have f0:=k3.frozen 0;have f1:=k3.frozen 1;simp only [Aj,Az]at p0 p1;have Oi:=Aa k3;clear k3
   go_wp2_with fail
   have K7:=(Oi.out.AZ 0 (.int .u64 0)).AZ 1 (.int .u64 0);have q0:=K7.cell 0;have q1:=K7.cell 1;simp only [Am,Aq,Aj,Az]at q0 q1;refine bodyPost_ret (v:= .tuple #[.agg #[.int .u64 0,.int .u64 0],.int .i64 er]) (by simp [results,Tryz.results93,go_sem,q0,q1]) rfl ?_;exact Np (J8 her) (J8 her) ⟨(J8 her),(J8 her),(J8 her)⟩ HX.out HJ.out LG.out Hb0.out QY.out su.out Oi.out (HK.out w5 QY.out.touch).1 (HK.out W (Touch.refl _ _)).2.2.lt
  )
end
section
variable{w w':World}{x d p L:Nat}{s:St}{F:Nat->Prop}
theorem Ahp(h:Ix w x d p L s F){jb:Nat}{stamp:UInt64}{vs vd:Value}{en:Int}(hj:NT w jb x d p stamp vs vd false en F)(y:Wr)(hk:y.key.size<=16)(_:y.text.size<=40)
 (hg:GI s y.key.data.toList=(0,7))(hgo:y.gone=true)
  :
 Calls Tryz.prog 93 #[Aw jb,Xe y] w fun e w'=>e= .returned (.tuple #[.agg #[.int .u64 0,.int .u64 0],.int .i64 0])/\
  ∃F',Ix w' x d p L s F'/\NT w' jb x d p stamp vs vd false en F'/\AO F F' w w':=by
 obtain⟨W,hW⟩:∃W,W=(w.alloc (.cells #[.string y.key,.string y.text,.bool true] 74)).alloc (.cells #[.int .u64 0,.int .u64 0] 189):=⟨_,rfl⟩;have hb0:Below w.heap.size w W:=by rw [hW];exact((Below.refl _ _).alloc (Ad _) _).alloc (by simp) _
 have BY:CG W w.heap.size 74 [.string y.key,.string y.text,.bool true]:=by rw [hW];exact(heap_alloc_old _ _ (by simp)).trans (heap_alloc_new _ _)
 have BP:CG W (w.heap.size+1) 189 [.int .u64 0,.int .u64 0]:=by
  have:=heap_alloc_new (w.alloc (.cells #[.string y.key,.string y.text,.bool true] 74)) (.cells #[.int .u64 0,.int .u64 0] 189);rw [show(w.alloc (.cells #[.string y.key,.string y.text,.bool true] 74)).heap.size=w.heap.size+1 by simp,<-hW]at this;exact this
 have hJ0:=hj.box.below hb0 hj.box.lt;have hX0:=h.below hb0;have HG:=Aa (fun W'(k:Below W.heap.size W W')=>VU (hX0.below k) y.key (by omega));rw [hg]at HG;unfold GetPost at HG;have HJ:=Aa hj;have HX:=Aa h;have HW:=Aa hW;have Hb0:=Aa hb0;have HBY:=Aa BY;have HBP:=Aa BP;have y0:=BY.cell 0;have y1:=BY.cell 1;have y2:=BY.cell 2;have j2:=hJ0.cell 2;have j0:=hJ0.cell 0;have j1:=hJ0.cell 1;have j3:=hJ0.cell 3;unfold DI at j0 j1 j2 j3;simp only [Aj,Az]at y0 y1 y2 j0 j1 j2 j3;unfold Xe;rw [hgo];clear h hj hb0 hW BY BP hJ0 hX0 hg hgo;go_enter Tryz.func93,Tryz.ntmps93
 go_wp2_with fail
 rw [<-HW.out];have LG:Hid (∀b,F b->b<w.heap.size):=Aa (fun b hb=>HX.out.sys.lt b hb);have HK:=Aa (fun W'(k:Touch F W W')=>And.intro ((HJ.out.box.below Hb0.out HJ.out.box.lt).touch k HJ.out.out) (And.intro (HBY.out.touch k (fun hf=>absurd (LG.out _ hf) (by omega))) (HBP.out.touch k (fun hf=>absurd (LG.out _ hf) (by omega)))));have HK2:Hid (∀W',Touch F W W'->W'.cell? ⟨jb,2,none⟩=some (Aw x)/\W'.cell? ⟨w.heap.size,0,none⟩=some (.string y.key)):=Aa (fun W' k=>⟨(HK.out W' k).1.cell 2,(HK.out W' k).2.1.cell 0⟩);clear HBY HBP
 go_region_held3(fun w'=>w'.cell? ⟨jb,2,none⟩=some (Aw x)/\w'.cell? ⟨w.heap.size,0,none⟩=some (.string y.key))(first| exact⟨j2,y0⟩| exact HK2.out _ (Touch.of_below zn))((first| (go_at_call 140;refine(HG.out _ ((Dr.drew _).below _)).mono ?_;rintro e w3⟨rfl,hbg⟩;have zn:Below W.heap.size W w3:=((Dr.drew W).below _).trans hbg)))
 have HT3:=Aa (Touch.of_below (F:=F) zn);have HB3:=Aa zn;obtain⟨K1,K2,K3⟩:=HK.out w3 HT3.out;replace y0:=K2.cell 0;replace y1:=K2.cell 1;replace y2:=K2.cell 2;replace j3:=K1.cell 3;replace j0:=K1.cell 0;replace j1:=K1.cell 1;unfold DI at j0 j1 j3;simp only [Aj,Az]at y0 y1 y2 j0 j1 j3;have l1:=K1.lt;have l2:=K2.lt;clear K1 K2 K3 hbg zn j2 HG;have HM3:Hid (AO F F W w3):=Aa (AO.of_below HB3.out);have HX3:Hid (Ix w3 x d p L s F):=Aa ((HX.out.below Hb0.out).below HB3.out);have k3:=(HK.out w3 HT3.out).2.2;have p0:=k3.cell 0;have p1:=k3.cell 1;have f0:=k3.frozen 0;have f1:=k3.frozen 1;simp only [Aj,Az]at p0 p1;have Oi:=Aa k3;clear k3 j0 j1 j3 l1 l2
 go_wp2_with fail
 have K7:=(Oi.out.AZ 0 (.int .u64 0)).AZ 1 (.int .u64 0);have q0:=K7.cell 0;have q1:=K7.cell 1;simp only [Am,Aq,Aj,Az]at q0 q1;have zl:Touch (fun k=>k=w.heap.size+1) w3 ((w3.setCell ⟨w.heap.size+1,0,none⟩ (.int .u64 0)).setCell ⟨w.heap.size+1,1,none⟩ (.int .u64 0)):=((Touch.refl (fun k=>k=w.heap.size+1) w3).setCell (p:=⟨w.heap.size+1,0,none⟩) (.inl rfl) _).setCell (p:=⟨w.heap.size+1,1,none⟩) (.inl rfl) _;have hM:AO F F w w3:=(AO.of_below Hb0.out).trans HM3.out;have hM7:=(hM.set (p:=⟨w.heap.size+1,0,none⟩) (.inr (Yq _)) (.int .u64 0)).set (p:=⟨w.heap.size+1,1,none⟩) (.inr (Yq _)) (.int .u64 0);have hnf:¬F (w.heap.size+1):=fun hf=>absurd (LG.out _ hf) (by omega)
 have htab:=HX.out.sys.tabs.lt;refine bodyPost_ret (v:= .tuple #[.agg #[.int .u64 0,.int .u64 0],.int .i64 0]) (by simp [results,Tryz.results93,go_sem,q0,q1]) rfl ?_;refine⟨rfl,F,⟨HX3.out.sys.keep zl (fun b hb e=>hnf (e▸hb)) (by omega) (by omega),HX3.out.box.touch zl ?_,HX3.out.out⟩,⟨((HK.out w3 HM3.out.touch).1).touch zl ?_,HJ.out.out⟩,hM7⟩
 ·have:=HX.out.box.lt;show x≠_;omega
 ·have:=HJ.out.box.lt;show jb≠_;omega
theorem jE(h:Ix w x d p L s F){jb:Nat}{stamp:UInt64}{vs vd:Value}{en:Int}(hj:NT w jb x d p stamp vs vd false en F)(y:Wr)(hk:y.key.size<=16)(ht:y.text.size<=40){v:UInt64}{e0:Int}(hg:GI s y.key.data.toList=(v,e0))(hv:(e0=7/\v=0/\y.gone=false)\/(e0=0/\v.toNat≠0))
 (hT:∀off s1,CQ s 1=some (off,s1)->(IP {s1 with ws:=BQ s1.ws (off/8) (Dk ⟨stamp,v,y.gone,y.text⟩)} off).2=0){s1 s2 s3:St}{place:UInt64}{er NI:Int}(ha:IQ s ⟨stamp,v,y.gone,y.text⟩=(s1,place,er))(hp:er=0->KW s1 y.key.data.toList place=(s2,NI))(hd:er=0->NI≠0->(J4 s2 (Bi place)).1=s3):
 Calls Tryz.prog 93 #[Aw jb,Xe y] w fun e w'=>e= .returned (.tuple #[.agg #[.int .u64 (Qk er NI (v.toNat:Int) 0 0),.int .u64 (Qk er NI (place.toNat:Int) 0 0)],.int .i64 (Qk er NI 0 NI er)])/\
  ∃F',IX (Qk er NI (.up M0) (.up M0) (.up M0)) w' x d p L (Qk er NI s2 s3 s1) F'/\NT w' jb x d p stamp vs vd false en F'/\AO F F' w w':=by
 have G:=fun W'(k:Below w.heap.size w W')=>VU (h.below k) y.key (by omega)
 have A:=fun W'(k:Below w.heap.size w W')=>Afs (h.below k).sys ⟨stamp,v,y.gone,y.text⟩ (by show y.text.size<=_;omega) hT
 unfold yZ at A;rw [ha]at A;have P:=fun(h0:er=0)W' F1(hx:Ix W' x d p L s1 F1)=>VT hx y.key (by omega) place
 unfold jA at P;have P:=fun(h0:er=0)W' F1(hx:Ix W' x d p L s1 F1)=>by have q:=P h0 W' F1 hx;rw [hp h0]at q;exact q
 have D:er=0->NI≠0->∀W' F2,Ix W' x d p L s2 F2->Calls Tryz.prog 73 #[Aw p,.int .i64 (Bi place)] W' fun e w''=>(∃v,e= .returned v)/\∃F3,Sys w'' d p L s3 F3/\AO F2 F3 W' w'':=fun h0 h1 W' F2 hx=>(VD hx.sys (Bi place) (Qc place)).mono fun e w'' hh=>⟨⟨_,hh.1⟩,by rw [<-hd h0 h1];exact hh.2⟩
 rcases hv with⟨rfl,rfl,hgo⟩| ⟨rfl,hv0⟩
 ·exact Ab3 h hj y hk hg hgo G A P D
 ·exact eG h hj y hk hg hv0 G A P D
theorem Af0(h:Ix w x d p L s F){jb:Nat}{stamp:UInt64}{vs vd:Value}{en:Int}(hj:NT w jb x d p stamp vs vd false en F)(y:Wr)(hk:y.key.size<=16)(ht:y.text.size<=40)
 (hg:GI s y.key.data.toList=(0,7))(hgo:y.gone=false)(hT:∀off s1,CQ s 1=some (off,s1)->(IP {s1 with ws:=BQ s1.ws (off/8) (Dk ⟨stamp,0,y.gone,y.text⟩)} off).2=0)
 {s1 s2:St}{place:UInt64}(ha:IQ s ⟨stamp,0,y.gone,y.text⟩=(s1,place,0))(hp:KW s1 y.key.data.toList place=(s2,0)):
 Calls Tryz.prog 93 #[Aw jb,Xe y] w fun e w'=>e= .returned (.tuple #[.agg #[.int .u64 0,.int .u64 (place.toNat:Int)],.int .i64 0])/\
  ∃F',Ix w' x d p L s2 F'/\NT w' jb x d p stamp vs vd false en F'/\AO F F' w w':=
 (jE h hj y hk ht hg (.inl ⟨rfl,rfl,hgo⟩) hT (s3:=s2) (NI:=0) ha (fun _=>hp) (fun _ h0=>absurd rfl h0)).mono fun _ _ hh=>hh
end
