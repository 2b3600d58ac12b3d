import Derived.Deep.RegionHeld3
import Derived.Test.YtjcppneoncpdbaaGreatDoorG12
import Derived.Test.YtjcppneoncpdbaaGreatDoorG13
import Derived.Test.YtjcppneoncpdbaaGreatDoorG14
import Derived.Test.YtjcppneoncpdbaaGreatDoorG20
set_option maxHeartbeats 32000000
set_option maxRecDepth 100000
open List renaming getElem?_cons_zero->Ad,getElem?_cons_succ->Af,set_cons_zero->Am,set_cons_succ->Aq
open Nat renaming le_succ->D7,le_refl->Ae
open Go.World renaming alloc->Ap1
open Array renaming getElem?_push->FZ
open Go.Lib renaming hid->Aa
namespace Go.Proofs.YtjcppneoncpdbaaGreatDoor
open Go.RowKit
def BU(x d p:Nat)(stamp:UInt64)(vs vd:Value)(over:Bool)(en:Int):List Value:=
 [.pointer (some ⟨d,0,none⟩),.pointer (some ⟨p,0,none⟩),.pointer (some ⟨x,0,none⟩),.int .u64 (stamp.toNat:Int),vs,vd,.bool over,.int .i64 en]
section
variable{w w':World}{x d p L:Nat}{s:St}{F:Nat->Prop}
theorem EL.load{len:Mode}(h:EL len w d p L s F)(j:Nat)(hj:j<8*L):Calls Tryz.prog 41 #[.pointer (some ⟨d,0,none⟩),.int .i64 ((8*j:Nat):Int)] w fun e w'=>e= .returned (.tuple #[.int .u64 ((s.ws j).toNat:Int),.int .i64 0])/\w=w':=by
 obtain⟨tb,hb,n,cT,cH,own,h,_⟩:=h;obtain⟨⟨g,hb0,hr,ho⟩,hu⟩:=h.dev;exact TZ d L s.ws _ _ g hb0 j w h.L1 hu hr hj
theorem eP(jb:Nat)(xs:List Value)(h:BI w jb 113 (.pointer (some ⟨d,0,none⟩)::xs)):Calls Tryz.prog 47 #[.pointer (some ⟨jb,0,none⟩)] w fun e w'=>e= .returned (.bool false)/\w=w':=by
 have c:=h.cell 0;simp only [Ad]at c;clear h;go_enter Tryz.func47,Tryz.ntmps47;go_wp2;go_ret;exact⟨rfl,rfl⟩
end
section
variable{w w':World}{x d p L:Nat}{s:St}{F:Nat->Prop}
structure Jj(w:World)(jb x d p:Nat)(stamp:UInt64)(vs vd:Value)(over:Bool)(en:Int)(F:Nat->Prop):Prop where
 box:BI w jb 113 (BU x d p stamp vs vd over en)
 out:¬F jb
end
def Apz{α:Type}(er er2:Int)(a b c:α):α:=if er=0 then(if er2=0 then a else b)else c
theorem Apw{α:Type}{a b c:α}:Apz 0 0 a b c=a:=rfl
theorem aJ{α:Type}{er2:Int}{a b c:α}(h:er2≠0):Apz 0 er2 a b c=b:=by unfold Apz;rw [if_pos rfl,if_neg h]
theorem Ae4{α:Type}{er er2:Int}{a b c:α}(h:er≠0):Apz er er2 a b c=c:=if_neg h
section
variable{w w':World}{x d p L:Nat}{s:St}{F:Nat->Prop}
theorem Apy{m0 m1 mW:DX}{sN sW:St}{F':Nat->Prop}{W wN:World}{jb:Nat}{stamp:UInt64}{vs vd:Value}{en:Int}{a b c a' b' c':Int}(hm:mW=m1)(hs:sW=sN)(hv:c'=c/\a'=a/\b'=b)(h:Nv m0 w x d p L s F)(hj:Jj w jb x d p stamp vs vd false en F)(hFl:∀b,F b->b<w.heap.size)(hb0:Below w.heap.size w W)(hM:AB F F' W wN)(hX:Nv m1 wN x d p L sN F')
 (_:BI wN (w.heap.size+1) 115 [.int .u64 0,.int .u64 0])(hJ:BI wN jb 113 (BU x d p stamp vs vd false en))(hlt:w.heap.size+1<W.heap.size):
 Ending.returned (.tuple #[.agg #[.int .u64 a,.int .u64 b],.int .i64 c])= .returned (.tuple #[.agg #[.int .u64 a',.int .u64 b'],.int .i64 c'])/\∃F',Nv mW ((wN.setCell ⟨w.heap.size+1,0,none⟩ (.int .u64 a)).setCell ⟨w.heap.size+1,1,none⟩ (.int .u64 b)) x d p L sW F'/\Jj ((wN.setCell ⟨w.heap.size+1,0,none⟩ (.int .u64 a)).setCell ⟨w.heap.size+1,1,none⟩ (.int .u64 b)) jb x d p stamp vs vd false en F'/\AB F F' w ((wN.setCell ⟨w.heap.size+1,0,none⟩ (.int .u64 a)).setCell ⟨w.heap.size+1,1,none⟩ (.int .u64 b)):=by
 rw [hv.1,hv.2.1,hv.2.2];subst hm hs;have Ny:Touch (fun k=>k=w.heap.size+1) wN ((wN.setCell ⟨w.heap.size+1,0,none⟩ (.int .u64 a)).setCell ⟨w.heap.size+1,1,none⟩ (.int .u64 b)):=((Touch.refl (fun k=>k=w.heap.size+1) wN).setCell (p:=⟨w.heap.size+1,0,none⟩) (.inl rfl) _).setCell (p:=⟨w.heap.size+1,1,none⟩) (.inl rfl) _;have hM1:AB F F' w wN:=(AB.of_below hb0).trans hM;have Ur:=(hM1.set (p:=⟨w.heap.size+1,0,none⟩) (.inr (D7 _)) (.int .u64 a)).set (p:=⟨w.heap.size+1,1,none⟩) (.inr (D7 _)) (.int .u64 b);have hnf:¬F' (w.heap.size+1):=fun h6=>(hM.own _ h6).elim (fun hf=>absurd (hFl _ hf) (by omega)) (fun hs=>by omega)
 have htab:=h.sys.tabs.lt;have hxl:=h.box.lt;have hjl:=hj.box.lt;exact⟨rfl,F',⟨hX.sys.keep Ny (fun b hb e=>hnf (e▸hb)) (by omega) (by omega),hX.box.touch Ny (by show x≠_;omega),hX.out⟩,⟨hJ.touch Ny (by show jb≠_;omega),hM1.out hjl hj.out⟩,Ur⟩
theorem Ap3{m0 m1 m2 m3:DX}(h:Nv m0 w x d p L s F){jb:Nat}{stamp:UInt64}{vs vd:Value}{en:Int}(hj:Jj w jb x d p stamp vs vd false en F)(y:Wr)(_:y.key.size<=16)
 (hg:FP s y.key.data.toList=(0,7))(hgo:y.gone=false){er er2:Int}{s1 s2 s3:St}{pl:UInt64}
 (hget:∀W',Below w.heap.size w W'->Calls Tryz.prog 91 #[.pointer (some ⟨x,0,none⟩),.string y.key] W' (GetPost (FP s y.key.data.toList) W'))
 (hA:∀W',Below w.heap.size w W'->Calls Tryz.prog 92 #[.pointer (some ⟨d,0,none⟩),.pointer (some ⟨p,0,none⟩),ZY ⟨stamp,0,y.gone,y.text⟩] W' fun e w''=>e= .returned (.tuple #[.int .u64 (pl.toNat:Int),.int .i64 er])/\∃F1,EL m1 w'' d p L s1 F1/\AB F F1 W' w'')
 (hP:er=0->∀W' F1,Nv m1 W' x d p L s1 F1->Calls Tryz.prog 93 #[.pointer (some ⟨x,0,none⟩),.string y.key,.int .u64 (pl.toNat:Int)] W' fun e w''=>e= .returned (.int .i64 er2)/\∃F2,Nv m2 w'' x d p L s2 F2/\AB F1 F2 W' w'')
 (hD:er=0->er2≠0->∀W' F2,Nv m2 W' x d p L s2 F2->Calls Tryz.prog 94 #[.pointer (some ⟨p,0,none⟩),.int .i64 (Be pl)] W' fun e w''=>(∃v,e= .returned v)/\∃F3,EL m3 w'' d p L s3 F3/\AB F2 F3 W' w''):
 Calls Tryz.prog 48 #[.pointer (some ⟨jb,0,none⟩),NV y] w fun e w'=>e= .returned (.tuple #[.agg #[.int .u64 (Apz er er2 0 0 0),.int .u64 (Apz er er2 (pl.toNat:Int) 0 0)],.int .i64 (Apz er er2 0 er2 er)])/\
  ∃F',Nv (Apz er er2 m2 m3 m1) w' x d p L (Apz er er2 s2 s3 s1) F'/\Jj w' jb x d p stamp vs vd false en F'/\AB F F' w w':=by
 obtain⟨W,hW⟩:∃W,W=(w.alloc (.cells #[.string y.key,.string y.text,.bool y.gone] 87)).alloc (.cells #[.int .u64 0,.int .u64 0] 115):=⟨_,rfl⟩;have hb0:Below w.heap.size w W:=by rw [hW];exact((Below.refl _ _).alloc (Ae _) _).alloc (by simp) _
 have BY:BI W w.heap.size 87 [.string y.key,.string y.text,.bool y.gone]:=by rw [hW];exact(show(Ap1 _ _).heap[w.heap.size]? =_ by rw [Ap1,FZ,if_neg (by simp)];exact heap_alloc_new _ _)
 have BP:BI W (w.heap.size+1) 115 [.int .u64 0,.int .u64 0]:=by
  have:=heap_alloc_new (w.alloc (.cells #[.string y.key,.string y.text,.bool y.gone] 87)) (.cells #[.int .u64 0,.int .u64 0] 115);rw [show(w.alloc (.cells #[.string y.key,.string y.text,.bool y.gone] 87)).heap.size=w.heap.size+1 by simp,<-hW]at this;exact this
 have hJ0:=hj.box.below hb0 hj.box.lt;have HG:=Aa (fun W'(k:Below W.heap.size W W')=>hget W' (hb0.trans (k.mono hb0.size)));rw [hg]at HG;unfold GetPost at HG;have HAd:=Aa hA;have HPt:=Aa hP;have HDp:=Aa hD;have HJ:=Aa hj;have HX:=Aa h;have HW:=Aa hW;have Hb0:=Aa hb0;have RV:=Aa BY;have RX:=Aa BP;have y0:=BY.cell 0;have y1:=BY.cell 1;have y2:=BY.cell 2;have j2:=hJ0.cell 2;have j0:=hJ0.cell 0;have j1:=hJ0.cell 1;have j3:=hJ0.cell 3;unfold BU at j0 j1 j2 j3;simp only [Ad,Af]at y0 y1 y2 j0 j1 j2 j3;unfold NV;have pW:=Aa hgo;clear hgo;clear h hj hb0 hW BY BP hJ0 hg hget hA hP hD;go_enter Tryz.func48,Tryz.ntmps48
 go_wp2_with fail
 rw [<-HW.out];have Ha:Hid (∀b,F b->b<w.heap.size):=Aa (fun b hb=>HX.out.sys.lt b hb);have HK:=Aa (fun W'(k:Touch F W W')=>And.intro ((HJ.out.box.below Hb0.out HJ.out.box.lt).touch k HJ.out.out) (And.intro (RV.out.touch k (fun hf=>absurd (Ha.out _ hf) (by omega))) (RX.out.touch k (fun hf=>absurd (Ha.out _ hf) (by omega)))));have RD:Hid (∀W',Touch F W W'->W'.cell? ⟨jb,2,none⟩=some (.pointer (some ⟨x,0,none⟩))/\W'.cell? ⟨w.heap.size,0,none⟩=some (.string y.key)):=Aa (fun W' k=>⟨(HK.out W' k).1.cell 2,(HK.out W' k).2.1.cell 0⟩);clear RV RX
 go_region_held3(fun w'=>w'.cell? ⟨jb,2,none⟩=some (.pointer (some ⟨x,0,none⟩))/\w'.cell? ⟨w.heap.size,0,none⟩=some (.string y.key))(first| exact⟨j2,y0⟩| exact RD.out _ (Touch.of_below Lr))((first| (go_at_call 91;refine(HG.out _ ((Dr.drew _).below _)).mono ?_;rintro e w3⟨rfl,hbg⟩;have Lr:Below W.heap.size W w3:=((Dr.drew W).below _).trans hbg)))
 have HT3:=Aa (Touch.of_below (F:=F) Lr);have HB3:=Aa Lr;obtain⟨K1,K2,K3⟩:=HK.out w3 HT3.out;replace y0:=K2.cell 0;replace y1:=K2.cell 1;replace y2:=K2.cell 2;replace j3:=K1.cell 3;replace j0:=K1.cell 0;replace j1:=K1.cell 1;unfold BU at j0 j1 j3;simp only [Ad,Af]at y0 y1 y2 j0 j1 j3;have l1:=K1.lt;have l2:=K2.lt;clear K1 K2 K3 hbg Lr j2 HG
 all_goals(
  rw [pW.out]at y2
  go_wp2_with fail)
 all_goals(go_region)
 all_goals(
  obtain⟨W8,Lt⟩:∃W8,W8=(w3.alloc (.cells #[.int .u64 (stamp.toNat:Int),.int .u64 0,.bool y.gone,.string y.text] 89)).drew:=⟨_,rfl⟩;have BR:BI W8 w3.heap.size 89 [.int .u64 (stamp.toNat:Int),.int .u64 0,.bool y.gone,.string y.text]:=by rw [Lt];exact heap_alloc_new _ _
  have hb8:Below w3.heap.size w3 W8:=by rw [Lt];exact((Below.refl _ _).alloc (Ae _) _).drew
  rw [pW.out]at Lt;rw [<-Lt];have IM:Below W.heap.size W W8:=HB3.out.trans (hb8.mono HB3.out.size);have KC:=Aa IM;have HA:=Aa (fun W'(k:Below W8.heap.size W8 W')=>HAd.out W' (Hb0.out.trans ((IM.trans (k.mono IM.size)).mono Hb0.out.size)));unfold ZY at HA;simp only [show((0:UInt64).toNat:Int)=0 from rfl]at HA;have JF:¬F w3.heap.size:=fun hf=>absurd (Ha.out _ hf) (by have:=HB3.out.size;have:=Hb0.out.size;omega)
  have PN:Hid (∀w',Touch F W8 w'->w'.cell? ⟨jb,0,none⟩=some (.pointer (some ⟨d,0,none⟩))/\w'.cell? ⟨jb,1,none⟩=some (.pointer (some ⟨p,0,none⟩))/\w'.cell? ⟨w3.heap.size,0,none⟩=some (.int .u64 (stamp.toNat:Int))/\w'.cell? ⟨w3.heap.size,1,none⟩=some (.int .u64 0)/\w'.cell? ⟨w3.heap.size,2,none⟩=some (.bool y.gone)/\w'.cell? ⟨w3.heap.size,3,none⟩=some (.string y.text)):=Aa (fun W' k=>⟨(HK.out W' ((Touch.of_below IM).trans k (fun _ e=> .inl e))).1.cell 0,(HK.out W' ((Touch.of_below IM).trans k (fun _ e=> .inl e))).1.cell 1,(BR.touch k JF).cell 0,(BR.touch k JF).cell 1,(BR.touch k JF).cell 2,(BR.touch k JF).cell 3⟩);have hk8:=PN.out W8 (Touch.refl _ _);clear Lt hb8 BR IM j0 j1 j3 y0 y1 y2 l1 l2 JF
  go_wp2_with fail
  go_region_held3(fun w'=>w'.cell? ⟨jb,0,none⟩=some (.pointer (some ⟨d,0,none⟩))/\w'.cell? ⟨jb,1,none⟩=some (.pointer (some ⟨p,0,none⟩))/\w'.cell? ⟨w3.heap.size,0,none⟩=some (.int .u64 (stamp.toNat:Int))/\w'.cell? ⟨w3.heap.size,1,none⟩=some (.int .u64 0)/\w'.cell? ⟨w3.heap.size,2,none⟩=some (.bool y.gone)/\w'.cell? ⟨w3.heap.size,3,none⟩=some (.string y.text))(first| exact hk8| exact PN.out _ ((Touch.of_below ((Dr.drew W8).below _)).trans Ig.touch (fun _ e=> .inl e)))((first| (go_at_call 92;refine(HA.out _ ((Dr.drew W8).below _)).mono ?_;rintro e w5⟨rfl,F5,hS5,Ig⟩))))
 all_goals(
  have Gg:AB F F5 W w5:=(AB.of_below (KC.out.trans (((Dr.drew W8).below _).mono KC.out.size))).trans Ig;have LZ:Nv m1 w5 x d p L s1 F5:=(HX.out.below Hb0.out).move hS5 Gg;have KA:=Aa Gg;have YJ:=Aa LZ;have hk5:=RD.out w5 Gg.touch;clear Ig Gg LZ hS5 hk8 HA PN KC HAd pW)
 all_goals(
  by_cases her:er=0
  ·subst her;have Qg:=Aa (fun W'(k:Below w5.heap.size w5 W')=>HPt.out (by first| rfl| trivial) W' F5 (YJ.out.below k))
   go_wp2_with fail
   go_region_held3(fun w'=>w'.cell? ⟨jb,2,none⟩=some (.pointer (some ⟨x,0,none⟩))/\w'.cell? ⟨w.heap.size,0,none⟩=some (.string y.key))(first| exact hk5| exact RD.out _ (KA.out.trans ((AB.of_below ((Dr.drew w5).below _)).trans TC)).touch)((first| (go_at_call 93;refine(Qg.out _ ((Dr.drew w5).below _)).mono ?_;rintro e w6⟨rfl,F6,kC,TC⟩)))
   all_goals(
    have Un:=Aa (KA.out.trans ((AB.of_below ((Dr.drew w5).below _)).trans TC));have WQ:=Aa kC;clear kC TC hk5 Qg;by_cases Ap0:er2=0
    ·subst Ap0;have k3:=(HK.out w6 Un.out.touch).2.2;have p0:=k3.cell 0;have p1:=k3.cell 1;have f0:=k3.frozen 0;have f1:=k3.frozen 1;simp only [Ad,Af]at p0 p1;have KG:=Aa k3;clear k3
     go_wp2_with fail
     have K7:=(KG.out.AU 0 (.int .u64 0)).AU 1 (.int .u64 (pl.toNat:Int));have q0:=K7.cell 0;have q1:=K7.cell 1;simp only [Am,Aq,Ad,Af]at q0 q1;refine bodyPost_ret (v:= .tuple #[.agg #[.int .u64 0,.int .u64 (pl.toNat:Int)],.int .i64 0]) (by simp [results,Tryz.results48,go_sem,q0,q1]) rfl ?_;exact Apy Apw Apw ⟨Apw,Apw,Apw⟩ HX.out HJ.out Ha.out Hb0.out Un.out WQ.out KG.out (HK.out w6 Un.out.touch).1 (HK.out W (Touch.refl _ _)).2.2.lt
    ·have te:(er2==0)=false:=by rw [beq_eq_false_iff_ne];exact Ap0
     have hwr:IntKind.i64.wrap (pl.toNat:Int)=Be pl:=rfl;have HD:=Aa (fun W'(k:Below w6.heap.size w6 W')=>HDp.out (by first| rfl| trivial) Ap0 W' F6 (WQ.out.below k));have K1:=(HK.out w6 Un.out.touch).1;have j1:=K1.cell 1;unfold BU at j1;simp only [Ad,Af]at j1;clear K1
     go_wp2_with fail
     refine(HD.out _ (Below.refl _ _)).mono ?_;rintro e w7⟨⟨v7,rfl⟩,F7,hS7,Yp⟩;have gV:=Aa (WQ.out.move hS7 Yp);have Zg:=Aa (Un.out.trans Yp);clear HD hS7 Yp j1 hwr;have k3:=(HK.out w7 Zg.out.touch).2.2;have p0:=k3.cell 0;have p1:=k3.cell 1;have f0:=k3.frozen 0;have f1:=k3.frozen 1;simp only [Ad,Af]at p0 p1;have KG:=Aa k3;clear k3
     go_wp2_with fail
     have K7:=(KG.out.AU 0 (.int .u64 0)).AU 1 (.int .u64 0);have q0:=K7.cell 0;have q1:=K7.cell 1;simp only [Am,Aq,Ad,Af]at q0 q1;refine bodyPost_ret (v:= .tuple #[.agg #[.int .u64 0,.int .u64 0],.int .i64 er2]) (by simp [results,Tryz.results48,go_sem,q0,q1]) rfl ?_;exact Apy (aJ Ap0) (aJ Ap0) ⟨(aJ Ap0),(aJ Ap0),(aJ Ap0)⟩ HX.out HJ.out Ha.out Hb0.out Zg.out gV.out KG.out (HK.out w7 Zg.out.touch).1 (HK.out W (Touch.refl _ _)).2.2.lt
   )
  ·have te:(er==0)=false:=by rw [beq_eq_false_iff_ne];exact her
   clear hk5;have k3:=(HK.out w5 KA.out.touch).2.2;have p0:=k3.cell 0;have p1:=k3.cell 1;have f0:=k3.frozen 0;have f1:=k3.frozen 1;simp only [Ad,Af]at p0 p1;have KG:=Aa k3;clear k3
   go_wp2_with fail
   have K7:=(KG.out.AU 0 (.int .u64 0)).AU 1 (.int .u64 0);have q0:=K7.cell 0;have q1:=K7.cell 1;simp only [Am,Aq,Ad,Af]at q0 q1;refine bodyPost_ret (v:= .tuple #[.agg #[.int .u64 0,.int .u64 0],.int .i64 er]) (by simp [results,Tryz.results48,go_sem,q0,q1]) rfl ?_;exact Apy (Ae4 her) (Ae4 her) ⟨(Ae4 her),(Ae4 her),(Ae4 her)⟩ HX.out HJ.out Ha.out Hb0.out KA.out YJ.out KG.out (HK.out w5 KA.out.touch).1 (HK.out W (Touch.refl _ _)).2.2.lt
  )
theorem Ap2{m0 m1 m2 m3:DX}(h:Nv m0 w x d p L s F){jb:Nat}{stamp:UInt64}{vs vd:Value}{en:Int}(hj:Jj w jb x d p stamp vs vd false en F)(y:Wr)(_:y.key.size<=16){v:UInt64}
 (hg:FP s y.key.data.toList=(v,0))(hv0:v.toNat≠0){er er2:Int}{s1 s2 s3:St}{pl:UInt64}
 (hget:∀W',Below w.heap.size w W'->Calls Tryz.prog 91 #[.pointer (some ⟨x,0,none⟩),.string y.key] W' (GetPost (FP s y.key.data.toList) W'))
 (hA:∀W',Below w.heap.size w W'->Calls Tryz.prog 92 #[.pointer (some ⟨d,0,none⟩),.pointer (some ⟨p,0,none⟩),ZY ⟨stamp,v,y.gone,y.text⟩] W' fun e w''=>e= .returned (.tuple #[.int .u64 (pl.toNat:Int),.int .i64 er])/\∃F1,EL m1 w'' d p L s1 F1/\AB F F1 W' w'')
 (hP:er=0->∀W' F1,Nv m1 W' x d p L s1 F1->Calls Tryz.prog 93 #[.pointer (some ⟨x,0,none⟩),.string y.key,.int .u64 (pl.toNat:Int)] W' fun e w''=>e= .returned (.int .i64 er2)/\∃F2,Nv m2 w'' x d p L s2 F2/\AB F1 F2 W' w'')
 (hD:er=0->er2≠0->∀W' F2,Nv m2 W' x d p L s2 F2->Calls Tryz.prog 94 #[.pointer (some ⟨p,0,none⟩),.int .i64 (Be pl)] W' fun e w''=>(∃v,e= .returned v)/\∃F3,EL m3 w'' d p L s3 F3/\AB F2 F3 W' w''):
 Calls Tryz.prog 48 #[.pointer (some ⟨jb,0,none⟩),NV y] w fun e w'=>e= .returned (.tuple #[.agg #[.int .u64 (Apz er er2 (v.toNat:Int) 0 0),.int .u64 (Apz er er2 (pl.toNat:Int) 0 0)],.int .i64 (Apz er er2 0 er2 er)])/\
  ∃F',Nv (Apz er er2 m2 m3 m1) w' x d p L (Apz er er2 s2 s3 s1) F'/\Jj w' jb x d p stamp vs vd false en F'/\AB F F' w w':=by
 obtain⟨W,hW⟩:∃W,W=(w.alloc (.cells #[.string y.key,.string y.text,.bool y.gone] 87)).alloc (.cells #[.int .u64 0,.int .u64 0] 115):=⟨_,rfl⟩;have hb0:Below w.heap.size w W:=by rw [hW];exact((Below.refl _ _).alloc (Ae _) _).alloc (by simp) _
 have BY:BI W w.heap.size 87 [.string y.key,.string y.text,.bool y.gone]:=by rw [hW];exact(show(Ap1 _ _).heap[w.heap.size]? =_ by rw [Ap1,FZ,if_neg (by simp)];exact heap_alloc_new _ _)
 have BP:BI W (w.heap.size+1) 115 [.int .u64 0,.int .u64 0]:=by
  have:=heap_alloc_new (w.alloc (.cells #[.string y.key,.string y.text,.bool y.gone] 87)) (.cells #[.int .u64 0,.int .u64 0] 115);rw [show(w.alloc (.cells #[.string y.key,.string y.text,.bool y.gone] 87)).heap.size=w.heap.size+1 by simp,<-hW]at this;exact this
 have hJ0:=hj.box.below hb0 hj.box.lt;have HG:=Aa (fun W'(k:Below W.heap.size W W')=>hget W' (hb0.trans (k.mono hb0.size)));rw [hg]at HG;unfold GetPost at HG;have HAd:=Aa hA;have HPt:=Aa hP;have HDp:=Aa hD;have HJ:=Aa hj;have HX:=Aa h;have HW:=Aa hW;have Hb0:=Aa hb0;have RV:=Aa BY;have RX:=Aa BP;have y0:=BY.cell 0;have y1:=BY.cell 1;have y2:=BY.cell 2;have j2:=hJ0.cell 2;have j0:=hJ0.cell 0;have j1:=hJ0.cell 1;have j3:=hJ0.cell 3;unfold BU at j0 j1 j2 j3;simp only [Ad,Af]at y0 y1 y2 j0 j1 j2 j3;unfold NV;have tv:((v.toNat:Int)==0)=false:=by rw [beq_eq_false_iff_ne];omega
 have tv2:(v.toNat==0)=false:=by rw [beq_eq_false_iff_ne];exact hv0
 clear hv0;clear h hj hb0 hW BY BP hJ0 hg hget hA hP hD;go_enter Tryz.func48,Tryz.ntmps48
 go_wp2_with fail
 rw [<-HW.out];have Ha:Hid (∀b,F b->b<w.heap.size):=Aa (fun b hb=>HX.out.sys.lt b hb);have HK:=Aa (fun W'(k:Touch F W W')=>And.intro ((HJ.out.box.below Hb0.out HJ.out.box.lt).touch k HJ.out.out) (And.intro (RV.out.touch k (fun hf=>absurd (Ha.out _ hf) (by omega))) (RX.out.touch k (fun hf=>absurd (Ha.out _ hf) (by omega)))));have RD:Hid (∀W',Touch F W W'->W'.cell? ⟨jb,2,none⟩=some (.pointer (some ⟨x,0,none⟩))/\W'.cell? ⟨w.heap.size,0,none⟩=some (.string y.key)):=Aa (fun W' k=>⟨(HK.out W' k).1.cell 2,(HK.out W' k).2.1.cell 0⟩);clear RV RX
 go_region_held3(fun w'=>w'.cell? ⟨jb,2,none⟩=some (.pointer (some ⟨x,0,none⟩))/\w'.cell? ⟨w.heap.size,0,none⟩=some (.string y.key))(first| exact⟨j2,y0⟩| exact RD.out _ (Touch.of_below Lr))((first| (go_at_call 91;refine(HG.out _ ((Dr.drew _).below _)).mono ?_;rintro e w3⟨rfl,hbg⟩;have Lr:Below W.heap.size W w3:=((Dr.drew W).below _).trans hbg)))
 have HT3:=Aa (Touch.of_below (F:=F) Lr);have HB3:=Aa Lr;obtain⟨K1,K2,K3⟩:=HK.out w3 HT3.out;replace y0:=K2.cell 0;replace y1:=K2.cell 1;replace y2:=K2.cell 2;replace j3:=K1.cell 3;replace j0:=K1.cell 0;replace j1:=K1.cell 1;unfold BU at j0 j1 j3;simp only [Ad,Af]at y0 y1 y2 j0 j1 j3;have l1:=K1.lt;have l2:=K2.lt;clear K1 K2 K3 hbg Lr j2 HG;rcases Bool.eq_false_or_eq_true y.gone with hgo| hgo
 all_goals(
  have pW:=Aa hgo;clear hgo;rw [pW.out]at y2
  go_wp2_with fail)
 all_goals(go_region)
 all_goals(
  obtain⟨W8,Lt⟩:∃W8,W8=(w3.alloc (.cells #[.int .u64 (stamp.toNat:Int),.int .u64 (v.toNat:Int),.bool y.gone,.string y.text] 89)).drew:=⟨_,rfl⟩;have BR:BI W8 w3.heap.size 89 [.int .u64 (stamp.toNat:Int),.int .u64 (v.toNat:Int),.bool y.gone,.string y.text]:=by rw [Lt];exact heap_alloc_new _ _
  have hb8:Below w3.heap.size w3 W8:=by rw [Lt];exact((Below.refl _ _).alloc (Ae _) _).drew
  rw [pW.out]at Lt;rw [<-Lt];have IM:Below W.heap.size W W8:=HB3.out.trans (hb8.mono HB3.out.size);have KC:=Aa IM;have HA:=Aa (fun W'(k:Below W8.heap.size W8 W')=>HAd.out W' (Hb0.out.trans ((IM.trans (k.mono IM.size)).mono Hb0.out.size)));unfold ZY at HA;have JF:¬F w3.heap.size:=fun hf=>absurd (Ha.out _ hf) (by have:=HB3.out.size;have:=Hb0.out.size;omega)
  have PN:Hid (∀w',Touch F W8 w'->w'.cell? ⟨jb,0,none⟩=some (.pointer (some ⟨d,0,none⟩))/\w'.cell? ⟨jb,1,none⟩=some (.pointer (some ⟨p,0,none⟩))/\w'.cell? ⟨w3.heap.size,0,none⟩=some (.int .u64 (stamp.toNat:Int))/\w'.cell? ⟨w3.heap.size,1,none⟩=some (.int .u64 (v.toNat:Int))/\w'.cell? ⟨w3.heap.size,2,none⟩=some (.bool y.gone)/\w'.cell? ⟨w3.heap.size,3,none⟩=some (.string y.text)):=Aa (fun W' k=>⟨(HK.out W' ((Touch.of_below IM).trans k (fun _ e=> .inl e))).1.cell 0,(HK.out W' ((Touch.of_below IM).trans k (fun _ e=> .inl e))).1.cell 1,(BR.touch k JF).cell 0,(BR.touch k JF).cell 1,(BR.touch k JF).cell 2,(BR.touch k JF).cell 3⟩);have hk8:=PN.out W8 (Touch.refl _ _);clear Lt hb8 BR IM j0 j1 j3 y0 y1 y2 l1 l2 JF
  go_wp2_with fail
  go_region_held3(fun w'=>w'.cell? ⟨jb,0,none⟩=some (.pointer (some ⟨d,0,none⟩))/\w'.cell? ⟨jb,1,none⟩=some (.pointer (some ⟨p,0,none⟩))/\w'.cell? ⟨w3.heap.size,0,none⟩=some (.int .u64 (stamp.toNat:Int))/\w'.cell? ⟨w3.heap.size,1,none⟩=some (.int .u64 (v.toNat:Int))/\w'.cell? ⟨w3.heap.size,2,none⟩=some (.bool y.gone)/\w'.cell? ⟨w3.heap.size,3,none⟩=some (.string y.text))(first| exact hk8| exact PN.out _ ((Touch.of_below ((Dr.drew W8).below _)).trans Ig.touch (fun _ e=> .inl e)))((first| (go_at_call 92;refine(HA.out _ ((Dr.drew W8).below _)).mono ?_;rintro e w5⟨rfl,F5,hS5,Ig⟩))))
 all_goals(
  have Gg:AB F F5 W w5:=(AB.of_below (KC.out.trans (((Dr.drew W8).below _).mono KC.out.size))).trans Ig;have LZ:Nv m1 w5 x d p L s1 F5:=(HX.out.below Hb0.out).move hS5 Gg;have KA:=Aa Gg;have YJ:=Aa LZ;have hk5:=RD.out w5 Gg.touch;clear Ig Gg LZ hS5 hk8 HA PN KC HAd pW)
 all_goals(
  by_cases her:er=0
  ·subst her;have Qg:=Aa (fun W'(k:Below w5.heap.size w5 W')=>HPt.out (by first| rfl| trivial) W' F5 (YJ.out.below k))
   go_wp2_with fail
   go_region_held3(fun w'=>w'.cell? ⟨jb,2,none⟩=some (.pointer (some ⟨x,0,none⟩))/\w'.cell? ⟨w.heap.size,0,none⟩=some (.string y.key))(first| exact hk5| exact RD.out _ (KA.out.trans ((AB.of_below ((Dr.drew w5).below _)).trans TC)).touch)((first| (go_at_call 93;refine(Qg.out _ ((Dr.drew w5).below _)).mono ?_;rintro e w6⟨rfl,F6,kC,TC⟩)))
   all_goals(
    have Un:=Aa (KA.out.trans ((AB.of_below ((Dr.drew w5).below _)).trans TC));have WQ:=Aa kC;clear kC TC hk5 Qg;by_cases Ap0:er2=0
    ·subst Ap0;have k3:=(HK.out w6 Un.out.touch).2.2;have p0:=k3.cell 0;have p1:=k3.cell 1;have f0:=k3.frozen 0;have f1:=k3.frozen 1;simp only [Ad,Af]at p0 p1;have KG:=Aa k3;clear k3
     go_wp2_with fail
     have K7:=(KG.out.AU 0 (.int .u64 (v.toNat:Int))).AU 1 (.int .u64 (pl.toNat:Int));have q0:=K7.cell 0;have q1:=K7.cell 1;simp only [Am,Aq,Ad,Af]at q0 q1;refine bodyPost_ret (v:= .tuple #[.agg #[.int .u64 (v.toNat:Int),.int .u64 (pl.toNat:Int)],.int .i64 0]) (by simp [results,Tryz.results48,go_sem,q0,q1]) rfl ?_;exact Apy Apw Apw ⟨Apw,Apw,Apw⟩ HX.out HJ.out Ha.out Hb0.out Un.out WQ.out KG.out (HK.out w6 Un.out.touch).1 (HK.out W (Touch.refl _ _)).2.2.lt
    ·have te:(er2==0)=false:=by rw [beq_eq_false_iff_ne];exact Ap0
     have hwr:IntKind.i64.wrap (pl.toNat:Int)=Be pl:=rfl;have HD:=Aa (fun W'(k:Below w6.heap.size w6 W')=>HDp.out (by first| rfl| trivial) Ap0 W' F6 (WQ.out.below k));have K1:=(HK.out w6 Un.out.touch).1;have j1:=K1.cell 1;unfold BU at j1;simp only [Ad,Af]at j1;clear K1
     go_wp2_with fail
     refine(HD.out _ (Below.refl _ _)).mono ?_;rintro e w7⟨⟨v7,rfl⟩,F7,hS7,Yp⟩;have gV:=Aa (WQ.out.move hS7 Yp);have Zg:=Aa (Un.out.trans Yp);clear HD hS7 Yp j1 hwr;have k3:=(HK.out w7 Zg.out.touch).2.2;have p0:=k3.cell 0;have p1:=k3.cell 1;have f0:=k3.frozen 0;have f1:=k3.frozen 1;simp only [Ad,Af]at p0 p1;have KG:=Aa k3;clear k3
     go_wp2_with fail
     have K7:=(KG.out.AU 0 (.int .u64 0)).AU 1 (.int .u64 0);have q0:=K7.cell 0;have q1:=K7.cell 1;simp only [Am,Aq,Ad,Af]at q0 q1;refine bodyPost_ret (v:= .tuple #[.agg #[.int .u64 0,.int .u64 0],.int .i64 er2]) (by simp [results,Tryz.results48,go_sem,q0,q1]) rfl ?_;exact Apy (aJ Ap0) (aJ Ap0) ⟨(aJ Ap0),(aJ Ap0),(aJ Ap0)⟩ HX.out HJ.out Ha.out Hb0.out Zg.out gV.out KG.out (HK.out w7 Zg.out.touch).1 (HK.out W (Touch.refl _ _)).2.2.lt
   )
  ·have te:(er==0)=false:=by rw [beq_eq_false_iff_ne];exact her
   clear hk5;have k3:=(HK.out w5 KA.out.touch).2.2;have p0:=k3.cell 0;have p1:=k3.cell 1;have f0:=k3.frozen 0;have f1:=k3.frozen 1;simp only [Ad,Af]at p0 p1;have KG:=Aa k3;clear k3
   go_wp2_with fail
   have K7:=(KG.out.AU 0 (.int .u64 0)).AU 1 (.int .u64 0);have q0:=K7.cell 0;have q1:=K7.cell 1;simp only [Am,Aq,Ad,Af]at q0 q1;refine bodyPost_ret (v:= .tuple #[.agg #[.int .u64 0,.int .u64 0],.int .i64 er]) (by simp [results,Tryz.results48,go_sem,q0,q1]) rfl ?_;exact Apy (Ae4 her) (Ae4 her) ⟨(Ae4 her),(Ae4 her),(Ae4 her)⟩ HX.out HJ.out Ha.out Hb0.out KA.out YJ.out KG.out (HK.out w5 KA.out.touch).1 (HK.out W (Touch.refl _ _)).2.2.lt
  )
end
section
variable{w w':World}{x d p L:Nat}{s:St}{F:Nat->Prop}
theorem Zo(h:Ix w x d p L s F){jb:Nat}{stamp:UInt64}{vs vd:Value}{en:Int}(hj:Jj w jb x d p stamp vs vd false en F)(y:Wr)(hk:y.key.size<=16)(_:y.text.size<=40)
 (hg:FP s y.key.data.toList=(0,7))(hgo:y.gone=true)
  :
 Calls Tryz.prog 48 #[.pointer (some ⟨jb,0,none⟩),NV y] w fun e w'=>e= .returned (.tuple #[.agg #[.int .u64 0,.int .u64 0],.int .i64 0])/\
  ∃F',Ix w' x d p L s F'/\Jj w' jb x d p stamp vs vd false en F'/\AB F F' w w':=by
 obtain⟨W,hW⟩:∃W,W=(w.alloc (.cells #[.string y.key,.string y.text,.bool true] 87)).alloc (.cells #[.int .u64 0,.int .u64 0] 115):=⟨_,rfl⟩;have hb0:Below w.heap.size w W:=by rw [hW];exact((Below.refl _ _).alloc (Ae _) _).alloc (by simp) _
 have BY:BI W w.heap.size 87 [.string y.key,.string y.text,.bool true]:=by rw [hW];exact(heap_alloc_old _ _ (by simp)).trans (heap_alloc_new _ _)
 have BP:BI W (w.heap.size+1) 115 [.int .u64 0,.int .u64 0]:=by
  have:=heap_alloc_new (w.alloc (.cells #[.string y.key,.string y.text,.bool true] 87)) (.cells #[.int .u64 0,.int .u64 0] 115);rw [show(w.alloc (.cells #[.string y.key,.string y.text,.bool true] 87)).heap.size=w.heap.size+1 by simp,<-hW]at this;exact this
 have hJ0:=hj.box.below hb0 hj.box.lt;have hX0:=h.below hb0;have HG:=Aa (fun W'(k:Below W.heap.size W W')=>GZ (hX0.below k) y.key (by omega));rw [hg]at HG;unfold GetPost at HG;have HJ:=Aa hj;have HX:=Aa h;have HW:=Aa hW;have Hb0:=Aa hb0;have RV:=Aa BY;have RX:=Aa BP;have y0:=BY.cell 0;have y1:=BY.cell 1;have y2:=BY.cell 2;have j2:=hJ0.cell 2;have j0:=hJ0.cell 0;have j1:=hJ0.cell 1;have j3:=hJ0.cell 3;unfold BU at j0 j1 j2 j3;simp only [Ad,Af]at y0 y1 y2 j0 j1 j2 j3;unfold NV;rw [hgo];clear h hj hb0 hW BY BP hJ0 hX0 hg hgo;go_enter Tryz.func48,Tryz.ntmps48
 go_wp2_with fail
 rw [<-HW.out];have Ha:Hid (∀b,F b->b<w.heap.size):=Aa (fun b hb=>HX.out.sys.lt b hb);have HK:=Aa (fun W'(k:Touch F W W')=>And.intro ((HJ.out.box.below Hb0.out HJ.out.box.lt).touch k HJ.out.out) (And.intro (RV.out.touch k (fun hf=>absurd (Ha.out _ hf) (by omega))) (RX.out.touch k (fun hf=>absurd (Ha.out _ hf) (by omega)))));have RD:Hid (∀W',Touch F W W'->W'.cell? ⟨jb,2,none⟩=some (.pointer (some ⟨x,0,none⟩))/\W'.cell? ⟨w.heap.size,0,none⟩=some (.string y.key)):=Aa (fun W' k=>⟨(HK.out W' k).1.cell 2,(HK.out W' k).2.1.cell 0⟩);clear RV RX
 go_region_held3(fun w'=>w'.cell? ⟨jb,2,none⟩=some (.pointer (some ⟨x,0,none⟩))/\w'.cell? ⟨w.heap.size,0,none⟩=some (.string y.key))(first| exact⟨j2,y0⟩| exact RD.out _ (Touch.of_below Lr))((first| (go_at_call 91;refine(HG.out _ ((Dr.drew _).below _)).mono ?_;rintro e w3⟨rfl,hbg⟩;have Lr:Below W.heap.size W w3:=((Dr.drew W).below _).trans hbg)))
 have HT3:=Aa (Touch.of_below (F:=F) Lr);have HB3:=Aa Lr;obtain⟨K1,K2,K3⟩:=HK.out w3 HT3.out;replace y0:=K2.cell 0;replace y1:=K2.cell 1;replace y2:=K2.cell 2;replace j3:=K1.cell 3;replace j0:=K1.cell 0;replace j1:=K1.cell 1;unfold BU at j0 j1 j3;simp only [Ad,Af]at y0 y1 y2 j0 j1 j3;have l1:=K1.lt;have l2:=K2.lt;clear K1 K2 K3 hbg Lr j2 HG;have HM3:Hid (AB F F W w3):=Aa (AB.of_below HB3.out);have HX3:Hid (Ix w3 x d p L s F):=Aa ((HX.out.below Hb0.out).below HB3.out);have k3:=(HK.out w3 HT3.out).2.2;have p0:=k3.cell 0;have p1:=k3.cell 1;have f0:=k3.frozen 0;have f1:=k3.frozen 1;simp only [Ad,Af]at p0 p1;have KG:=Aa k3;clear k3 j0 j1 j3 l1 l2
 go_wp2_with fail
 have K7:=(KG.out.AU 0 (.int .u64 0)).AU 1 (.int .u64 0);have q0:=K7.cell 0;have q1:=K7.cell 1;simp only [Am,Aq,Ad,Af]at q0 q1;have Ny:Touch (fun k=>k=w.heap.size+1) w3 ((w3.setCell ⟨w.heap.size+1,0,none⟩ (.int .u64 0)).setCell ⟨w.heap.size+1,1,none⟩ (.int .u64 0)):=((Touch.refl (fun k=>k=w.heap.size+1) w3).setCell (p:=⟨w.heap.size+1,0,none⟩) (.inl rfl) _).setCell (p:=⟨w.heap.size+1,1,none⟩) (.inl rfl) _;have hM:AB F F w w3:=(AB.of_below Hb0.out).trans HM3.out;have Ur:=(hM.set (p:=⟨w.heap.size+1,0,none⟩) (.inr (D7 _)) (.int .u64 0)).set (p:=⟨w.heap.size+1,1,none⟩) (.inr (D7 _)) (.int .u64 0);have hnf:¬F (w.heap.size+1):=fun hf=>absurd (Ha.out _ hf) (by omega)
 have htab:=HX.out.sys.tabs.lt;refine bodyPost_ret (v:= .tuple #[.agg #[.int .u64 0,.int .u64 0],.int .i64 0]) (by simp [results,Tryz.results48,go_sem,q0,q1]) rfl ?_;refine⟨rfl,F,⟨HX3.out.sys.keep Ny (fun b hb e=>hnf (e▸hb)) (by omega) (by omega),HX3.out.box.touch Ny ?_,HX3.out.out⟩,⟨((HK.out w3 HM3.out.touch).1).touch Ny ?_,HJ.out.out⟩,Ur⟩
 ·have:=HX.out.box.lt;show x≠_;omega
 ·have:=HJ.out.box.lt;show jb≠_;omega
theorem Apx(h:Ix w x d p L s F){jb:Nat}{stamp:UInt64}{vs vd:Value}{en:Int}(hj:Jj w jb x d p stamp vs vd false en F)(y:Wr)(hk:y.key.size<=16)(ht:y.text.size<=40){v:UInt64}{e0:Int}(hg:FP s y.key.data.toList=(v,e0))(hv:(e0=7/\v=0/\y.gone=false)\/(e0=0/\v.toNat≠0))
 (hT:∀off s1,C9 s 1=some (off,s1)->(Fh {s1 with ws:=BA s1.ws (off/8) (CJ ⟨stamp,v,y.gone,y.text⟩)} off).2=0){s1 s2 s3:St}{place:UInt64}{er er2:Int}(ha:GI s ⟨stamp,v,y.gone,y.text⟩=(s1,place,er))(hp:er=0->GX s1 y.key.data.toList place=(s2,er2))(hd:er=0->er2≠0->(Fj s2 (Be place)).1=s3):
 Calls Tryz.prog 48 #[.pointer (some ⟨jb,0,none⟩),NV y] w fun e w'=>e= .returned (.tuple #[.agg #[.int .u64 (Apz er er2 (v.toNat:Int) 0 0),.int .u64 (Apz er er2 (place.toNat:Int) 0 0)],.int .i64 (Apz er er2 0 er2 er)])/\
  ∃F',Nv (Apz er er2 (.up M0) (.up M0) (.up M0)) w' x d p L (Apz er er2 s2 s3 s1) F'/\Jj w' jb x d p stamp vs vd false en F'/\AB F F' w w':=by
 have G:=fun W'(k:Below w.heap.size w W')=>GZ (h.below k) y.key (by omega)
 have A:=fun W'(k:Below w.heap.size w W')=>Ko (h.below k).sys ⟨stamp,v,y.gone,y.text⟩ (by show y.text.size<=_;omega) hT
 unfold Lp at A;rw [ha]at A;have P:=fun(h0:er=0)W' F1(hx:Ix W' x d p L s1 F1)=>KZ hx y.key (by omega) place
 unfold Jw at P;have P:=fun(h0:er=0)W' F1(hx:Ix W' x d p L s1 F1)=>by have q:=P h0 W' F1 hx;rw [hp h0]at q;exact q
 have D:er=0->er2≠0->∀W' F2,Ix W' x d p L s2 F2->Calls Tryz.prog 94 #[.pointer (some ⟨p,0,none⟩),.int .i64 (Be place)] W' fun e w''=>(∃v,e= .returned v)/\∃F3,Sys w'' d p L s3 F3/\AB F2 F3 W' w'':=fun h0 h1 W' F2 hx=>(MR hx.sys (Be place) (JZ place)).mono fun e w'' hh=>⟨⟨_,hh.1⟩,by rw [<-hd h0 h1];exact hh.2⟩
 rcases hv with⟨rfl,rfl,hgo⟩| ⟨rfl,hv0⟩
 ·exact Ap3 h hj y hk hg hgo G A P D
 ·exact Ap2 h hj y hk hg hv0 G A P D
theorem kz(h:Ix w x d p L s F){jb:Nat}{stamp:UInt64}{vs vd:Value}{en:Int}(hj:Jj w jb x d p stamp vs vd false en F)(y:Wr)(hk:y.key.size<=16)(ht:y.text.size<=40)
 (hg:FP s y.key.data.toList=(0,7))(hgo:y.gone=false)(hT:∀off s1,C9 s 1=some (off,s1)->(Fh {s1 with ws:=BA s1.ws (off/8) (CJ ⟨stamp,0,y.gone,y.text⟩)} off).2=0)
 {s1 s2:St}{place:UInt64}(ha:GI s ⟨stamp,0,y.gone,y.text⟩=(s1,place,0))(hp:GX s1 y.key.data.toList place=(s2,0)):
 Calls Tryz.prog 48 #[.pointer (some ⟨jb,0,none⟩),NV y] w fun e w'=>e= .returned (.tuple #[.agg #[.int .u64 0,.int .u64 (place.toNat:Int)],.int .i64 0])/\
  ∃F',Ix w' x d p L s2 F'/\Jj w' jb x d p stamp vs vd false en F'/\AB F F' w w':=
 (Apx h hj y hk ht hg (.inl ⟨rfl,rfl,hgo⟩) hT (s3:=s2) (er2:=0) ha (fun _=>hp) (fun _ h0=>absurd rfl h0)).mono fun _ _ hh=>hh
end
end Go.Proofs.YtjcppneoncpdbaaGreatDoor
