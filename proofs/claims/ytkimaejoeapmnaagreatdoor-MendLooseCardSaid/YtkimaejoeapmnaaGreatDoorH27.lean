import Derived.Deep.RegionHeld3
import Derived.Test.YtkimaejoeapmnaaGreatDoorH17
import Derived.Test.YtkimaejoeapmnaaGreatDoorH26
set_option linter.defProp false
set_option maxHeartbeats 32000000
set_option maxRecDepth 100000
open Nat renaming le_succ->YS,le_refl->Ad
open Go.World renaming alloc->Ye
open Array renaming getElem?_push->FH
open Go.Lib renaming hid->Aa
open List renaming getElem?_cons_zero->Am,getElem?_cons_succ->AA,set_cons_zero->Aj,set_cons_succ->Aq
namespace Go.Proofs.YtkimaejoeapmnaaGreatDoor
open Go.RowKit
open Go.Proofs.Tryz
def DN(x d p:Nat)(stamp:UInt64)(vs vd:Value)(over:Bool)(en:Int):List Value:=
 [Az d,Az p,Az x,.int .u64 (stamp.toNat:Int),vs,vd,.bool over,.int .i64 en]
section
variable{w w':World}{x d p L:Nat}{s:St}{F:Nat->Prop}
def Ew.load{len:Mode}(h:Ew len w d p L s F)(j:Nat)(hj:j<8*L):Calls prog 29 #[Az d,.int .i64 ((8*j:Nat):Int)] w λe w'=>e= .returned (.tuple #[.int .u64 ((s.ws j).toNat:Int),.int .i64 0])/\w=w':=by
 obtain⟨tb,hb,n,cT,cH,own,h,_⟩:=h;obtain⟨⟨g,hb0,hr,ho⟩,hu⟩:=h.dev;exact Vp d L s.ws _ _ g hb0 j w h.L1 hu hr hj
def kZ(jb:Nat)(xs:List Value)(h:CS w jb 187 (Az d::xs)):Calls prog 92 #[Az jb] w λe w'=>e= .returned (.bool false)/\w=w':=by
 have c:=h.p1;clear h;go_enter func92,ntmps92;go_wp2;go_ret;exact⟨rfl,rfl⟩
end
section
variable{w w':World}{x d p L:Nat}{s:St}{F:Nat->Prop}
structure Nl(w:World)(jb x d p:Nat)(stamp:UInt64)(vs vd:Value)(over:Bool)(en:Int)(F:Nat->Prop):Prop where
 box:CS w jb 187 (DN x d p stamp vs vd over en)
 out:¬F jb
end
def Q9{α:Type}(er Nu:Int)(a b c:α):α:=if er=0 then(if Nu=0 then a else b)else c
def MF{α:Type}{a b c:α}:Q9 0 0 a b c=a:=rfl
def IP{α:Type}{Nu:Int}{a b c:α}(h:Nu≠0):Q9 0 Nu a b c=b:=by unfold Q9;rw [if_pos rfl,if_neg h]
def JH{α:Type}{er Nu:Int}{a b c:α}(h:er≠0):Q9 er Nu a b c=c:=if_neg h
section
variable{w w':World}{x d p L:Nat}{s:St}{F:Nat->Prop}
def NL{m0 m1 mW:DY}{sN sW:St}{F':Nat->Prop}{W wN:World}{jb:Nat}{stamp:UInt64}{vs vd:Value}{en:Int}{a b c a' b' c':Int}(hm:mW=m1)(hs:sW=sN)(hv:c'=c/\a'=a/\b'=b)(h:Jd m0 w x d p L s F)(hj:Nl w jb x d p stamp vs vd false en F)(hFl:∀b,F b->b<w.heap.size)(hb0:η w W)(hM:AP F F' W wN)(hX:Jd m1 wN x d p L sN F')
 (_:CS wN (w.heap.size+1) 189 [.int .u64 0,.int .u64 0])(hJ:CS wN jb 187 (DN x d p stamp vs vd false en))(hlt:w.heap.size+1<W.heap.size):
 Ending.returned (.tuple #[.agg #[.int .u64 a,.int .u64 b],.int .i64 c])= .returned (.tuple #[.agg #[.int .u64 a',.int .u64 b'],.int .i64 c'])/\∃F',Jd mW ((wN.setCell (Φ (w.heap.size+1)) (.int .u64 a)).setCell (Δ (w.heap.size+1) 1) (.int .u64 b)) x d p L sW F'/\Nl ((wN.setCell (Φ (w.heap.size+1)) (.int .u64 a)).setCell (Δ (w.heap.size+1) 1) (.int .u64 b)) jb x d p stamp vs vd false en F'/\AP F F' w ((wN.setCell (Φ (w.heap.size+1)) (.int .u64 a)).setCell (Δ (w.heap.size+1) 1) (.int .u64 b)):=by
 rw [hv.1,hv.2.1,hv.2.2];subst hm hs;have ht7:Touch (λk=>k=w.heap.size+1) wN ((wN.setCell (Φ (w.heap.size+1)) (.int .u64 a)).setCell (Δ (w.heap.size+1) 1) (.int .u64 b)):=((Touch.refl (λk=>k=w.heap.size+1) wN).setCell (p:=Φ (w.heap.size+1)) (.inl rfl) _).setCell (p:=Δ (w.heap.size+1) 1) (.inl rfl) _;have hM1:AP F F' w wN:=(AP.of_below hb0).trans hM;have hM7:=(hM1.set (p:=Φ (w.heap.size+1)) (.inr (YS _)) (.int .u64 a)).set (p:=Δ (w.heap.size+1) 1) (.inr (YS _)) (.int .u64 b);have hnf:¬F' (w.heap.size+1):=λh6=>(hM.own _ h6).elim (λhf=>absurd (hFl _ hf) O) (λhs=>O)
 have htab:=h.sys.tabs.lt;have hxl:=h.box.lt;have hjl:=hj.box.lt;exact⟨rfl,F',⟨hX.sys.keep ht7 (λb hb e=>hnf (e▸hb)) O O,hX.box.touch ht7 (by show x≠_;omega),hX.out⟩,⟨hJ.touch ht7 (by show jb≠_;omega),hM1.out hjl hj.out⟩,hM7⟩
def Ada{m0 m1 m2 m3:DY}(h:Jd m0 w x d p L s F){jb:Nat}{stamp:UInt64}{vs vd:Value}{en:Int}(hj:Nl w jb x d p stamp vs vd false en F)(y:Wr)(_:y.key.size<=16)
 (hg:Gy s y.key.data.toList=(0,7))(hgo:y.gone=false){er Nu:Int}{s1 s2 s3:St}{pl:UInt64}
 (hget:∀W',η w W'->Calls prog 140 #[Az x,.string y.key] W' (GetPost (Gy s y.key.data.toList) W'))
 (hA:∀W',η w W'->Calls prog 141 #[Az d,Az p,rcV ⟨stamp,0,y.gone,y.text⟩] W' λe w''=>e= .returned (.tuple #[.int .u64 (pl.toNat:Int),.int .i64 er])/\∃F1,Ew m1 w'' d p L s1 F1/\AP F F1 W' w'')
 (hP:er=0->∀W' F1,Jd m1 W' x d p L s1 F1->Calls prog 71 #[Az x,.string y.key,.int .u64 (pl.toNat:Int)] W' λe w''=>e= .returned (.int .i64 Nu)/\∃F2,Jd m2 w'' x d p L s2 F2/\AP F1 F2 W' w'')
 (hD:er=0->Nu≠0->∀W' F2,Jd m2 W' x d p L s2 F2->Calls prog 73 #[Az p,.int .i64 (Bj pl)] W' λe w''=>(∃v,e= .returned v)/\∃F3,Ew m3 w'' d p L s3 F3/\AP F2 F3 W' w''):
 Calls prog 93 #[Az jb,U1 y] w λe w'=>e= .returned (.tuple #[.agg #[.int .u64 (Q9 er Nu 0 0 0),.int .u64 (Q9 er Nu (pl.toNat:Int) 0 0)],.int .i64 (Q9 er Nu 0 Nu er)])/\
  ∃F',Jd (Q9 er Nu m2 m3 m1) w' x d p L (Q9 er Nu s2 s3 s1) F'/\Nl w' jb x d p stamp vs vd false en F'/\AP F F' w w':=by
 obtain⟨W,hW⟩:∃W,W=(w.alloc (.cells #[.string y.key,.string y.text,.bool y.gone] 74)).alloc (.cells #[.int .u64 0,.int .u64 0] 189):=⟨_,rfl⟩;have hb0:η w W:=by rw [hW];exact((Below.refl _ _).alloc (Ad _) _).alloc Θ _
 have BY:CS W w.heap.size 74 [.string y.key,.string y.text,.bool y.gone]:=by rw [hW];exact(show(Ye _ _).heap[w.heap.size]? =_ by rw [Ye,FH,if_neg Θ];exact heap_alloc_new _ _)
 have BP:CS W (w.heap.size+1) 189 [.int .u64 0,.int .u64 0]:=by
  have:=heap_alloc_new (w.alloc (.cells #[.string y.key,.string y.text,.bool y.gone] 74)) (.cells #[.int .u64 0,.int .u64 0] 189);rw [show(w.alloc (.cells #[.string y.key,.string y.text,.bool y.gone] 74)).heap.size=w.heap.size+1 by simp,<-hW]at this;exact this
 have hJ0:=hj.box.ξ hb0;have HG:=Aa (λW'(k:η W W')=>hget W' (τ hb0 k));rw [hg]at HG;unfold GetPost at HG;have HAd:=Aa hA;have kU:=Aa hP;have HDp:=Aa hD;have HJ:=Aa hj;have HX:=Aa h;have HW:=Aa hW;have Hb0:=Aa hb0;have HBY:=Aa BY;have HBP:=Aa BP;have y0:=BY.cell 0;have y1:=BY.cell 1;have y2:=BY.cell 2;have j2:=hJ0.cell 2;have j0:=hJ0.cell 0;have j1:=hJ0.cell 1;have j3:=hJ0.cell 3;unfold DN at j0 j1 j2 j3;simp only [Am,AA]at y0 y1 y2 j0 j1 j2 j3;unfold U1;have ZZ:=Aa hgo;clear hgo;clear h hj hb0 hW BY BP hJ0 hg hget hA hP hD;go_enter func93,ntmps93
 go_wp2_with fail
 rw [<-HW.out];have MC:Hid (∀b,F b->b<w.heap.size):=Aa (λb hb=>HX.out.sys.lt b hb);have HK:=Aa (λW'(k:Touch F W W')=>And.intro ((HJ.out.box.ξ Hb0.out).touch k HJ.out.out) (And.intro (HBY.out.touch k (λhf=>absurd (MC.out _ hf) O)) (HBP.out.touch k (λhf=>absurd (MC.out _ hf) O))));have HK2:Hid (∀W',Touch F W W'->W'.cell? (Δ jb 2)=some (Az x)/\W'.cell? (Φ w.heap.size)=some (.string y.key)):=Aa (λW' k=>⟨(HK.out W' k).1.cell 2,(HK.out W' k).2.1.cell 0⟩);clear HBY HBP
 go_region_held3(λw'=>w'.cell? (Δ jb 2)=some (Az x)/\w'.cell? (Φ w.heap.size)=some (.string y.key))(first| exact⟨j2,y0⟩| exact HK2.out _ (Touch.of_below hbG))((first| (go_at_call 140;refine(HG.out _ ((Dr.drew _).below _)).mono ?_;rintro e w3⟨rfl,hbg⟩;have hbG:η W w3:=((Dr.drew W).below _).trans hbg)))
 have HT3:=Aa (Touch.of_below (F:=F) hbG);have HB3:=Aa hbG;obtain⟨K1,K2,K3⟩:=HK.out w3 HT3.out;replace y0:=K2.cell 0;replace y1:=K2.cell 1;replace y2:=K2.cell 2;replace j3:=K1.cell 3;replace j0:=K1.cell 0;replace j1:=K1.cell 1;unfold DN at j0 j1 j3;simp only [Am,AA]at y0 y1 y2 j0 j1 j3;have l1:=K1.lt;have l2:=K2.lt;clear K1 K2 K3 hbg hbG j2 HG
 all_goals(
  rw [ZZ.out]at y2
  go_wp2_with fail)
 all_goals(go_region)
 all_goals(
  obtain⟨W8,hW8⟩:∃W8,W8=(w3.alloc (.cells #[.int .u64 (stamp.toNat:Int),.int .u64 0,.bool y.gone,.string y.text] 109)).drew:=⟨_,rfl⟩;have BR:CS W8 w3.heap.size 109 [.int .u64 (stamp.toNat:Int),.int .u64 0,.bool y.gone,.string y.text]:=by rw [hW8];exact heap_alloc_new _ _
  have hb8:η w3 W8:=by rw [hW8];exact((Below.refl _ _).alloc (Ad _) _).drew
  rw [ZZ.out]at hW8;rw [<-hW8];have YH:η W W8:=τ HB3.out hb8;have cO:=Aa YH;have HA:=Aa (λW'(k:η W8 W')=>HAd.out W' (τ Hb0.out (τ YH k)));unfold rcV at HA;simp only [show((0:UInt64).toNat:Int)=0 from rfl]at HA;have hRf:¬F w3.heap.size:=λhf=>absurd (MC.out _ hf) (Ψ HB3.out.size Hb0.out.size)
  have HK8:Hid (∀w',Touch F W8 w'->w'.cell? (Φ jb)=some (Az d)/\w'.cell? (Δ jb 1)=some (Az p)/\w'.cell? (Φ w3.heap.size)=some (.int .u64 (stamp.toNat:Int))/\w'.cell? (Δ w3.heap.size 1)=some (.int .u64 0)/\w'.cell? (Δ w3.heap.size 2)=some (.bool y.gone)/\w'.cell? (Δ w3.heap.size 3)=some (.string y.text)):=Aa (λW' k=>⟨(HK.out W' ((Touch.of_below YH).trans k (λ_ e=> .inl e))).1.cell 0,(HK.out W' ((Touch.of_below YH).trans k (λ_ e=> .inl e))).1.cell 1,(BR.touch k hRf).cell 0,(BR.touch k hRf).cell 1,(BR.touch k hRf).cell 2,(BR.touch k hRf).cell 3⟩);have hk8:=HK8.out W8 (Touch.refl _ _);clear hW8 hb8 BR YH j0 j1 j3 y0 y1 y2 l1 l2 hRf
  go_wp2_with fail
  go_region_held3(λw'=>w'.cell? (Φ jb)=some (Az d)/\w'.cell? (Δ jb 1)=some (Az p)/\w'.cell? (Φ w3.heap.size)=some (.int .u64 (stamp.toNat:Int))/\w'.cell? (Δ w3.heap.size 1)=some (.int .u64 0)/\w'.cell? (Δ w3.heap.size 2)=some (.bool y.gone)/\w'.cell? (Δ w3.heap.size 3)=some (.string y.text))(first| exact hk8| exact HK8.out _ ((Touch.of_below ((Dr.drew W8).below _)).trans Ot.touch (λ_ e=> .inl e)))((first| (go_at_call 141;refine(HA.out _ ((Dr.drew W8).below _)).mono ?_;rintro e w5⟨rfl,F5,hS5,Ot⟩))))
 all_goals(
  have Yw:AP F F5 W w5:=(AP.of_below (τ cO.out ((Dr.drew W8).below _))).trans Ot;have WV:Jd m1 w5 x d p L s1 F5:=(HX.out.below Hb0.out).move hS5 Yw;have RH:=Aa Yw;have uQ:=Aa WV;have hk5:=HK2.out w5 Yw.touch;clear Ot Yw WV hS5 hk8 HA HK8 cO HAd ZZ)
 all_goals(
  by_cases her:er=0
  ·subst her;have xn:=Aa (λW'(k:η w5 W')=>kU.out (by first| rfl| trivial) W' F5 (uQ.out.below k))
   go_wp2_with fail
   go_region_held3(λw'=>w'.cell? (Δ jb 2)=some (Az x)/\w'.cell? (Φ w.heap.size)=some (.string y.key))(first| exact hk5| exact HK2.out _ (RH.out.trans ((AP.of_below ((Dr.drew w5).below _)).trans nJ)).touch)((first| (go_at_call 71;refine(xn.out _ ((Dr.drew w5).below _)).mono ?_;rintro e w6⟨rfl,F6,hX6,nJ⟩)))
   all_goals(
    have U2:=Aa (RH.out.trans ((AP.of_below ((Dr.drew w5).below _)).trans nJ));have nM:=Aa hX6;clear hX6 nJ hk5 xn;by_cases RY:Nu=0
    ·subst RY;have k3:=(HK.out w6 U2.out.touch).2.2;have p0:=k3.cell 0;have p1:=k3.cell 1;have f0:=k3.frozen 0;have f1:=k3.frozen 1;simp only [Am,AA]at p0 p1;have OC:=Aa k3;clear k3
     go_wp2_with fail
     have K7:=(OC.out.AZ 0 (.int .u64 0)).AZ 1 (.int .u64 (pl.toNat:Int));have q0:=K7.cell 0;have q1:=K7.cell 1;simp only [Aj,Aq,Am,AA]at q0 q1;refine bodyPost_ret (v:= .tuple #[.agg #[.int .u64 0,.int .u64 (pl.toNat:Int)],.int .i64 0]) (by simp [results,results93,go_sem,q0,q1]) rfl ?_;exact NL MF MF ⟨MF,MF,MF⟩ HX.out HJ.out MC.out Hb0.out U2.out nM.out OC.out (HK.out w6 U2.out.touch).1 (HK.out W (Touch.refl _ _)).2.2.lt
    ·have te:(Nu==0)=false:=by rw [beq_eq_false_iff_ne];exact RY
     have hwr:IntKind.i64.wrap (pl.toNat:Int)=Bj pl:=rfl;have HD:=Aa (λW'(k:η w6 W')=>HDp.out (by first| rfl| trivial) RY W' F6 (nM.out.below k));have K1:=(HK.out w6 U2.out.touch).1;have j1:=K1.cell 1;unfold DN at j1;simp only [Am,AA]at j1;clear K1
     go_wp2_with fail
     refine(HD.out _ (Below.refl _ _)).mono ?_;rintro e w7⟨⟨v7,rfl⟩,F7,hS7,y8⟩;have HX7:=Aa (nM.out.move hS7 y8);have YF:=Aa (U2.out.trans y8);clear HD hS7 y8 j1 hwr;have k3:=(HK.out w7 YF.out.touch).2.2;have p0:=k3.cell 0;have p1:=k3.cell 1;have f0:=k3.frozen 0;have f1:=k3.frozen 1;simp only [Am,AA]at p0 p1;have OC:=Aa k3;clear k3
     go_wp2_with fail
     have K7:=(OC.out.AZ 0 (.int .u64 0)).AZ 1 (.int .u64 0);have q0:=K7.cell 0;have q1:=K7.cell 1;simp only [Aj,Aq,Am,AA]at q0 q1;refine bodyPost_ret (v:= .tuple #[.agg #[.int .u64 0,.int .u64 0],.int .i64 Nu]) (by simp [results,results93,go_sem,q0,q1]) rfl ?_;exact NL (IP RY) (IP RY) ⟨(IP RY),(IP RY),(IP RY)⟩ HX.out HJ.out MC.out Hb0.out YF.out HX7.out OC.out (HK.out w7 YF.out.touch).1 (HK.out W (Touch.refl _ _)).2.2.lt
   )
  ·have te:(er==0)=false:=by rw [beq_eq_false_iff_ne];exact her
   clear hk5;have k3:=(HK.out w5 RH.out.touch).2.2;have p0:=k3.cell 0;have p1:=k3.cell 1;have f0:=k3.frozen 0;have f1:=k3.frozen 1;simp only [Am,AA]at p0 p1;have OC:=Aa k3;clear k3
   go_wp2_with fail
   have K7:=(OC.out.AZ 0 (.int .u64 0)).AZ 1 (.int .u64 0);have q0:=K7.cell 0;have q1:=K7.cell 1;simp only [Aj,Aq,Am,AA]at q0 q1;refine bodyPost_ret (v:= .tuple #[.agg #[.int .u64 0,.int .u64 0],.int .i64 er]) (by simp [results,results93,go_sem,q0,q1]) rfl ?_;exact NL (JH her) (JH her) ⟨(JH her),(JH her),(JH her)⟩ HX.out HJ.out MC.out Hb0.out RH.out uQ.out OC.out (HK.out w5 RH.out.touch).1 (HK.out W (Touch.refl _ _)).2.2.lt
  )
def iC{m0 m1 m2 m3:DY}(h:Jd m0 w x d p L s F){jb:Nat}{stamp:UInt64}{vs vd:Value}{en:Int}(hj:Nl w jb x d p stamp vs vd false en F)(y:Wr)(_:y.key.size<=16){v:UInt64}
 (hg:Gy s y.key.data.toList=(v,0))(hv0:v.toNat≠0){er Nu:Int}{s1 s2 s3:St}{pl:UInt64}
 (hget:∀W',η w W'->Calls prog 140 #[Az x,.string y.key] W' (GetPost (Gy s y.key.data.toList) W'))
 (hA:∀W',η w W'->Calls prog 141 #[Az d,Az p,rcV ⟨stamp,v,y.gone,y.text⟩] W' λe w''=>e= .returned (.tuple #[.int .u64 (pl.toNat:Int),.int .i64 er])/\∃F1,Ew m1 w'' d p L s1 F1/\AP F F1 W' w'')
 (hP:er=0->∀W' F1,Jd m1 W' x d p L s1 F1->Calls prog 71 #[Az x,.string y.key,.int .u64 (pl.toNat:Int)] W' λe w''=>e= .returned (.int .i64 Nu)/\∃F2,Jd m2 w'' x d p L s2 F2/\AP F1 F2 W' w'')
 (hD:er=0->Nu≠0->∀W' F2,Jd m2 W' x d p L s2 F2->Calls prog 73 #[Az p,.int .i64 (Bj pl)] W' λe w''=>(∃v,e= .returned v)/\∃F3,Ew m3 w'' d p L s3 F3/\AP F2 F3 W' w''):
 Calls prog 93 #[Az jb,U1 y] w λe w'=>e= .returned (.tuple #[.agg #[.int .u64 (Q9 er Nu (v.toNat:Int) 0 0),.int .u64 (Q9 er Nu (pl.toNat:Int) 0 0)],.int .i64 (Q9 er Nu 0 Nu er)])/\
  ∃F',Jd (Q9 er Nu m2 m3 m1) w' x d p L (Q9 er Nu s2 s3 s1) F'/\Nl w' jb x d p stamp vs vd false en F'/\AP F F' w w':=by
 obtain⟨W,hW⟩:∃W,W=(w.alloc (.cells #[.string y.key,.string y.text,.bool y.gone] 74)).alloc (.cells #[.int .u64 0,.int .u64 0] 189):=⟨_,rfl⟩;have hb0:η w W:=by rw [hW];exact((Below.refl _ _).alloc (Ad _) _).alloc Θ _
 have BY:CS W w.heap.size 74 [.string y.key,.string y.text,.bool y.gone]:=by rw [hW];exact(show(Ye _ _).heap[w.heap.size]? =_ by rw [Ye,FH,if_neg Θ];exact heap_alloc_new _ _)
 have BP:CS W (w.heap.size+1) 189 [.int .u64 0,.int .u64 0]:=by
  have:=heap_alloc_new (w.alloc (.cells #[.string y.key,.string y.text,.bool y.gone] 74)) (.cells #[.int .u64 0,.int .u64 0] 189);rw [show(w.alloc (.cells #[.string y.key,.string y.text,.bool y.gone] 74)).heap.size=w.heap.size+1 by simp,<-hW]at this;exact this
 have hJ0:=hj.box.ξ hb0;have HG:=Aa (λW'(k:η W W')=>hget W' (τ hb0 k));rw [hg]at HG;unfold GetPost at HG;have HAd:=Aa hA;have kU:=Aa hP;have HDp:=Aa hD;have HJ:=Aa hj;have HX:=Aa h;have HW:=Aa hW;have Hb0:=Aa hb0;have HBY:=Aa BY;have HBP:=Aa BP;have y0:=BY.cell 0;have y1:=BY.cell 1;have y2:=BY.cell 2;have j2:=hJ0.cell 2;have j0:=hJ0.cell 0;have j1:=hJ0.cell 1;have j3:=hJ0.cell 3;unfold DN at j0 j1 j2 j3;simp only [Am,AA]at y0 y1 y2 j0 j1 j2 j3;unfold U1;have tv:((v.toNat:Int)==0)=false:=by rw [beq_eq_false_iff_ne];omega
 have tv2:(v.toNat==0)=false:=by rw [beq_eq_false_iff_ne];exact hv0
 clear hv0;clear h hj hb0 hW BY BP hJ0 hg hget hA hP hD;go_enter func93,ntmps93
 go_wp2_with fail
 rw [<-HW.out];have MC:Hid (∀b,F b->b<w.heap.size):=Aa (λb hb=>HX.out.sys.lt b hb);have HK:=Aa (λW'(k:Touch F W W')=>And.intro ((HJ.out.box.ξ Hb0.out).touch k HJ.out.out) (And.intro (HBY.out.touch k (λhf=>absurd (MC.out _ hf) O)) (HBP.out.touch k (λhf=>absurd (MC.out _ hf) O))));have HK2:Hid (∀W',Touch F W W'->W'.cell? (Δ jb 2)=some (Az x)/\W'.cell? (Φ w.heap.size)=some (.string y.key)):=Aa (λW' k=>⟨(HK.out W' k).1.cell 2,(HK.out W' k).2.1.cell 0⟩);clear HBY HBP
 go_region_held3(λw'=>w'.cell? (Δ jb 2)=some (Az x)/\w'.cell? (Φ w.heap.size)=some (.string y.key))(first| exact⟨j2,y0⟩| exact HK2.out _ (Touch.of_below hbG))((first| (go_at_call 140;refine(HG.out _ ((Dr.drew _).below _)).mono ?_;rintro e w3⟨rfl,hbg⟩;have hbG:η W w3:=((Dr.drew W).below _).trans hbg)))
 have HT3:=Aa (Touch.of_below (F:=F) hbG);have HB3:=Aa hbG;obtain⟨K1,K2,K3⟩:=HK.out w3 HT3.out;replace y0:=K2.cell 0;replace y1:=K2.cell 1;replace y2:=K2.cell 2;replace j3:=K1.cell 3;replace j0:=K1.cell 0;replace j1:=K1.cell 1;unfold DN at j0 j1 j3;simp only [Am,AA]at y0 y1 y2 j0 j1 j3;have l1:=K1.lt;have l2:=K2.lt;clear K1 K2 K3 hbg hbG j2 HG;rcases Bool.eq_false_or_eq_true y.gone with hgo| hgo
 all_goals(
  have ZZ:=Aa hgo;clear hgo;rw [ZZ.out]at y2
  go_wp2_with fail)
 all_goals(go_region)
 all_goals(
  obtain⟨W8,hW8⟩:∃W8,W8=(w3.alloc (.cells #[.int .u64 (stamp.toNat:Int),.int .u64 (v.toNat:Int),.bool y.gone,.string y.text] 109)).drew:=⟨_,rfl⟩;have BR:CS W8 w3.heap.size 109 [.int .u64 (stamp.toNat:Int),.int .u64 (v.toNat:Int),.bool y.gone,.string y.text]:=by rw [hW8];exact heap_alloc_new _ _
  have hb8:η w3 W8:=by rw [hW8];exact((Below.refl _ _).alloc (Ad _) _).drew
  rw [ZZ.out]at hW8;rw [<-hW8];have YH:η W W8:=τ HB3.out hb8;have cO:=Aa YH;have HA:=Aa (λW'(k:η W8 W')=>HAd.out W' (τ Hb0.out (τ YH k)));unfold rcV at HA;have hRf:¬F w3.heap.size:=λhf=>absurd (MC.out _ hf) (Ψ HB3.out.size Hb0.out.size)
  have HK8:Hid (∀w',Touch F W8 w'->w'.cell? (Φ jb)=some (Az d)/\w'.cell? (Δ jb 1)=some (Az p)/\w'.cell? (Φ w3.heap.size)=some (.int .u64 (stamp.toNat:Int))/\w'.cell? (Δ w3.heap.size 1)=some (.int .u64 (v.toNat:Int))/\w'.cell? (Δ w3.heap.size 2)=some (.bool y.gone)/\w'.cell? (Δ w3.heap.size 3)=some (.string y.text)):=Aa (λW' k=>⟨(HK.out W' ((Touch.of_below YH).trans k (λ_ e=> .inl e))).1.cell 0,(HK.out W' ((Touch.of_below YH).trans k (λ_ e=> .inl e))).1.cell 1,(BR.touch k hRf).cell 0,(BR.touch k hRf).cell 1,(BR.touch k hRf).cell 2,(BR.touch k hRf).cell 3⟩);have hk8:=HK8.out W8 (Touch.refl _ _);clear hW8 hb8 BR YH j0 j1 j3 y0 y1 y2 l1 l2 hRf
  go_wp2_with fail
  go_region_held3(λw'=>w'.cell? (Φ jb)=some (Az d)/\w'.cell? (Δ jb 1)=some (Az p)/\w'.cell? (Φ w3.heap.size)=some (.int .u64 (stamp.toNat:Int))/\w'.cell? (Δ w3.heap.size 1)=some (.int .u64 (v.toNat:Int))/\w'.cell? (Δ w3.heap.size 2)=some (.bool y.gone)/\w'.cell? (Δ w3.heap.size 3)=some (.string y.text))(first| exact hk8| exact HK8.out _ ((Touch.of_below ((Dr.drew W8).below _)).trans Ot.touch (λ_ e=> .inl e)))((first| (go_at_call 141;refine(HA.out _ ((Dr.drew W8).below _)).mono ?_;rintro e w5⟨rfl,F5,hS5,Ot⟩))))
 all_goals(
  have Yw:AP F F5 W w5:=(AP.of_below (τ cO.out ((Dr.drew W8).below _))).trans Ot;have WV:Jd m1 w5 x d p L s1 F5:=(HX.out.below Hb0.out).move hS5 Yw;have RH:=Aa Yw;have uQ:=Aa WV;have hk5:=HK2.out w5 Yw.touch;clear Ot Yw WV hS5 hk8 HA HK8 cO HAd ZZ)
 all_goals(
  by_cases her:er=0
  ·subst her;have xn:=Aa (λW'(k:η w5 W')=>kU.out (by first| rfl| trivial) W' F5 (uQ.out.below k))
   go_wp2_with fail
   go_region_held3(λw'=>w'.cell? (Δ jb 2)=some (Az x)/\w'.cell? (Φ w.heap.size)=some (.string y.key))(first| exact hk5| exact HK2.out _ (RH.out.trans ((AP.of_below ((Dr.drew w5).below _)).trans nJ)).touch)((first| (go_at_call 71;refine(xn.out _ ((Dr.drew w5).below _)).mono ?_;rintro e w6⟨rfl,F6,hX6,nJ⟩)))
   all_goals(
    have U2:=Aa (RH.out.trans ((AP.of_below ((Dr.drew w5).below _)).trans nJ));have nM:=Aa hX6;clear hX6 nJ hk5 xn;by_cases RY:Nu=0
    ·subst RY;have k3:=(HK.out w6 U2.out.touch).2.2;have p0:=k3.cell 0;have p1:=k3.cell 1;have f0:=k3.frozen 0;have f1:=k3.frozen 1;simp only [Am,AA]at p0 p1;have OC:=Aa k3;clear k3
     go_wp2_with fail
     have K7:=(OC.out.AZ 0 (.int .u64 (v.toNat:Int))).AZ 1 (.int .u64 (pl.toNat:Int));have q0:=K7.cell 0;have q1:=K7.cell 1;simp only [Aj,Aq,Am,AA]at q0 q1;refine bodyPost_ret (v:= .tuple #[.agg #[.int .u64 (v.toNat:Int),.int .u64 (pl.toNat:Int)],.int .i64 0]) (by simp [results,results93,go_sem,q0,q1]) rfl ?_;exact NL MF MF ⟨MF,MF,MF⟩ HX.out HJ.out MC.out Hb0.out U2.out nM.out OC.out (HK.out w6 U2.out.touch).1 (HK.out W (Touch.refl _ _)).2.2.lt
    ·have te:(Nu==0)=false:=by rw [beq_eq_false_iff_ne];exact RY
     have hwr:IntKind.i64.wrap (pl.toNat:Int)=Bj pl:=rfl;have HD:=Aa (λW'(k:η w6 W')=>HDp.out (by first| rfl| trivial) RY W' F6 (nM.out.below k));have K1:=(HK.out w6 U2.out.touch).1;have j1:=K1.cell 1;unfold DN at j1;simp only [Am,AA]at j1;clear K1
     go_wp2_with fail
     refine(HD.out _ (Below.refl _ _)).mono ?_;rintro e w7⟨⟨v7,rfl⟩,F7,hS7,y8⟩;have HX7:=Aa (nM.out.move hS7 y8);have YF:=Aa (U2.out.trans y8);clear HD hS7 y8 j1 hwr;have k3:=(HK.out w7 YF.out.touch).2.2;have p0:=k3.cell 0;have p1:=k3.cell 1;have f0:=k3.frozen 0;have f1:=k3.frozen 1;simp only [Am,AA]at p0 p1;have OC:=Aa k3;clear k3
     go_wp2_with fail
     have K7:=(OC.out.AZ 0 (.int .u64 0)).AZ 1 (.int .u64 0);have q0:=K7.cell 0;have q1:=K7.cell 1;simp only [Aj,Aq,Am,AA]at q0 q1;refine bodyPost_ret (v:= .tuple #[.agg #[.int .u64 0,.int .u64 0],.int .i64 Nu]) (by simp [results,results93,go_sem,q0,q1]) rfl ?_;exact NL (IP RY) (IP RY) ⟨(IP RY),(IP RY),(IP RY)⟩ HX.out HJ.out MC.out Hb0.out YF.out HX7.out OC.out (HK.out w7 YF.out.touch).1 (HK.out W (Touch.refl _ _)).2.2.lt
   )
  ·have te:(er==0)=false:=by rw [beq_eq_false_iff_ne];exact her
   clear hk5;have k3:=(HK.out w5 RH.out.touch).2.2;have p0:=k3.cell 0;have p1:=k3.cell 1;have f0:=k3.frozen 0;have f1:=k3.frozen 1;simp only [Am,AA]at p0 p1;have OC:=Aa k3;clear k3
   go_wp2_with fail
   have K7:=(OC.out.AZ 0 (.int .u64 0)).AZ 1 (.int .u64 0);have q0:=K7.cell 0;have q1:=K7.cell 1;simp only [Aj,Aq,Am,AA]at q0 q1;refine bodyPost_ret (v:= .tuple #[.agg #[.int .u64 0,.int .u64 0],.int .i64 er]) (by simp [results,results93,go_sem,q0,q1]) rfl ?_;exact NL (JH her) (JH her) ⟨(JH her),(JH her),(JH her)⟩ HX.out HJ.out MC.out Hb0.out RH.out uQ.out OC.out (HK.out w5 RH.out.touch).1 (HK.out W (Touch.refl _ _)).2.2.lt
  )
end
section
variable{w w':World}{x d p L:Nat}{s:St}{F:Nat->Prop}
def dV(h:Ix w x d p L s F){jb:Nat}{stamp:UInt64}{vs vd:Value}{en:Int}(hj:Nl w jb x d p stamp vs vd false en F)(y:Wr)(hk:y.key.size<=16)(_:y.text.size<=40)
 (hg:Gy s y.key.data.toList=(0,7))(hgo:y.gone=true)
  :
 Calls prog 93 #[Az jb,U1 y] w λe w'=>e= .returned (.tuple #[.agg #[.int .u64 0,.int .u64 0],.int .i64 0])/\
  ∃F',Ix w' x d p L s F'/\Nl w' jb x d p stamp vs vd false en F'/\AP F F' w w':=by
 obtain⟨W,hW⟩:∃W,W=(w.alloc (.cells #[.string y.key,.string y.text,.bool true] 74)).alloc (.cells #[.int .u64 0,.int .u64 0] 189):=⟨_,rfl⟩;have hb0:η w W:=by rw [hW];exact((Below.refl _ _).alloc (Ad _) _).alloc Θ _
 have BY:CS W w.heap.size 74 [.string y.key,.string y.text,.bool true]:=by rw [hW];exact(χ _ _ Θ).trans (heap_alloc_new _ _)
 have BP:CS W (w.heap.size+1) 189 [.int .u64 0,.int .u64 0]:=by
  have:=heap_alloc_new (w.alloc (.cells #[.string y.key,.string y.text,.bool true] 74)) (.cells #[.int .u64 0,.int .u64 0] 189);rw [show(w.alloc (.cells #[.string y.key,.string y.text,.bool true] 74)).heap.size=w.heap.size+1 by simp,<-hW]at this;exact this
 have hJ0:=hj.box.ξ hb0;have hX0:=h.below hb0;have HG:=Aa (λW'(k:η W W')=>WU (hX0.below k) y.key O);rw [hg]at HG;unfold GetPost at HG;have HJ:=Aa hj;have HX:=Aa h;have HW:=Aa hW;have Hb0:=Aa hb0;have HBY:=Aa BY;have HBP:=Aa BP;have y0:=BY.cell 0;have y1:=BY.cell 1;have y2:=BY.cell 2;have j2:=hJ0.cell 2;have j0:=hJ0.cell 0;have j1:=hJ0.cell 1;have j3:=hJ0.cell 3;unfold DN at j0 j1 j2 j3;simp only [Am,AA]at y0 y1 y2 j0 j1 j2 j3;unfold U1;rw [hgo];clear h hj hb0 hW BY BP hJ0 hX0 hg hgo;go_enter func93,ntmps93
 go_wp2_with fail
 rw [<-HW.out];have MC:Hid (∀b,F b->b<w.heap.size):=Aa (λb hb=>HX.out.sys.lt b hb);have HK:=Aa (λW'(k:Touch F W W')=>And.intro ((HJ.out.box.ξ Hb0.out).touch k HJ.out.out) (And.intro (HBY.out.touch k (λhf=>absurd (MC.out _ hf) O)) (HBP.out.touch k (λhf=>absurd (MC.out _ hf) O))));have HK2:Hid (∀W',Touch F W W'->W'.cell? (Δ jb 2)=some (Az x)/\W'.cell? (Φ w.heap.size)=some (.string y.key)):=Aa (λW' k=>⟨(HK.out W' k).1.cell 2,(HK.out W' k).2.1.cell 0⟩);clear HBY HBP
 go_region_held3(λw'=>w'.cell? (Δ jb 2)=some (Az x)/\w'.cell? (Φ w.heap.size)=some (.string y.key))(first| exact⟨j2,y0⟩| exact HK2.out _ (Touch.of_below hbG))((first| (go_at_call 140;refine(HG.out _ ((Dr.drew _).below _)).mono ?_;rintro e w3⟨rfl,hbg⟩;have hbG:η W w3:=((Dr.drew W).below _).trans hbg)))
 have HT3:=Aa (Touch.of_below (F:=F) hbG);have HB3:=Aa hbG;obtain⟨K1,K2,K3⟩:=HK.out w3 HT3.out;replace y0:=K2.cell 0;replace y1:=K2.cell 1;replace y2:=K2.cell 2;replace j3:=K1.cell 3;replace j0:=K1.cell 0;replace j1:=K1.cell 1;unfold DN at j0 j1 j3;simp only [Am,AA]at y0 y1 y2 j0 j1 j3;have l1:=K1.lt;have l2:=K2.lt;clear K1 K2 K3 hbg hbG j2 HG;have HM3:Hid (AP F F W w3):=Aa (AP.of_below HB3.out);have HX3:Hid (Ix w3 x d p L s F):=Aa ((HX.out.below Hb0.out).below HB3.out);have k3:=(HK.out w3 HT3.out).2.2;have p0:=k3.cell 0;have p1:=k3.cell 1;have f0:=k3.frozen 0;have f1:=k3.frozen 1;simp only [Am,AA]at p0 p1;have OC:=Aa k3;clear k3 j0 j1 j3 l1 l2
 go_wp2_with fail
 have K7:=(OC.out.AZ 0 (.int .u64 0)).AZ 1 (.int .u64 0);have q0:=K7.cell 0;have q1:=K7.cell 1;simp only [Aj,Aq,Am,AA]at q0 q1;have ht7:Touch (λk=>k=w.heap.size+1) w3 ((w3.setCell (Φ (w.heap.size+1)) (.int .u64 0)).setCell (Δ (w.heap.size+1) 1) (.int .u64 0)):=((Touch.refl (λk=>k=w.heap.size+1) w3).setCell (p:=Φ (w.heap.size+1)) (.inl rfl) _).setCell (p:=Δ (w.heap.size+1) 1) (.inl rfl) _;have hM:AP F F w w3:=(AP.of_below Hb0.out).trans HM3.out;have hM7:=(hM.set (p:=Φ (w.heap.size+1)) (.inr (YS _)) (.int .u64 0)).set (p:=Δ (w.heap.size+1) 1) (.inr (YS _)) (.int .u64 0);have hnf:¬F (w.heap.size+1):=λhf=>absurd (MC.out _ hf) O
 have htab:=HX.out.sys.tabs.lt;refine bodyPost_ret (v:= .tuple #[.agg #[.int .u64 0,.int .u64 0],.int .i64 0]) (by simp [results,results93,go_sem,q0,q1]) rfl ?_;refine⟨rfl,F,⟨HX3.out.sys.keep ht7 (λb hb e=>hnf (e▸hb)) O O,HX3.out.box.touch ht7 ?_,HX3.out.out⟩,⟨((HK.out w3 HM3.out.touch).1).touch ht7 ?_,HJ.out.out⟩,hM7⟩
 ·have:=HX.out.box.lt;show x≠_;omega
 ·have:=HJ.out.box.lt;show jb≠_;omega
def NG(h:Ix w x d p L s F){jb:Nat}{stamp:UInt64}{vs vd:Value}{en:Int}(hj:Nl w jb x d p stamp vs vd false en F)(y:Wr)(hk:y.key.size<=16)(ht:y.text.size<=40){v:UInt64}{e0:Int}(hg:Gy s y.key.data.toList=(v,e0))(hv:(e0=7/\v=0/\y.gone=false)\/(e0=0/\v.toNat≠0))
 (hT:∀off s1,CO s 1=some (off,s1)->(Ib {s1 with ws:=BO s1.ws (off/8) (Dj ⟨stamp,v,y.gone,y.text⟩)} off).2=0){s1 s2 s3:St}{place:UInt64}{er Nu:Int}(ha:IZ s ⟨stamp,v,y.gone,y.text⟩=(s1,place,er))(hp:er=0->KJ s1 y.key.data.toList place=(s2,Nu))(hd:er=0->Nu≠0->(IE s2 (Bj place)).1=s3):
 Calls prog 93 #[Az jb,U1 y] w λe w'=>e= .returned (.tuple #[.agg #[.int .u64 (Q9 er Nu (v.toNat:Int) 0 0),.int .u64 (Q9 er Nu (place.toNat:Int) 0 0)],.int .i64 (Q9 er Nu 0 Nu er)])/\
  ∃F',Jd (Q9 er Nu (.up M0) (.up M0) (.up M0)) w' x d p L (Q9 er Nu s2 s3 s1) F'/\Nl w' jb x d p stamp vs vd false en F'/\AP F F' w w':=by
 have G:=λW'(k:η w W')=>WU (h.below k) y.key O
 have A:=λW'(k:η w W')=>Ag4 (h.below k).sys ⟨stamp,v,y.gone,y.text⟩ (by show y.text.size<=_;omega) hT
 unfold Aal at A;rw [ha]at A;have P:=λ(h0:er=0)W' F1(hx:Ix W' x d p L s1 F1)=>WT hx y.key O place
 unfold kW at P;have P:=λ(h0:er=0)W' F1(hx:Ix W' x d p L s1 F1)=>by have q:=P h0 W' F1 hx;rw [hp h0]at q;exact q
 have D:er=0->Nu≠0->∀W' F2,Ix W' x d p L s2 F2->Calls prog 73 #[Az p,.int .i64 (Bj place)] W' λe w''=>(∃v,e= .returned v)/\∃F3,Sys w'' d p L s3 F3/\AP F2 F3 W' w'':=λh0 h1 W' F2 hx=>(Wy hx.sys (Bj place) (Qu place)).mono λe w'' hh=>⟨⟨_,hh.1⟩,by rw [<-hd h0 h1];exact hh.2⟩
 rcases hv with⟨rfl,rfl,hgo⟩| ⟨rfl,hv0⟩
 ·exact Ada h hj y hk hg hgo G A P D
 ·exact iC h hj y hk hg hv0 G A P D
def Ahc(h:Ix w x d p L s F){jb:Nat}{stamp:UInt64}{vs vd:Value}{en:Int}(hj:Nl w jb x d p stamp vs vd false en F)(y:Wr)(hk:y.key.size<=16)(ht:y.text.size<=40)
 (hg:Gy s y.key.data.toList=(0,7))(hgo:y.gone=false)(hT:∀off s1,CO s 1=some (off,s1)->(Ib {s1 with ws:=BO s1.ws (off/8) (Dj ⟨stamp,0,y.gone,y.text⟩)} off).2=0)
 {s1 s2:St}{place:UInt64}(ha:IZ s ⟨stamp,0,y.gone,y.text⟩=(s1,place,0))(hp:KJ s1 y.key.data.toList place=(s2,0)):
 Calls prog 93 #[Az jb,U1 y] w λe w'=>e= .returned (.tuple #[.agg #[.int .u64 0,.int .u64 (place.toNat:Int)],.int .i64 0])/\
  ∃F',Ix w' x d p L s2 F'/\Nl w' jb x d p stamp vs vd false en F'/\AP F F' w w':=
 (NG h hj y hk ht hg (.inl ⟨rfl,rfl,hgo⟩) hT (s3:=s2) (Nu:=0) ha (λ_=>hp) (λ_ h0=>absurd rfl h0)).mono λ_ _ hh=>hh
end
