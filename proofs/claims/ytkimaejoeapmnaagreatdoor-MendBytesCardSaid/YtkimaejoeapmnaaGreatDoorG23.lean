import Derived.Test.YtkimaejoeapmnaaGreatDoorG22
set_option maxHeartbeats 32000000
set_option maxRecDepth 100000
open Nat renaming le_refl->Ad,le_trans->Bg,le_add_right->XJ,lt_succ_self->XK
open Go.Lib renaming hid->Aa
open List renaming length_drop->AV
open Go.World renaming drew->xX
namespace Go.Proofs.YtkimaejoeapmnaaGreatDoor
open Go.RowKit
section
variable{base jb x d p L:Nat}
theorem Afv{w:World}{j:Jm}{G:Nat->Prop}(h:FU w base jb x d p L j G)(nd:Nd)(A1 A2 A3:Option Addr)(c1 c2 c3:Nat)(off word:Int)(lb:UInt8)(rest:List UInt8)(A:Option Addr)(c:Nat)(value:UInt64)
 (hN:Zx w G (.slice A1 nd.pre.length c1) (.int .u64 (nd.val.toNat:Int)) (.slice A2 nd.labels.length c2) (.slice A3 nd.kids.length c3) nd)(b1:nd.pre.length<=100)(b2:nd.labels.length<=100)(b3:nd.kids.length<=100)
 (hR:IK w G A rest.length (rest.map bv))(hrc:rest.length<=c)(hrl:rest.length<=100)(hm:j.made.length<=500)(hs:common nd.pre rest<nd.pre.length)(hlt:common nd.pre rest<rest.length)(her:(Ec j {nd with pre:=nd.pre.drop (common nd.pre rest+1)}).2.2=0)(hok:Jc ⟨nd.pre.take (common nd.pre rest),0,[],[]⟩ (nd.pre.getD (common nd.pre rest) 0) (Ec j {nd with pre:=nd.pre.drop (common nd.pre rest+1)}).2.1=true):
 Calls Tryz.prog 116 #[Aw jb,.agg #[.slice A1 nd.pre.length c1,.int .u64 (nd.val.toNat:Int),.slice A2 nd.labels.length c2,.slice A3 nd.kids.length c3,.int .i64 off,.int .u8 (lb.toNat:Int),.int .i64 word],.slice A rest.length c,.int .u64 (value.toNat:Int)] w (Io (Jp j nd rest value) base jb x d p L G w):=by
 have hb0:Below w.heap.size w (w.alloc (.cells #[.slice A1 nd.pre.length c1,.int .u64 (nd.val.toNat:Int),.slice A2 nd.labels.length c2,.slice A3 nd.kids.length c3,.int .i64 off,.int .u8 (lb.toNat:Int),.int .i64 word] 214)):=(Below.refl _ _).alloc (Ad _) _;have B0:CG (w.alloc (.cells #[.slice A1 nd.pre.length c1,.int .u64 (nd.val.toNat:Int),.slice A2 nd.labels.length c2,.slice A3 nd.kids.length c3,.int .i64 off,.int .u8 (lb.toNat:Int),.int .i64 word] 214)) w.heap.size 214 [.slice A1 nd.pre.length c1,.int .u64 (nd.val.toNat:Int),.slice A2 nd.labels.length c2,.slice A3 nd.kids.length c3,.int .i64 off,.int .u8 (lb.toNat:Int),.int .i64 word]:=heap_alloc_new _ _;obtain⟨W0,hW0⟩:∃W0,W0=w.alloc (.cells #[.slice A1 nd.pre.length c1,.int .u64 (nd.val.toNat:Int),.slice A2 nd.labels.length c2,.slice A3 nd.kids.length c3,.int .i64 off,.int .u8 (lb.toNat:Int),.int .i64 word] 214):=⟨_,rfl⟩;rw [<-hW0]at hb0 B0;have HW:=Aa hW0;obtain⟨q1,q2,q3,hpc⟩:=hN.reads;obtain⟨pb,po,rfl,hpw, -⟩:=GY q1 _ hs;obtain⟨k,hk⟩:∃k,k=common nd.pre rest:=⟨_,rfl⟩;have hkr:k<=rest.length:=by rw [hk];exact Fp _ _
 have HC:=Aa (fun(W:World)(hW:Below w.heap.size w W)=>KX (some ⟨pb,po,none⟩) A nd.pre.length rest.length c1 c nd.pre rest W (by omega) (by omega) (q1.below hW).1 (hR.below hW).1);rw [<-hk]at hs HC;have HK:Hid (k=common nd.pre rest):=Aa hk;obtain⟨⟨j1,kid,er⟩,hr⟩:∃r,Ec j {nd with pre:=nd.pre.drop (k+1)}=r:=⟨_,rfl⟩;have hmd:=Ij j {nd with pre:=nd.pre.drop (k+1)};rw [hr]at hmd;simp only at hmd;have Ob:=Aa hr;have UY:=Aa (fun(W:World)(hW:Below w.heap.size w W)(P:Option Addr)(C:Nat)(hP:P=(if c1=k+1 then some (⟨pb,po,none⟩:Addr)else some ⟨pb,po+(k+1),none⟩))=>Lj (h.below hW) {nd with pre:=nd.pre.drop (k+1)} P A2 A3 C c2 c3 (by simp;omega) (by simp only;omega) (by simp only;omega)
  (((q1.below hW).rest rfl (by omega) hpc hP).1) (q2.below hW).1 (q3.below hW).1 (by omega))
 rw [hr]at UY;simp only [AV]at UY;have HN:=Aa q1;have HR:=Aa hR;have ou:=Aa h.lt;have HpC:=Aa hpc;rw [<-hk]at hlt her hok;rw [hr]at her hok;simp only at her hok;subst her;obtain⟨⟨j2,Y2,NI⟩,hr2⟩:∃r,KN (rest.length+1) j1 (rest.drop (k+1)) value=r:=⟨_,rfl⟩;have Aq5:=Ld (rest.length+1) j1 (rest.drop (k+1)) value;rw [hr2]at Aq5;simp only at Aq5;have HP:Hid (Jp j nd rest value=Hg j2 (LY ⟨nd.pre.take k,0,[],[]⟩ (nd.pre.getD k 0) kid) (rest.getD k 0) Y2 NI):=Aa (by rw [Jp,<-hk,if_neg (by omega),hr];simp only;rw [if_neg (by omega),if_neg (by simp),if_pos hok,hr2];rfl);have iQ:=Aa hok;have HR2:=Aa hr2;obtain⟨rb,ro,rfl,hrw, -⟩:=GY hR _ hlt;clear hok hr2;clear h hN hR hr hW0 q1 q2 q3;have t1:((k:Int)==(nd.pre.length:Int))=false:=by rw [beq_eq_false_iff_ne];omega
 have hw1:IntKind.i64.wrap ((k:Int)+1)=(k:Int)+1:=wrap64 _ (by omega) (by omega);have t2:((k:Int)==(rest.length:Int))=false:=by rw [beq_eq_false_iff_ne];omega
 obtain⟨y0,y1,y2,y3,y4,y5,y6⟩:=ED B0;clear hk;go_enter Tryz.func116,Tryz.ntmps116
 go_wp2_with fail
 rw [<-HW.out];clear HW;refine(HC.out W0 hb0).mono ?_;rintro e w1⟨rfl,hd1⟩;have hb1:=hb0.trans ((hd1.below W0.heap.size).mono hb0.size);have B1:=B0.below (hd1.below _) B0.lt;have hs1:w.heap.size<w1.heap.size:=B1.lt;obtain⟨wl,hwl,hbl,BL⟩:=FB w1 212 [.slice (some ⟨pb,po,none⟩) nd.pre.length c1,.int .u64 (nd.val.toNat:Int),.slice A2 nd.labels.length c2,.slice A3 nd.kids.length c3];have HB1:=Aa hb1;have Tt:=Aa B1;obtain⟨y0,y1,y2,y3,y4,y5,y6⟩:=ED (B1.below hbl B1.lt);obtain⟨z0,z1,z2,z3,XE,XF,bF,bG⟩:=C9 BL;obtain⟨x0,x1,x2,x3,x4,x5,x6⟩:=ED B1;rw [hwl]at y0 y1 y2 y3 y4 y5 y6 z0 z1 z2 z3 XE XF bF bG;have hne:w.heap.size≠w1.heap.size:=by omega
 have hne':w1.heap.size≠w.heap.size:=by omega
 clear B0 hb0 hd1 hb1 B1 BL hbl hwl
 go_wp2_with fail
 all_goals(refine(UY.out _ (HB1.out.alloc HB1.out.size _) _ _ (by split<;>first| rfl| omega)).mono ?_)
 all_goals(rintro e w2⟨rfl,G2,hj2,hm2⟩)
 all_goals(have XA:=Aa ((AO.of_below (F:=G) (HB1.out.alloc HB1.out.size _)).trans hm2))
 all_goals(have B2:=(Tt.out.below ((Below.refl _ _).alloc (Ad _) _) Tt.out.lt).touch hm2.touch (fun hg=>by have:=ou.out _ hg;omega))
 all_goals(have hpre:=HN.out.moved XA.out)
 all_goals(obtain⟨b',o',e',hpb,hck⟩:=GY hpre k hs)
 all_goals(injection e' with e';injection e' with e1 e2;subst e1 e2)
 all_goals(clear y0 y1 y2 y3 y4 y5 y6 z0 z1 z2 z3 XE XF bF bG x0 x1 x2 x3 x4 x5 x6 UY hm2 hne hne')
 all_goals(have hln:(nd.pre.take k).length=k:=by simp;omega)
 all_goals(have htk:IK w2 G2 (some ⟨pb,po,none⟩) k ((nd.pre.take k).map bv):=by have:=hpre.take k (by omega);rwa [<-List.map_take]at this)
 all_goals(have hs2:w.heap.size<w2.heap.size:=B2.lt)
 all_goals(have hne:w.heap.size≠w2.heap.size:=by omega)
 all_goals(have hne':w2.heap.size≠w.heap.size:=by omega)
 all_goals(obtain⟨x0,x1,x2,x3,x4,x5,x6⟩:=ED B2)
 all_goals(obtain⟨wt,hwt⟩:∃wt,wt=w2.alloc (.cells #[.slice (some ⟨pb,po,none⟩) k k,.int .u64 0,.slice none 0 0,.slice none 0 0] 212):=⟨_,rfl⟩)
 all_goals(have BT:CG wt w2.heap.size 212 [.slice (some ⟨pb,po,none⟩) k k,.int .u64 0,.slice none 0 0,.slice none 0 0]:=hwt▸heap_alloc_new _ _)
 all_goals(have hbt:Below w2.heap.size w2 wt:=hwt▸(Below.refl _ _).alloc (Ad _) _)
 all_goals(have B2t:=B2.below hbt B2.lt)
 all_goals(obtain⟨y0,y1,y2,y3,y4,y5,y6⟩:=ED B2t)
 all_goals(obtain⟨z0,z1,z2,z3,XE,XF,bF,bG⟩:=C9 BT)
 all_goals(have oM:=(hbt.cell (p:=⟨pb,po+k,none⟩) hpb).trans hck)
 all_goals(rw [hwt]at y0 y1 y2 y3 y4 y5 y6 z0 z1 z2 z3 XE XF bF bG oM)
 all_goals(have HWi:=Aa (fun(W:World)(hW:Below w2.heap.size w2 W)=>oK (some ⟨pb,po,none⟩) none none k k 0 0 0 0 ⟨nd.pre.take k,0,[],[]⟩ (nd.pre.getD k 0) kid W (by omega) (by omega) (by omega) (by show Rd W _ _ _;exact(htk.below hW).1) Rd.nil Rd.nil iQ.out))
 all_goals(have hnl:(LY ⟨nd.pre.take k,0,[],[]⟩ (nd.pre.getD k 0) kid).pre.length<=100/\(LY ⟨nd.pre.take k,0,[],[]⟩ (nd.pre.getD k 0) kid).labels.length<=100/\(LY ⟨nd.pre.take k,0,[],[]⟩ (nd.pre.getD k 0) kid).kids.length<=100:=by unfold LY ins;simp;omega)
 all_goals(generalize LY ⟨nd.pre.take k,0,[],[]⟩ (nd.pre.getD k 0) kid=VR at*)
 all_goals(have HBv:=Aa (hwt▸hbt))
 all_goals(have HBT:=Aa (hwt▸BT))
 all_goals(have HJ2:=Aa hj2)
 all_goals(have HG2:=Aa hj2.lt)
 all_goals(generalize nd.pre.getD k 0=lab at*)
 all_goals(generalize nd.pre.take k=prk at*)
 all_goals(clear hj2 B2 B2t BT hbt hwt hln htk hpre hck)
 all_goals(have hx1:(k:Int)<(nd.pre.length:Int):=by omega)
 all_goals(have hx2:decide ((k:Int)<(nd.pre.length:Int))=true:=decide_eq_true hx1)
 all_goals(go_wp2_with fail)
 all_goals(go_region_with(go_at_call 161;go_loud(refine(HWi.out _ (HBv.out.trans ((Dr.drew _).below _))).mono ?_;rintro e w3⟨⟨N1,m1,N2,m2,N3,m3,rfl,o1,o2,o3⟩,hb3⟩;have Gh:=(HBv.out.trans ((Dr.drew _).below _)).trans (hb3.mono (HBv.out.trans ((Dr.drew _).below _)).size);have B3:=HBT.out.below (((Dr.drew _).below _).trans hb3) HBT.out.lt;have hs3:=HBT.out.lt;have O1:=EM (base':=w2.heap.size+1) o1 (by show w2.heap.size+1<=(xX _).heap.size+2;exact Bg hs3 (XJ _ 2));have O2:=EM (base':=w2.heap.size+1) o2 (by show w2.heap.size+1<=(xX _).heap.size+2;exact Bg hs3 (XJ _ 2));have O3:=EM (base':=w2.heap.size+1) o3 (by show w2.heap.size+1<=(xX _).heap.size+2;exact Bg hs3 (XJ _ 2));clear o1 o2 o3;obtain⟨r0,r1,r2,r3,rf0,rf1,rf2,rf3⟩:=C9 B3)))
 all_goals(obtain⟨W9,Vt,B9,Zw,k9⟩:=Abz B3 Gh (Ad _) (.slice N1 VR.pre.length m1) (.int .u64 (VR.val.toNat:Int)) (.slice N2 VR.labels.length m2) (.slice N3 VR.kids.length m3))
 all_goals(have HO:=Aa (And.intro (Kw O1 k9 (XK _)) (And.intro (Kw O2 k9 (XK _)) (Kw O3 k9 (XK _)))))
 all_goals(have vM:=Aa Zw)
 all_goals(have HK9:=Aa B9)
 all_goals(have HW9:=Aa Vt)
 all_goals(clear Vt Zw k9 B9 O1 O2 O3 B3 Gh hb3 HWi y0 y1 y2 y3 y4 y5 y6 z0 z1 z2 z3 XE XF bF bG x0 x1 x2 x3 x4 x5 x6 oM)
 all_goals(go_wp2_with fail)
 all_goals(rw [<-HW9.out])
 all_goals(have HL:=fun(P:Option Addr)(C:Nat)(hC:C=c- (k+1))(hP:P=(if c=k+1 then some (⟨rb,ro,none⟩:Addr)else some ⟨rb,ro+(k+1),none⟩))=>UX (rest.length+1) W9 j1 G2 (rest.drop (k+1)) value P C (HJ2.out.below vM.out) (((HR.out.moved XA.out).below vM.out).rest rfl (by omega) hrc hP) (by rw [AV];omega) (by rw [AV];omega) (by rw [AV];omega) (by omega))
 all_goals(rw [HR2.out,AV]at HL)
 all_goals(replace HL:=Aa HL)
 all_goals(refine(HL.out _ _ (by omega) (by split<;>first| rfl| omega)).mono ?_)
 all_goals(rintro e w5⟨rfl,G5,hj5,QH⟩)
 all_goals(have QY:=Aa (XA.out.trans ((AO.of_below vM.out).trans QH)))
 all_goals(have B5:=HK9.out.touch QH.touch (fun hg=>by have:=HG2.out _ hg;omega))
 all_goals(have s1:=(IK.JI HO.out.1 (fun b hb _ hg=>by have:=HG2.out b hg;omega)).moved QH)
 all_goals(have s2:=(IK.JI HO.out.2.1 (fun b hb _ hg=>by have:=HG2.out b hg;omega)).moved QH)
 all_goals(have s3:=(IK.JI HO.out.2.2 (fun b hb _ hg=>by have:=HG2.out b hg;omega)).moved QH)
 all_goals(obtain⟨b',o',e',hrb,hck⟩:=GY (HR.out.moved QY.out) k hlt)
 all_goals(injection e' with e';injection e' with e1 e2;subst e1 e2)
 all_goals(have hab:=fun(W:World)(hW:Below w5.heap.size w5 W)=>SH (hj5.below hW) VR N1 N2 N3 m1 m2 m3 (rest.getD k 0) Y2 NI hnl.1 hnl.2.1 hnl.2.2 (s1.below hW).1 (s2.below hW).1 (s3.below hW).1 (by show j2.made.length<=1000;omega))
 all_goals(replace hab:=Aa hab)
 all_goals(generalize rest.getD k 0=Aq6 at*)
 all_goals(clear hj5 QH s1 s2 s3 HL r0 r1 r2 r3 rf0 rf1 rf2 rf3)
 all_goals(obtain⟨y0,y1,y2,y3, -⟩:=C9 B5)
 all_goals(clear B5)
 all_goals(have hx3:(k:Int)<(rest.length:Int):=by omega)
 all_goals(have hx4:decide ((k:Int)<(rest.length:Int))=true:=decide_eq_true hx3)
 all_goals(go_wp2_with fail)
 all_goals(go_region_with(go_at_call 160;go_loud(refine(hab.out _ ((Dr.drew w5).below _)).mono ?_;rintro e w6⟨rfl,G6,q1,q2⟩)))
 all_goals(have HF:=Aa (And.intro q1 (QY.out.trans ((AO.of_below ((Dr.drew w5).below _)).trans q2))))
 all_goals(clear q1 q2)
 all_goals(go_wp2_with fail)
 all_goals(refine bodyPost_ret (v:= .tuple #[.int .u64 ((Hg j2 VR Aq6 Y2 NI).2.1.toNat:Int),.int .i64 (Hg j2 VR Aq6 Y2 NI).2.2]) (by simp [results,Tryz.results116,go_sem]) rfl ?_)
 all_goals(rw [HP.out])
 all_goals(exact⟨rfl,G6,HF.out.1,HF.out.2⟩)
end
