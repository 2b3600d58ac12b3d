import Derived.Test.YtkimaejoeapmnaaGreatDoorH22
set_option linter.defProp false
set_option maxHeartbeats 32000000
set_option maxRecDepth 100000
open Nat renaming le_refl->Ad,le_trans->Bc,le_add_right->Yy,lt_succ_self->Yz
open Go.Lib renaming hid->Aa
open List renaming length_drop->AV
open Go.World renaming drew->zA
namespace Go.Proofs.YtkimaejoeapmnaaGreatDoor
open Go.RowKit
open Go.Proofs.Tryz
section
variable{base jb x d p L:Nat}
def Ag7{w:World}{j:Jm}{G:Nat->Prop}(h:Gf w base jb x d p L j G)(nd:Nd)(A1 A2 A3:Option Addr)(c1 c2 c3:Nat)(off word:Int)(lb:UInt8)(rest:List UInt8)(A:Option Addr)(c:Nat)(value:UInt64)
 (hN:ax w G (.slice A1 nd.pre.length c1) (.int .u64 (nd.val.toNat:Int)) (.slice A2 nd.labels.length c2) (.slice A3 nd.kids.length c3) nd)(b1:nd.pre.length<=100)(b2:nd.labels.length<=100)(b3:nd.kids.length<=100)
 (hR:Ja w G A rest.length (rest.map bv))(hrc:rest.length<=c)(hrl:rest.length<=100)(hm:j.made.length<=500)(hs:common nd.pre rest<nd.pre.length)(hlt:common nd.pre rest<rest.length)(her:(Ei j {nd with pre:=nd.pre.drop (common nd.pre rest+1)}).2.2=0)(hok:Jo ⟨nd.pre.take (common nd.pre rest),0,[],[]⟩ (nd.pre.getD (common nd.pre rest) 0) (Ei j {nd with pre:=nd.pre.drop (common nd.pre rest+1)}).2.1=true):
 Calls prog 116 #[Az jb,.agg #[.slice A1 nd.pre.length c1,.int .u64 (nd.val.toNat:Int),.slice A2 nd.labels.length c2,.slice A3 nd.kids.length c3,.int .i64 off,.int .u8 (lb.toNat:Int),.int .i64 word],.slice A rest.length c,.int .u64 (value.toNat:Int)] w (I5 (J3 j nd rest value) base jb x d p L G w):=by
 have hb0:η w (w.alloc (.cells #[.slice A1 nd.pre.length c1,.int .u64 (nd.val.toNat:Int),.slice A2 nd.labels.length c2,.slice A3 nd.kids.length c3,.int .i64 off,.int .u8 (lb.toNat:Int),.int .i64 word] 214)):=(Below.refl _ _).alloc (Ad _) _;have B0:CS (w.alloc (.cells #[.slice A1 nd.pre.length c1,.int .u64 (nd.val.toNat:Int),.slice A2 nd.labels.length c2,.slice A3 nd.kids.length c3,.int .i64 off,.int .u8 (lb.toNat:Int),.int .i64 word] 214)) w.heap.size 214 [.slice A1 nd.pre.length c1,.int .u64 (nd.val.toNat:Int),.slice A2 nd.labels.length c2,.slice A3 nd.kids.length c3,.int .i64 off,.int .u8 (lb.toNat:Int),.int .i64 word]:=heap_alloc_new _ _;obtain⟨W0,hW0⟩:∃W0,W0=w.alloc (.cells #[.slice A1 nd.pre.length c1,.int .u64 (nd.val.toNat:Int),.slice A2 nd.labels.length c2,.slice A3 nd.kids.length c3,.int .i64 off,.int .u8 (lb.toNat:Int),.int .i64 word] 214):=⟨_,rfl⟩;rw [<-hW0]at hb0 B0;have HW:=Aa hW0;obtain⟨q1,q2,q3,hpc⟩:=hN.reads;obtain⟨pb,po,rfl,hpw, -⟩:=Hf q1 _ hs;obtain⟨k,hk⟩:∃k,k=common nd.pre rest:=⟨_,rfl⟩;have hkr:k<=rest.length:=by rw [hk];exact Fq _ _
 have HC:=Aa (λ(W:World)(hW:η w W)=>Lt (some (Δ pb po)) A nd.pre.length rest.length c1 c nd.pre rest W O O (q1.below hW).1 (hR.below hW).1);rw [<-hk]at hs HC;have HK:Hid (k=common nd.pre rest):=Aa hk;obtain⟨⟨j1,kid,er⟩,hr⟩:∃r,Ei j {nd with pre:=nd.pre.drop (k+1)}=r:=⟨_,rfl⟩;have hmd:=Ir j {nd with pre:=nd.pre.drop (k+1)};rw [hr]at hmd;simp only at hmd;have Nr:=Aa hr;have VD:=Aa (λ(W:World)(hW:η w W)(P:Option Addr)(C:Nat)(hP:P=(if c1=k+1 then some ((Δ pb po):Addr)else some (Δ pb (po+(k+1)))))=>LK (h.below hW) {nd with pre:=nd.pre.drop (k+1)} P A2 A3 C c2 c3 (by simp;omega) (by simp only;omega) (by simp only;omega)
  (((q1.below hW).rest rfl O hpc hP).1) (q2.below hW).1 (q3.below hW).1 O)
 rw [hr]at VD;simp only [AV]at VD;have HN:=Aa q1;have HR:=Aa hR;have qE:=Aa h.lt;have HpC:=Aa hpc;rw [<-hk]at hlt her hok;rw [hr]at her hok;simp only at her hok;subst her;obtain⟨⟨j2,Zc,Nu⟩,hr2⟩:∃r,Lh (rest.length+1) j1 (rest.drop (k+1)) value=r:=⟨_,rfl⟩;have Asu:=LG (rest.length+1) j1 (rest.drop (k+1)) value;rw [hr2]at Asu;simp only at Asu;have HP:Hid (J3 j nd rest value=Hr j2 (MP ⟨nd.pre.take k,0,[],[]⟩ (nd.pre.getD k 0) kid) (rest.getD k 0) Zc Nu):=Aa (by rw [J3,<-hk,if_neg O,hr];simp only;rw [if_neg O,if_neg Θ,if_pos hok,hr2];rfl);have jX:=Aa hok;have HR2:=Aa hr2;obtain⟨rb,ro,rfl,hrw, -⟩:=Hf hR _ hlt;clear hok hr2;clear h hN hR hr hW0 q1 q2 q3;have t1:((k:Int)==(nd.pre.length:Int))=false:=by rw [beq_eq_false_iff_ne];omega
 have hw1:IntKind.i64.wrap ((k:Int)+1)=(k:Int)+1:=wrap64 _ O O;have t2:((k:Int)==(rest.length:Int))=false:=by rw [beq_eq_false_iff_ne];omega
 obtain⟨y0,y1,y2,y3,y4,y5,y6⟩:=EI B0;clear hk;go_enter func116,ntmps116
 go_wp2_with fail
 rw [<-HW.out];clear HW;refine(HC.out W0 hb0).mono ?_;rintro e w1⟨rfl,hd1⟩;have hb1:=τ hb0 (hd1.below W0.heap.size);have B1:=B0.ξ (hd1.below _);have hs1:w.heap.size<w1.heap.size:=B1.lt;obtain⟨wl,hwl,hbl,BL⟩:=EZ w1 212 [.slice (some (Δ pb po)) nd.pre.length c1,.int .u64 (nd.val.toNat:Int),.slice A2 nd.labels.length c2,.slice A3 nd.kids.length c3];have HB1:=Aa hb1;have TV:=Aa B1;obtain⟨y0,y1,y2,y3,y4,y5,y6⟩:=EI (B1.ξ hbl);obtain⟨z0,z1,z2,z3,Yt,Yu,dR,dS⟩:=CG BL;obtain⟨x0,x1,x2,x3,x4,x5,x6⟩:=EI B1;rw [hwl]at y0 y1 y2 y3 y4 y5 y6 z0 z1 z2 z3 Yt Yu dR dS;have hne:w.heap.size≠w1.heap.size:=O
 have hne':w1.heap.size≠w.heap.size:=O
 clear B0 hb0 hd1 hb1 B1 BL hbl hwl
 go_wp2_with fail
 all_goals(refine(VD.out _ (HB1.out.alloc HB1.out.size _) _ _ (by split<;>first| rfl| omega)).mono ?_)
 all_goals(rintro e w2⟨rfl,G2,hj2,hm2⟩)
 all_goals(have Vx:=Aa ((AP.of_below (F:=G) (HB1.out.alloc HB1.out.size _)).trans hm2))
 all_goals(have B2:=(TV.out.ξ ((Below.refl _ _).alloc (Ad _) _)).touch hm2.touch (λhg=>Ω (qE.out _ hg)))
 all_goals(have hpre:=HN.out.moved Vx.out)
 all_goals(obtain⟨b',o',e',hpb,hck⟩:=Hf hpre k hs)
 all_goals(injection e' with e';injection e' with e1 e2;subst e1 e2)
 all_goals(clear y0 y1 y2 y3 y4 y5 y6 z0 z1 z2 z3 Yt Yu dR dS x0 x1 x2 x3 x4 x5 x6 VD hm2 hne hne')
 all_goals(have hln:(nd.pre.take k).length=k:=by simp;omega)
 all_goals(have htk:Ja w2 G2 (some (Δ pb po)) k ((nd.pre.take k).map bv):=by have:=hpre.take k O;rwa [<-List.map_take]at this)
 all_goals(have hs2:w.heap.size<w2.heap.size:=B2.lt)
 all_goals(have hne:w.heap.size≠w2.heap.size:=O)
 all_goals(have hne':w2.heap.size≠w.heap.size:=O)
 all_goals(obtain⟨x0,x1,x2,x3,x4,x5,x6⟩:=EI B2)
 all_goals(obtain⟨wt,hwt⟩:∃wt,wt=w2.alloc (.cells #[.slice (some (Δ pb po)) k k,.int .u64 0,.slice none 0 0,.slice none 0 0] 212):=⟨_,rfl⟩)
 all_goals(have BT:CS wt w2.heap.size 212 [.slice (some (Δ pb po)) k k,.int .u64 0,.slice none 0 0,.slice none 0 0]:=hwt▸heap_alloc_new _ _)
 all_goals(have hbt:η w2 wt:=hwt▸(Below.refl _ _).alloc (Ad _) _)
 all_goals(have B2t:=B2.ξ hbt)
 all_goals(obtain⟨y0,y1,y2,y3,y4,y5,y6⟩:=EI B2t)
 all_goals(obtain⟨z0,z1,z2,z3,Yt,Yu,dR,dS⟩:=CG BT)
 all_goals(have qQ:=(hbt.cell (p:=Δ pb (po+k)) hpb).trans hck)
 all_goals(rw [hwt]at y0 y1 y2 y3 y4 y5 y6 z0 z1 z2 z3 Yt Yu dR dS qQ)
 all_goals(have HWi:=Aa (λ(W:World)(hW:η w2 W)=>qO (some (Δ pb po)) none none k k 0 0 0 0 ⟨nd.pre.take k,0,[],[]⟩ (nd.pre.getD k 0) kid W O O O (by show Rd W _ _ _;exact(htk.below hW).1) Rd.nil Rd.nil jX.out))
 all_goals(have hnl:(MP ⟨nd.pre.take k,0,[],[]⟩ (nd.pre.getD k 0) kid).pre.length<=100/\(MP ⟨nd.pre.take k,0,[],[]⟩ (nd.pre.getD k 0) kid).labels.length<=100/\(MP ⟨nd.pre.take k,0,[],[]⟩ (nd.pre.getD k 0) kid).kids.length<=100:=by unfold MP ins;simp;omega)
 all_goals(generalize MP ⟨nd.pre.take k,0,[],[]⟩ (nd.pre.getD k 0) kid=WR at*)
 all_goals(have HBv:=Aa (hwt▸hbt))
 all_goals(have HBT:=Aa (hwt▸BT))
 all_goals(have HJ2:=Aa hj2)
 all_goals(have HG2:=Aa hj2.lt)
 all_goals(generalize nd.pre.getD k 0=lab at*)
 all_goals(generalize nd.pre.take k=prk at*)
 all_goals(clear hj2 B2 B2t BT hbt hwt hln htk hpre hck)
 all_goals(have hx1:(k:Int)<(nd.pre.length:Int):=O)
 all_goals(have hx2:decide ((k:Int)<(nd.pre.length:Int))=true:=decide_eq_true hx1)
 all_goals(go_wp2_with fail)
 all_goals(go_region_with(go_at_call 161;go_loud(refine(HWi.out _ (HBv.out.trans ((Dr.drew _).below _))).mono ?_;rintro e w3⟨⟨N1,m1,N2,m2,N3,m3,rfl,o1,o2,o3⟩,hb3⟩;have Gn:=(HBv.out.trans ((Dr.drew _).below _)).trans (hb3.mono (HBv.out.trans ((Dr.drew _).below _)).size);have B3:=HBT.out.ξ (((Dr.drew _).below _).trans hb3);have hs3:=HBT.out.lt;have O1:=ES (base':=w2.heap.size+1) o1 (by show w2.heap.size+1<=(zA _).heap.size+2;exact Bc hs3 (Yy _ 2));have O2:=ES (base':=w2.heap.size+1) o2 (by show w2.heap.size+1<=(zA _).heap.size+2;exact Bc hs3 (Yy _ 2));have O3:=ES (base':=w2.heap.size+1) o3 (by show w2.heap.size+1<=(zA _).heap.size+2;exact Bc hs3 (Yy _ 2));clear o1 o2 o3;obtain⟨r0,r1,r2,r3,rf0,rf1,rf2,rf3⟩:=CG B3)))
 all_goals(obtain⟨W9,VW,B9,au,k9⟩:=Ac6 B3 Gn (Ad _) (.slice N1 WR.pre.length m1) (.int .u64 (WR.val.toNat:Int)) (.slice N2 WR.labels.length m2) (.slice N3 WR.kids.length m3))
 all_goals(have HO:=Aa (And.intro (KP O1 k9 (Yz _)) (And.intro (KP O2 k9 (Yz _)) (KP O3 k9 (Yz _)))))
 all_goals(have xB:=Aa au)
 all_goals(have HK9:=Aa B9)
 all_goals(have HW9:=Aa VW)
 all_goals(clear VW au k9 B9 O1 O2 O3 B3 Gn hb3 HWi y0 y1 y2 y3 y4 y5 y6 z0 z1 z2 z3 Yt Yu dR dS x0 x1 x2 x3 x4 x5 x6 qQ)
 all_goals(go_wp2_with fail)
 all_goals(rw [<-HW9.out])
 all_goals(have HL:=λ(P:Option Addr)(C:Nat)(hC:C=c- (k+1))(hP:P=(if c=k+1 then some ((Δ rb ro):Addr)else some (Δ rb (ro+(k+1)))))=>VC (rest.length+1) W9 j1 G2 (rest.drop (k+1)) value P C (HJ2.out.below xB.out) (((HR.out.moved Vx.out).below xB.out).rest rfl O hrc hP) (by rw [AV];omega) (by rw [AV];omega) (by rw [AV];omega) O)
 all_goals(rw [HR2.out,AV]at HL)
 all_goals(replace HL:=Aa HL)
 all_goals(refine(HL.out _ _ O (by split<;>first| rfl| omega)).mono ?_)
 all_goals(rintro e w5⟨rfl,G5,hj5,Qw⟩)
 all_goals(have RH:=Aa (Vx.out.trans ((AP.of_below xB.out).trans Qw)))
 all_goals(have B5:=HK9.out.touch Qw.touch (λhg=>Ω (HG2.out _ hg)))
 all_goals(have s1:=(Ja.JU HO.out.1 (λb hb _ hg=>Ω (HG2.out b hg))).moved Qw)
 all_goals(have s2:=(Ja.JU HO.out.2.1 (λb hb _ hg=>Ω (HG2.out b hg))).moved Qw)
 all_goals(have s3:=(Ja.JU HO.out.2.2 (λb hb _ hg=>Ω (HG2.out b hg))).moved Qw)
 all_goals(obtain⟨b',o',e',hrb,hck⟩:=Hf (HR.out.moved RH.out) k hlt)
 all_goals(injection e' with e';injection e' with e1 e2;subst e1 e2)
 all_goals(have hab:=λ(W:World)(hW:η w5 W)=>Tu (hj5.below hW) WR N1 N2 N3 m1 m2 m3 (rest.getD k 0) Zc Nu hnl.1 hnl.2.1 hnl.2.2 (s1.below hW).1 (s2.below hW).1 (s3.below hW).1 (by show j2.made.length<=1000;omega))
 all_goals(replace hab:=Aa hab)
 all_goals(generalize rest.getD k 0=Asv at*)
 all_goals(clear hj5 Qw s1 s2 s3 HL r0 r1 r2 r3 rf0 rf1 rf2 rf3)
 all_goals(obtain⟨y0,y1,y2,y3, -⟩:=CG B5)
 all_goals(clear B5)
 all_goals(have hx3:(k:Int)<(rest.length:Int):=O)
 all_goals(have hx4:decide ((k:Int)<(rest.length:Int))=true:=decide_eq_true hx3)
 all_goals(go_wp2_with fail)
 all_goals(go_region_with(go_at_call 160;go_loud(refine(hab.out _ ((Dr.drew w5).below _)).mono ?_;rintro e w6⟨rfl,G6,q1,q2⟩)))
 all_goals(have HF:=Aa (And.intro q1 (RH.out.trans ((AP.of_below ((Dr.drew w5).below _)).trans q2))))
 all_goals(clear q1 q2)
 all_goals(go_wp2_with fail)
 all_goals(refine bodyPost_ret (v:= .tuple #[.int .u64 ((Hr j2 WR Asv Zc Nu).2.1.toNat:Int),.int .i64 (Hr j2 WR Asv Zc Nu).2.2]) (by simp [results,results116,go_sem]) rfl ?_)
 all_goals(rw [HP.out])
 all_goals(exact⟨rfl,G6,HF.out.1,HF.out.2⟩)
end
