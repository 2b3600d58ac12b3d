import Derived.Test.YtkimaejoeapmnaaGreatDoorG22
set_option maxHeartbeats 32000000
set_option maxRecDepth 100000
open Nat renaming le_refl->Ad,zero_le->BK
open Go.Lib renaming hid->Aa
open List renaming length_drop->AV,map_take->Vp,getElem?_cons_zero->Aj,getElem?_cons_succ->Az,getElem?_map->BZ,getElem?_eq_getElem->Af,getElem_mem->BM,drop_length->Adv
namespace Go.Proofs.YtkimaejoeapmnaaGreatDoor
open Go.RowKit
section
variable{base jb x d p L:Nat}
theorem grow_end{w:World}{j:Jm}{G:Nat->Prop}(h:FU w base jb x d p L j G)(nd:Nd)(A1 A2 A3:Option Addr)(c1 c2 c3:Nat)(off word:Int)(lb:UInt8)(rest:List UInt8)(A:Option Addr)(c:Nat)(value:UInt64)
 (hN:Zx w G (.slice A1 nd.pre.length c1) (.int .u64 (nd.val.toNat:Int)) (.slice A2 nd.labels.length c2) (.slice A3 nd.kids.length c3) nd)(b1:nd.pre.length<=100)(b2:nd.labels.length<=100)(b3:nd.kids.length<=100)
 (hR:IK w G A rest.length (rest.map bv))(_:rest.length<=c)(hrl:rest.length<=100)(hm:j.made.length<=500)(hs:common nd.pre rest<nd.pre.length)(he:common nd.pre rest=rest.length):
 Calls Tryz.prog 116 #[Aw jb,.agg #[.slice A1 nd.pre.length c1,.int .u64 (nd.val.toNat:Int),.slice A2 nd.labels.length c2,.slice A3 nd.kids.length c3,.int .i64 off,.int .u8 (lb.toNat:Int),.int .i64 word],.slice A rest.length c,.int .u64 (value.toNat:Int)] w (Io (Jp j nd rest value) base jb x d p L G w):=by
 have hb0:Below w.heap.size w (w.alloc (.cells #[.slice A1 nd.pre.length c1,.int .u64 (nd.val.toNat:Int),.slice A2 nd.labels.length c2,.slice A3 nd.kids.length c3,.int .i64 off,.int .u8 (lb.toNat:Int),.int .i64 word] 214)):=(Below.refl _ _).alloc (Ad _) _;have B0:CG (w.alloc (.cells #[.slice A1 nd.pre.length c1,.int .u64 (nd.val.toNat:Int),.slice A2 nd.labels.length c2,.slice A3 nd.kids.length c3,.int .i64 off,.int .u8 (lb.toNat:Int),.int .i64 word] 214)) w.heap.size 214 [.slice A1 nd.pre.length c1,.int .u64 (nd.val.toNat:Int),.slice A2 nd.labels.length c2,.slice A3 nd.kids.length c3,.int .i64 off,.int .u8 (lb.toNat:Int),.int .i64 word]:=heap_alloc_new _ _;obtain⟨W0,hW0⟩:∃W0,W0=w.alloc (.cells #[.slice A1 nd.pre.length c1,.int .u64 (nd.val.toNat:Int),.slice A2 nd.labels.length c2,.slice A3 nd.kids.length c3,.int .i64 off,.int .u8 (lb.toNat:Int),.int .i64 word] 214):=⟨_,rfl⟩;rw [<-hW0]at hb0 B0;have HW:=Aa hW0;obtain⟨q1,q2,q3,hpc⟩:=hN.reads;obtain⟨pb,po,rfl,hpw, -⟩:=GY q1 _ hs;obtain⟨k,hk⟩:∃k,k=common nd.pre rest:=⟨_,rfl⟩;have hkr:k<=rest.length:=by rw [hk];exact Fp _ _
 have HC:=Aa (fun(W:World)(hW:Below w.heap.size w W)=>KX (some ⟨pb,po,none⟩) A nd.pre.length rest.length c1 c nd.pre rest W (by omega) (by omega) (q1.below hW).1 (hR.below hW).1);rw [<-hk]at hs HC;have HK:Hid (k=common nd.pre rest):=Aa hk;obtain⟨⟨j1,kid,er⟩,hr⟩:∃r,Ec j {nd with pre:=nd.pre.drop (k+1)}=r:=⟨_,rfl⟩;have hmd:=Ij j {nd with pre:=nd.pre.drop (k+1)};rw [hr]at hmd;simp only at hmd;have Ob:=Aa hr;have UY:=Aa (fun(W:World)(hW:Below w.heap.size w W)(P:Option Addr)(C:Nat)(hP:P=(if c1=k+1 then some (⟨pb,po,none⟩:Addr)else some ⟨pb,po+(k+1),none⟩))=>Lj (h.below hW) {nd with pre:=nd.pre.drop (k+1)} P A2 A3 C c2 c3 (by simp;omega) (by simp only;omega) (by simp only;omega)
  (((q1.below hW).rest rfl (by omega) hpc hP).1) (q2.below hW).1 (q3.below hW).1 (by omega))
 rw [hr]at UY;simp only [AV]at UY;have HN:=Aa q1;have HR:=Aa hR;have ou:=Aa h.lt;have HpC:=Aa hpc;rw [<-hk]at he;have HP:Hid (Jp j nd rest value=Hg j1 ⟨nd.pre.take k,value,[],[]⟩ (nd.pre.getD k 0) kid er):=Aa (by rw [Jp,<-hk,if_neg (by omega),hr];simp only [if_pos he]);have He:=Aa he;clear h hN hR hr hW0 q1 q2 q3;have t1:((k:Int)==(nd.pre.length:Int))=false:=by rw [beq_eq_false_iff_ne];omega
 have hw1:IntKind.i64.wrap ((k:Int)+1)=(k:Int)+1:=wrap64 _ (by omega) (by omega);have t2:((k:Int)==(rest.length:Int))=true:=by rw [beq_iff_eq];omega
 obtain⟨y0,y1,y2,y3,y4,y5,y6⟩:=ED B0;clear hk he;go_enter Tryz.func116,Tryz.ntmps116
 go_wp2_with fail
 rw [<-HW.out];clear HW;refine(HC.out W0 hb0).mono ?_;rintro e w1⟨rfl,hd1⟩;have hb1:=hb0.trans ((hd1.below W0.heap.size).mono hb0.size);have B1:=B0.below (hd1.below _) B0.lt;have hs1:w.heap.size<w1.heap.size:=B1.lt;obtain⟨wl,hwl,hbl,BL⟩:=FB w1 212 [.slice (some ⟨pb,po,none⟩) nd.pre.length c1,.int .u64 (nd.val.toNat:Int),.slice A2 nd.labels.length c2,.slice A3 nd.kids.length c3];have HB1:=Aa hb1;have Tt:=Aa B1;obtain⟨y0,y1,y2,y3,y4,y5,y6⟩:=ED (B1.below hbl B1.lt);obtain⟨z0,z1,z2,z3,XE,XF,bF,bG⟩:=C9 BL;obtain⟨x0,x1,x2,x3,x4,x5,x6⟩:=ED B1;rw [hwl]at y0 y1 y2 y3 y4 y5 y6 z0 z1 z2 z3 XE XF bF bG;have hne:w.heap.size≠w1.heap.size:=by omega
 have hne':w1.heap.size≠w.heap.size:=by omega
 clear B0 hb0 hd1 hb1 B1 BL hbl hwl
 go_wp2_with fail
 all_goals(refine(UY.out _ (HB1.out.alloc HB1.out.size _) _ _ (by split<;>first| rfl| omega)).mono ?_)
 all_goals(rintro e w2⟨rfl,G2,hj2,hm2⟩)
 all_goals(have XA:=Aa ((AO.of_below (F:=G) (HB1.out.alloc HB1.out.size _)).trans hm2))
 all_goals(have B2:=(Tt.out.below ((Below.refl _ _).alloc (Ad _) _) Tt.out.lt).touch hm2.touch (fun hg=>by have:=ou.out _ hg;omega))
 all_goals(have hpre:=HN.out.moved XA.out)
 all_goals(obtain⟨b',o',e',hpb,hck⟩:=GY hpre k hs)
 all_goals(injection e' with e';injection e' with e1 e2;subst e1 e2)
 all_goals(clear y0 y1 y2 y3 y4 y5 y6 z0 z1 z2 z3 XE XF bF bG x0 x1 x2 x3 x4 x5 x6 UY hm2 hne hne')
 all_goals(have hln:(nd.pre.take k).length=k:=by simp;omega)
 all_goals(have htk:IK w2 G2 (some ⟨pb,po,none⟩) k ((nd.pre.take k).map bv):=by have:=hpre.take k (by omega);rwa [<-Vp]at this)
 all_goals(have hs2:w.heap.size<w2.heap.size:=B2.lt)
 all_goals(have hne:w.heap.size≠w2.heap.size:=by omega)
 all_goals(have hne':w2.heap.size≠w.heap.size:=by omega)
 all_goals(obtain⟨x0,x1,x2,x3,x4,x5,x6⟩:=ED B2)
 all_goals(obtain⟨wt,hwt⟩:∃wt,wt=w2.alloc (.cells #[.slice (some ⟨pb,po,none⟩) k k,.int .u64 0,.slice none 0 0,.slice none 0 0] 212):=⟨_,rfl⟩)
 all_goals(have BT:CG wt w2.heap.size 212 [.slice (some ⟨pb,po,none⟩) k k,.int .u64 0,.slice none 0 0,.slice none 0 0]:=hwt▸heap_alloc_new _ _)
 all_goals(have hbt:Below w2.heap.size w2 wt:=hwt▸(Below.refl _ _).alloc (Ad _) _)
 all_goals(have B2t:=B2.below hbt B2.lt)
 all_goals(obtain⟨y0,y1,y2,y3,y4,y5,y6⟩:=ED B2t)
 all_goals(obtain⟨z0,z1,z2,z3,XE,XF,bF,bG⟩:=C9 BT)
 all_goals(have oM:=(hbt.cell (p:=⟨pb,po+k,none⟩) hpb).trans hck)
 all_goals(rw [hwt]at y0 y1 y2 y3 y4 y5 y6 z0 z1 z2 z3 XE XF bF bG oM)
 all_goals(obtain⟨wv',hwv⟩:∃wv',wv'=w2.alloc (.cells #[.slice (some ⟨pb,po,none⟩) k k,.int .u64 (value.toNat:Int),.slice none 0 0,.slice none 0 0] 212):=⟨_,rfl⟩)
 all_goals(have BV:CG wv' w2.heap.size 212 [.slice (some ⟨pb,po,none⟩) k k,.int .u64 (value.toNat:Int),.slice none 0 0,.slice none 0 0]:=hwv▸heap_alloc_new _ _)
 all_goals(have hbv:Below w2.heap.size w2 wv':=hwv▸(Below.refl _ _).alloc (Ad _) _)
 all_goals(obtain⟨v0,v1,v2,v3,v4,v5,v6⟩:=ED (B2.below hbv B2.lt))
 all_goals(obtain⟨u0,u1,u2,u3, -⟩:=C9 BV)
 all_goals(have Aua:=(hbv.cell (p:=⟨pb,po+k,none⟩) hpb).trans hck)
 all_goals(rw [hwv]at v0 v1 v2 v3 v4 v5 v6 u0 u1 u2 u3 Aua)
 all_goals(have hab:=fun(W:World)(hW:Below w2.heap.size w2 W)=>SH (hj2.below hW) ⟨nd.pre.take k,value,[],[]⟩ (some ⟨pb,po,none⟩) none none k 0 0 (nd.pre.getD k 0) kid er (by show(nd.pre.take k).length<=100;omega) (by simp) (by simp) (by show Rd W _ (nd.pre.take k).length _;rw [hln];exact(htk.below hW).1) Rd.nil Rd.nil (by show j1.made.length<=1000;omega))
 all_goals(replace hab:=Aa hab)
 all_goals(rw [hln]at hab)
 all_goals(have HBv:=Aa (hwv▸hbv))
 all_goals(generalize nd.pre.getD k 0=lab at*)
 all_goals(generalize nd.pre.take k=prk at*)
 all_goals(clear hj2 B2 B2t BT BV hbt hbv hwt hwv hln htk hpre hck)
 all_goals(have hx1:(k:Int)<(nd.pre.length:Int):=by omega)
 all_goals(have hx2:decide ((k:Int)<(nd.pre.length:Int))=true:=decide_eq_true hx1)
 all_goals(go_wp2_with fail)
 all_goals(go_region_with(go_at_call 160;go_loud(refine(hab.out _ (HBv.out.trans ((Dr.drew _).below _))).mono ?_;rintro e w3⟨rfl,G3,q1,q2⟩)))
 all_goals(have HF:=Aa (And.intro q1 (XA.out.trans ((AO.of_below (HBv.out.trans ((Dr.drew _).below _))).trans q2))))
 all_goals(clear q1 q2)
 all_goals(go_wp2_with fail)
 all_goals(go_ret2)
 all_goals(rw [HP.out])
 all_goals(exact⟨rfl,G3,HF.out.1,HF.out.2⟩)
theorem Afw{w:World}{j:Jm}{G:Nat->Prop}(h:FU w base jb x d p L j G)(nd:Nd)(A1 A2 A3:Option Addr)(c1 c2 c3:Nat)(off word:Int)(lb:UInt8)(rest:List UInt8)(A:Option Addr)(c:Nat)(value:UInt64)
 (hN:Zx w G (.slice A1 nd.pre.length c1) (.int .u64 (nd.val.toNat:Int)) (.slice A2 nd.labels.length c2) (.slice A3 nd.kids.length c3) nd)(b1:nd.pre.length<=100)(b2:nd.labels.length<=100)(b3:nd.kids.length<=100)
 (hR:IK w G A rest.length (rest.map bv))(_:rest.length<=c)(hrl:rest.length<=100)(hm:j.made.length<=500)(hs:common nd.pre rest<nd.pre.length)(hlt:common nd.pre rest<rest.length)(her:(Ec j {nd with pre:=nd.pre.drop (common nd.pre rest+1)}).2.2≠0):
 Calls Tryz.prog 116 #[Aw jb,.agg #[.slice A1 nd.pre.length c1,.int .u64 (nd.val.toNat:Int),.slice A2 nd.labels.length c2,.slice A3 nd.kids.length c3,.int .i64 off,.int .u8 (lb.toNat:Int),.int .i64 word],.slice A rest.length c,.int .u64 (value.toNat:Int)] w (Io (Jp j nd rest value) base jb x d p L G w):=by
 have hb0:Below w.heap.size w (w.alloc (.cells #[.slice A1 nd.pre.length c1,.int .u64 (nd.val.toNat:Int),.slice A2 nd.labels.length c2,.slice A3 nd.kids.length c3,.int .i64 off,.int .u8 (lb.toNat:Int),.int .i64 word] 214)):=(Below.refl _ _).alloc (Ad _) _;have B0:CG (w.alloc (.cells #[.slice A1 nd.pre.length c1,.int .u64 (nd.val.toNat:Int),.slice A2 nd.labels.length c2,.slice A3 nd.kids.length c3,.int .i64 off,.int .u8 (lb.toNat:Int),.int .i64 word] 214)) w.heap.size 214 [.slice A1 nd.pre.length c1,.int .u64 (nd.val.toNat:Int),.slice A2 nd.labels.length c2,.slice A3 nd.kids.length c3,.int .i64 off,.int .u8 (lb.toNat:Int),.int .i64 word]:=heap_alloc_new _ _;obtain⟨W0,hW0⟩:∃W0,W0=w.alloc (.cells #[.slice A1 nd.pre.length c1,.int .u64 (nd.val.toNat:Int),.slice A2 nd.labels.length c2,.slice A3 nd.kids.length c3,.int .i64 off,.int .u8 (lb.toNat:Int),.int .i64 word] 214):=⟨_,rfl⟩;rw [<-hW0]at hb0 B0;have HW:=Aa hW0;obtain⟨q1,q2,q3,hpc⟩:=hN.reads;obtain⟨pb,po,rfl,hpw, -⟩:=GY q1 _ hs;obtain⟨k,hk⟩:∃k,k=common nd.pre rest:=⟨_,rfl⟩;have hkr:k<=rest.length:=by rw [hk];exact Fp _ _
 have HC:=Aa (fun(W:World)(hW:Below w.heap.size w W)=>KX (some ⟨pb,po,none⟩) A nd.pre.length rest.length c1 c nd.pre rest W (by omega) (by omega) (q1.below hW).1 (hR.below hW).1);rw [<-hk]at hs HC;have HK:Hid (k=common nd.pre rest):=Aa hk;obtain⟨⟨j1,kid,er⟩,hr⟩:∃r,Ec j {nd with pre:=nd.pre.drop (k+1)}=r:=⟨_,rfl⟩;have hmd:=Ij j {nd with pre:=nd.pre.drop (k+1)};rw [hr]at hmd;simp only at hmd;have Ob:=Aa hr;have UY:=Aa (fun(W:World)(hW:Below w.heap.size w W)(P:Option Addr)(C:Nat)(hP:P=(if c1=k+1 then some (⟨pb,po,none⟩:Addr)else some ⟨pb,po+(k+1),none⟩))=>Lj (h.below hW) {nd with pre:=nd.pre.drop (k+1)} P A2 A3 C c2 c3 (by simp;omega) (by simp only;omega) (by simp only;omega)
  (((q1.below hW).rest rfl (by omega) hpc hP).1) (q2.below hW).1 (q3.below hW).1 (by omega))
 rw [hr]at UY;simp only [AV]at UY;have HN:=Aa q1;have HR:=Aa hR;have ou:=Aa h.lt;have HpC:=Aa hpc;rw [<-hk]at hlt her;rw [hr]at her;simp only at her;have HP:Hid (Jp j nd rest value=(j1,0,er)):=Aa (by rw [Jp,<-hk,if_neg (by omega),hr];simp only;rw [if_neg (by omega),if_pos her]);have te:(er !=0)=true:=by rw [bne_iff_ne];exact her
 clear her;clear h hN hR hr hW0 q1 q2 q3;have t1:((k:Int)==(nd.pre.length:Int))=false:=by rw [beq_eq_false_iff_ne];omega
 have hw1:IntKind.i64.wrap ((k:Int)+1)=(k:Int)+1:=wrap64 _ (by omega) (by omega);have t2:((k:Int)==(rest.length:Int))=false:=by rw [beq_eq_false_iff_ne];omega
 obtain⟨y0,y1,y2,y3,y4,y5,y6⟩:=ED B0;clear hk;go_enter Tryz.func116,Tryz.ntmps116
 go_wp2_with fail
 rw [<-HW.out];clear HW;refine(HC.out W0 hb0).mono ?_;rintro e w1⟨rfl,hd1⟩;have hb1:=hb0.trans ((hd1.below W0.heap.size).mono hb0.size);have B1:=B0.below (hd1.below _) B0.lt;have hs1:w.heap.size<w1.heap.size:=B1.lt;obtain⟨wl,hwl,hbl,BL⟩:=FB w1 212 [.slice (some ⟨pb,po,none⟩) nd.pre.length c1,.int .u64 (nd.val.toNat:Int),.slice A2 nd.labels.length c2,.slice A3 nd.kids.length c3];have HB1:=Aa hb1;have Tt:=Aa B1;obtain⟨y0,y1,y2,y3,y4,y5,y6⟩:=ED (B1.below hbl B1.lt);obtain⟨z0,z1,z2,z3,XE,XF,bF,bG⟩:=C9 BL;obtain⟨x0,x1,x2,x3,x4,x5,x6⟩:=ED B1;rw [hwl]at y0 y1 y2 y3 y4 y5 y6 z0 z1 z2 z3 XE XF bF bG;have hne:w.heap.size≠w1.heap.size:=by omega
 have hne':w1.heap.size≠w.heap.size:=by omega
 clear B0 hb0 hd1 hb1 B1 BL hbl hwl
 go_wp2_with fail
 all_goals(refine(UY.out _ (HB1.out.alloc HB1.out.size _) _ _ (by split<;>first| rfl| omega)).mono ?_)
 all_goals(rintro e w2⟨rfl,G2,hj2,hm2⟩)
 all_goals(have XA:=Aa ((AO.of_below (F:=G) (HB1.out.alloc HB1.out.size _)).trans hm2))
 all_goals(have B2:=(Tt.out.below ((Below.refl _ _).alloc (Ad _) _) Tt.out.lt).touch hm2.touch (fun hg=>by have:=ou.out _ hg;omega))
 all_goals(have hpre:=HN.out.moved XA.out)
 all_goals(obtain⟨b',o',e',hpb,hck⟩:=GY hpre k hs)
 all_goals(injection e' with e';injection e' with e1 e2;subst e1 e2)
 all_goals(clear y0 y1 y2 y3 y4 y5 y6 z0 z1 z2 z3 XE XF bF bG x0 x1 x2 x3 x4 x5 x6 UY hm2 hne hne')
 all_goals(have hln:(nd.pre.take k).length=k:=by simp;omega)
 all_goals(have htk:IK w2 G2 (some ⟨pb,po,none⟩) k ((nd.pre.take k).map bv):=by have:=hpre.take k (by omega);rwa [<-Vp]at this)
 all_goals(have hs2:w.heap.size<w2.heap.size:=B2.lt)
 all_goals(have hne:w.heap.size≠w2.heap.size:=by omega)
 all_goals(have hne':w2.heap.size≠w.heap.size:=by omega)
 all_goals(obtain⟨x0,x1,x2,x3,x4,x5,x6⟩:=ED B2)
 all_goals(obtain⟨wt,hwt⟩:∃wt,wt=w2.alloc (.cells #[.slice (some ⟨pb,po,none⟩) k k,.int .u64 0,.slice none 0 0,.slice none 0 0] 212):=⟨_,rfl⟩)
 all_goals(have BT:CG wt w2.heap.size 212 [.slice (some ⟨pb,po,none⟩) k k,.int .u64 0,.slice none 0 0,.slice none 0 0]:=hwt▸heap_alloc_new _ _)
 all_goals(have hbt:Below w2.heap.size w2 wt:=hwt▸(Below.refl _ _).alloc (Ad _) _)
 all_goals(have B2t:=B2.below hbt B2.lt)
 all_goals(obtain⟨y0,y1,y2,y3,y4,y5,y6⟩:=ED B2t)
 all_goals(obtain⟨z0,z1,z2,z3,XE,XF,bF,bG⟩:=C9 BT)
 all_goals(have oM:=(hbt.cell (p:=⟨pb,po+k,none⟩) hpb).trans hck)
 all_goals(rw [hwt]at y0 y1 y2 y3 y4 y5 y6 z0 z1 z2 z3 XE XF bF bG oM)
 all_goals(have HBv:=Aa (hwt▸hbt))
 all_goals(have HJ2:=Aa hj2)
 all_goals(clear hj2 B2 B2t BT hbt hwt hln htk hpre hck)
 all_goals(go_wp2_with fail)
 all_goals(go_ret2)
 all_goals(refine⟨by rw [HP.out];rfl,G2,?_,XA.out.trans (AO.of_below HBv.out)⟩)
 all_goals(rw [HP.out])
 all_goals(exact HJ2.out.below HBv.out)
end
section
variable{base jb x d p L:Nat}
theorem Ajc{w:World}{j:Jm}{G:Nat->Prop}(h:FU w base jb x d p L j G)(nd:Nd)(A1 A2 A3:Option Addr)(c1 c2 c3:Nat)(off word:Int)(lb:UInt8)(rest:List UInt8)(A:Option Addr)(c:Nat)(value:UInt64)
 (hN:Zx w G (.slice A1 nd.pre.length c1) (.int .u64 (nd.val.toNat:Int)) (.slice A2 nd.labels.length c2) (.slice A3 nd.kids.length c3) nd)(b1:nd.pre.length<=100)(b2:nd.labels.length<=100)(b3:nd.kids.length<=100)
 (hR:IK w G A rest.length (rest.map bv))(_:rest.length<=c)(hrl:rest.length<=100)(hm:j.made.length<=500)(hs:common nd.pre rest<nd.pre.length)(hlt:common nd.pre rest<rest.length)(her:(Ec j {nd with pre:=nd.pre.drop (common nd.pre rest+1)}).2.2=0)(hok:Jc ⟨nd.pre.take (common nd.pre rest),0,[],[]⟩ (nd.pre.getD (common nd.pre rest) 0) (Ec j {nd with pre:=nd.pre.drop (common nd.pre rest+1)}).2.1=false):
 Calls Tryz.prog 116 #[Aw jb,.agg #[.slice A1 nd.pre.length c1,.int .u64 (nd.val.toNat:Int),.slice A2 nd.labels.length c2,.slice A3 nd.kids.length c3,.int .i64 off,.int .u8 (lb.toNat:Int),.int .i64 word],.slice A rest.length c,.int .u64 (value.toNat:Int)] w (Io (Jp j nd rest value) base jb x d p L G w):=by
 have hb0:Below w.heap.size w (w.alloc (.cells #[.slice A1 nd.pre.length c1,.int .u64 (nd.val.toNat:Int),.slice A2 nd.labels.length c2,.slice A3 nd.kids.length c3,.int .i64 off,.int .u8 (lb.toNat:Int),.int .i64 word] 214)):=(Below.refl _ _).alloc (Ad _) _;have B0:CG (w.alloc (.cells #[.slice A1 nd.pre.length c1,.int .u64 (nd.val.toNat:Int),.slice A2 nd.labels.length c2,.slice A3 nd.kids.length c3,.int .i64 off,.int .u8 (lb.toNat:Int),.int .i64 word] 214)) w.heap.size 214 [.slice A1 nd.pre.length c1,.int .u64 (nd.val.toNat:Int),.slice A2 nd.labels.length c2,.slice A3 nd.kids.length c3,.int .i64 off,.int .u8 (lb.toNat:Int),.int .i64 word]:=heap_alloc_new _ _;obtain⟨W0,hW0⟩:∃W0,W0=w.alloc (.cells #[.slice A1 nd.pre.length c1,.int .u64 (nd.val.toNat:Int),.slice A2 nd.labels.length c2,.slice A3 nd.kids.length c3,.int .i64 off,.int .u8 (lb.toNat:Int),.int .i64 word] 214):=⟨_,rfl⟩;rw [<-hW0]at hb0 B0;have HW:=Aa hW0;obtain⟨q1,q2,q3,hpc⟩:=hN.reads;obtain⟨pb,po,rfl,hpw, -⟩:=GY q1 _ hs;obtain⟨k,hk⟩:∃k,k=common nd.pre rest:=⟨_,rfl⟩;have hkr:k<=rest.length:=by rw [hk];exact Fp _ _
 have HC:=Aa (fun(W:World)(hW:Below w.heap.size w W)=>KX (some ⟨pb,po,none⟩) A nd.pre.length rest.length c1 c nd.pre rest W (by omega) (by omega) (q1.below hW).1 (hR.below hW).1);rw [<-hk]at hs HC;have HK:Hid (k=common nd.pre rest):=Aa hk;obtain⟨⟨j1,kid,er⟩,hr⟩:∃r,Ec j {nd with pre:=nd.pre.drop (k+1)}=r:=⟨_,rfl⟩;have hmd:=Ij j {nd with pre:=nd.pre.drop (k+1)};rw [hr]at hmd;simp only at hmd;have Ob:=Aa hr;have UY:=Aa (fun(W:World)(hW:Below w.heap.size w W)(P:Option Addr)(C:Nat)(hP:P=(if c1=k+1 then some (⟨pb,po,none⟩:Addr)else some ⟨pb,po+(k+1),none⟩))=>Lj (h.below hW) {nd with pre:=nd.pre.drop (k+1)} P A2 A3 C c2 c3 (by simp;omega) (by simp only;omega) (by simp only;omega)
  (((q1.below hW).rest rfl (by omega) hpc hP).1) (q2.below hW).1 (q3.below hW).1 (by omega))
 rw [hr]at UY;simp only [AV]at UY;have HN:=Aa q1;have HR:=Aa hR;have ou:=Aa h.lt;have HpC:=Aa hpc;rw [<-hk]at hlt her hok;rw [hr]at her hok;simp only at her hok;subst her;have HP:Hid (Jp j nd rest value=(j1,0,5)):=Aa (by rw [Jp,<-hk,if_neg (by omega),hr];simp only;rw [if_neg (by omega),if_neg (by simp),if_neg (by rw [hok];exact Bool.false_ne_true)]);have iQ:=Aa hok;clear hok;clear h hN hR hr hW0 q1 q2 q3;have t1:((k:Int)==(nd.pre.length:Int))=false:=by rw [beq_eq_false_iff_ne];omega
 have hw1:IntKind.i64.wrap ((k:Int)+1)=(k:Int)+1:=wrap64 _ (by omega) (by omega);have t2:((k:Int)==(rest.length:Int))=false:=by rw [beq_eq_false_iff_ne];omega
 obtain⟨y0,y1,y2,y3,y4,y5,y6⟩:=ED B0;clear hk;go_enter Tryz.func116,Tryz.ntmps116
 go_wp2_with fail
 rw [<-HW.out];clear HW;refine(HC.out W0 hb0).mono ?_;rintro e w1⟨rfl,hd1⟩;have hb1:=hb0.trans ((hd1.below W0.heap.size).mono hb0.size);have B1:=B0.below (hd1.below _) B0.lt;have hs1:w.heap.size<w1.heap.size:=B1.lt;obtain⟨wl,hwl,hbl,BL⟩:=FB w1 212 [.slice (some ⟨pb,po,none⟩) nd.pre.length c1,.int .u64 (nd.val.toNat:Int),.slice A2 nd.labels.length c2,.slice A3 nd.kids.length c3];have HB1:=Aa hb1;have Tt:=Aa B1;obtain⟨y0,y1,y2,y3,y4,y5,y6⟩:=ED (B1.below hbl B1.lt);obtain⟨z0,z1,z2,z3,XE,XF,bF,bG⟩:=C9 BL;obtain⟨x0,x1,x2,x3,x4,x5,x6⟩:=ED B1;rw [hwl]at y0 y1 y2 y3 y4 y5 y6 z0 z1 z2 z3 XE XF bF bG;have hne:w.heap.size≠w1.heap.size:=by omega
 have hne':w1.heap.size≠w.heap.size:=by omega
 clear B0 hb0 hd1 hb1 B1 BL hbl hwl
 go_wp2_with fail
 all_goals(refine(UY.out _ (HB1.out.alloc HB1.out.size _) _ _ (by split<;>first| rfl| omega)).mono ?_)
 all_goals(rintro e w2⟨rfl,G2,hj2,hm2⟩)
 all_goals(have XA:=Aa ((AO.of_below (F:=G) (HB1.out.alloc HB1.out.size _)).trans hm2))
 all_goals(have B2:=(Tt.out.below ((Below.refl _ _).alloc (Ad _) _) Tt.out.lt).touch hm2.touch (fun hg=>by have:=ou.out _ hg;omega))
 all_goals(have hpre:=HN.out.moved XA.out)
 all_goals(obtain⟨b',o',e',hpb,hck⟩:=GY hpre k hs)
 all_goals(injection e' with e';injection e' with e1 e2;subst e1 e2)
 all_goals(clear y0 y1 y2 y3 y4 y5 y6 z0 z1 z2 z3 XE XF bF bG x0 x1 x2 x3 x4 x5 x6 UY hm2 hne hne')
 all_goals(have hln:(nd.pre.take k).length=k:=by simp;omega)
 all_goals(have htk:IK w2 G2 (some ⟨pb,po,none⟩) k ((nd.pre.take k).map bv):=by have:=hpre.take k (by omega);rwa [<-Vp]at this)
 all_goals(have hs2:w.heap.size<w2.heap.size:=B2.lt)
 all_goals(have hne:w.heap.size≠w2.heap.size:=by omega)
 all_goals(have hne':w2.heap.size≠w.heap.size:=by omega)
 all_goals(obtain⟨x0,x1,x2,x3,x4,x5,x6⟩:=ED B2)
 all_goals(obtain⟨wt,hwt⟩:∃wt,wt=w2.alloc (.cells #[.slice (some ⟨pb,po,none⟩) k k,.int .u64 0,.slice none 0 0,.slice none 0 0] 212):=⟨_,rfl⟩)
 all_goals(have BT:CG wt w2.heap.size 212 [.slice (some ⟨pb,po,none⟩) k k,.int .u64 0,.slice none 0 0,.slice none 0 0]:=hwt▸heap_alloc_new _ _)
 all_goals(have hbt:Below w2.heap.size w2 wt:=hwt▸(Below.refl _ _).alloc (Ad _) _)
 all_goals(have B2t:=B2.below hbt B2.lt)
 all_goals(obtain⟨y0,y1,y2,y3,y4,y5,y6⟩:=ED B2t)
 all_goals(obtain⟨z0,z1,z2,z3,XE,XF,bF,bG⟩:=C9 BT)
 all_goals(have oM:=(hbt.cell (p:=⟨pb,po+k,none⟩) hpb).trans hck)
 all_goals(rw [hwt]at y0 y1 y2 y3 y4 y5 y6 z0 z1 z2 z3 XE XF bF bG oM)
 all_goals(have HWi:=Aa (fun(W:World)(hW:Below w2.heap.size w2 W)=>zi (some ⟨pb,po,none⟩) none none k k 0 0 0 0 ⟨nd.pre.take k,0,[],[]⟩ (nd.pre.getD k 0) kid W (by omega) (by omega) (by omega) (by show Rd W _ _ _;exact(htk.below hW).1) Rd.nil Rd.nil iQ.out))
 all_goals(unfold O6 at HWi)
 all_goals(have HBv:=Aa (hwt▸hbt))
 all_goals(have HBT:=Aa (hwt▸BT))
 all_goals(have HJ2:=Aa hj2)
 all_goals(generalize nd.pre.getD k 0=lab at*)
 all_goals(generalize nd.pre.take k=prk at*)
 all_goals(clear hj2 B2 B2t BT hbt hwt hln htk hpre hck)
 all_goals(have hx1:(k:Int)<(nd.pre.length:Int):=by omega)
 all_goals(have hx2:decide ((k:Int)<(nd.pre.length:Int))=true:=decide_eq_true hx1)
 all_goals(go_wp2_with fail)
 all_goals(go_region_with(go_at_call 161;go_loud(refine(HWi.out _ (HBv.out.trans ((Dr.drew _).below _))).mono ?_;rintro e w3⟨rfl,hb3⟩;have Gh:=(HBv.out.trans ((Dr.drew _).below _)).trans (hb3.mono (HBv.out.trans ((Dr.drew _).below _)).size);have B3:=HBT.out.below (((Dr.drew _).below _).trans hb3) HBT.out.lt;obtain⟨r0,r1,r2,r3,rf0,rf1,rf2,rf3⟩:=C9 B3)))
 all_goals(obtain⟨W9,Vt, -,Zw, -⟩:=Abz B3 Gh (Ad _) (.slice none 0 0) (.int .u64 0) (.slice none 0 0) (.slice none 0 0))
 all_goals(have HF:Hid (∀W,(W=(((w3.setCell ⟨w2.heap.size,0,none⟩ (.slice none 0 0)).setCell ⟨w2.heap.size,1,none⟩ (.int .u64 0)).setCell ⟨w2.heap.size,2,none⟩ (.slice none 0 0)).setCell ⟨w2.heap.size,3,none⟩ (.slice none 0 0))->Below w2.heap.size w2 W):=Aa (fun W e=>by rw [e,<-Vt];exact Zw))
 all_goals(clear Vt Zw W9)
 all_goals(go_wp2_with fail)
 all_goals(go_ret2)
 all_goals(have hfin:=HF.out _ rfl)
 all_goals(refine⟨by rw [HP.out];rfl,G2,?_,XA.out.trans (AO.of_below hfin)⟩)
 all_goals(rw [HP.out])
 all_goals(exact HJ2.out.below hfin)
end
def Gof(F:Nat->Prop)(jb:Nat)(v:Value)(b:Nat):Prop:=F b\/b=jb\/v.ownBlock=some b
section
variable{w w':World}{base jb x d p L:Nat}{j:Jm}{F G:Nat->Prop}{v:Value}
theorem NS.move'(h:NS w base jb x d p L j F v){s':Ms}{F':Nat->Prop}(hs:QC w' d p L s' F')(m:AO F F' w w'):NS w' base jb x d p L {j with s:=s'} F' v/\AO (Gof F jb v) (Gof F' jb v) w w':=by
 obtain⟨G',q1,q2,q3⟩:=h.move (G:=Gof F jb v) (fun _=>Iff.rfl) hs m;refine⟨q1,q3.touch,fun b hb=>q3.own b ((q2 b).2 hb)⟩
theorem oN{α:Type}(l:List α)(k:Nat)(hk:k<l.length):l.drop k=l[k]::l.drop (k+1):=List.drop_eq_getElem_cons hk
def Qg(r:Ms×Int)(base jb x d p L:Nat)(j:Jm)(G:Nat->Prop)(w:World)(e:Ending)(w':World):Prop:=
 e= .returned (.int .i64 r.2)/\∃G',FU w' base jb x d p L {j with s:=r.1} G'/\AO G G' w w'
theorem ZB(h:FU w base jb x d p L j G)(e:Int)(word:Int)(name:UInt64)(A:Option Addr)(c:Nat)(old:List Int)(hm:j.made.length<=1000)(q1:Ms)(ec:Int)
 (hq:(e≠0/\q1=j.s/\e=ec)\/(e=0/\ec≠0/\∃jw:Nat,word=((8*jw:Nat):Int)/\jw<8*L/\XU j.s 3 (Gg j.s.s.ws jw name)=(q1,ec))):
 Calls Tryz.prog 115 #[Aw jb,.int .i64 e,.int .i64 word,.int .u64 (name.toNat:Int),.slice A old.length c] w (Qg (O0 q1 j.made,ec) base jb x d p L j G w):=by
 obtain⟨F,v,hj,hG⟩:=h;have hGe:G=Gof F jb v:=funext fun b=>propext (hG b)
 subst hGe;obtain⟨A0,c0,rfl,hc0, -⟩:=CO (EM hj.row (BK _));have y0:=hj.box.cell 0;have y1:=hj.box.cell 1;have u0:=hj.ix.box.cell 0;simp only [Aj,Az]at y0 y1 u0;obtain⟨X,hX⟩:∃X,O0 q1 j.made=X:=⟨_,rfl⟩;rw [hX];have HX:=Aa hX;have HJ:=Aa hj;clear hj hG hX;rcases hq with⟨he,hq1,hee⟩| ⟨rfl,hec,jw,hw,oO,hr⟩
 case' inl=>
  rw [hee]at he⊢;have t1:(ec==0)=false:=by rw [beq_eq_false_iff_ne];exact he
  have t2:(ec !=0)=true:=by rw [bne_iff_ne];exact he
  have HJ1:Hid (NS w base jb x d p L {j with s:=q1} F (.slice A0 j.made.length c0)):=Aa (by rw [hq1];exact HJ.out);have yI:=Aa (AO.refl (Gof F jb (.slice A0 j.made.length c0)) w);clear he HJ hq1 hee;go_enter Tryz.func115,Tryz.ntmps115
  go_wp2_with fail
 case' inr=>
  have jv:=UO HJ.out.ix.sys jw name oO;rw [<-hw,hr]at jv;have jv:=Aa jv;have t2:(ec !=0)=true:=by rw [bne_iff_ne];exact hec
  clear hw hr hec;go_enter Tryz.func115,Tryz.ntmps115
  go_wp2_with fail
  refine jv.out.mono ?_;rintro e w1⟨rfl,F1,hs1,hm1⟩;obtain⟨k1,k2⟩:=HJ.out.move' hs1 hm1;have HJ1:=Aa k1;have yI:=Aa k2;clear hs1 hm1 jv u0 HJ y0 y1 k2;have y1:=k1.box.cell 1;simp only [Aj,Az]at y1;clear k1
  go_wp2_with fail
 all_goals
  clear y1
  go_loopw [35](fun i wr=>∃(k:Nat)(F':Nat->Prop)(s':Ms),k<=j.made.length/\i= .int .i64 (k:Nat)/\O0 s' (j.made.drop k)=X/\NS wr base jb x d p L {j with s:=s'} F' (.slice A0 j.made.length c0)/\AO (Gof F jb (.slice A0 j.made.length c0)) (Gof F' jb (.slice A0 j.made.length c0)) w wr)(fun i _=>j.made.length- (intOf i).toNat)
  case atStart=>exact⟨0,_,q1,BK _,rfl,HX.out,HJ1.out,yI.out⟩
  case round=>
   obtain⟨k,F',s',hk,rfl,hdr,hjr,hmv⟩:=hrel;have HMv:=Aa hmv;have kM:=Aa hdr;have wI:=Aa hjr;clear hmv hdr hjr HJ1 yI;by_cases hlt:k<j.made.length
   ·have y0:=wI.out.box.cell 0;have u1:=wI.out.ix.box.cell 1;simp only [Aj,Az]at y0 u1;obtain⟨rb,ro,rfl,hrb,hcs⟩:=(CB wI.out.row).2.2 (by omega);have hck:=hcs k hlt;rw [BZ,Af hlt]at hck;replace hck:_=some (Value.int .i64 j.made[k]):=hck;have hin: -9223372036854775808<=j.made[k]/\j.made[k]<=9223372036854775807:=wI.out.mb _ (BM _);have ay:Hid (O0 (IW s' j.made[k]).1 (j.made.drop (k+1))=X):=Aa (by rw [<-kM.out,oN _ _ hlt];rfl);have HDp:=Aa (TR (q:=s') wI.out.ix.sys j.made[k] hin);generalize j.made[k]=o at*;clear hcs hin;have hx1:(k:Int)<(j.made.length:Int):=by omega
    have hx2:decide ((k:Int)<(j.made.length:Int))=true:=decide_eq_true hx1;have hwk:IntKind.i64.wrap ((k:Int)+1)=(k:Int)+1:=wrap64 _ (by omega) (by omega)
    go_wp2_with fail
    refine HDp.out.mono ?_;rintro e9 w9⟨rfl,F9,hs9,hm9⟩;obtain⟨k1,k2⟩:=wI.out.move' hs9 hm9;have HQ:=Aa k1;have HM9:=Aa (HMv.out.trans k2);clear k1 k2 hs9 hm9 HDp y0 u1 hck wI HMv
    go_wp2_with fail
    go_roundw
    case rel=>exact⟨k+1,F9,(IW s' o).1,by omega,by go_num,ay.out,HQ.out,HM9.out⟩
    case measure=>simp [intOf];omega
   ·have hkn:k=j.made.length:=by omega
    subst hkn;have HS:Hid (s'=X):=Aa (by have:=kM.out;rw [Adv]at this;exact this)
    go_wp2_with fail
    go_ret;refine⟨rfl,Gof F' jb _,?_,HMv.out⟩;rw [<-HS.out];exact⟨F',_,wI.out,fun _=>Iff.rfl⟩
theorem oP(h:FU w base jb x d p L j G)(word:Int)(jw:Nat)(hw:word=((8*jw:Nat):Int))(oO:jw<8*L)(name:UInt64)(A:Option Addr)(c:Nat)(old:List Int)(hO:IK w G A old.length (old.map zv))(hob:∀o∈old, -9223372036854775808<=o/\o<=9223372036854775807)(hol:old.length<=1000)(hm:j.made.length<=1000):
 Calls Tryz.prog 115 #[Aw jb,.int .i64 0,.int .i64 word,.int .u64 (name.toNat:Int),.slice A old.length c] w (Qg (Fa j 0 word name old) base jb x d p L j G w):=by
 obtain⟨⟨q1,ec⟩,hr⟩:∃R,XU j.s 3 (Gg j.s.s.ws jw name)=R:=⟨_,rfl⟩;have hfe:Fa j 0 word name old=if ec=0 then LC q1 old 0 else(O0 q1 j.made,ec):=by unfold Fa;rw [if_neg (by simp),hw,show((8*jw:Nat):Int).toNat/8=jw by omega,hr]
 by_cases hec:ec=0
 case neg=>
  rw [hfe,if_neg hec];exact ZB h 0 word name A c old hm q1 ec (.inr ⟨rfl,hec,jw,hw,oO,hr⟩)
 subst hec;rw [if_pos rfl]at hfe;rw [hfe];clear hfe hm;obtain⟨F,v,hj,hG⟩:=h;have hGe:G=Gof F jb v:=funext fun b=>propext (hG b)
 subst hGe;have jv:=UO hj.ix.sys jw name oO;rw [<-hw,hr]at jv;have jv:=Aa jv;have HJ:=Aa hj;have HO:=Aa hO;have HOb:=Aa hob;have y0:=hj.box.cell 0;have u0:=hj.ix.box.cell 0;simp only [Aj]at y0 u0;clear hj hG hO hob hw hr;go_enter Tryz.func115,Tryz.ntmps115
 go_wp2_with fail
 refine jv.out.mono ?_;rintro e w1⟨rfl,F1,hs1,hm1⟩;obtain⟨k1,k2⟩:=HJ.out.move' hs1 hm1;have HJ1:=Aa k1;have yI:=Aa k2;clear k1 k2 hs1 hm1 jv y0 u0
 go_wp2_with fail
 go_loopw [1,52](fun e1 i wr=>∃(k:Nat)(F':Nat->Prop)(s':Ms)(ec:Int),k<=old.length/\e1= .int .i64 ec/\i= .int .i64 (k:Nat)/\LC s' (old.drop k) ec=LC q1 old 0/\NS wr base jb x d p L {j with s:=s'} F' v/\AO (Gof F jb v) (Gof F' jb v) w wr)(fun _ i _=>old.length- (intOf i).toNat)
 case atStart=>exact⟨0,F1,q1,0,BK _,rfl,rfl,rfl,HJ1.out,yI.out⟩
 case round=>
  obtain⟨k,F',s',ec,hk,rfl,rfl,hdr,hjr,hmv⟩:=hrel;have HMv:=Aa hmv;have kM:=Aa hdr;have wI:=Aa hjr;clear hmv hdr hjr HJ1 yI;by_cases hlt:k<old.length
  ·have y0:=wI.out.box.cell 0;have u1:=wI.out.ix.box.cell 1;simp only [Aj,Az]at y0 u1;obtain⟨rb,ro,rfl,hrb,hcs⟩:=(HO.out.moved HMv.out).1.2 (by omega);have hck:=hcs k hlt;rw [BZ,Af hlt]at hck;replace hck:_=some (Value.int .i64 old[k]):=hck;have hin: -9223372036854775808<=old[k]/\old[k]<=9223372036854775807:=HOb.out _ (BM _);have ay:Hid (LC (IW s' old[k]).1 (old.drop (k+1)) (if ec=0 then(IW s' old[k]).2 else ec)=LC q1 old 0):=Aa (by rw [<-kM.out,oN _ _ hlt];rfl);have HDp:=Aa (TR (q:=s') wI.out.ix.sys old[k] hin);generalize old[k]=o at*;obtain⟨de,hde⟩:∃de,de=(IW s' o).2:=⟨_,rfl⟩;rw [<-hde]at ay HDp;clear hcs hin hde;have hx1:(k:Int)<(old.length:Int):=by omega
   have hx2:decide ((k:Int)<(old.length:Int))=true:=decide_eq_true hx1;have hwk:IntKind.i64.wrap ((k:Int)+1)=(k:Int)+1:=wrap64 _ (by omega) (by omega)
   go_wp2_with fail
   refine HDp.out.mono ?_;rintro e9 w9⟨rfl,F9,hs9,hm9⟩;obtain⟨k1,k2⟩:=wI.out.move' hs9 hm9;have HQ:=Aa k1;have HM9:=Aa (HMv.out.trans k2);clear k1 k2 hs9 hm9 HDp y0 u1 hck wI HMv;by_cases hec:ec=0
   ·subst hec;rw [if_pos rfl]at ay
    go_wp2_with fail
    go_roundw
    case rel=>exact⟨k+1,F9,(IW s' o).1,de,by omega,rfl,by go_num,ay.out,HQ.out,HM9.out⟩
    case measure=>simp [intOf];omega
   ·rw [if_neg hec]at ay;have t5:(ec==0)=false:=by rw [beq_eq_false_iff_ne];exact hec
    go_wp2_with fail
    go_roundw
    case rel=>exact⟨k+1,F9,(IW s' o).1,ec,by omega,rfl,by go_num,ay.out,HQ.out,HM9.out⟩
    case measure=>simp [intOf];omega
  ·have hkn:k=old.length:=by omega
   subst hkn;have HS:Hid ((s',ec)=LC q1 old 0):=Aa (by have:=kM.out;rw [Adv]at this;exact this)
   go_wp2_with fail
   go_ret;refine⟨by rw [<-HS.out];rfl,Gof F' jb _,?_,HMv.out⟩;rw [<-HS.out];exact⟨F',_,wI.out,fun _=>Iff.rfl⟩
theorem Qh(h:FU w base jb x d p L j G)(e:Int)(word:Int)(jw:Nat)(hw:word=((8*jw:Nat):Int))(oO:jw<8*L)(name:UInt64)(A:Option Addr)(c:Nat)(old:List Int)(hO:IK w G A old.length (old.map zv))(hob:∀o∈old, -9223372036854775808<=o/\o<=9223372036854775807)(hol:old.length<=1000)(hm:j.made.length<=1000):
 Calls Tryz.prog 115 #[Aw jb,.int .i64 e,.int .i64 word,.int .u64 (name.toNat:Int),.slice A old.length c] w (Qg (Fa j e word name old) base jb x d p L j G w):=by
 by_cases he:e=0
 ·subst he;exact oP h word jw hw oO name A c old hO hob hol hm
 ·rw [show Fa j e word name old=(O0 j.s j.made,e)by unfold Fa;rw [if_pos he]];exact ZB h e word name A c old hm j.s e (.inl ⟨he,rfl,rfl⟩)
end
