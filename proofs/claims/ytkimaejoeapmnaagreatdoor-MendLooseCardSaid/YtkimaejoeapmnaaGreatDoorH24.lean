import Derived.Test.YtkimaejoeapmnaaGreatDoorH22
set_option linter.defProp false
set_option maxHeartbeats 32000000
set_option maxRecDepth 100000
open Nat renaming le_refl->Ad,zero_le->BU
open Go.Lib renaming hid->Aa
open List renaming length_drop->AV,map_take->VT,getElem?_cons_zero->Am,getElem?_cons_succ->AA,getElem?_map->BZ,getElem?_eq_getElem->Af,getElem_mem->BI,drop_length->Ae6
namespace Go.Proofs.YtkimaejoeapmnaaGreatDoor
open Go.RowKit
open Go.Proofs.Tryz
section
variable{base jb x d p L:Nat}
def grow_end{w:World}{j:Jm}{G:Nat->Prop}(h:Gf w base jb x d p L j G)(nd:Nd)(A1 A2 A3:Option Addr)(c1 c2 c3:Nat)(off word:Int)(lb:UInt8)(rest:List UInt8)(A:Option Addr)(c:Nat)(value:UInt64)
 (hN:ax w G (.slice A1 nd.pre.length c1) (.int .u64 (nd.val.toNat:Int)) (.slice A2 nd.labels.length c2) (.slice A3 nd.kids.length c3) nd)(b1:nd.pre.length<=100)(b2:nd.labels.length<=100)(b3:nd.kids.length<=100)
 (hR:Ja w G A rest.length (rest.map bv))(_:rest.length<=c)(hrl:rest.length<=100)(hm:j.made.length<=500)(hs:common nd.pre rest<nd.pre.length)(he:common nd.pre rest=rest.length):
 Calls prog 116 #[Az jb,.agg #[.slice A1 nd.pre.length c1,.int .u64 (nd.val.toNat:Int),.slice A2 nd.labels.length c2,.slice A3 nd.kids.length c3,.int .i64 off,.int .u8 (lb.toNat:Int),.int .i64 word],.slice A rest.length c,.int .u64 (value.toNat:Int)] w (I5 (J3 j nd rest value) base jb x d p L G w):=by
 have hb0:η w (w.alloc (.cells #[.slice A1 nd.pre.length c1,.int .u64 (nd.val.toNat:Int),.slice A2 nd.labels.length c2,.slice A3 nd.kids.length c3,.int .i64 off,.int .u8 (lb.toNat:Int),.int .i64 word] 214)):=(Below.refl _ _).alloc (Ad _) _;have B0:CS (w.alloc (.cells #[.slice A1 nd.pre.length c1,.int .u64 (nd.val.toNat:Int),.slice A2 nd.labels.length c2,.slice A3 nd.kids.length c3,.int .i64 off,.int .u8 (lb.toNat:Int),.int .i64 word] 214)) w.heap.size 214 [.slice A1 nd.pre.length c1,.int .u64 (nd.val.toNat:Int),.slice A2 nd.labels.length c2,.slice A3 nd.kids.length c3,.int .i64 off,.int .u8 (lb.toNat:Int),.int .i64 word]:=heap_alloc_new _ _;obtain⟨W0,hW0⟩:∃W0,W0=w.alloc (.cells #[.slice A1 nd.pre.length c1,.int .u64 (nd.val.toNat:Int),.slice A2 nd.labels.length c2,.slice A3 nd.kids.length c3,.int .i64 off,.int .u8 (lb.toNat:Int),.int .i64 word] 214):=⟨_,rfl⟩;rw [<-hW0]at hb0 B0;have HW:=Aa hW0;obtain⟨q1,q2,q3,hpc⟩:=hN.reads;obtain⟨pb,po,rfl,hpw, -⟩:=Hf q1 _ hs;obtain⟨k,hk⟩:∃k,k=common nd.pre rest:=⟨_,rfl⟩;have hkr:k<=rest.length:=by rw [hk];exact Fq _ _
 have HC:=Aa (λ(W:World)(hW:η w W)=>Lt (some (Δ pb po)) A nd.pre.length rest.length c1 c nd.pre rest W O O (q1.below hW).1 (hR.below hW).1);rw [<-hk]at hs HC;have HK:Hid (k=common nd.pre rest):=Aa hk;obtain⟨⟨j1,kid,er⟩,hr⟩:∃r,Ei j {nd with pre:=nd.pre.drop (k+1)}=r:=⟨_,rfl⟩;have hmd:=Ir j {nd with pre:=nd.pre.drop (k+1)};rw [hr]at hmd;simp only at hmd;have Nr:=Aa hr;have VD:=Aa (λ(W:World)(hW:η w W)(P:Option Addr)(C:Nat)(hP:P=(if c1=k+1 then some ((Δ pb po):Addr)else some (Δ pb (po+(k+1)))))=>LK (h.below hW) {nd with pre:=nd.pre.drop (k+1)} P A2 A3 C c2 c3 (by simp;omega) (by simp only;omega) (by simp only;omega)
  (((q1.below hW).rest rfl O hpc hP).1) (q2.below hW).1 (q3.below hW).1 O)
 rw [hr]at VD;simp only [AV]at VD;have HN:=Aa q1;have HR:=Aa hR;have qE:=Aa h.lt;have HpC:=Aa hpc;rw [<-hk]at he;have HP:Hid (J3 j nd rest value=Hr j1 ⟨nd.pre.take k,value,[],[]⟩ (nd.pre.getD k 0) kid er):=Aa (by rw [J3,<-hk,if_neg O,hr];simp only [if_pos he]);have He:=Aa he;clear h hN hR hr hW0 q1 q2 q3;have t1:((k:Int)==(nd.pre.length:Int))=false:=by rw [beq_eq_false_iff_ne];omega
 have hw1:IntKind.i64.wrap ((k:Int)+1)=(k:Int)+1:=wrap64 _ O O;have t2:((k:Int)==(rest.length:Int))=true:=by rw [beq_iff_eq];omega
 obtain⟨y0,y1,y2,y3,y4,y5,y6⟩:=EI B0;clear hk he;go_enter func116,ntmps116
 go_wp2_with fail
 rw [<-HW.out];clear HW;refine(HC.out W0 hb0).mono ?_;rintro e w1⟨rfl,hd1⟩;have hb1:=τ hb0 (hd1.below W0.heap.size);have B1:=B0.ξ (hd1.below _);have hs1:w.heap.size<w1.heap.size:=B1.lt;obtain⟨wl,hwl,hbl,BL⟩:=EZ w1 212 [.slice (some (Δ pb po)) nd.pre.length c1,.int .u64 (nd.val.toNat:Int),.slice A2 nd.labels.length c2,.slice A3 nd.kids.length c3];have HB1:=Aa hb1;have TV:=Aa B1;obtain⟨y0,y1,y2,y3,y4,y5,y6⟩:=EI (B1.ξ hbl);obtain⟨z0,z1,z2,z3,Yt,Yu,dR,dS⟩:=CG BL;obtain⟨x0,x1,x2,x3,x4,x5,x6⟩:=EI B1;rw [hwl]at y0 y1 y2 y3 y4 y5 y6 z0 z1 z2 z3 Yt Yu dR dS;have hne:w.heap.size≠w1.heap.size:=O
 have hne':w1.heap.size≠w.heap.size:=O
 clear B0 hb0 hd1 hb1 B1 BL hbl hwl
 go_wp2_with fail
 all_goals(refine(VD.out _ (HB1.out.alloc HB1.out.size _) _ _ (by split<;>first| rfl| omega)).mono ?_)
 all_goals(rintro e w2⟨rfl,G2,hj2,hm2⟩)
 all_goals(have Vx:=Aa ((AP.of_below (F:=G) (HB1.out.alloc HB1.out.size _)).trans hm2))
 all_goals(have B2:=(TV.out.ξ ((Below.refl _ _).alloc (Ad _) _)).touch hm2.touch (λhg=>Ω (qE.out _ hg)))
 all_goals(have hpre:=HN.out.moved Vx.out)
 all_goals(obtain⟨b',o',e',hpb,hck⟩:=Hf hpre k hs)
 all_goals(injection e' with e';injection e' with e1 e2;subst e1 e2)
 all_goals(clear y0 y1 y2 y3 y4 y5 y6 z0 z1 z2 z3 Yt Yu dR dS x0 x1 x2 x3 x4 x5 x6 VD hm2 hne hne')
 all_goals(have hln:(nd.pre.take k).length=k:=by simp;omega)
 all_goals(have htk:Ja w2 G2 (some (Δ pb po)) k ((nd.pre.take k).map bv):=by have:=hpre.take k O;rwa [<-VT]at this)
 all_goals(have hs2:w.heap.size<w2.heap.size:=B2.lt)
 all_goals(have hne:w.heap.size≠w2.heap.size:=O)
 all_goals(have hne':w2.heap.size≠w.heap.size:=O)
 all_goals(obtain⟨x0,x1,x2,x3,x4,x5,x6⟩:=EI B2)
 all_goals(obtain⟨wt,hwt⟩:∃wt,wt=w2.alloc (.cells #[.slice (some (Δ pb po)) k k,.int .u64 0,.slice none 0 0,.slice none 0 0] 212):=⟨_,rfl⟩)
 all_goals(have BT:CS wt w2.heap.size 212 [.slice (some (Δ pb po)) k k,.int .u64 0,.slice none 0 0,.slice none 0 0]:=hwt▸heap_alloc_new _ _)
 all_goals(have hbt:η w2 wt:=hwt▸(Below.refl _ _).alloc (Ad _) _)
 all_goals(have B2t:=B2.ξ hbt)
 all_goals(obtain⟨y0,y1,y2,y3,y4,y5,y6⟩:=EI B2t)
 all_goals(obtain⟨z0,z1,z2,z3,Yt,Yu,dR,dS⟩:=CG BT)
 all_goals(have qQ:=(hbt.cell (p:=Δ pb (po+k)) hpb).trans hck)
 all_goals(rw [hwt]at y0 y1 y2 y3 y4 y5 y6 z0 z1 z2 z3 Yt Yu dR dS qQ)
 all_goals(obtain⟨wv',hwv⟩:∃wv',wv'=w2.alloc (.cells #[.slice (some (Δ pb po)) k k,.int .u64 (value.toNat:Int),.slice none 0 0,.slice none 0 0] 212):=⟨_,rfl⟩)
 all_goals(have BV:CS wv' w2.heap.size 212 [.slice (some (Δ pb po)) k k,.int .u64 (value.toNat:Int),.slice none 0 0,.slice none 0 0]:=hwv▸heap_alloc_new _ _)
 all_goals(have hbv:η w2 wv':=hwv▸(Below.refl _ _).alloc (Ad _) _)
 all_goals(obtain⟨v0,v1,v2,v3,v4,v5,v6⟩:=EI (B2.ξ hbv))
 all_goals(obtain⟨u0,u1,u2,u3, -⟩:=CG BV)
 all_goals(have Avl:=(hbv.cell (p:=Δ pb (po+k)) hpb).trans hck)
 all_goals(rw [hwv]at v0 v1 v2 v3 v4 v5 v6 u0 u1 u2 u3 Avl)
 all_goals(have hab:=λ(W:World)(hW:η w2 W)=>Tu (hj2.below hW) ⟨nd.pre.take k,value,[],[]⟩ (some (Δ pb po)) none none k 0 0 (nd.pre.getD k 0) kid er (by show(nd.pre.take k).length<=100;omega) Θ Θ (by show Rd W _ (nd.pre.take k).length _;rw [hln];exact(htk.below hW).1) Rd.nil Rd.nil (by show j1.made.length<=1000;omega))
 all_goals(replace hab:=Aa hab)
 all_goals(rw [hln]at hab)
 all_goals(have HBv:=Aa (hwv▸hbv))
 all_goals(generalize nd.pre.getD k 0=lab at*)
 all_goals(generalize nd.pre.take k=prk at*)
 all_goals(clear hj2 B2 B2t BT BV hbt hbv hwt hwv hln htk hpre hck)
 all_goals(have hx1:(k:Int)<(nd.pre.length:Int):=O)
 all_goals(have hx2:decide ((k:Int)<(nd.pre.length:Int))=true:=decide_eq_true hx1)
 all_goals(go_wp2_with fail)
 all_goals(go_region_with(go_at_call 160;go_loud(refine(hab.out _ (HBv.out.trans ((Dr.drew _).below _))).mono ?_;rintro e w3⟨rfl,G3,q1,q2⟩)))
 all_goals(have HF:=Aa (And.intro q1 (Vx.out.trans ((AP.of_below (HBv.out.trans ((Dr.drew _).below _))).trans q2))))
 all_goals(clear q1 q2)
 all_goals(go_wp2_with fail)
 all_goals(go_ret2)
 all_goals(rw [HP.out])
 all_goals(exact⟨rfl,G3,HF.out.1,HF.out.2⟩)
def Ag8{w:World}{j:Jm}{G:Nat->Prop}(h:Gf w base jb x d p L j G)(nd:Nd)(A1 A2 A3:Option Addr)(c1 c2 c3:Nat)(off word:Int)(lb:UInt8)(rest:List UInt8)(A:Option Addr)(c:Nat)(value:UInt64)
 (hN:ax w G (.slice A1 nd.pre.length c1) (.int .u64 (nd.val.toNat:Int)) (.slice A2 nd.labels.length c2) (.slice A3 nd.kids.length c3) nd)(b1:nd.pre.length<=100)(b2:nd.labels.length<=100)(b3:nd.kids.length<=100)
 (hR:Ja w G A rest.length (rest.map bv))(_:rest.length<=c)(hrl:rest.length<=100)(hm:j.made.length<=500)(hs:common nd.pre rest<nd.pre.length)(hlt:common nd.pre rest<rest.length)(her:(Ei j {nd with pre:=nd.pre.drop (common nd.pre rest+1)}).2.2≠0):
 Calls prog 116 #[Az jb,.agg #[.slice A1 nd.pre.length c1,.int .u64 (nd.val.toNat:Int),.slice A2 nd.labels.length c2,.slice A3 nd.kids.length c3,.int .i64 off,.int .u8 (lb.toNat:Int),.int .i64 word],.slice A rest.length c,.int .u64 (value.toNat:Int)] w (I5 (J3 j nd rest value) base jb x d p L G w):=by
 have hb0:η w (w.alloc (.cells #[.slice A1 nd.pre.length c1,.int .u64 (nd.val.toNat:Int),.slice A2 nd.labels.length c2,.slice A3 nd.kids.length c3,.int .i64 off,.int .u8 (lb.toNat:Int),.int .i64 word] 214)):=(Below.refl _ _).alloc (Ad _) _;have B0:CS (w.alloc (.cells #[.slice A1 nd.pre.length c1,.int .u64 (nd.val.toNat:Int),.slice A2 nd.labels.length c2,.slice A3 nd.kids.length c3,.int .i64 off,.int .u8 (lb.toNat:Int),.int .i64 word] 214)) w.heap.size 214 [.slice A1 nd.pre.length c1,.int .u64 (nd.val.toNat:Int),.slice A2 nd.labels.length c2,.slice A3 nd.kids.length c3,.int .i64 off,.int .u8 (lb.toNat:Int),.int .i64 word]:=heap_alloc_new _ _;obtain⟨W0,hW0⟩:∃W0,W0=w.alloc (.cells #[.slice A1 nd.pre.length c1,.int .u64 (nd.val.toNat:Int),.slice A2 nd.labels.length c2,.slice A3 nd.kids.length c3,.int .i64 off,.int .u8 (lb.toNat:Int),.int .i64 word] 214):=⟨_,rfl⟩;rw [<-hW0]at hb0 B0;have HW:=Aa hW0;obtain⟨q1,q2,q3,hpc⟩:=hN.reads;obtain⟨pb,po,rfl,hpw, -⟩:=Hf q1 _ hs;obtain⟨k,hk⟩:∃k,k=common nd.pre rest:=⟨_,rfl⟩;have hkr:k<=rest.length:=by rw [hk];exact Fq _ _
 have HC:=Aa (λ(W:World)(hW:η w W)=>Lt (some (Δ pb po)) A nd.pre.length rest.length c1 c nd.pre rest W O O (q1.below hW).1 (hR.below hW).1);rw [<-hk]at hs HC;have HK:Hid (k=common nd.pre rest):=Aa hk;obtain⟨⟨j1,kid,er⟩,hr⟩:∃r,Ei j {nd with pre:=nd.pre.drop (k+1)}=r:=⟨_,rfl⟩;have hmd:=Ir j {nd with pre:=nd.pre.drop (k+1)};rw [hr]at hmd;simp only at hmd;have Nr:=Aa hr;have VD:=Aa (λ(W:World)(hW:η w W)(P:Option Addr)(C:Nat)(hP:P=(if c1=k+1 then some ((Δ pb po):Addr)else some (Δ pb (po+(k+1)))))=>LK (h.below hW) {nd with pre:=nd.pre.drop (k+1)} P A2 A3 C c2 c3 (by simp;omega) (by simp only;omega) (by simp only;omega)
  (((q1.below hW).rest rfl O hpc hP).1) (q2.below hW).1 (q3.below hW).1 O)
 rw [hr]at VD;simp only [AV]at VD;have HN:=Aa q1;have HR:=Aa hR;have qE:=Aa h.lt;have HpC:=Aa hpc;rw [<-hk]at hlt her;rw [hr]at her;simp only at her;have HP:Hid (J3 j nd rest value=(j1,0,er)):=Aa (by rw [J3,<-hk,if_neg O,hr];simp only;rw [if_neg O,if_pos her]);have te:(er !=0)=true:=by rw [bne_iff_ne];exact her
 clear her;clear h hN hR hr hW0 q1 q2 q3;have t1:((k:Int)==(nd.pre.length:Int))=false:=by rw [beq_eq_false_iff_ne];omega
 have hw1:IntKind.i64.wrap ((k:Int)+1)=(k:Int)+1:=wrap64 _ O O;have t2:((k:Int)==(rest.length:Int))=false:=by rw [beq_eq_false_iff_ne];omega
 obtain⟨y0,y1,y2,y3,y4,y5,y6⟩:=EI B0;clear hk;go_enter func116,ntmps116
 go_wp2_with fail
 rw [<-HW.out];clear HW;refine(HC.out W0 hb0).mono ?_;rintro e w1⟨rfl,hd1⟩;have hb1:=τ hb0 (hd1.below W0.heap.size);have B1:=B0.ξ (hd1.below _);have hs1:w.heap.size<w1.heap.size:=B1.lt;obtain⟨wl,hwl,hbl,BL⟩:=EZ w1 212 [.slice (some (Δ pb po)) nd.pre.length c1,.int .u64 (nd.val.toNat:Int),.slice A2 nd.labels.length c2,.slice A3 nd.kids.length c3];have HB1:=Aa hb1;have TV:=Aa B1;obtain⟨y0,y1,y2,y3,y4,y5,y6⟩:=EI (B1.ξ hbl);obtain⟨z0,z1,z2,z3,Yt,Yu,dR,dS⟩:=CG BL;obtain⟨x0,x1,x2,x3,x4,x5,x6⟩:=EI B1;rw [hwl]at y0 y1 y2 y3 y4 y5 y6 z0 z1 z2 z3 Yt Yu dR dS;have hne:w.heap.size≠w1.heap.size:=O
 have hne':w1.heap.size≠w.heap.size:=O
 clear B0 hb0 hd1 hb1 B1 BL hbl hwl
 go_wp2_with fail
 all_goals(refine(VD.out _ (HB1.out.alloc HB1.out.size _) _ _ (by split<;>first| rfl| omega)).mono ?_)
 all_goals(rintro e w2⟨rfl,G2,hj2,hm2⟩)
 all_goals(have Vx:=Aa ((AP.of_below (F:=G) (HB1.out.alloc HB1.out.size _)).trans hm2))
 all_goals(have B2:=(TV.out.ξ ((Below.refl _ _).alloc (Ad _) _)).touch hm2.touch (λhg=>Ω (qE.out _ hg)))
 all_goals(have hpre:=HN.out.moved Vx.out)
 all_goals(obtain⟨b',o',e',hpb,hck⟩:=Hf hpre k hs)
 all_goals(injection e' with e';injection e' with e1 e2;subst e1 e2)
 all_goals(clear y0 y1 y2 y3 y4 y5 y6 z0 z1 z2 z3 Yt Yu dR dS x0 x1 x2 x3 x4 x5 x6 VD hm2 hne hne')
 all_goals(have hln:(nd.pre.take k).length=k:=by simp;omega)
 all_goals(have htk:Ja w2 G2 (some (Δ pb po)) k ((nd.pre.take k).map bv):=by have:=hpre.take k O;rwa [<-VT]at this)
 all_goals(have hs2:w.heap.size<w2.heap.size:=B2.lt)
 all_goals(have hne:w.heap.size≠w2.heap.size:=O)
 all_goals(have hne':w2.heap.size≠w.heap.size:=O)
 all_goals(obtain⟨x0,x1,x2,x3,x4,x5,x6⟩:=EI B2)
 all_goals(obtain⟨wt,hwt⟩:∃wt,wt=w2.alloc (.cells #[.slice (some (Δ pb po)) k k,.int .u64 0,.slice none 0 0,.slice none 0 0] 212):=⟨_,rfl⟩)
 all_goals(have BT:CS wt w2.heap.size 212 [.slice (some (Δ pb po)) k k,.int .u64 0,.slice none 0 0,.slice none 0 0]:=hwt▸heap_alloc_new _ _)
 all_goals(have hbt:η w2 wt:=hwt▸(Below.refl _ _).alloc (Ad _) _)
 all_goals(have B2t:=B2.ξ hbt)
 all_goals(obtain⟨y0,y1,y2,y3,y4,y5,y6⟩:=EI B2t)
 all_goals(obtain⟨z0,z1,z2,z3,Yt,Yu,dR,dS⟩:=CG BT)
 all_goals(have qQ:=(hbt.cell (p:=Δ pb (po+k)) hpb).trans hck)
 all_goals(rw [hwt]at y0 y1 y2 y3 y4 y5 y6 z0 z1 z2 z3 Yt Yu dR dS qQ)
 all_goals(have HBv:=Aa (hwt▸hbt))
 all_goals(have HJ2:=Aa hj2)
 all_goals(clear hj2 B2 B2t BT hbt hwt hln htk hpre hck)
 all_goals(go_wp2_with fail)
 all_goals(go_ret2)
 all_goals(refine⟨by rw [HP.out];rfl,G2,?_,Vx.out.trans (AP.of_below HBv.out)⟩)
 all_goals(rw [HP.out])
 all_goals(exact HJ2.out.below HBv.out)
end
section
variable{base jb x d p L:Nat}
def Aks{w:World}{j:Jm}{G:Nat->Prop}(h:Gf w base jb x d p L j G)(nd:Nd)(A1 A2 A3:Option Addr)(c1 c2 c3:Nat)(off word:Int)(lb:UInt8)(rest:List UInt8)(A:Option Addr)(c:Nat)(value:UInt64)
 (hN:ax w G (.slice A1 nd.pre.length c1) (.int .u64 (nd.val.toNat:Int)) (.slice A2 nd.labels.length c2) (.slice A3 nd.kids.length c3) nd)(b1:nd.pre.length<=100)(b2:nd.labels.length<=100)(b3:nd.kids.length<=100)
 (hR:Ja w G A rest.length (rest.map bv))(_:rest.length<=c)(hrl:rest.length<=100)(hm:j.made.length<=500)(hs:common nd.pre rest<nd.pre.length)(hlt:common nd.pre rest<rest.length)(her:(Ei j {nd with pre:=nd.pre.drop (common nd.pre rest+1)}).2.2=0)(hok:Jo ⟨nd.pre.take (common nd.pre rest),0,[],[]⟩ (nd.pre.getD (common nd.pre rest) 0) (Ei j {nd with pre:=nd.pre.drop (common nd.pre rest+1)}).2.1=false):
 Calls prog 116 #[Az jb,.agg #[.slice A1 nd.pre.length c1,.int .u64 (nd.val.toNat:Int),.slice A2 nd.labels.length c2,.slice A3 nd.kids.length c3,.int .i64 off,.int .u8 (lb.toNat:Int),.int .i64 word],.slice A rest.length c,.int .u64 (value.toNat:Int)] w (I5 (J3 j nd rest value) base jb x d p L G w):=by
 have hb0:η w (w.alloc (.cells #[.slice A1 nd.pre.length c1,.int .u64 (nd.val.toNat:Int),.slice A2 nd.labels.length c2,.slice A3 nd.kids.length c3,.int .i64 off,.int .u8 (lb.toNat:Int),.int .i64 word] 214)):=(Below.refl _ _).alloc (Ad _) _;have B0:CS (w.alloc (.cells #[.slice A1 nd.pre.length c1,.int .u64 (nd.val.toNat:Int),.slice A2 nd.labels.length c2,.slice A3 nd.kids.length c3,.int .i64 off,.int .u8 (lb.toNat:Int),.int .i64 word] 214)) w.heap.size 214 [.slice A1 nd.pre.length c1,.int .u64 (nd.val.toNat:Int),.slice A2 nd.labels.length c2,.slice A3 nd.kids.length c3,.int .i64 off,.int .u8 (lb.toNat:Int),.int .i64 word]:=heap_alloc_new _ _;obtain⟨W0,hW0⟩:∃W0,W0=w.alloc (.cells #[.slice A1 nd.pre.length c1,.int .u64 (nd.val.toNat:Int),.slice A2 nd.labels.length c2,.slice A3 nd.kids.length c3,.int .i64 off,.int .u8 (lb.toNat:Int),.int .i64 word] 214):=⟨_,rfl⟩;rw [<-hW0]at hb0 B0;have HW:=Aa hW0;obtain⟨q1,q2,q3,hpc⟩:=hN.reads;obtain⟨pb,po,rfl,hpw, -⟩:=Hf q1 _ hs;obtain⟨k,hk⟩:∃k,k=common nd.pre rest:=⟨_,rfl⟩;have hkr:k<=rest.length:=by rw [hk];exact Fq _ _
 have HC:=Aa (λ(W:World)(hW:η w W)=>Lt (some (Δ pb po)) A nd.pre.length rest.length c1 c nd.pre rest W O O (q1.below hW).1 (hR.below hW).1);rw [<-hk]at hs HC;have HK:Hid (k=common nd.pre rest):=Aa hk;obtain⟨⟨j1,kid,er⟩,hr⟩:∃r,Ei j {nd with pre:=nd.pre.drop (k+1)}=r:=⟨_,rfl⟩;have hmd:=Ir j {nd with pre:=nd.pre.drop (k+1)};rw [hr]at hmd;simp only at hmd;have Nr:=Aa hr;have VD:=Aa (λ(W:World)(hW:η w W)(P:Option Addr)(C:Nat)(hP:P=(if c1=k+1 then some ((Δ pb po):Addr)else some (Δ pb (po+(k+1)))))=>LK (h.below hW) {nd with pre:=nd.pre.drop (k+1)} P A2 A3 C c2 c3 (by simp;omega) (by simp only;omega) (by simp only;omega)
  (((q1.below hW).rest rfl O hpc hP).1) (q2.below hW).1 (q3.below hW).1 O)
 rw [hr]at VD;simp only [AV]at VD;have HN:=Aa q1;have HR:=Aa hR;have qE:=Aa h.lt;have HpC:=Aa hpc;rw [<-hk]at hlt her hok;rw [hr]at her hok;simp only at her hok;subst her;have HP:Hid (J3 j nd rest value=(j1,0,5)):=Aa (by rw [J3,<-hk,if_neg O,hr];simp only;rw [if_neg O,if_neg Θ,if_neg (by rw [hok];exact Bool.false_ne_true)]);have jX:=Aa hok;clear hok;clear h hN hR hr hW0 q1 q2 q3;have t1:((k:Int)==(nd.pre.length:Int))=false:=by rw [beq_eq_false_iff_ne];omega
 have hw1:IntKind.i64.wrap ((k:Int)+1)=(k:Int)+1:=wrap64 _ O O;have t2:((k:Int)==(rest.length:Int))=false:=by rw [beq_eq_false_iff_ne];omega
 obtain⟨y0,y1,y2,y3,y4,y5,y6⟩:=EI B0;clear hk;go_enter func116,ntmps116
 go_wp2_with fail
 rw [<-HW.out];clear HW;refine(HC.out W0 hb0).mono ?_;rintro e w1⟨rfl,hd1⟩;have hb1:=τ hb0 (hd1.below W0.heap.size);have B1:=B0.ξ (hd1.below _);have hs1:w.heap.size<w1.heap.size:=B1.lt;obtain⟨wl,hwl,hbl,BL⟩:=EZ w1 212 [.slice (some (Δ pb po)) nd.pre.length c1,.int .u64 (nd.val.toNat:Int),.slice A2 nd.labels.length c2,.slice A3 nd.kids.length c3];have HB1:=Aa hb1;have TV:=Aa B1;obtain⟨y0,y1,y2,y3,y4,y5,y6⟩:=EI (B1.ξ hbl);obtain⟨z0,z1,z2,z3,Yt,Yu,dR,dS⟩:=CG BL;obtain⟨x0,x1,x2,x3,x4,x5,x6⟩:=EI B1;rw [hwl]at y0 y1 y2 y3 y4 y5 y6 z0 z1 z2 z3 Yt Yu dR dS;have hne:w.heap.size≠w1.heap.size:=O
 have hne':w1.heap.size≠w.heap.size:=O
 clear B0 hb0 hd1 hb1 B1 BL hbl hwl
 go_wp2_with fail
 all_goals(refine(VD.out _ (HB1.out.alloc HB1.out.size _) _ _ (by split<;>first| rfl| omega)).mono ?_)
 all_goals(rintro e w2⟨rfl,G2,hj2,hm2⟩)
 all_goals(have Vx:=Aa ((AP.of_below (F:=G) (HB1.out.alloc HB1.out.size _)).trans hm2))
 all_goals(have B2:=(TV.out.ξ ((Below.refl _ _).alloc (Ad _) _)).touch hm2.touch (λhg=>Ω (qE.out _ hg)))
 all_goals(have hpre:=HN.out.moved Vx.out)
 all_goals(obtain⟨b',o',e',hpb,hck⟩:=Hf hpre k hs)
 all_goals(injection e' with e';injection e' with e1 e2;subst e1 e2)
 all_goals(clear y0 y1 y2 y3 y4 y5 y6 z0 z1 z2 z3 Yt Yu dR dS x0 x1 x2 x3 x4 x5 x6 VD hm2 hne hne')
 all_goals(have hln:(nd.pre.take k).length=k:=by simp;omega)
 all_goals(have htk:Ja w2 G2 (some (Δ pb po)) k ((nd.pre.take k).map bv):=by have:=hpre.take k O;rwa [<-VT]at this)
 all_goals(have hs2:w.heap.size<w2.heap.size:=B2.lt)
 all_goals(have hne:w.heap.size≠w2.heap.size:=O)
 all_goals(have hne':w2.heap.size≠w.heap.size:=O)
 all_goals(obtain⟨x0,x1,x2,x3,x4,x5,x6⟩:=EI B2)
 all_goals(obtain⟨wt,hwt⟩:∃wt,wt=w2.alloc (.cells #[.slice (some (Δ pb po)) k k,.int .u64 0,.slice none 0 0,.slice none 0 0] 212):=⟨_,rfl⟩)
 all_goals(have BT:CS wt w2.heap.size 212 [.slice (some (Δ pb po)) k k,.int .u64 0,.slice none 0 0,.slice none 0 0]:=hwt▸heap_alloc_new _ _)
 all_goals(have hbt:η w2 wt:=hwt▸(Below.refl _ _).alloc (Ad _) _)
 all_goals(have B2t:=B2.ξ hbt)
 all_goals(obtain⟨y0,y1,y2,y3,y4,y5,y6⟩:=EI B2t)
 all_goals(obtain⟨z0,z1,z2,z3,Yt,Yu,dR,dS⟩:=CG BT)
 all_goals(have qQ:=(hbt.cell (p:=Δ pb (po+k)) hpb).trans hck)
 all_goals(rw [hwt]at y0 y1 y2 y3 y4 y5 y6 z0 z1 z2 z3 Yt Yu dR dS qQ)
 all_goals(have HWi:=Aa (λ(W:World)(hW:η w2 W)=>Aao (some (Δ pb po)) none none k k 0 0 0 0 ⟨nd.pre.take k,0,[],[]⟩ (nd.pre.getD k 0) kid W O O O (by show Rd W _ _ _;exact(htk.below hW).1) Rd.nil Rd.nil jX.out))
 all_goals(unfold OW at HWi)
 all_goals(have HBv:=Aa (hwt▸hbt))
 all_goals(have HBT:=Aa (hwt▸BT))
 all_goals(have HJ2:=Aa hj2)
 all_goals(generalize nd.pre.getD k 0=lab at*)
 all_goals(generalize nd.pre.take k=prk at*)
 all_goals(clear hj2 B2 B2t BT hbt hwt hln htk hpre hck)
 all_goals(have hx1:(k:Int)<(nd.pre.length:Int):=O)
 all_goals(have hx2:decide ((k:Int)<(nd.pre.length:Int))=true:=decide_eq_true hx1)
 all_goals(go_wp2_with fail)
 all_goals(go_region_with(go_at_call 161;go_loud(refine(HWi.out _ (HBv.out.trans ((Dr.drew _).below _))).mono ?_;rintro e w3⟨rfl,hb3⟩;have Gn:=(HBv.out.trans ((Dr.drew _).below _)).trans (hb3.mono (HBv.out.trans ((Dr.drew _).below _)).size);have B3:=HBT.out.ξ (((Dr.drew _).below _).trans hb3);obtain⟨r0,r1,r2,r3,rf0,rf1,rf2,rf3⟩:=CG B3)))
 all_goals(obtain⟨W9,VW, -,au, -⟩:=Ac6 B3 Gn (Ad _) (.slice none 0 0) (.int .u64 0) (.slice none 0 0) (.slice none 0 0))
 all_goals(have HF:Hid (∀W,(W=(((w3.setCell (Φ w2.heap.size) (.slice none 0 0)).setCell (Δ w2.heap.size 1) (.int .u64 0)).setCell (Δ w2.heap.size 2) (.slice none 0 0)).setCell (Δ w2.heap.size 3) (.slice none 0 0))->η w2 W):=Aa (λW e=>by rw [e,<-VW];exact au))
 all_goals(clear VW au W9)
 all_goals(go_wp2_with fail)
 all_goals(go_ret2)
 all_goals(have hfin:=HF.out _ rfl)
 all_goals(refine⟨by rw [HP.out];rfl,G2,?_,Vx.out.trans (AP.of_below hfin)⟩)
 all_goals(rw [HP.out])
 all_goals(exact HJ2.out.below hfin)
end
def Gof(F:Nat->Prop)(jb:Nat)(v:Value)(b:Nat):Prop:=F b\/b=jb\/v.ownBlock=some b
section
variable{w w':World}{base jb x d p L:Nat}{j:Jm}{F G:Nat->Prop}{v:Value}
def Ou.move'(h:Ou w base jb x d p L j F v){s':Ms}{F':Nat->Prop}(hs:QW w' d p L s' F')(m:AP F F' w w'):Ou w' base jb x d p L {j with s:=s'} F' v/\AP (Gof F jb v) (Gof F' jb v) w w':=by
 obtain⟨G',q1,q2,q3⟩:=h.move (G:=Gof F jb v) (λ_=>Iff.rfl) hs m;refine⟨q1,q3.touch,λb hb=>q3.own b ((q2 b).2 hb)⟩
def qR{α:Type}(l:List α)(k:Nat)(hk:k<l.length):l.drop k=l[k]::l.drop (k+1):=List.drop_eq_getElem_cons hk
def Qz(r:Ms×Int)(base jb x d p L:Nat)(j:Jm)(G:Nat->Prop)(w:World)(e:Ending)(w':World):Prop:=
 e= .returned (.int .i64 r.2)/\∃G',Gf w' base jb x d p L {j with s:=r.1} G'/\AP G G' w w'
def aN(h:Gf w base jb x d p L j G)(e:Int)(word:Int)(name:UInt64)(A:Option Addr)(c:Nat)(old:List Int)(hm:j.made.length<=1000)(q1:Ms)(ec:Int)
 (hq:(e≠0/\q1=j.s/\e=ec)\/(e=0/\ec≠0/\∃jw:Nat,word=((8*jw:Nat):Int)/\jw<8*L/\Y9 j.s 3 (FN j.s.s.ws jw name)=(q1,ec))):
 Calls prog 115 #[Az jb,.int .i64 e,.int .i64 word,.int .u64 (name.toNat:Int),.slice A old.length c] w (Qz (OT q1 j.made,ec) base jb x d p L j G w):=by
 obtain⟨F,v,hj,hG⟩:=h;have hGe:G=Gof F jb v:=funext λb=>propext (hG b)
 subst hGe;obtain⟨A0,c0,rfl,hc0, -⟩:=CU (ES hj.row (BU _));have y0:=hj.box.cell 0;have y1:=hj.box.cell 1;have u0:=hj.ix.box.cell 0;simp only [Am,AA]at y0 y1 u0;obtain⟨X,hX⟩:∃X,OT q1 j.made=X:=⟨_,rfl⟩;rw [hX];have HX:=Aa hX;have HJ:=Aa hj;clear hj hG hX;rcases hq with⟨he,hq1,hee⟩| ⟨rfl,hec,jw,hw,dU,hr⟩
 case' inl=>
  rw [hee]at he⊢;have t1:(ec==0)=false:=by rw [beq_eq_false_iff_ne];exact he
  have t2:(ec !=0)=true:=by rw [bne_iff_ne];exact he
  have HJ1:Hid (Ou w base jb x d p L {j with s:=q1} F (.slice A0 j.made.length c0)):=Aa (by rw [hq1];exact HJ.out);have zY:=Aa (AP.refl (Gof F jb (.slice A0 j.made.length c0)) w);clear he HJ hq1 hee;go_enter func115,ntmps115
  go_wp2_with fail
 case' inr=>
  have kU:=V5 HJ.out.ix.sys jw name dU;rw [<-hw,hr]at kU;have kU:=Aa kU;have t2:(ec !=0)=true:=by rw [bne_iff_ne];exact hec
  clear hw hr hec;go_enter func115,ntmps115
  go_wp2_with fail
  refine kU.out.mono ?_;rintro e w1⟨rfl,F1,hs1,hm1⟩;obtain⟨k1,k2⟩:=HJ.out.move' hs1 hm1;have HJ1:=Aa k1;have zY:=Aa k2;clear hs1 hm1 kU u0 HJ y0 y1 k2;have y1:=k1.box.cell 1;simp only [Am,AA]at y1;clear k1
  go_wp2_with fail
 all_goals
  clear y1
  go_loopw [35](λi wr=>∃(k:Nat)(F':Nat->Prop)(s':Ms),k<=j.made.length/\i= .int .i64 (k:Nat)/\OT s' (j.made.drop k)=X/\Ou wr base jb x d p L {j with s:=s'} F' (.slice A0 j.made.length c0)/\AP (Gof F jb (.slice A0 j.made.length c0)) (Gof F' jb (.slice A0 j.made.length c0)) w wr)(λi _=>j.made.length- (intOf i).toNat)
  case atStart=>exact⟨0,_,q1,BU _,rfl,HX.out,HJ1.out,zY.out⟩
  case round=>
   obtain⟨k,F',s',hk,rfl,hdr,hjr,hmv⟩:=hrel;have HMv:=Aa hmv;have mY:=Aa hdr;have yl:=Aa hjr;clear hmv hdr hjr HJ1 zY;by_cases hlt:k<j.made.length
   ·have y0:=yl.out.box.cell 0;have u1:=yl.out.ix.box.cell 1;simp only [Am,AA]at y0 u1;obtain⟨rb,ro,rfl,hrb,hcs⟩:=(CP yl.out.row).2.2 O;have hck:=hcs k hlt;rw [BZ,Af hlt]at hck;replace hck:_=some (Value.int .i64 j.made[k]):=hck;have hin: -9223372036854775808<=j.made[k]/\j.made[k]<=9223372036854775807:=yl.out.mb _ (BI _);have cu:Hid (OT (Ji s' j.made[k]).1 (j.made.drop (k+1))=X):=Aa (by rw [<-mY.out,qR _ _ hlt];rfl);have HDp:=Aa (Uu (q:=s') yl.out.ix.sys j.made[k] hin);generalize j.made[k]=o at*;clear hcs hin;have hx1:(k:Int)<(j.made.length:Int):=O
    have hx2:decide ((k:Int)<(j.made.length:Int))=true:=decide_eq_true hx1;have hwk:IntKind.i64.wrap ((k:Int)+1)=(k:Int)+1:=wrap64 _ O O
    go_wp2_with fail
    refine HDp.out.mono ?_;rintro e9 w9⟨rfl,F9,hs9,hm9⟩;obtain⟨k1,k2⟩:=yl.out.move' hs9 hm9;have HQ:=Aa k1;have HM9:=Aa (HMv.out.trans k2);clear k1 k2 hs9 hm9 HDp y0 u1 hck yl HMv
    go_wp2_with fail
    go_roundw
    case rel=>exact⟨k+1,F9,(Ji s' o).1,O,by go_num,cu.out,HQ.out,HM9.out⟩
    case measure=>simp [intOf];omega
   ·have hkn:k=j.made.length:=O
    subst hkn;have HS:Hid (s'=X):=Aa (by have:=mY.out;rw [Ae6]at this;exact this)
    go_wp2_with fail
    go_ret;refine⟨rfl,Gof F' jb _,?_,HMv.out⟩;rw [<-HS.out];exact⟨F',_,yl.out,λ_=>Iff.rfl⟩
def qU(h:Gf w base jb x d p L j G)(word:Int)(jw:Nat)(hw:word=((8*jw:Nat):Int))(dU:jw<8*L)(name:UInt64)(A:Option Addr)(c:Nat)(old:List Int)(hO:Ja w G A old.length (old.map zv))(hob:∀o∈old, -9223372036854775808<=o/\o<=9223372036854775807)(hol:old.length<=1000)(hm:j.made.length<=1000):
 Calls prog 115 #[Az jb,.int .i64 0,.int .i64 word,.int .u64 (name.toNat:Int),.slice A old.length c] w (Qz (Fe j 0 word name old) base jb x d p L j G w):=by
 obtain⟨⟨q1,ec⟩,hr⟩:∃R,Y9 j.s 3 (FN j.s.s.ws jw name)=R:=⟨_,rfl⟩;have hfe:Fe j 0 word name old=if ec=0 then Md q1 old 0 else(OT q1 j.made,ec):=by unfold Fe;rw [if_neg Θ,hw,show((8*jw:Nat):Int).toNat/8=jw by omega,hr]
 by_cases hec:ec=0
 case neg=>
  rw [hfe,if_neg hec];exact aN h 0 word name A c old hm q1 ec (.inr ⟨rfl,hec,jw,hw,dU,hr⟩)
 subst hec;rw [if_pos rfl]at hfe;rw [hfe];clear hfe hm;obtain⟨F,v,hj,hG⟩:=h;have hGe:G=Gof F jb v:=funext λb=>propext (hG b)
 subst hGe;have kU:=V5 hj.ix.sys jw name dU;rw [<-hw,hr]at kU;have kU:=Aa kU;have HJ:=Aa hj;have HO:=Aa hO;have HOb:=Aa hob;have y0:=hj.box.cell 0;have u0:=hj.ix.box.cell 0;simp only [Am]at y0 u0;clear hj hG hO hob hw hr;go_enter func115,ntmps115
 go_wp2_with fail
 refine kU.out.mono ?_;rintro e w1⟨rfl,F1,hs1,hm1⟩;obtain⟨k1,k2⟩:=HJ.out.move' hs1 hm1;have HJ1:=Aa k1;have zY:=Aa k2;clear k1 k2 hs1 hm1 kU y0 u0
 go_wp2_with fail
 go_loopw [1,52](λe1 i wr=>∃(k:Nat)(F':Nat->Prop)(s':Ms)(ec:Int),k<=old.length/\e1= .int .i64 ec/\i= .int .i64 (k:Nat)/\Md s' (old.drop k) ec=Md q1 old 0/\Ou wr base jb x d p L {j with s:=s'} F' v/\AP (Gof F jb v) (Gof F' jb v) w wr)(λ_ i _=>old.length- (intOf i).toNat)
 case atStart=>exact⟨0,F1,q1,0,BU _,rfl,rfl,rfl,HJ1.out,zY.out⟩
 case round=>
  obtain⟨k,F',s',ec,hk,rfl,rfl,hdr,hjr,hmv⟩:=hrel;have HMv:=Aa hmv;have mY:=Aa hdr;have yl:=Aa hjr;clear hmv hdr hjr HJ1 zY;by_cases hlt:k<old.length
  ·have y0:=yl.out.box.cell 0;have u1:=yl.out.ix.box.cell 1;simp only [Am,AA]at y0 u1;obtain⟨rb,ro,rfl,hrb,hcs⟩:=(HO.out.moved HMv.out).1.2 O;have hck:=hcs k hlt;rw [BZ,Af hlt]at hck;replace hck:_=some (Value.int .i64 old[k]):=hck;have hin: -9223372036854775808<=old[k]/\old[k]<=9223372036854775807:=HOb.out _ (BI _);have cu:Hid (Md (Ji s' old[k]).1 (old.drop (k+1)) (if ec=0 then(Ji s' old[k]).2 else ec)=Md q1 old 0):=Aa (by rw [<-mY.out,qR _ _ hlt];rfl);have HDp:=Aa (Uu (q:=s') yl.out.ix.sys old[k] hin);generalize old[k]=o at*;obtain⟨de,hde⟩:∃de,de=(Ji s' o).2:=⟨_,rfl⟩;rw [<-hde]at cu HDp;clear hcs hin hde;have hx1:(k:Int)<(old.length:Int):=O
   have hx2:decide ((k:Int)<(old.length:Int))=true:=decide_eq_true hx1;have hwk:IntKind.i64.wrap ((k:Int)+1)=(k:Int)+1:=wrap64 _ O O
   go_wp2_with fail
   refine HDp.out.mono ?_;rintro e9 w9⟨rfl,F9,hs9,hm9⟩;obtain⟨k1,k2⟩:=yl.out.move' hs9 hm9;have HQ:=Aa k1;have HM9:=Aa (HMv.out.trans k2);clear k1 k2 hs9 hm9 HDp y0 u1 hck yl HMv;by_cases hec:ec=0
   ·subst hec;rw [if_pos rfl]at cu
    go_wp2_with fail
    go_roundw
    case rel=>exact⟨k+1,F9,(Ji s' o).1,de,O,rfl,by go_num,cu.out,HQ.out,HM9.out⟩
    case measure=>simp [intOf];omega
   ·rw [if_neg hec]at cu;have t5:(ec==0)=false:=by rw [beq_eq_false_iff_ne];exact hec
    go_wp2_with fail
    go_roundw
    case rel=>exact⟨k+1,F9,(Ji s' o).1,ec,O,rfl,by go_num,cu.out,HQ.out,HM9.out⟩
    case measure=>simp [intOf];omega
  ·have hkn:k=old.length:=O
   subst hkn;have HS:Hid ((s',ec)=Md q1 old 0):=Aa (by have:=mY.out;rw [Ae6]at this;exact this)
   go_wp2_with fail
   go_ret;refine⟨by rw [<-HS.out];rfl,Gof F' jb _,?_,HMv.out⟩;rw [<-HS.out];exact⟨F',_,yl.out,λ_=>Iff.rfl⟩
def Q5(h:Gf w base jb x d p L j G)(e:Int)(word:Int)(jw:Nat)(hw:word=((8*jw:Nat):Int))(dU:jw<8*L)(name:UInt64)(A:Option Addr)(c:Nat)(old:List Int)(hO:Ja w G A old.length (old.map zv))(hob:∀o∈old, -9223372036854775808<=o/\o<=9223372036854775807)(hol:old.length<=1000)(hm:j.made.length<=1000):
 Calls prog 115 #[Az jb,.int .i64 e,.int .i64 word,.int .u64 (name.toNat:Int),.slice A old.length c] w (Qz (Fe j e word name old) base jb x d p L j G w):=by
 by_cases he:e=0
 ·subst he;exact qU h word jw hw dU name A c old hO hob hol hm
 ·rw [show Fe j e word name old=(OT j.s j.made,e)by unfold Fe;rw [if_pos he]];exact aN h e word name A c old hm j.s e (.inl ⟨he,rfl,rfl⟩)
end
