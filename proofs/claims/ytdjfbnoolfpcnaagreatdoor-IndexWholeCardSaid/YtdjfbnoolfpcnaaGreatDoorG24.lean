import Derived.Test.YtdjfbnoolfpcnaaGreatDoorG23
namespace Go.Proofs.YtdjfbnoolfpcnaaGreatDoor
open Go.RowKit
section
variable{base jb x d p L:Nat}
set_option maxHeartbeats 16000000 in
set_option maxRecDepth 100000 in
theorem grow_yes{w:World}{j:Jm}{G:Nat→Prop}(h:JobAt w base jb x d p L j G)(nd:Nd)(A1 A2 A3:Option Addr)(c1 c2 c3:Nat)(off word:Int)(lb:UInt8)(rest:List UInt8)(A:Option Addr)(c:Nat)(value:UInt64)
 (hN:NdR w G (.slice A1 nd.pre.length c1) (.int .u64 (nd.val.toNat:Int)) (.slice A2 nd.labels.length c2) (.slice A3 nd.kids.length c3) nd)(b1:nd.pre.length≤100)(b2:nd.labels.length≤100)(b3:nd.kids.length≤100)
 (hR:RdO w G A rest.length (rest.map bv))(hrc:rest.length≤c)(hrl:rest.length≤100)(hm:j.made.length≤500)(hs:common nd.pre rest<nd.pre.length)(hlt:common nd.pre rest<rest.length)(her:(buildM j {nd with pre:=nd.pre.drop (common nd.pre rest+1)}).2.2=0)(hok:withOkP ⟨nd.pre.take (common nd.pre rest),0,[],[]⟩ (nd.pre.getD (common nd.pre rest) 0) (buildM j {nd with pre:=nd.pre.drop (common nd.pre rest+1)}).2.1=true):
 Calls Tryz.prog 29 #[.pointer (some ⟨jb,0,none⟩),.agg #[.slice A1 nd.pre.length c1,.int .u64 (nd.val.toNat:Int),.slice A2 nd.labels.length c2,.slice A3 nd.kids.length c3,.int .i64 off,.int .u8 (lb.toNat:Int),.int .i64 word],.slice A rest.length c,.int .u64 (value.toNat:Int)] w (JobPost (growM j nd rest value) base jb x d p L G w):=by
 have hb0:Below w.heap.size w (w.alloc (.cells #[.slice A1 nd.pre.length c1,.int .u64 (nd.val.toNat:Int),.slice A2 nd.labels.length c2,.slice A3 nd.kids.length c3,.int .i64 off,.int .u8 (lb.toNat:Int),.int .i64 word] 74)):=(Below.refl _ _).alloc (Nat.le_refl _) _;have B0:Blk (w.alloc (.cells #[.slice A1 nd.pre.length c1,.int .u64 (nd.val.toNat:Int),.slice A2 nd.labels.length c2,.slice A3 nd.kids.length c3,.int .i64 off,.int .u8 (lb.toNat:Int),.int .i64 word] 74)) w.heap.size 74 [.slice A1 nd.pre.length c1,.int .u64 (nd.val.toNat:Int),.slice A2 nd.labels.length c2,.slice A3 nd.kids.length c3,.int .i64 off,.int .u8 (lb.toNat:Int),.int .i64 word]:=heap_alloc_new _ _;obtain⟨W0,hW0⟩:∃W0,W0=w.alloc (.cells #[.slice A1 nd.pre.length c1,.int .u64 (nd.val.toNat:Int),.slice A2 nd.labels.length c2,.slice A3 nd.kids.length c3,.int .i64 off,.int .u8 (lb.toNat:Int),.int .i64 word] 74):=⟨_,rfl⟩;rw [←hW0]at hb0 B0;have HW:=Lib.hid hW0;obtain⟨q1,q2,q3,hpc⟩:=hN.reads;obtain⟨pb,po,rfl,hpw, -⟩:=rdo_cell q1 _ hs;obtain⟨k,hk⟩:∃k,k=common nd.pre rest:=⟨_,rfl⟩;have hkr:k≤rest.length:=by rw [hk];exact common_le_right _ _
 have HC:=Lib.hid (fun(W:World)(hW:Below w.heap.size w W)=>common_any (some ⟨pb,po,none⟩) A nd.pre.length rest.length c1 c nd.pre rest W (by omega) (by omega) (q1.below hW).1 (hR.below hW).1);rw [←hk]at hs HC;have HK:Hid (k=common nd.pre rest):=Lib.hid hk;obtain⟨⟨j1,kid,er⟩,hr⟩:∃r,buildM j {nd with pre:=nd.pre.drop (k+1)}=r:=⟨_,rfl⟩;have hmd:=buildM_made j {nd with pre:=nd.pre.drop (k+1)};rw [hr]at hmd;simp only at hmd;have HBr:=Lib.hid hr;have HLo:=Lib.hid (fun(W:World)(hW:Below w.heap.size w W)(P:Option Addr)(C:Nat)(hP:P=(if c1=k+1 then some (⟨pb,po,none⟩:Addr)else some ⟨pb,po+(k+1),none⟩))=>build_job (h.below hW) {nd with pre:=nd.pre.drop (k+1)} P A2 A3 C c2 c3 (by simp;omega) (by simp only;omega) (by simp only;omega)
  (((q1.below hW).rest rfl (by omega) hpc hP).1) (q2.below hW).1 (q3.below hW).1 (by omega))
 rw [hr]at HLo;simp only [List.length_drop]at HLo;have HN:=Lib.hid q1;have HR:=Lib.hid hR;have HGl:=Lib.hid h.lt;have HpC:=Lib.hid hpc;rw [←hk]at hlt her hok;rw [hr]at her hok;simp only at her hok;subst her;obtain⟨⟨j2,kid2,er2⟩,hr2⟩:∃r,leafM (rest.length+1) j1 (rest.drop (k+1)) value=r:=⟨_,rfl⟩;have hmd2:=leafM_made (rest.length+1) j1 (rest.drop (k+1)) value;rw [hr2]at hmd2;simp only at hmd2;have HP:Hid (growM j nd rest value=aboveM j2 (withN ⟨nd.pre.take k,0,[],[]⟩ (nd.pre.getD k 0) kid) (rest.getD k 0) kid2 er2):=Lib.hid (by rw [growM,←hk,if_neg (by omega),hr];simp only;rw [if_neg (by omega),if_neg (by simp),if_pos hok,hr2];rfl);have HOk:=Lib.hid hok;have HR2:=Lib.hid hr2;obtain⟨rb,ro,rfl,hrw, -⟩:=rdo_cell hR _ hlt;clear hok hr2;clear h hN hR hr hW0 q1 q2 q3;have t1:((k:Int)==(nd.pre.length:Int))=false:=by rw [beq_eq_false_iff_ne];omega
 have hw1:IntKind.i64.wrap ((k:Int)+1)=(k:Int)+1:=wrap64 _ (by omega) (by omega);have t2:((k:Int)==(rest.length:Int))=false:=by rw [beq_eq_false_iff_ne];omega
 obtain⟨y0,y1,y2,y3,y4,y5,y6⟩:=cell7 B0;clear hk;go_enter Tryz.func29,Tryz.ntmps29
 go_wp2_with fail
 rw [←HW.out];clear HW;refine(HC.out W0 hb0).mono ?_;rintro e w1⟨rfl,hd1⟩;have hb1:=hb0.trans ((hd1.below W0.heap.size).mono hb0.size);have B1:=B0.below (hd1.below _) B0.lt;have hs1:w.heap.size<w1.heap.size:=B1.lt;obtain⟨wl,hwl⟩:∃wl,wl=w1.alloc (.cells #[.slice (some ⟨pb,po,none⟩) nd.pre.length c1,.int .u64 (nd.val.toNat:Int),.slice A2 nd.labels.length c2,.slice A3 nd.kids.length c3] 72):=⟨_,rfl⟩;have BL:Blk wl w1.heap.size 72 [.slice (some ⟨pb,po,none⟩) nd.pre.length c1,.int .u64 (nd.val.toNat:Int),.slice A2 nd.labels.length c2,.slice A3 nd.kids.length c3]:=hwl▸heap_alloc_new _ _;have hbl:Below w1.heap.size w1 wl:=hwl▸(Below.refl _ _).alloc (Nat.le_refl _) _;have HB1:=Lib.hid hb1;have HBk:=Lib.hid B1;obtain⟨y0,y1,y2,y3,y4,y5,y6⟩:=cell7 (B1.below hbl B1.lt);obtain⟨z0,z1,z2,z3,zf0,zf1,zf2,zf3⟩:=blk4' BL;obtain⟨x0,x1,x2,x3,x4,x5,x6⟩:=cell7 B1;rw [hwl]at y0 y1 y2 y3 y4 y5 y6 z0 z1 z2 z3 zf0 zf1 zf2 zf3;have hne:w.heap.size≠w1.heap.size:=by omega
 have hne':w1.heap.size≠w.heap.size:=by omega
 clear B0 hb0 hd1 hb1 B1 BL hbl hwl
 go_wp2_with fail
 all_goals(refine(HLo.out _ (HB1.out.alloc HB1.out.size _) _ _ (by split<;>first| rfl| omega)).mono ?_)
 all_goals(rintro e w2⟨rfl,G2,hj2,hm2⟩)
 all_goals(have HM2:=Lib.hid ((Moved.of_below (F:=G) (HB1.out.alloc HB1.out.size _)).trans hm2))
 all_goals(have B2:=(HBk.out.below ((Below.refl _ _).alloc (Nat.le_refl _) _) HBk.out.lt).touch hm2.touch (fun hg=>by have:=HGl.out _ hg;omega))
 all_goals(have hpre:=HN.out.moved HM2.out)
 all_goals(obtain⟨b',o',e',hpb,hck⟩:=rdo_cell hpre k hs)
 all_goals(injection e' with e';injection e' with e1 e2;subst e1 e2)
 all_goals(clear y0 y1 y2 y3 y4 y5 y6 z0 z1 z2 z3 zf0 zf1 zf2 zf3 x0 x1 x2 x3 x4 x5 x6 HLo hm2 hne hne')
 all_goals(have hln:(nd.pre.take k).length=k:=by simp;omega)
 all_goals(have htk:RdO w2 G2 (some ⟨pb,po,none⟩) k ((nd.pre.take k).map bv):=by have:=hpre.take k (by omega);rwa [←List.map_take]at this)
 all_goals(have hs2:w.heap.size<w2.heap.size:=B2.lt)
 all_goals(have hne:w.heap.size≠w2.heap.size:=by omega)
 all_goals(have hne':w2.heap.size≠w.heap.size:=by omega)
 all_goals(obtain⟨x0,x1,x2,x3,x4,x5,x6⟩:=cell7 B2)
 all_goals(obtain⟨wt,hwt⟩:∃wt,wt=w2.alloc (.cells #[.slice (some ⟨pb,po,none⟩) k k,.int .u64 0,.slice none 0 0,.slice none 0 0] 72):=⟨_,rfl⟩)
 all_goals(have BT:Blk wt w2.heap.size 72 [.slice (some ⟨pb,po,none⟩) k k,.int .u64 0,.slice none 0 0,.slice none 0 0]:=hwt▸heap_alloc_new _ _)
 all_goals(have hbt:Below w2.heap.size w2 wt:=hwt▸(Below.refl _ _).alloc (Nat.le_refl _) _)
 all_goals(have B2t:=B2.below hbt B2.lt)
 all_goals(obtain⟨y0,y1,y2,y3,y4,y5,y6⟩:=cell7 B2t)
 all_goals(obtain⟨z0,z1,z2,z3,zf0,zf1,zf2,zf3⟩:=blk4' BT)
 all_goals(have hckt:=(hbt.cell (p:=⟨pb,po+k,none⟩) hpb).trans hck)
 all_goals(rw [hwt]at y0 y1 y2 y3 y4 y5 y6 z0 z1 z2 z3 zf0 zf1 zf2 zf3 hckt)
 all_goals(have HWi:=Lib.hid (fun(W:World)(hW:Below w2.heap.size w2 W)=>with_yes (some ⟨pb,po,none⟩) none none k k 0 0 0 0 ⟨nd.pre.take k,0,[],[]⟩ (nd.pre.getD k 0) kid W (by omega) (by omega) (by omega) (by show Rd W _ _ _;exact(htk.below hW).1) Rd.nil Rd.nil HOk.out))
 all_goals(have hnl:(withN ⟨nd.pre.take k,0,[],[]⟩ (nd.pre.getD k 0) kid).pre.length≤100∧(withN ⟨nd.pre.take k,0,[],[]⟩ (nd.pre.getD k 0) kid).labels.length≤100∧(withN ⟨nd.pre.take k,0,[],[]⟩ (nd.pre.getD k 0) kid).kids.length≤100:=by unfold withN ins;simp;omega)
 all_goals(generalize withN ⟨nd.pre.take k,0,[],[]⟩ (nd.pre.getD k 0) kid=nd' at*)
 all_goals(have HBv:=Lib.hid (hwt▸hbt))
 all_goals(have HBT:=Lib.hid (hwt▸BT))
 all_goals(have HJ2:=Lib.hid hj2)
 all_goals(have HG2:=Lib.hid hj2.lt)
 all_goals(generalize nd.pre.getD k 0=lab at*)
 all_goals(generalize nd.pre.take k=prk at*)
 all_goals(clear hj2 B2 B2t BT hbt hwt hln htk hpre hck)
 all_goals(have hx1:(k:Int)<(nd.pre.length:Int):=by omega)
 all_goals(have hx2:decide ((k:Int)<(nd.pre.length:Int))=true:=decide_eq_true hx1)
 all_goals(go_wp2_with fail)
 all_goals(go_region_with(go_at_call 54;go_loud(refine(HWi.out _ (HBv.out.trans ((Dr.drew _).below _))).mono ?_;rintro e w3⟨⟨N1,m1,N2,m2,N3,m3,rfl,o1,o2,o3⟩,hb3⟩;have hb23:=(HBv.out.trans ((Dr.drew _).below _)).trans (hb3.mono (HBv.out.trans ((Dr.drew _).below _)).size);have B3:=HBT.out.below (((Dr.drew _).below _).trans hb3) HBT.out.lt;have hs3:=HBT.out.lt;have O1:=own_mono (base':=w2.heap.size+1) o1 (by show w2.heap.size+1≤(World.drew _).heap.size+2;exact Nat.le_trans hs3 (Nat.le_add_right _ 2));have O2:=own_mono (base':=w2.heap.size+1) o2 (by show w2.heap.size+1≤(World.drew _).heap.size+2;exact Nat.le_trans hs3 (Nat.le_add_right _ 2));have O3:=own_mono (base':=w2.heap.size+1) o3 (by show w2.heap.size+1≤(World.drew _).heap.size+2;exact Nat.le_trans hs3 (Nat.le_add_right _ 2));clear o1 o2 o3;obtain⟨r0,r1,r2,r3,rf0,rf1,rf2,rf3⟩:=blk4' B3)))
 all_goals(obtain⟨W9,hW9,B9,hb9,k9⟩:=set4 B3 hb23 (Nat.le_refl _) (.slice N1 nd'.pre.length m1) (.int .u64 (nd'.val.toNat:Int)) (.slice N2 nd'.labels.length m2) (.slice N3 nd'.kids.length m3))
 all_goals(have HO:=Lib.hid (And.intro (own_past O1 k9 (Nat.lt_succ_self _)) (And.intro (own_past O2 k9 (Nat.lt_succ_self _)) (own_past O3 k9 (Nat.lt_succ_self _)))))
 all_goals(have HB9:=Lib.hid hb9)
 all_goals(have HK9:=Lib.hid B9)
 all_goals(have HW9:=Lib.hid hW9)
 all_goals(clear hW9 hb9 k9 B9 O1 O2 O3 B3 hb23 hb3 HWi y0 y1 y2 y3 y4 y5 y6 z0 z1 z2 z3 zf0 zf1 zf2 zf3 x0 x1 x2 x3 x4 x5 x6 hckt)
 all_goals(go_wp2_with fail)
 all_goals(rw [←HW9.out])
 all_goals(have HL:=fun(P:Option Addr)(C:Nat)(hC:C=c- (k+1))(hP:P=(if c=k+1 then some (⟨rb,ro,none⟩:Addr)else some ⟨rb,ro+(k+1),none⟩))=>leaf_job (rest.length+1) W9 j1 G2 (rest.drop (k+1)) value P C (HJ2.out.below HB9.out) (((HR.out.moved HM2.out).below HB9.out).rest rfl (by omega) hrc hP) (by rw [List.length_drop];omega) (by rw [List.length_drop];omega) (by rw [List.length_drop];omega) (by omega))
 all_goals(rw [HR2.out,List.length_drop]at HL)
 all_goals(replace HL:=Lib.hid HL)
 all_goals(refine(HL.out _ _ (by omega) (by split<;>first| rfl| omega)).mono ?_)
 all_goals(rintro e w5⟨rfl,G5,hj5,hm5⟩)
 all_goals(have HM5:=Lib.hid (HM2.out.trans ((Moved.of_below HB9.out).trans hm5)))
 all_goals(have B5:=HK9.out.touch hm5.touch (fun hg=>by have:=HG2.out _ hg;omega))
 all_goals(have s1:=(RdO.of_own HO.out.1 (fun b hb _ hg=>by have:=HG2.out b hg;omega)).moved hm5)
 all_goals(have s2:=(RdO.of_own HO.out.2.1 (fun b hb _ hg=>by have:=HG2.out b hg;omega)).moved hm5)
 all_goals(have s3:=(RdO.of_own HO.out.2.2 (fun b hb _ hg=>by have:=HG2.out b hg;omega)).moved hm5)
 all_goals(obtain⟨b',o',e',hrb,hck⟩:=rdo_cell (HR.out.moved HM5.out) k hlt)
 all_goals(injection e' with e';injection e' with e1 e2;subst e1 e2)
 all_goals(have hab:=fun(W:World)(hW:Below w5.heap.size w5 W)=>above_job (hj5.below hW) nd' N1 N2 N3 m1 m2 m3 (rest.getD k 0) kid2 er2 hnl.1 hnl.2.1 hnl.2.2 (s1.below hW).1 (s2.below hW).1 (s3.below hW).1 (by show j2.made.length≤1000;omega))
 all_goals(replace hab:=Lib.hid hab)
 all_goals(generalize rest.getD k 0=lab2 at*)
 all_goals(clear hj5 hm5 s1 s2 s3 HL r0 r1 r2 r3 rf0 rf1 rf2 rf3)
 all_goals(obtain⟨y0,y1,y2,y3, -⟩:=blk4' B5)
 all_goals(clear B5)
 all_goals(have hx3:(k:Int)<(rest.length:Int):=by omega)
 all_goals(have hx4:decide ((k:Int)<(rest.length:Int))=true:=decide_eq_true hx3)
 all_goals(go_wp2_with fail)
 all_goals(go_region_with(go_at_call 52;go_loud(refine(hab.out _ ((Dr.drew w5).below _)).mono ?_;rintro e w6⟨rfl,G6,q1,q2⟩)))
 all_goals(have HF:=Lib.hid (And.intro q1 (HM5.out.trans ((Moved.of_below ((Dr.drew w5).below _)).trans q2))))
 all_goals(clear q1 q2)
 all_goals(go_wp2_with fail)
 all_goals(refine bodyPost_ret (v:= .tuple #[.int .u64 ((aboveM j2 nd' lab2 kid2 er2).2.1.toNat:Int),.int .i64 (aboveM j2 nd' lab2 kid2 er2).2.2]) (by simp [results,Tryz.results29,go_sem]) rfl ?_)
 all_goals(rw [HP.out])
 all_goals(exact⟨rfl,G6,HF.out.1,HF.out.2⟩)
end
end Go.Proofs.YtdjfbnoolfpcnaaGreatDoor
