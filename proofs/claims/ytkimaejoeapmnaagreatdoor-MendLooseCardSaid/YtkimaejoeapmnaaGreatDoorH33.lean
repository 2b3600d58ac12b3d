import Derived.Deep.RegionHeldLaw
import Derived.Test.YtkimaejoeapmnaaGreatDoorH15
import Derived.Test.YtkimaejoeapmnaaGreatDoorH32
set_option linter.defProp false
set_option maxHeartbeats 32000000
set_option maxRecDepth 100000
open Go.Lib renaming hid->Aa
open List renaming length_append->AQ,mem_map->Ba,getElem?_cons_zero->Am,getElem?_cons_succ->AA,length_zip->Rf,drop_eq_getElem_cons->Eg,getElem_zip->Afa,foldlM_cons->Afb,getElem?_map->BZ,getElem?_eq_getElem->Af,length->LU,drop_of_length_le->Rk,nodup_nil->UT,getElem?_append_right->DZ,map_map->Gp,length_cons->BB,nodup_cons->Hz,mem_cons_self->Bh,mem_cons_of_mem->BH,getD_eq_getElem?_getD->Bi,getElem?_replicate->IB,mem_cons->CJ
open Nat renaming le_of_lt->IW,lt_of_le_of_lt->Hw,le_trans->Bc,le_refl->Ad,mul_comm->GK,not_lt_zero->Ajb
open UInt64 renaming toNat_inj->Ec,ofNat->Aw
open Go.Value renaming int->Au
namespace Go.Proofs.YtkimaejoeapmnaaGreatDoor
open Go.RowKit
open Go.Proofs.Tryz
section
variable{len:Mode}{w w':World}{base sb mb x d p L:Nat}{s:St}{F:Nat->Prop}
def Adp(h:Jd len w x d p L s F)(_:∀b,F b->b<base){items:List (List UInt8×UInt64)}{met:List Int}{v:Value}(hs:EE w base sb mb x items met v)(f:Nat)(name:UInt64)(ahead:List UInt8)(A:Option Addr)(c:Nat)(hA:LH w A ahead)(hac:ahead.length<=c)(hal:ahead.length<=33)(nd:Nd)(hr:Fb s name=some nd)(hm:Bj name∉met)(QZ:32<(ahead++nd.pre).length):
 Calls prog 122 #[Az sb,.int .u64 (name.toNat:Int),.slice A ahead.length c] w (ND (Dq s (f+1) name ahead (items,met)) base sb mb x w):=by
 have HP:Hid (Dq s (f+1) name ahead (items,met)=none):=Aa (by rw [Dq,hr];simp only;rw [if_pos (.inr QZ)]);have ht:decide ((32:Int)<((ahead.length+nd.pre.length:Nat):Int))=true:=decide_eq_true (by rw [AQ]at QZ;omega);have HR:=Aa (JX h name);have HRn:=Aa hr;have HS:=Aa hs;have HX:=Aa h;have hwr:IntKind.i64.wrap (name.toNat:Int)=Bj name:=rfl;have hbl:=(FO hr).1;have hbk:=(FO hr).2.1;have hbb:=(FO hr).2.2;have yF:=Aa (RS h hr);have HMt:=Aa hm;have y0:=hs.box.p1;have hbs:base<=w.heap.size:=IW (Hw hs.bs hs.box.lt);have Tn:Hid (∀q∈met.map (λo=>(o,(1:Int))),q.1≠Bj name):=Aa (λq hq=>by
  obtain⟨o,ho,rfl⟩:=Ba.1 hq;exact λe=>hm (e▸ho))
 have HA:=Aa hA;generalize Bj name=off at*;clear h hs hr hm hA;go_enter func122,ntmps122
 go_wp2_with fail
 refine HR.out.mono ?_;rintro e w1⟨hb1,hp1⟩;rw [HRn.out]at hp1;obtain⟨vn,rfl,hnd⟩:=hp1;obtain⟨A1,c1,A2,c2,A3,c3,rfl,o1,o2,o3⟩:=hnd;obtain⟨W2,hW2,Ha,BN⟩:=EZ w1 212 [.slice A1 nd.pre.length c1,.int .u64 (nd.val.toNat:Int),.slice A2 nd.labels.length c2,.slice A3 nd.kids.length c3];have hb2:η w W2:=τ hb1 Ha;have S2:=HS.out.below hb2;have k1:=Y8 Tryz.Ko underlying3 Tryz.YD W2 mb _ off S2.map Tn.out;have k2:=jV Tryz.Ko underlying3 W2 mb _ off 1 S2.map Tn.out;rw [show met.map (λo=>(o,(1:Int)))++[(off,1)]=(met++[off]).map (λo=>(o,(1:Int)))by simp]at k2;obtain⟨S3,UD,Gn⟩:=S2.note yF.out HMt.out;obtain⟨W3,hW3⟩:∃W3,W3=Ef W2 mb (Ik 0 ((met++[off]).map λo=>(o,1))).toArray ((met++[off]).map λo=>(o,(1:Int))).length:=⟨_,rfl⟩;rw [<-hW3]at k2 S3 UD Gn;have nH:=UD.box BN;have HA3:=(HA.out.keep (D5.of_below hb2)).keep UD;have HN3:Hid (XF W3 w.heap.size (.agg #[.slice A1 nd.pre.length c1,.int .u64 (nd.val.toNat:Int),.slice A2 nd.labels.length c2,.slice A3 nd.kids.length c3]) nd):=Aa (UD.nd ⟨_,_,_,_,_,_,rfl,own_below o1 Ha,own_below o2 Ha,own_below o3 Ha⟩);have hpre:Rd W3 A1 nd.pre.length (nd.pre.map bv):=(CP (UD.own (.inl rfl) (own_below o1 Ha))).2;clear hW3;have z0:=S2.box.cell 0;have z2:=S2.box.cell 2;simp only [Am,AA]at z0 z2;rw [hW2]at k1 k2 z0 z2;have HW2:=Aa hW2;clear y0 HR hW2
 go_wp2_with fail
 obtain⟨n0,n1,n2,n3, -⟩:=CG nH;have HB3:=Aa ((hb2.mono hbs).trans Gn);have OC:=Aa ((D5.of_below hb2).trans UD);have Ph:=Aa S3;have HR3:=Aa HA3;have kK:=Aa hpre;have UE:=Aa nH;clear k1 k2 z0 z2 hb1 Ha hb2 S2 UD Gn BN nH HA3 hpre o1 o2 o3 S3
 go_region_law(refine Jt rfl (.tmp 42) (.tmp 44) 22 rfl Tryz.Gq A ahead.length (ahead.map bv) (by simp [Act.eval]) (by exact HR3.out.1) (λa e=>by obtain⟨g,_,_,e',_⟩:=HR3.out.2.1 a e;exact⟨g,e'⟩) (λe=>by rw [HR3.out.2.2 e];rfl) A1 nd.pre.length c1 (nd.pre.map bv) (by simp [Act.eval]) (by exact kK.out) (Hm _) O U ?_;intro A4 c4 w4 hc4 hr4 hb4 PI)
 have GI:η W3 w4:=((Dr.drew W3).below _).trans hb4;have HR4:Hid (LH w4 A4 (ahead++nd.pre)):=Aa (HR3.out.cut hr4 GI PI);have S4:=Ph.out.below GI;have yG:=UE.out.ξ GI;have HN4:=Aa (HN3.out.below GI);have qx:=Aa (OC.out.trans (D5.of_below GI));have HB4:=Aa (HB3.out.trans (GI.mono (Bc hbs (by have:=HB3.out.size;exact this))));have k5:(Instr.lookup 172 (.map (some mb)) (.int .i64 off) false).run prog w4= .ok (.int .i64 1) w4:=Pz Tryz.Ko underlying3 w4 mb (met.map λo=>(o,(1:Int))) [] off 1 (by have:=S4.map;simpa using this) Tn.out;obtain⟨z0,z1,z2⟩:=S4.box.p3;obtain⟨n0,n1,n2,n3, -⟩:=CG yG;have ni:=Aa S4;have yH:=Aa yG;clear GI hb4 PI hr4 S4 yG Ph HR3 kK UE HN3 OC HB3 HA Tn HS HMt;have ht2:(32:Int)<(ahead.length:Int)+(nd.pre.length:Int):=by simp at ht;omega
 go_wp2_with fail
 go_ret;refine⟨HB4.out,qx.out,?_⟩;rw [HP.out];rfl
def Adq(h:Jd len w x d p L s F)(_:∀b,F b->b<base){items:List (List UInt8×UInt64)}{met:List Int}{v:Value}(hs:EE w base sb mb x items met v)(f:Nat)(name:UInt64)(ahead:List UInt8)(A:Option Addr)(c:Nat)(hA:LH w A ahead)(hac:ahead.length<=c)(_:ahead.length<=33)(nd:Nd)(hr:Fb s name=some nd)(hm:Bj name∉met)(QZ:¬32<(ahead++nd.pre).length)(hv:nd.val≠0)(hk:Jv (ahead++nd.pre)=false):
 Calls prog 122 #[Az sb,.int .u64 (name.toNat:Int),.slice A ahead.length c] w (ND (Dq s (f+1) name ahead (items,met)) base sb mb x w):=by
 have HP:Hid (Dq s (f+1) name ahead (items,met)=none):=Aa (by rw [Dq,hr];simp only;rw [if_neg (λe=>e.elim (λe=>hm (by simpa using e)) QZ),if_pos ⟨hv,hk⟩]);rw [AQ]at QZ;have ht2:¬(32:Int)<(ahead.length:Int)+(nd.pre.length:Int):=O
 have ht:decide ((32:Int)<((ahead.length+nd.pre.length:Nat):Int))=false:=decide_eq_false O;have HKo:=Aa hk;have tv:((nd.val.toNat:Int)!=0)=true:=by
  rw [bne_iff_ne];intro e;exact hv (Ec.1 (by simp;omega))
 clear hk hv;have HR:=Aa (JX h name);have HRn:=Aa hr;have HS:=Aa hs;have HX:=Aa h;have hwr:IntKind.i64.wrap (name.toNat:Int)=Bj name:=rfl;have hbl:=(FO hr).1;have hbk:=(FO hr).2.1;have hbb:=(FO hr).2.2;have yF:=Aa (RS h hr);have HMt:=Aa hm;have y0:=hs.box.p1;have hbs:base<=w.heap.size:=IW (Hw hs.bs hs.box.lt);have Tn:Hid (∀q∈met.map (λo=>(o,(1:Int))),q.1≠Bj name):=Aa (λq hq=>by
  obtain⟨o,ho,rfl⟩:=Ba.1 hq;exact λe=>hm (e▸ho))
 have HA:=Aa hA;generalize Bj name=off at*;clear h hs hr hm hA;go_enter func122,ntmps122
 go_wp2_with fail
 refine HR.out.mono ?_;rintro e w1⟨hb1,hp1⟩;rw [HRn.out]at hp1;obtain⟨vn,rfl,hnd⟩:=hp1;obtain⟨A1,c1,A2,c2,A3,c3,rfl,o1,o2,o3⟩:=hnd;obtain⟨W2,hW2,Ha,BN⟩:=EZ w1 212 [.slice A1 nd.pre.length c1,.int .u64 (nd.val.toNat:Int),.slice A2 nd.labels.length c2,.slice A3 nd.kids.length c3];have hb2:η w W2:=τ hb1 Ha;have S2:=HS.out.below hb2;have k1:=Y8 Tryz.Ko underlying3 Tryz.YD W2 mb _ off S2.map Tn.out;have k2:=jV Tryz.Ko underlying3 W2 mb _ off 1 S2.map Tn.out;rw [show met.map (λo=>(o,(1:Int)))++[(off,1)]=(met++[off]).map (λo=>(o,(1:Int)))by simp]at k2;obtain⟨S3,UD,Gn⟩:=S2.note yF.out HMt.out;obtain⟨W3,hW3⟩:∃W3,W3=Ef W2 mb (Ik 0 ((met++[off]).map λo=>(o,1))).toArray ((met++[off]).map λo=>(o,(1:Int))).length:=⟨_,rfl⟩;rw [<-hW3]at k2 S3 UD Gn;have nH:=UD.box BN;have HA3:=(HA.out.keep (D5.of_below hb2)).keep UD;have HN3:Hid (XF W3 w.heap.size (.agg #[.slice A1 nd.pre.length c1,.int .u64 (nd.val.toNat:Int),.slice A2 nd.labels.length c2,.slice A3 nd.kids.length c3]) nd):=Aa (UD.nd ⟨_,_,_,_,_,_,rfl,own_below o1 Ha,own_below o2 Ha,own_below o3 Ha⟩);have hpre:Rd W3 A1 nd.pre.length (nd.pre.map bv):=(CP (UD.own (.inl rfl) (own_below o1 Ha))).2;clear hW3;have z0:=S2.box.cell 0;have z2:=S2.box.cell 2;simp only [Am,AA]at z0 z2;rw [hW2]at k1 k2 z0 z2;have HW2:=Aa hW2;clear y0 HR hW2
 go_wp2_with fail
 obtain⟨n0,n1,n2,n3, -⟩:=CG nH;have HB3:=Aa ((hb2.mono hbs).trans Gn);have OC:=Aa ((D5.of_below hb2).trans UD);have Ph:=Aa S3;have HR3:=Aa HA3;have kK:=Aa hpre;have UE:=Aa nH;clear k1 k2 z0 z2 hb1 Ha hb2 S2 UD Gn BN nH HA3 hpre o1 o2 o3 S3
 go_region_law(refine Jt rfl (.tmp 42) (.tmp 44) 22 rfl Tryz.Gq A ahead.length (ahead.map bv) (by simp [Act.eval]) (by exact HR3.out.1) (λa e=>by obtain⟨g,_,_,e',_⟩:=HR3.out.2.1 a e;exact⟨g,e'⟩) (λe=>by rw [HR3.out.2.2 e];rfl) A1 nd.pre.length c1 (nd.pre.map bv) (by simp [Act.eval]) (by exact kK.out) (Hm _) O U ?_;intro A4 c4 w4 hc4 hr4 hb4 PI)
 have GI:η W3 w4:=((Dr.drew W3).below _).trans hb4;have HR4:Hid (LH w4 A4 (ahead++nd.pre)):=Aa (HR3.out.cut hr4 GI PI);have S4:=Ph.out.below GI;have yG:=UE.out.ξ GI;have HN4:=Aa (HN3.out.below GI);have qx:=Aa (OC.out.trans (D5.of_below GI));have HB4:=Aa (HB3.out.trans (GI.mono (Bc hbs (by have:=HB3.out.size;exact this))));have k5:(Instr.lookup 172 (.map (some mb)) (.int .i64 off) false).run prog w4= .ok (.int .i64 1) w4:=Pz Tryz.Ko underlying3 w4 mb (met.map λo=>(o,(1:Int))) [] off 1 (by have:=S4.map;simpa using this) Tn.out;obtain⟨z0,z1,z2⟩:=S4.box.p3;obtain⟨n0,n1,n2,n3, -⟩:=CG yG;have ni:=Aa S4;have yH:=Aa yG;clear GI hb4 PI hr4 S4 yG Ph HR3 kK UE HN3 OC HB3 HA Tn HS HMt;have HKy:=Ana A4 (ahead.length+nd.pre.length) c4 (ahead++nd.pre) w4 O (by have:=HR4.out.1;rw [AQ]at this;exact this) HKo.out;have HKy:=Aa HKy
 go_wp2_with fail
 refine HKy.out.mono ?_;rintro e w5⟨rfl,rfl⟩;clear HKy
 go_wp2_with fail
 go_ret;refine⟨HB4.out,qx.out,?_⟩;rw [HP.out];rfl
end
section
variable{len:Mode}{w w':World}{base sb mb x d p L:Nat}{s:St}{F:Nat->Prop}
def rU(h:Jd len w x d p L s F)(hF:∀b,F b->b<base){items:List (List UInt8×UInt64)}{met:List Int}{v:Value}(hs:EE w base sb mb x items met v)(f:Nat)(name:UInt64)(ahead:List UInt8)(A:Option Addr)(c:Nat)(hA:LH w A ahead)(hac:ahead.length<=c)(_:ahead.length<=33)(nd:Nd)(hr:Fb s name=some nd)(hm:Bj name∉met)(QZ:¬32<(ahead++nd.pre).length)(hv:nd.val=0)(hxb:x<base)(htb:0<base/\1<base)(ih:∀(W:World)(kid:UInt64)(ah:List UInt8)(A:Option Addr)(c:Nat)(it:List (List UInt8×UInt64))(mt:List Int)(v:Value),Jd len W x d p L s F->EE W base sb mb x it mt v->LH W A ah->ah.length<=c->ah.length<=33->34<=f+ah.length->Calls prog 122 #[Az sb,.int .u64 (kid.toNat:Int),.slice A ah.length c] W (ND (Dq s f kid ah (it,mt)) base sb mb x W))(h34:34<=f+1+ahead.length):
 Calls prog 122 #[Az sb,.int .u64 (name.toNat:Int),.slice A ahead.length c] w (ND (Dq s (f+1) name ahead (items,met)) base sb mb x w):=by
 have HP:Hid (Dq s (f+1) name ahead (items,met)=(nd.labels.zip nd.kids).foldlM (λ(st:List (List UInt8×UInt64)×List Int)(lk:UInt8×UInt64)=>Dq s f lk.2 (ahead++nd.pre++[lk.1]) st) (items,met++[Bj name])):=Aa (by rw [Dq,hr];simp only;rw [if_neg (λe=>e.elim (λe=>hm (by simpa using e)) QZ),if_neg (λe=>e.1 hv),if_neg (λe=>e hv)]);have Ahn:=QZ;rw [AQ]at Ahn;have ht2:¬(32:Int)<(ahead.length:Int)+(nd.pre.length:Int):=O
 have ht:decide ((32:Int)<((ahead.length+nd.pre.length:Nat):Int))=false:=decide_eq_false O;have tv:((nd.val.toNat:Int)!=0)=false:=by rw [hv];rfl
 have HLk:Hid (nd.labels.length=nd.kids.length):=Aa (by
  obtain⟨_,_,ok,FZ⟩:=h.L0;exact((Bq _).1 (kM ok FZ hr).1).2.2.1)
 have HVv:=Aa hv;clear hv;have HR:=Aa (JX h name);have HRn:=Aa hr;have HS:=Aa hs;have HX:=Aa h;have hwr:IntKind.i64.wrap (name.toNat:Int)=Bj name:=rfl;have hbl:=(FO hr).1;have hbk:=(FO hr).2.1;have hbb:=(FO hr).2.2;have yF:=Aa (RS h hr);have HMt:=Aa hm;have y0:=hs.box.p1;have hbs:base<=w.heap.size:=IW (Hw hs.bs hs.box.lt);have Tn:Hid (∀q∈met.map (λo=>(o,(1:Int))),q.1≠Bj name):=Aa (λq hq=>by
  obtain⟨o,ho,rfl⟩:=Ba.1 hq;exact λe=>hm (e▸ho))
 have HA:=Aa hA;generalize Bj name=off at*;clear h hs hr hm hA;go_enter func122,ntmps122
 go_wp2_with fail
 refine HR.out.mono ?_;rintro e w1⟨hb1,hp1⟩;rw [HRn.out]at hp1;obtain⟨vn,rfl,hnd⟩:=hp1;obtain⟨A1,c1,A2,c2,A3,c3,rfl,o1,o2,o3⟩:=hnd;obtain⟨W2,hW2,Ha,BN⟩:=EZ w1 212 [.slice A1 nd.pre.length c1,.int .u64 (nd.val.toNat:Int),.slice A2 nd.labels.length c2,.slice A3 nd.kids.length c3];have hb2:η w W2:=τ hb1 Ha;have S2:=HS.out.below hb2;have k1:=Y8 Tryz.Ko underlying3 Tryz.YD W2 mb _ off S2.map Tn.out;have k2:=jV Tryz.Ko underlying3 W2 mb _ off 1 S2.map Tn.out;rw [show met.map (λo=>(o,(1:Int)))++[(off,1)]=(met++[off]).map (λo=>(o,(1:Int)))by simp]at k2;obtain⟨S3,UD,Gn⟩:=S2.note yF.out HMt.out;obtain⟨W3,hW3⟩:∃W3,W3=Ef W2 mb (Ik 0 ((met++[off]).map λo=>(o,1))).toArray ((met++[off]).map λo=>(o,(1:Int))).length:=⟨_,rfl⟩;rw [<-hW3]at k2 S3 UD Gn;have nH:=UD.box BN;have HA3:=(HA.out.keep (D5.of_below hb2)).keep UD;have HN3:Hid (XF W3 w.heap.size (.agg #[.slice A1 nd.pre.length c1,.int .u64 (nd.val.toNat:Int),.slice A2 nd.labels.length c2,.slice A3 nd.kids.length c3]) nd):=Aa (UD.nd ⟨_,_,_,_,_,_,rfl,own_below o1 Ha,own_below o2 Ha,own_below o3 Ha⟩);have hpre:Rd W3 A1 nd.pre.length (nd.pre.map bv):=(CP (UD.own (.inl rfl) (own_below o1 Ha))).2;clear hW3;have z0:=S2.box.cell 0;have z2:=S2.box.cell 2;simp only [Am,AA]at z0 z2;rw [hW2]at k1 k2 z0 z2;have HW2:=Aa hW2;clear y0 HR hW2
 go_wp2_with fail
 obtain⟨n0,n1,n2,n3, -⟩:=CG nH;have HB3:=Aa ((hb2.mono hbs).trans Gn);have OC:=Aa ((D5.of_below hb2).trans UD);have Ph:=Aa S3;have HR3:=Aa HA3;have kK:=Aa hpre;have UE:=Aa nH;clear k1 k2 z0 z2 hb1 Ha hb2 S2 UD Gn BN nH HA3 hpre o1 o2 o3 S3
 go_region_law(refine Jt rfl (.tmp 42) (.tmp 44) 22 rfl Tryz.Gq A ahead.length (ahead.map bv) (by simp [Act.eval]) (by exact HR3.out.1) (λa e=>by obtain⟨g,_,_,e',_⟩:=HR3.out.2.1 a e;exact⟨g,e'⟩) (λe=>by rw [HR3.out.2.2 e];rfl) A1 nd.pre.length c1 (nd.pre.map bv) (by simp [Act.eval]) (by exact kK.out) (Hm _) O U ?_;intro A4 c4 w4 hc4 hr4 hb4 PI)
 have GI:η W3 w4:=((Dr.drew W3).below _).trans hb4;have HR4:Hid (LH w4 A4 (ahead++nd.pre)):=Aa (HR3.out.cut hr4 GI PI);have S4:=Ph.out.below GI;have yG:=UE.out.ξ GI;have HN4:=Aa (HN3.out.below GI);have qx:=Aa (OC.out.trans (D5.of_below GI));have HB4:=Aa (HB3.out.trans (GI.mono (Bc hbs (by have:=HB3.out.size;exact this))));have k5:(Instr.lookup 172 (.map (some mb)) (.int .i64 off) false).run prog w4= .ok (.int .i64 1) w4:=Pz Tryz.Ko underlying3 w4 mb (met.map λo=>(o,(1:Int))) [] off 1 (by have:=S4.map;simpa using this) Tn.out;obtain⟨z0,z1,z2⟩:=S4.box.p3;obtain⟨n0,n1,n2,n3, -⟩:=CG yG;have ni:=Aa S4;have yH:=Aa yG;clear GI hb4 PI hr4 S4 yG Ph HR3 kK UE HN3 OC HB3 HA Tn HS HMt;generalize hn4:ahead.length+nd.pre.length=n4 at*;have Ol:=Aa hn4;clear hn4;obtain⟨wl,hwl⟩:∃wl,wl=w4:=⟨_,rfl⟩;rw [<-hwl]at ni qx HB4 HR4 HN4 yH k5 z0 z1 z2 n0 n1 n2 n3⊢;clear hwl;have HSl:=ni;have kJ:=HB4;have HKl:=qx;have HRl:=HR4;have rV:=HN4;have Adr:=yH
 go_wp2_with fail
 go_loopw [84](λi wr=>∃(k:Nat)(it:List (List UInt8×UInt64))(mt:List Int)(vk:Value),k<=nd.kids.length/\i= .int .i64 (k:Nat)/\EE wr base sb mb x it mt vk/\D5 wl wr/\Below base wl wr/\((nd.labels.zip nd.kids).drop k).foldlM (λ(st:List (List UInt8×UInt64)×List Int)(lk:UInt8×UInt64)=>Dq s f lk.2 (ahead++nd.pre++[lk.1]) st) (it,mt)=Dq s (f+1) name ahead (items,met))(λi _=>nd.kids.length- (intOf i).toNat)
 case atStart=>exact⟨0,_,_,_,Nat.zero_le _,rfl,HSl.out,D5.refl _,Below.refl _ _,by rw [HP.out];rfl⟩
 case round=>
  obtain⟨k,it,mt,vk,hk,rfl,hsr,hkr,hbr,hfd⟩:=hrel;have HSr:=Aa hsr;have yI:=Aa hkr;have Nr:=Aa hbr;have HFd:=Aa hfd;clear hsr hkr hbr hfd n0 n1 n2 n3;by_cases hlt:k<nd.kids.length
  ·have hll:k<nd.labels.length:=by rw [HLk.out];exact hlt
   have hzl:k<(nd.labels.zip nd.kids).length:=by rw [Rf];omega
   have hdz:(nd.labels.zip nd.kids).drop k=(nd.labels[k],nd.kids[k])::(nd.labels.zip nd.kids).drop (k+1):=by
    rw [Eg hzl,Afa]
   have yJ:=HFd.out;rw [hdz,Afb]at yJ;obtain⟨_,_,_,_,_,_,eN,p1,p2,p3⟩:=yI.out.nd rV.out;simp only [Value.agg.injEq]at eN;simp at eN;obtain⟨⟨rfl,rfl⟩,⟨rfl,rfl⟩,⟨rfl,rfl⟩⟩:=eN;obtain⟨kb,ko,rfl,hkb,hkc⟩:=(CP p3).2.2 O;obtain⟨lb,lo,rfl,hlb,hlc⟩:=(CP p2).2.2 O;have yK:=hkc k hlt;rw [BZ,Af hlt]at yK;replace yK:_=some (Au .u64 (nd.kids[k].toNat:Int)):=yK;have lG:=hlc k hll;rw [BZ,Af hll]at lG;replace lG:_=some (Au .u8 (nd.labels[k].toNat:Int)):=lG;generalize nd.kids[k]=kid at*;generalize nd.labels[k]=lab at*;have Aho:=Aa yJ;obtain⟨n0,n1,n2,n3, -⟩:=CG (yI.out.box Adr.out);have gY:=Aa (HRl.out.keep yI.out);have VF:Hid (∀W,D5 wr W->W.cell? (Δ w1.heap.size 2)=some (.slice (some (Δ lb lo)) nd.labels.length c2)/\W.cell? (Δ lb (lo+k))=some (.int .u8 (lab.toNat:Int))):=Aa (λW hW=>by
    refine⟨(CG (hW.box (yI.out.box Adr.out))).2.2.1,?_⟩;obtain⟨b',o',e',_,hc'⟩:=(CP (hW.own (.inl rfl) p2)).2.2 O;injection e' with e'
    injection e' with e1 e2
    subst e1 e2;rw [hc' k hll,<-hlc k hll];exact lG)
   have HIH:=Aa (λ(W:World)(hW:η wr W)(A6:Option Addr)(c6:Nat)(Yr:LH W A6 (ahead++nd.pre++[lab]))(hc6:n4+1<=c6)=>ih W kid (ahead++nd.pre++[lab]) A6 c6 it mt vk (HX.out.past ((kJ.out.trans Nr.out).trans (hW.mono (Bc hbs (Bc kJ.out.size Nr.out.size)))) hF hxb htb) (HSr.out.below hW) Yr (by have:=Ol.out;simp;omega) (by simp at QZ⊢;omega) (by simp;omega));rw [show(ahead++nd.pre++[lab]).length=n4+1 by have:=Ol.out;simp;omega]at HIH;have hx1:(k:Int)<(nd.kids.length:Int):=O
   have hx2:decide ((k:Int)<(nd.kids.length:Int))=true:=decide_eq_true hx1;have hx3:(k:Int)<(nd.labels.length:Int):=O
   have hx4:decide ((k:Int)<(nd.labels.length:Int))=true:=decide_eq_true hx3;have hwk:IntKind.i64.wrap ((k:Int)+1)=(k:Int)+1:=wrap64 _ O O;clear hkc hlc p1 p2 p3 hdz hzl yJ
   go_wp2_with fail
   cases hv:Dq s f kid (ahead++nd.pre++[lab]) (it,mt)with
   | none=>
     have HT:Hid (Dq s (f+1) name ahead (items,met)=none):=Aa (by rw [<-Aho.out];simp only [hv];rfl);rw [hv]at HIH;clear hv
     go_region_held_law(λw'=>w'.cell? (Δ w1.heap.size 2)=some (.slice (some (Δ lb lo)) nd.labels.length c2)/\w'.cell? (Δ lb (lo+k))=some (.int .u8 (lab.toNat:Int)))(first| go_keep| exact VF.out _ ((D5.of_below hb6).trans yL)| exact VF.out _ (D5.of_below hb6))
      (first
      | (refine Mc rfl (.tmp 96) (.tmp 102) 22 rfl Tryz.Gq wr A4 n4 ((ahead++nd.pre).map bv) (by simp [Act.eval]) (by have:=gY.out.1;rw [AQ,Ol.out]at this;exact this) (λa e=>by obtain⟨g,_,_,e',_⟩:=gY.out.2.1 a e;exact⟨g,e'⟩) (λe=>by have:=congrArg LU (gY.out.2.2 e);rw [AQ,Ol.out]at this;exact this) (.int .u8 (lab.toNat:Int)) rfl rfl rfl rfl wr.heap.size 1 (by simp [Act.eval]) rfl rfl (Ω Ol.out) U ?_;intro A6 c6 w6 hc6 Yr hb6 SC;have SE:LH w6 A6 (ahead++nd.pre++[lab]):=gY.out.cut (by rw [AQ,Ol.out];exact Yr) hb6 SC)
      | (go_at_call 122;refine(HIH.out w6 hb6 A6 c6 SE hc6).mono ?_;rintro e w7⟨hb7,yL,hp7⟩;replace hp7:e= .returned (.int .i64 5):=hp7;subst hp7))
     all_goals(have HBf:=Aa ((kJ.out.trans Nr.out).trans ((hb6.mono (Bc hbs (Bc kJ.out.size Nr.out.size))).trans hb7)))
     all_goals(have HKf:=Aa (((HKl.out.trans yI.out).trans (D5.of_below hb6)).trans yL))
     all_goals(clear hb6 hb7 yL Yr SC SE)
     all_goals(go_wp2_with fail)
     all_goals(go_ret)
     all_goals(refine⟨HBf.out,HKf.out,?_⟩)
     all_goals(rw [HT.out])
     all_goals rfl
   | some im=>
     obtain⟨i2,m2⟩:=im;have Aon:Hid (((nd.labels.zip nd.kids).drop (k+1)).foldlM (λ(st:List (List UInt8×UInt64)×List Int)(lk:UInt8×UInt64)=>Dq s f lk.2 (ahead++nd.pre++[lk.1]) st) (i2,m2)=Dq s (f+1) name ahead (items,met)):=Aa (by rw [<-Aho.out];simp only [hv];rfl);rw [hv]at HIH;clear hv
     go_region_held_law(λw'=>w'.cell? (Δ w1.heap.size 2)=some (.slice (some (Δ lb lo)) nd.labels.length c2)/\w'.cell? (Δ lb (lo+k))=some (.int .u8 (lab.toNat:Int)))(first| go_keep| exact VF.out _ ((D5.of_below hb6).trans yL)| exact VF.out _ (D5.of_below hb6))
      (first
      | (refine Mc rfl (.tmp 96) (.tmp 102) 22 rfl Tryz.Gq wr A4 n4 ((ahead++nd.pre).map bv) (by simp [Act.eval]) (by have:=gY.out.1;rw [AQ,Ol.out]at this;exact this) (λa e=>by obtain⟨g,_,_,e',_⟩:=gY.out.2.1 a e;exact⟨g,e'⟩) (λe=>by have:=congrArg LU (gY.out.2.2 e);rw [AQ,Ol.out]at this;exact this) (.int .u8 (lab.toNat:Int)) rfl rfl rfl rfl wr.heap.size 1 (by simp [Act.eval]) rfl rfl (Ω Ol.out) U ?_;intro A6 c6 w6 hc6 Yr hb6 SC;have SE:LH w6 A6 (ahead++nd.pre++[lab]):=gY.out.cut (by rw [AQ,Ol.out];exact Yr) hb6 SC)
      | (go_at_call 122;refine(HIH.out w6 hb6 A6 c6 SE hc6).mono ?_;rintro e w7⟨hb7,yL,hp7⟩;obtain⟨he7,v7,hs7⟩:=(hp7:e= .returned (.int .i64 0)/\∃v',EE w7 base sb mb x i2 m2 v');subst he7))
     all_goals(have HBf:=Aa (Nr.out.trans ((hb6.mono (Bc hbs (Bc kJ.out.size Nr.out.size))).trans hb7)))
     all_goals(have HKf:=Aa ((yI.out.trans (D5.of_below hb6)).trans yL))
     all_goals(have HSf:=Aa hs7)
     all_goals(clear hb6 hb7 yL Yr SC SE hs7)
     all_goals(go_wp2_with fail)
     all_goals(go_roundw)
     all_goals first
      | (case rel=>exact⟨k+1,i2,m2,v7,O,by go_num,HSf.out,HKf.out,HBf.out,Aon.out⟩)
      | (case measure=>simp [intOf];omega)
  ·have hkn:k=nd.kids.length:=O
   have HT:Hid (Dq s (f+1) name ahead (items,met)=some (it,mt)):=Aa (by
    rw [<-HFd.out,Rk (by rw [Rf];omega)];rfl)
   have HBf:=Aa (kJ.out.trans Nr.out);have HKf:=Aa (HKl.out.trans yI.out);subst hkn;clear ih
   go_wp2_with fail
   go_ret;refine⟨HBf.out,HKf.out,?_⟩;rw [HT.out];exact⟨rfl,vk,HSr.out⟩
end
section
variable{len:Mode}{w w':World}{base sb mb x d p L:Nat}{s:St}{F:Nat->Prop}
def rW(h:Jd len w x d p L s F)(hF:∀b,F b->b<base){items:List (List UInt8×UInt64)}{met:List Int}{v:Value}(hs:EE w base sb mb x items met v)(f:Nat)(name:UInt64)(ahead:List UInt8)(A:Option Addr)(c:Nat)(hA:LH w A ahead)(hac:ahead.length<=c)(_:ahead.length<=33)(nd:Nd)(hr:Fb s name=some nd)(hm:Bj name∉met)(QZ:¬32<(ahead++nd.pre).length)(hv:nd.val≠0)(hkk:Jv (ahead++nd.pre)=true)(hxb:x<base)(htb:0<base/\1<base)(ih:∀(W:World)(kid:UInt64)(ah:List UInt8)(A:Option Addr)(c:Nat)(it:List (List UInt8×UInt64))(mt:List Int)(v:Value),Jd len W x d p L s F->EE W base sb mb x it mt v->LH W A ah->ah.length<=c->ah.length<=33->34<=f+ah.length->Calls prog 122 #[Az sb,.int .u64 (kid.toNat:Int),.slice A ah.length c] W (ND (Dq s f kid ah (it,mt)) base sb mb x W))(h34:34<=f+1+ahead.length):
 Calls prog 122 #[Az sb,.int .u64 (name.toNat:Int),.slice A ahead.length c] w (ND (Dq s (f+1) name ahead (items,met)) base sb mb x w):=by
 have HP:Hid (Dq s (f+1) name ahead (items,met)=(nd.labels.zip nd.kids).foldlM (λ(st:List (List UInt8×UInt64)×List Int)(lk:UInt8×UInt64)=>Dq s f lk.2 (ahead++nd.pre++[lk.1]) st) (items++[(pairs (ahead++nd.pre),nd.val)],met++[Bj name])):=Aa (by rw [Dq,hr];simp only;rw [if_neg (λe=>e.elim (λe=>hm (by simpa using e)) QZ),if_neg (λe=>by rw [hkk]at e;exact nomatch e.2),if_pos hv]);have Ahn:=QZ;rw [AQ]at Ahn;have ht2:¬(32:Int)<(ahead.length:Int)+(nd.pre.length:Int):=O
 have ht:decide ((32:Int)<((ahead.length+nd.pre.length:Nat):Int))=false:=decide_eq_false O;have tv:((nd.val.toNat:Int)!=0)=true:=by
  rw [bne_iff_ne];intro e;exact hv (Ec.1 (by simp;omega))
 have HLk:Hid (nd.labels.length=nd.kids.length):=Aa (by
  obtain⟨_,_,ok,FZ⟩:=h.L0;exact((Bq _).1 (kM ok FZ hr).1).2.2.1)
 have HLn:=Aa hs.len;have HKo:=Aa hkk;clear hv hkk;have HR:=Aa (JX h name);have HRn:=Aa hr;have HS:=Aa hs;have HX:=Aa h;have hwr:IntKind.i64.wrap (name.toNat:Int)=Bj name:=rfl;have hbl:=(FO hr).1;have hbk:=(FO hr).2.1;have hbb:=(FO hr).2.2;have yF:=Aa (RS h hr);have HMt:=Aa hm;have y0:=hs.box.p1;have hbs:base<=w.heap.size:=IW (Hw hs.bs hs.box.lt);have Tn:Hid (∀q∈met.map (λo=>(o,(1:Int))),q.1≠Bj name):=Aa (λq hq=>by
  obtain⟨o,ho,rfl⟩:=Ba.1 hq;exact λe=>hm (e▸ho))
 have HA:=Aa hA;generalize Bj name=off at*;clear h hs hr hm hA;go_enter func122,ntmps122
 go_wp2_with fail
 refine HR.out.mono ?_;rintro e w1⟨hb1,hp1⟩;rw [HRn.out]at hp1;obtain⟨vn,rfl,hnd⟩:=hp1;obtain⟨A1,c1,A2,c2,A3,c3,rfl,o1,o2,o3⟩:=hnd;obtain⟨W2,hW2,Ha,BN⟩:=EZ w1 212 [.slice A1 nd.pre.length c1,.int .u64 (nd.val.toNat:Int),.slice A2 nd.labels.length c2,.slice A3 nd.kids.length c3];have hb2:η w W2:=τ hb1 Ha;have S2:=HS.out.below hb2;have k1:=Y8 Tryz.Ko underlying3 Tryz.YD W2 mb _ off S2.map Tn.out;have k2:=jV Tryz.Ko underlying3 W2 mb _ off 1 S2.map Tn.out;rw [show met.map (λo=>(o,(1:Int)))++[(off,1)]=(met++[off]).map (λo=>(o,(1:Int)))by simp]at k2;obtain⟨S3,UD,Gn⟩:=S2.note yF.out HMt.out;obtain⟨W3,hW3⟩:∃W3,W3=Ef W2 mb (Ik 0 ((met++[off]).map λo=>(o,1))).toArray ((met++[off]).map λo=>(o,(1:Int))).length:=⟨_,rfl⟩;rw [<-hW3]at k2 S3 UD Gn;have nH:=UD.box BN;have HA3:=(HA.out.keep (D5.of_below hb2)).keep UD;have HN3:Hid (XF W3 w.heap.size (.agg #[.slice A1 nd.pre.length c1,.int .u64 (nd.val.toNat:Int),.slice A2 nd.labels.length c2,.slice A3 nd.kids.length c3]) nd):=Aa (UD.nd ⟨_,_,_,_,_,_,rfl,own_below o1 Ha,own_below o2 Ha,own_below o3 Ha⟩);have hpre:Rd W3 A1 nd.pre.length (nd.pre.map bv):=(CP (UD.own (.inl rfl) (own_below o1 Ha))).2;clear hW3;have z0:=S2.box.cell 0;have z2:=S2.box.cell 2;simp only [Am,AA]at z0 z2;rw [hW2]at k1 k2 z0 z2;have HW2:=Aa hW2;clear y0 HR hW2
 go_wp2_with fail
 obtain⟨n0,n1,n2,n3, -⟩:=CG nH;have HB3:=Aa ((hb2.mono hbs).trans Gn);have OC:=Aa ((D5.of_below hb2).trans UD);have Ph:=Aa S3;have HR3:=Aa HA3;have kK:=Aa hpre;have UE:=Aa nH;clear k1 k2 z0 z2 hb1 Ha hb2 S2 UD Gn BN nH HA3 hpre o1 o2 o3 S3
 go_region_law(refine Jt rfl (.tmp 42) (.tmp 44) 22 rfl Tryz.Gq A ahead.length (ahead.map bv) (by simp [Act.eval]) (by exact HR3.out.1) (λa e=>by obtain⟨g,_,_,e',_⟩:=HR3.out.2.1 a e;exact⟨g,e'⟩) (λe=>by rw [HR3.out.2.2 e];rfl) A1 nd.pre.length c1 (nd.pre.map bv) (by simp [Act.eval]) (by exact kK.out) (Hm _) O U ?_;intro A4 c4 w4 hc4 hr4 hb4 PI)
 have GI:η W3 w4:=((Dr.drew W3).below _).trans hb4;have HR4:Hid (LH w4 A4 (ahead++nd.pre)):=Aa (HR3.out.cut hr4 GI PI);have S4:=Ph.out.below GI;have yG:=UE.out.ξ GI;have HN4:=Aa (HN3.out.below GI);have qx:=Aa (OC.out.trans (D5.of_below GI));have HB4:=Aa (HB3.out.trans (GI.mono (Bc hbs (by have:=HB3.out.size;exact this))));have k5:(Instr.lookup 172 (.map (some mb)) (.int .i64 off) false).run prog w4= .ok (.int .i64 1) w4:=Pz Tryz.Ko underlying3 w4 mb (met.map λo=>(o,(1:Int))) [] off 1 (by have:=S4.map;simpa using this) Tn.out;obtain⟨z0,z1,z2⟩:=S4.box.p3;obtain⟨n0,n1,n2,n3, -⟩:=CG yG;have ni:=Aa S4;have yH:=Aa yG;clear GI hb4 PI hr4 S4 yG Ph HR3 kK UE HN3 OC HB3 HA Tn HS HMt;generalize hn4:ahead.length+nd.pre.length=n4 at*;have Ol:=Aa hn4;clear hn4;have HKy:=Aa (Ajg A4 n4 c4 (ahead++nd.pre) w4 (Ω Ol.out) (by have:=HR4.out.1;rw [AQ,Ol.out]at this;exact this) HKo.out);obtain⟨ks,hks⟩:∃ks:ByteArray,ks=⟨(pairs (ahead++nd.pre)).toArray⟩:=⟨_,rfl⟩;rw [<-hks]at HKy;have HKs:=Aa hks;clear hks
 go_wp2_with fail
 refine HKy.out.mono ?_;rintro e w5⟨rfl,OX⟩;have S5:=ni.out.below OX;have As7:=Aa (yH.out.ξ OX);have uK:=Aa (HR4.out.keep (D5.of_below OX));have HN5:=Aa (HN4.out.below OX);have HK5:=Aa (qx.out.trans (D5.of_below OX));have Jz:=Aa (HB4.out.trans (OX.mono (Bc hbs (by have:=HB4.out.size;exact this))));have HS5:=Aa S5;have Av2:base<=w5.heap.size:=Bc hbs Jz.out.size;have hfew:=S5.few;clear z0 z1 z2 n0 n1 n2 n3 k5 HKy OX;have z0:=S5.box.cell 0;have z1:=S5.box.cell 1;have z2:=S5.box.cell 2;have f1:=S5.box.frozen 1;have hsl:=S5.box.lt;simp only [Am,AA]at z0 z1 z2;obtain⟨n0,n1,n2,n3, -⟩:=CG As7.out;have HVs:Hid (some sb≠v.ownBlock):=Aa (λe=>S5.vs e.symm);clear S5
 go_wp2_with fail
 go_region_law(refine N9 rfl (.tmp 72) (.tmp 77) 99 rfl Tryz.Akh w5 base v items.length (items.map itV).flatten [.string ks,.int .u64 (nd.val.toNat:Int)] rfl HS5.out.row rfl rfl rfl rfl w5.heap.size 1 rfl rfl rfl U (by intro u hu;simp at hu;rcases hu with rfl| rfl<;>rfl) O U Av2 ?_;intro g6 c6 w6 ZV O5 hK6 nC;have zz1:=(World.cell?_of_block (w:=w5) (a:=Δ sb 1) (hK6.2 sb hsl HVs.out)).trans z1;have ff1:=(World.frozen?_of_block (w:=w5) (a:=Δ sb 1) (hK6.2 sb hsl HVs.out)).trans f1)
 all_goals
  obtain⟨q1,q2,q3⟩:=HS5.out.add (pairs (ahead++nd.pre),nd.val) (by have:=HLn.out;simp;omega) (by have:=ZV;rw [HKs.out]at this;exact this) O5 hK6 nC;obtain⟨wl,hwl⟩:∃wl,wl=w6.setCell (Δ sb 1) (.slice (some (Φ g6)) (items.length+1) c6):=⟨_,rfl⟩;rw [<-hwl]at q1 q2 q3;have HSl:=Aa q1;have kJ:=Aa (Jz.out.trans q3);have HKl:=Aa (HK5.out.trans q2);have HRl:=Aa (uK.out.keep q2);have rV:=Aa (q2.nd HN5.out);have Adr:=Aa (q2.box As7.out);have HWl:=Aa hwl;clear n0 n1 n2 n3;obtain⟨n0,n1,n2,n3, -⟩:=CG Adr.out;rw [hwl]at n0 n1 n2 n3;clear q1 q2 q3 hwl
  go_wp2_with fail
  rw [<-HWl.out];clear ZV O5 hK6 nC zz1 ff1 z0 z1 z2 f1
  go_loopw [84](λi wr=>∃(k:Nat)(it:List (List UInt8×UInt64))(mt:List Int)(vk:Value),k<=nd.kids.length/\i= .int .i64 (k:Nat)/\EE wr base sb mb x it mt vk/\D5 wl wr/\Below base wl wr/\((nd.labels.zip nd.kids).drop k).foldlM (λ(st:List (List UInt8×UInt64)×List Int)(lk:UInt8×UInt64)=>Dq s f lk.2 (ahead++nd.pre++[lk.1]) st) (it,mt)=Dq s (f+1) name ahead (items,met))(λi _=>nd.kids.length- (intOf i).toNat)
  case atStart=>exact⟨0,_,_,_,Nat.zero_le _,rfl,HSl.out,D5.refl _,Below.refl _ _,by rw [HP.out];rfl⟩
  case round=>
   obtain⟨k,it,mt,vk,hk,rfl,hsr,hkr,hbr,hfd⟩:=hrel;have HSr:=Aa hsr;have yI:=Aa hkr;have Nr:=Aa hbr;have HFd:=Aa hfd;clear hsr hkr hbr hfd n0 n1 n2 n3;by_cases hlt:k<nd.kids.length
   ·have hll:k<nd.labels.length:=by rw [HLk.out];exact hlt
    have hzl:k<(nd.labels.zip nd.kids).length:=by rw [Rf];omega
    have hdz:(nd.labels.zip nd.kids).drop k=(nd.labels[k],nd.kids[k])::(nd.labels.zip nd.kids).drop (k+1):=by
     rw [Eg hzl,Afa]
    have yJ:=HFd.out;rw [hdz,Afb]at yJ;obtain⟨_,_,_,_,_,_,eN,p1,p2,p3⟩:=yI.out.nd rV.out;simp only [Value.agg.injEq]at eN;simp at eN;obtain⟨⟨rfl,rfl⟩,⟨rfl,rfl⟩,⟨rfl,rfl⟩⟩:=eN;obtain⟨kb,ko,rfl,hkb,hkc⟩:=(CP p3).2.2 O;obtain⟨lb,lo,rfl,hlb,hlc⟩:=(CP p2).2.2 O;have yK:=hkc k hlt;rw [BZ,Af hlt]at yK;replace yK:_=some (Au .u64 (nd.kids[k].toNat:Int)):=yK;have lG:=hlc k hll;rw [BZ,Af hll]at lG;replace lG:_=some (Au .u8 (nd.labels[k].toNat:Int)):=lG;generalize nd.kids[k]=kid at*;generalize nd.labels[k]=lab at*;have Aho:=Aa yJ;obtain⟨n0,n1,n2,n3, -⟩:=CG (yI.out.box Adr.out);have gY:=Aa (HRl.out.keep yI.out);have VF:Hid (∀W,D5 wr W->W.cell? (Δ w1.heap.size 2)=some (.slice (some (Δ lb lo)) nd.labels.length c2)/\W.cell? (Δ lb (lo+k))=some (.int .u8 (lab.toNat:Int))):=Aa (λW hW=>by
     refine⟨(CG (hW.box (yI.out.box Adr.out))).2.2.1,?_⟩;obtain⟨b',o',e',_,hc'⟩:=(CP (hW.own (.inl rfl) p2)).2.2 O;injection e' with e'
     injection e' with e1 e2
     subst e1 e2;rw [hc' k hll,<-hlc k hll];exact lG)
    have HIH:=Aa (λ(W:World)(hW:η wr W)(A6:Option Addr)(c6:Nat)(Yr:LH W A6 (ahead++nd.pre++[lab]))(hc6:n4+1<=c6)=>ih W kid (ahead++nd.pre++[lab]) A6 c6 it mt vk (HX.out.past ((kJ.out.trans Nr.out).trans (hW.mono (Bc hbs (Bc kJ.out.size Nr.out.size)))) hF hxb htb) (HSr.out.below hW) Yr (by have:=Ol.out;simp;omega) (by simp at QZ⊢;omega) (by simp;omega));rw [show(ahead++nd.pre++[lab]).length=n4+1 by have:=Ol.out;simp;omega]at HIH;have hx1:(k:Int)<(nd.kids.length:Int):=O
    have hx2:decide ((k:Int)<(nd.kids.length:Int))=true:=decide_eq_true hx1;have hx3:(k:Int)<(nd.labels.length:Int):=O
    have hx4:decide ((k:Int)<(nd.labels.length:Int))=true:=decide_eq_true hx3;have hwk:IntKind.i64.wrap ((k:Int)+1)=(k:Int)+1:=wrap64 _ O O;clear hkc hlc p1 p2 p3 hdz hzl yJ
    go_wp2_with fail
    cases hv:Dq s f kid (ahead++nd.pre++[lab]) (it,mt)with
    | none=>
      have HT:Hid (Dq s (f+1) name ahead (items,met)=none):=Aa (by rw [<-Aho.out];simp only [hv];rfl);rw [hv]at HIH;clear hv
      go_region_held_law(λw'=>w'.cell? (Δ w1.heap.size 2)=some (.slice (some (Δ lb lo)) nd.labels.length c2)/\w'.cell? (Δ lb (lo+k))=some (.int .u8 (lab.toNat:Int)))(first| go_keep| exact VF.out _ ((D5.of_below hb6).trans yL)| exact VF.out _ (D5.of_below hb6))
       (first
       | (refine Mc rfl (.tmp 96) (.tmp 102) 22 rfl Tryz.Gq wr A4 n4 ((ahead++nd.pre).map bv) (by simp [Act.eval]) (by have:=gY.out.1;rw [AQ,Ol.out]at this;exact this) (λa e=>by obtain⟨g,_,_,e',_⟩:=gY.out.2.1 a e;exact⟨g,e'⟩) (λe=>by have:=congrArg LU (gY.out.2.2 e);rw [AQ,Ol.out]at this;exact this) (.int .u8 (lab.toNat:Int)) rfl rfl rfl rfl wr.heap.size 1 (by simp [Act.eval]) rfl rfl (Ω Ol.out) U ?_;intro A6 c6 w6 hc6 Yr hb6 SC;have SE:LH w6 A6 (ahead++nd.pre++[lab]):=gY.out.cut (by rw [AQ,Ol.out];exact Yr) hb6 SC)
       | (go_at_call 122;refine(HIH.out w6 hb6 A6 c6 SE hc6).mono ?_;rintro e w7⟨hb7,yL,hp7⟩;replace hp7:e= .returned (.int .i64 5):=hp7;subst hp7))
      all_goals(have HBf:=Aa ((kJ.out.trans Nr.out).trans ((hb6.mono (Bc hbs (Bc kJ.out.size Nr.out.size))).trans hb7)))
      all_goals(have HKf:=Aa (((HKl.out.trans yI.out).trans (D5.of_below hb6)).trans yL))
      all_goals(clear hb6 hb7 yL Yr SC SE)
      all_goals(go_wp2_with fail)
      all_goals(go_ret)
      all_goals(refine⟨HBf.out,HKf.out,?_⟩)
      all_goals(rw [HT.out])
      all_goals rfl
    | some im=>
      obtain⟨i2,m2⟩:=im;have Aon:Hid (((nd.labels.zip nd.kids).drop (k+1)).foldlM (λ(st:List (List UInt8×UInt64)×List Int)(lk:UInt8×UInt64)=>Dq s f lk.2 (ahead++nd.pre++[lk.1]) st) (i2,m2)=Dq s (f+1) name ahead (items,met)):=Aa (by rw [<-Aho.out];simp only [hv];rfl);rw [hv]at HIH;clear hv
      go_region_held_law(λw'=>w'.cell? (Δ w1.heap.size 2)=some (.slice (some (Δ lb lo)) nd.labels.length c2)/\w'.cell? (Δ lb (lo+k))=some (.int .u8 (lab.toNat:Int)))(first| go_keep| exact VF.out _ ((D5.of_below hb6).trans yL)| exact VF.out _ (D5.of_below hb6))
       (first
       | (refine Mc rfl (.tmp 96) (.tmp 102) 22 rfl Tryz.Gq wr A4 n4 ((ahead++nd.pre).map bv) (by simp [Act.eval]) (by have:=gY.out.1;rw [AQ,Ol.out]at this;exact this) (λa e=>by obtain⟨g,_,_,e',_⟩:=gY.out.2.1 a e;exact⟨g,e'⟩) (λe=>by have:=congrArg LU (gY.out.2.2 e);rw [AQ,Ol.out]at this;exact this) (.int .u8 (lab.toNat:Int)) rfl rfl rfl rfl wr.heap.size 1 (by simp [Act.eval]) rfl rfl (Ω Ol.out) U ?_;intro A6 c6 w6 hc6 Yr hb6 SC;have SE:LH w6 A6 (ahead++nd.pre++[lab]):=gY.out.cut (by rw [AQ,Ol.out];exact Yr) hb6 SC)
       | (go_at_call 122;refine(HIH.out w6 hb6 A6 c6 SE hc6).mono ?_;rintro e w7⟨hb7,yL,hp7⟩;obtain⟨he7,v7,hs7⟩:=(hp7:e= .returned (.int .i64 0)/\∃v',EE w7 base sb mb x i2 m2 v');subst he7))
      all_goals(have HBf:=Aa (Nr.out.trans ((hb6.mono (Bc hbs (Bc kJ.out.size Nr.out.size))).trans hb7)))
      all_goals(have HKf:=Aa ((yI.out.trans (D5.of_below hb6)).trans yL))
      all_goals(have HSf:=Aa hs7)
      all_goals(clear hb6 hb7 yL Yr SC SE hs7)
      all_goals(go_wp2_with fail)
      all_goals(go_roundw)
      all_goals first
       | (case rel=>exact⟨k+1,i2,m2,v7,O,by go_num,HSf.out,HKf.out,HBf.out,Aon.out⟩)
       | (case measure=>simp [intOf];omega)
   ·have hkn:k=nd.kids.length:=O
    have HT:Hid (Dq s (f+1) name ahead (items,met)=some (it,mt)):=Aa (by
     rw [<-HFd.out,Rk (by rw [Rf];omega)];rfl)
    have HBf:=Aa (kJ.out.trans Nr.out);have HKf:=Aa (HKl.out.trans yI.out);subst hkn;clear ih
    go_wp2_with fail
    go_ret;refine⟨HBf.out,HKf.out,?_⟩;rw [HT.out];exact⟨rfl,vk,HSr.out⟩
end
def iQ{len:Mode}{base sb mb x d p L:Nat}{s:St}{F:Nat->Prop}(hF:∀b,F b->b<base)(hxb:x<base)(htb:0<base/\1<base):∀(f:Nat)(w:World)(name:UInt64)(ahead:List UInt8)(A:Option Addr)(c:Nat)(items:List (List UInt8×UInt64))(met:List Int)(v:Value),Jd len w x d p L s F->EE w base sb mb x items met v->LH w A ahead->ahead.length<=c->ahead.length<=33->34<=f+ahead.length->
 Calls prog 122 #[Az sb,.int .u64 (name.toNat:Int),.slice A ahead.length c] w (ND (Dq s f name ahead (items,met)) base sb mb x w)
 | 0,w,name,ahead,A,c,items,met,v,h,hs,hA,hac,hal,h34=>absurd h34 O
 | f+1,w,name,ahead,A,c,items,met,v,h,hs,hA,hac,hal,h34=>by
   cases hr:Fb s name with
   | none=>exact xR h hF hs f name ahead A c hr
   | some nd=>
     by_cases hm:Bj name∈met
     ·exact Ac1 h hF hs f name ahead A c hA hac hal nd hr hm
     ·by_cases QZ:32<(ahead++nd.pre).length
      ·exact Adp h hF hs f name ahead A c hA hac hal nd hr hm QZ
      ·have ih:=λ(W:World)(kid:UInt64)(ah:List UInt8)(A:Option Addr)(c:Nat)(it:List (List UInt8×UInt64))(mt:List Int)(v:Value)(h1:Jd len W x d p L s F)(h2:EE W base sb mb x it mt v)h3 h4 h5 h6=>iQ hF hxb htb f W kid ah A c it mt v h1 h2 h3 h4 h5 h6
       by_cases hv:nd.val=0
       ·exact rU h hF hs f name ahead A c hA hac hal nd hr hm QZ hv hxb htb ih h34
       ·cases hk:Jv (ahead++nd.pre)with
        | false=>exact Adq h hF hs f name ahead A c hA hac hal nd hr hm QZ hv hk
        | true=>exact rW h hF hs f name ahead A c hA hac hal nd hr hm QZ hv hk hxb htb ih h34
def Aaz(w:World)(base:Nat)(v:Value)(items:List (List UInt8×UInt64)):Prop:=w.ownsRow base 104 2 v items.length (items.map itV).flatten
def Ahp(s:St)(w:World)(x:Nat)(e:Ending)(w':World):Prop:=
 η w w'/\match DJ s with
  | none=>e= .returned (.tuple #[.pointer none,.int .i64 5])
  | some (items,met)=>∃sb mb v,e= .returned (.tuple #[Az sb,.int .i64 0])/\EE w' w.heap.size sb mb x items met v
section
variable{len:Mode}{w w':World}{x d p L:Nat}{s:St}{F:Nat->Prop}
def VG(h:Jd len w x d p L s F):Calls prog 79 #[Az x] w (Ahp s w x):=by
 have HA:=Aa (KA h ⟨#[]⟩ U);rw [if_neg U]at HA;have hxl:=h.box.lt;have hFl:=h.sys.lt;have htl:=h.sys.tabs.lt;have HX:=Aa h;have mm:=λW=>run_makeMap (P:=prog) 172 W
 obtain⟨w2,hw2⟩:∃w2,w2=(w.alloc (.map #[] 0)).alloc (.cells #[Az x,.slice none 0 0,.map (some w.heap.size)] 174):=⟨_,rfl⟩;have hb2:η w w2:=by
  have h1:η w (w.alloc (.map #[] 0)):=(Below.refl _ _).alloc (Ad _) _;rw [hw2];exact h1.alloc h1.size _
 have hS:EE w2 w.heap.size (w.heap.size+1) w.heap.size x [] [] (.slice none 0 0):=by
  refine⟨hw2▸Aag w _ _ _,World.ownsRow_nil _ _ _ _,?_,O,Ad _,(λe=>nomatch e),UT,(λo ho=>nomatch ho),Ad _⟩;rw [hw2];exact(χ _ _ Θ).trans (heap_alloc_new _ _)
 have HS:=Aa hS;have HB2:=Aa hb2;have nz:=Aa (ZW (h.below hb2));have HW2:=Aa hw2;by_cases h0:s.ws 9=0
 ·have HP:Hid (DJ s=some ([],[])):=Aa (by unfold DJ;rw [if_pos h0]);have t0:(((s.ws 9).toNat:Int)!=0)=false:=by rw [h0];rfl
  clear h hS hb2 hw2 h0;go_enter func79,ntmps79
  go_wp2_with fail
  refine HA.out.mono ?_;rintro e w1⟨rfl,rfl⟩;clear HA
  go_wp2_with fail
  rw [<-HW2.out];refine nz.out.mono ?_;rintro e w3⟨rfl,hb3⟩;have HB3:=Aa (τ HB2.out hb3);have Ph:=Aa (HS.out.below hb3);clear hb3 nz
  go_wp2_with fail
  go_ret2;refine⟨HB3.out,?_⟩;rw [HP.out];exact⟨_,_,_,rfl,Ph.out⟩
 ·have HP:Hid (DJ s=Dq s 34 (s.ws 9) [] ([],[])):=Aa (by unfold DJ;rw [if_neg h0]);have t0:(((s.ws 9).toNat:Int)!=0)=true:=by
   rw [bne_iff_ne];intro e;exact h0 (Ec.1 (by simp;omega))
  clear h hS hb2 hw2 h0;go_enter func79,ntmps79
  go_wp2_with fail
  refine HA.out.mono ?_;rintro e w1⟨rfl,rfl⟩;clear HA
  go_wp2_with fail
  rw [<-HW2.out];refine nz.out.mono ?_;rintro e w3⟨rfl,hb3⟩;have HB3:=Aa (τ HB2.out hb3);have HV:=Aa (iQ hFl hxl htl 34 w3 (s.ws 9) [] none 0 [] [] _ (HX.out.below HB3.out) (HS.out.below hb3) (LH.nil _) (Ad _) U U);clear hb3 nz;simp only [List.length_nil]at HV;cases hv:Dq s 34 (s.ws 9) [] ([],[])with
  | none=>
    have HP':Hid (DJ s=none):=Aa (by rw [HP.out,hv]);rw [hv]at HV;clear hv HP
    go_wp2_with fail
    refine HV.out.mono ?_;rintro e w4⟨hb4,hk4,WM⟩;replace WM:e= .returned (.int .i64 5):=WM;subst WM;have HB4:=Aa (HB3.out.trans hb4);clear hb4 hk4 HV
    go_wp2_with fail
    go_ret2;refine⟨HB4.out,?_⟩;rw [HP'.out];rfl
  | some im=>
    obtain⟨i2,m2⟩:=im;have HP':Hid (DJ s=some (i2,m2)):=Aa (by rw [HP.out,hv]);rw [hv]at HV;clear hv HP
    go_wp2_with fail
    refine HV.out.mono ?_;rintro e w4⟨hb4,hk4,WM⟩;obtain⟨he4,v4,hs4⟩:=(WM:e= .returned (.int .i64 0)/\∃v',EE w4 w.heap.size (w.heap.size+1) w.heap.size x i2 m2 v');subst he4;have HB4:=Aa (HB3.out.trans hb4);have ni:=Aa hs4;clear hb4 hk4 HV hs4
    go_wp2_with fail
    go_ret2;refine⟨HB4.out,?_⟩;rw [HP'.out];exact⟨_,_,_,rfl,ni.out⟩
def Ak3(s:St)(w:World)(e:Ending)(w':World):Prop:=
 η w w'/\match DJ s with
  | none=>e= .returned (.tuple #[.slice none 0 0,.int .i64 5])
  | some (items,_)=>∃v,e= .returned (.tuple #[v,.int .i64 0])/\Aaz w' w.heap.size v items/\items.length<=65537
def Tv(h:Jd len w x d p L s F):Calls prog 38 #[Az x] w (Ak3 s w):=by
 have HS:=Aa (VG h);cases hv:DJ s with
 | none=>
   have HV:=Aa hv;clear h hv;go_enter func38,ntmps38
   go_wp2_with fail
   refine HS.out.mono ?_;rintro e w1⟨hb1,hp1⟩;rw [HV.out]at hp1;replace hp1:e= .returned (.tuple #[.pointer none,.int .i64 5]):=hp1;subst hp1;have HB:=Aa hb1;clear hb1 HS
   go_wp2_with fail
   go_ret2;refine⟨HB.out,?_⟩;rw [HV.out];rfl
 | some im=>
   obtain⟨i2,m2⟩:=im;have HV:=Aa hv;clear h hv;go_enter func38,ntmps38
   go_wp2_with fail
   refine HS.out.mono ?_;rintro e w1⟨hb1,hp1⟩;rw [HV.out]at hp1;obtain⟨sb,mb,v,rfl,hs1⟩:=hp1;have z1:=hs1.box.cell 1;simp only [AA,Am]at z1;have HB:=Aa hb1;have HI:=Aa hs1.row;have HFw:=Aa hs1.few;clear hb1 HS hs1
   go_wp2_with fail
   go_ret2;refine⟨HB.out,?_⟩;rw [HV.out];exact⟨v,rfl,HI.out,HFw.out⟩
end
def itC(i:It):List Value:=[.string i.k,.int .u64 (i.v.toNat:Int)]
def lH(l:List It):List Value:=(l.map itC).flatten
def rX:∀(l:List It)(k:Nat)(h:k<l.length),(lH l)[2*k]? =some (.string l[k].k)/\(lH l)[2*k+1]? =some (.int .u64 (l[k].v.toNat:Int))
 | a::t,0,_=>by simp [lH,itC]
 | a::t,k+1,h=>by
   obtain⟨h1,h2⟩:=rX t k (by simpa using h);have e:lH (a::t)=itC a++lH t:=rfl;rw [e];constructor
   ·rw [DZ (by simp [itC];omega)];simpa [itC,show 2*(k+1) -2=2*k by omega]using h1
   ·rw [DZ (by simp [itC];omega)];simpa [itC,show 2*(k+1)+1-2=2*k+1 by omega]using h2
def ItR(w:World)(A:Option Addr)(l:List It):Prop:=Rd w A (2*l.length) (lH l)
def ItR.at{w:World}{A:Option Addr}{l:List It}(h:ItR w A l)(k:Nat)(hk:k<l.length):∃b off,A=some (Δ b off)/\b<w.heap.size/\w.cell? (Δ b (off+k*2))=some (.string l[k].k)/\w.cell? (Δ b (off+k*2+1))=some (.int .u64 (l[k].v.toNat:Int)):=by
 obtain⟨b,off,e,hb,hc⟩:=h.2 O;obtain⟨h1,h2⟩:=rX l k hk;refine⟨b,off,e,hb,?_,?_⟩
 ·rw [GK,hc (2*k) O,h1]
 ·rw [GK,Nat.add_assoc,hc (2*k+1) O,h2]
def Ak4(p:List UInt8×UInt64):It:=⟨⟨p.1.toArray⟩,p.2⟩
def Aoo(l:List (List UInt8×UInt64)):(l.map itV).flatten=lH (l.map Ak4):=by
 unfold lH;rw [Gp];rfl
def Aa0{w:World}{base k n:Nat}{e:TypeId}{v:Value}{xs:List Value}(h:w.ownsRow base e k v n xs):∃A c,v= .slice A n c/\n<=c/\Rd w A (n*k) xs:=by
 rcases h.2 with⟨h1,h2⟩| ⟨g,cap,cur,h1,h2,h3,h4,h5,h6,h7⟩
 ·subst h2;exact⟨none,0,h1,Ad _,h.1,λhn=>O⟩
 ·refine⟨_,_,h1,h4,h.1,λhn=>⟨g,0,rfl,(Array.getElem?_eq_some_iff.1 h3).1,λj hj=> ?_⟩⟩;rw [cell_of_row w g _ cur _ (0,0) h3,<-h7,List.getElem?_take,if_pos O];simp
def Ak5{w:World}{base:Nat}{v:Value}{l:List It}(h:w.ownsRow base 104 2 v l.length (lH l)):∃A c,v= .slice A l.length c/\l.length<=c/\ItR w A l:=by
 obtain⟨A,c,e,hc,hr⟩:=Aa0 h;exact⟨A,c,e,hc,by unfold ItR;rw [GK];exact hr⟩
section
variable{w w':World}{x d p L:Nat}{s:St}{F:Nat->Prop}
def Ahq(s:St):Option (List It):=(DJ s).map λr=>r.1.map Ak4
end
def Ahr{a b c d:UInt8}(ha:a.toNat<16)(hb:b.toNat<16)(hc:c.toNat<16)(hd:d.toNat<16):(a*16+b<c*16+d)<->(a<c\/(a=c/\b<d)):=by
 have h1:(a*16+b).toNat=a.toNat*16+b.toNat:=by
  simp only [UInt8.toNat_add,UInt8.toNat_mul];have:(16:UInt8).toNat=16:=rfl;rw [this];omega
 have h2:(c*16+d).toNat=c.toNat*16+d.toNat:=by
  simp only [UInt8.toNat_add,UInt8.toNat_mul];have:(16:UInt8).toNat=16:=rfl;rw [this];omega
 rw [UInt8.lt_iff_toNat_lt,UInt8.lt_iff_toNat_lt,UInt8.lt_iff_toNat_lt,h1,h2,<-UInt8.toNat_inj];omega
def Ahs{a b c d:UInt8}(ha:a.toNat<16)(hb:b.toNat<16)(hc:c.toNat<16)(hd:d.toNat<16):(a*16+b=c*16+d)<->(a=c/\b=d):=by
 constructor
 ·intro h;have h1:=nU a b ha hb;have h2:=nU c d hc hd;rw [h]at h1;exact⟨h1.1.symm.trans h2.1,h1.2.symm.trans h2.2⟩
 ·rintro⟨rfl,rfl⟩;rfl
def bn:∀(a b:List UInt8),a.length%2=0->b.length%2=0->a.all DK=true->b.all DK=true->Op.bytesLess (pairs a) (pairs b)=Op.bytesLess a b
 | [],[],_,_,_,_=>rfl
 | [],[_],_,h,_,_=>by simp at h
 | [],_::_::_,_,_,_,_=>by simp [pairs,Op.bytesLess]
 | [_],_,h,_,_,_=>by simp at h
 | _::_::_,[],_,_,_,_=>by simp [pairs,Op.bytesLess]
 | _::_::_,[_],_,h,_,_=>by simp at h
 | x::y::a,z::u::b,h1,h2,h3,h4=>by
   simp only [List.all_cons,Bool.and_eq_true]at h3 h4;have i1:x.toNat<16:=by simpa [DK]using h3.1
   have i2:y.toNat<16:=by simpa [DK]using h3.2.1
   have i3:z.toNat<16:=by simpa [DK]using h4.1
   have i4:u.toNat<16:=by simpa [DK]using h4.2.1
   have ih:=bn a b (by simp only [BB]at h1;omega) (by simp only [BB]at h2;omega) h3.2.2 h4.2.2;have e1:=Ahr i1 i2 i3 i4;have e2:=Ahs i1 i2 i3 i4;rw [Bool.eq_iff_iff];simp only [pairs,Op.bytesLess,ih,Bool.or_eq_true,Bool.and_eq_true,decide_eq_true_eq,beq_iff_eq,e1,e2];constructor
   ·rintro((h| ⟨h,k⟩)| ⟨⟨h,k⟩,l⟩)
    ·exact .inl h
    ·exact .inr ⟨h,.inl k⟩
    ·exact .inr ⟨h,.inr ⟨k,l⟩⟩
   ·rintro(h| ⟨h,k| ⟨k,l⟩⟩)
    ·exact .inl (.inl h)
    ·exact .inl (.inr ⟨h,k⟩)
    ·exact .inr ⟨⟨h,k⟩,l⟩
def FU{α:Type} [DecidableEq α]:∀(l1 l2:List α),l1.Nodup->(∀x∈l1,x∈l2)->l1.length<=l2.length
 | [],_,_,_=>by simp
 | a::t,l2,hn,hs=>by
   obtain⟨h1,h2⟩:=Hz.1 hn;have ha:=hs a (Bh ..);have ih:=FU t (l2.erase a) h2 (λx hx=>(List.mem_erase_of_ne (λe:x=a=>h1 (by rw [<-e];exact hx))).2 (hs x (BH _ hx)));rw [List.length_erase_of_mem ha]at ih;have:=List.length_pos_of_mem ha;rw [BB];omega
section
variable{X:Nat->Prop}{L:Nat}{s:St}{items:List Kv}
def Ox.up(h:Ox X L s items):rE items:=by
 rcases h.tree with⟨_,h2,_⟩| ⟨_,_,T,_⟩
 ·rw [h2];exact List.Pairwise.nil
 ·exact T.up h.ok
def SG{k:List UInt8}(h:Jv k=true):k.length%2=0/\k.all DK=true:=by
 unfold Jv at h;rw [Bool.and_eq_true,decide_eq_true_eq]at h;exact h
def Xk(kv:Kv):It:=Ak4 (pairs kv.1,kv.2)
def yM(l:List UInt8):(⟨l.toArray⟩:ByteArray).toList=l:=by rw [ByteArray.toList_eq]
def rY(kv:Kv):(Xk kv).k.toList=pairs kv.1:=yM _
def Aop(h:Ox X L s items):Ahq s=some (items.map Xk):=by
 obtain⟨met,h1,_⟩:=PR h;unfold Ahq;rw [h1];simp only [Option.map_some,Gp];rfl
def Aoq(h:Ox X L s items):Up (items.map Xk):=by
 unfold Up;rw [List.pairwise_map];refine h.up.imp_of_mem λ{a b}ha hb hab=> ?_
 obtain⟨a1,a2⟩:=SG (h.even a ha);obtain⟨b1,b2⟩:=SG (h.even b hb);unfold Ags;rw [rY,rY,bn _ _ a1 b1 a2 b2];exact hab
def Aor{sh:Sh}(hL:L<=1024)(hs:shapeOf L=some sh):Av1 L (st0 sh) []:=by
 have hok:=FK hs;have htk:∀i,GY (st0 sh) i=0:=λi=>by
  unfold GY st0;simp only [Bi,IB];split<;>rfl
 have hhd:∀i,hdN (st0 sh) i=0:=λi=>by
  unfold hdN st0;simp only [Bi,IB];split<;>rfl
 have hws:∀i,8<=i->(st0 sh).ws i=0:=λi hi=>by
  show BO (λ_=>0) 0 (wordsOf sh) i=0;unfold BO;rw [if_neg];simp [wordsOf,headW];omega
 have hnt:∀o d,¬AO (st0 sh) o d:=λo d=>by
  rintro⟨i,a,_,ha,_⟩;rw [htk,EJ]at ha;cases ha
 refine⟨⟨hok,hL,by simp [st0],by simp [st0],λi _=> .inl (htk i),λi _=> .inl (hhd i),λi _=> .inl (htk i),λi a _ ha=> ?_,λi _=> ?_⟩,λo d=> ?_,.inl ⟨hws 9 U,rfl,λo=>⟨λ⟨d,hd⟩=>hnt o d hd,λh=>h.elim⟩⟩,λ_ h=>by cases h⟩
 ·rw [htk,EJ]at ha;cases ha
 ·rw [hws _ O];show _=(List.replicate sh.BM (0:UInt64)).getD i 0;simp only [Bi,IB];split<;>rfl
 ·rintro⟨i,a,_,ha,_⟩;rw [hhd,EJ]at ha;cases ha
end
inductive Dt(s:St):UInt64->List Lk->Prop
 | nil:Dt s 0 []
 | cons(o:Nat)(r:Rc)(l:List Lk):AO s o 1->Eb r=true->wordsAt s.ws (o/8) 8=Dj r->Dt s r.next l->(∀k∈l,k.rc.stamp.toNat<r.stamp.toNat)->Dt s (Aw o) (⟨o,r⟩::l)
def Et(l:List Lk):List Nat:=l.map (·.off.toNat)
section
variable{L:Nat}{s s':St}
def VH{v:UInt64}{l:List Lk}(h:Dt s v l)(hv:v≠0):l≠[]:=by
 cases h with
 | nil=>exact absurd rfl hv
 | cons=>simp
def Dt.taken{v:UInt64}{l:List Lk}(h:Dt s v l):∀o∈Et l,AO s o 1:=by
 induction h with
 | nil=>intro o ho;cases ho
 | cons o r l ht _ _ _ _ ih=>
   intro p hp;unfold Et at hp;rw [List.map_cons,CJ]at hp;rcases hp with rfl| hp
   ·exact ht
   ·exact ih p hp
def Dt.keep{v:UInt64}{l:List Lk}(h:Dt s v l){B:Nat->Prop}(k:FB s s' B)(hb:∀o∈Et l,B o):Dt s' v l:=by
 induction h with
 | nil=>exact .nil
 | cons o r l ht hr hw _ hs ih=>
   obtain⟨h1,h2⟩:=k o 1 (hb o (Bh ..)) ht;refine .cons o r l h1 hr ?_ (ih (λp hp=>hb p (BH _ hp))) hs;have:=U8 (o:=o) (c:=1) h2;rw [show 8*Bf 1=8 from rfl]at this;rw [this,hw]
def Dt.nodup{v:UInt64}{l:List Lk}(h:Dt s v l):(Et l).Nodup/\∀k∈l,wordsAt s.ws (k.off.toNat/8) 8=Dj k.rc/\Eb k.rc=true:=by
 induction h with
 | nil=>exact⟨UT,λ_ h=>nomatch h⟩
 | cons o r l ht hr hw _ hs ih=>
   refine⟨Hz.2 ⟨λhm=> ?_,ih.1⟩,λk hk=> ?_⟩
   ·obtain⟨k,hk,e⟩:=Ba.1 hm;obtain⟨h1,h2⟩:=ih.2 k hk;have e1:Dj k.rc=Dj r:=by
     rw [<-h1,<-hw];have:k.off.toNat=o:=e;rw [this]
    have e2:k.rc=r:=by rw [<-Uj k.rc h2,e1,Uj r hr]
    have:=hs k hk;rw [e2]at this;omega
   ·rcases CJ.1 hk with rfl| hk
    ·exact⟨hw,hr⟩
    ·exact ih.2 k hk
def Dt.list(ok:Bz L s){v:UInt64}{l:List Lk}(h:Dt s v l):∀(f:Nat)(acc:List Lk),l.length<f->(∀k∈l,k.rc.stamp.toNat<EG acc)->OM s f v acc=some (acc++l):=by
 induction h with
 | nil=>
   intro f acc hf _;cases f with
   | zero=>exact absurd hf (Ajb _)
   | succ f=>unfold OM;rw [if_pos U,List.append_nil]
 | cons o r l ht hr hw _ hs ih=>
   intro f acc hf hst;have hb:=ht.bounds ok;have h1:=ok.sh.Le;have h2:=ok.L1;cases f with
   | zero=>exact absurd hf (Ajb _)
   | succ f=>
     unfold OM;rw [if_neg (by rw [DU O];omega),MV O,ht.class ok,if_neg Θ,Int.toNat_natCast,hw,Abw r hr];simp only;have h3:r.stamp.toNat<EG acc:=hst _ (Bh ..);have e:=ih f (acc++([⟨(o:Int),r⟩]:List Lk)) (by simpa using hf) (λk hk=>by
      have:=hs k hk;unfold EG;rw [List.getLast?_append,List.getLast?_singleton,Option.some_or];exact this)
     rw [if_neg O,e,List.append_assoc];rfl
end
section
variable{X:Nat->Prop}{L:Nat}{s:St}{items:List Kv}
def Ox.congr{Y:Nat->Prop}(h:Ox X L s items)(e:∀o,X o<->Y o):Ox Y L s items:=by
 have:X=Y:=funext λo=>propext (e o)
 exact this▸h
def Aht(h:Ox X L s items)(r:Rc)(hr:Eb r=true):
 IZ s r=(s,0,6)\/∃s1 o,IZ s r=(s1,Aw o,0)/\(∀off t,CO s 1=some (off,t)->(Ib {t with ws:=BO t.ws (off/8) (Dj r)} off).2=0)/\¬(∃d,AO s o d)/\¬X o/\o<=65536/\0<o/\AO s1 o 1/\wordsAt s1.ws (o/8) 8=Dj r/\
  Ox (λp=>X p\/p=o) L s1 items/\FB s s1 (λ_=>True)/\s1.sh=s.sh/\∀j,j<16->s1.ws j=s.ws j:=by
 unfold IZ;rw [if_neg (by rw [hr];simp)];cases hres:CO s 1 with
 | none=>exact .inl rfl
 | some p=>
   obtain⟨off,t⟩:=p;right;obtain⟨ok1,hw1,aY,TJ,hh1,_,hh2,ht1⟩:=Oi h.ok (.inl rfl) hres;have hb1:=hh1.bounds ok1;have htf:=ok1.sh.Le;have hL1:=h.ok.L1;have hlen:=Iw r;have hl1:Bf 1=1:=rfl;have hput:∀i,¬GR off 1 i->BO t.ws (off/8) (Dj r) i=t.ws i:=λi hi=>by
    unfold BO;rw [if_neg];intro h;exact hi ⟨h.1,by rw [hlen]at h;omega⟩
   have hnot:∀i,i<16+t.sh.BM->¬GR off 1 i:=λi hi h=>by
    unfold GR at h;omega
   obtain⟨t',ht'⟩:∃t',t'=({t with ws:=BO t.ws (off/8) (Dj r)}:St):=⟨_,rfl⟩;have UA:Bz L t':=ht'▸ok1.words (λi hi=>hput _ (hnot _ O));have lC:EK t' off 1:=by rw [ht'];exact hh1
   obtain⟨s2,e2,ok2,hsh2,hw2,ht2,Ahh⟩:=YI UA lC;have rF:t'.sh=t.sh:=by rw [ht']
   have ht1':∀o d,AO t' o d<->AO s o d:=λo d=>by rw [ht'];exact ht1 o d
   have hkeep:FB s s2 (λ_=>True):=λo c _ ht=>by
    have TZ:=(ht1' o c).2 ht;obtain⟨hne,hap⟩:=Kq UA lC TZ;have jI:=TZ.bounds UA;refine⟨(ht2 o c).2 (.inl TZ),λi hi=> ?_⟩;rw [hw2 i (.inr (UA.DF jI.1 hi)),ht'];show BO t.ws (off/8) (Dj r) i=_;rw [hput i (λh=>MS hap hb1.2.2 jI.2.2 h hi),hw1]
   have hnew:¬∃d,AO s off d:=λ⟨d,hd⟩=>(Kq UA lC ((ht1' off d).2 hd)).1 rfl
   have hlow:∀j,j<16->s2.ws j=s.ws j:=λj hj=>by
    rw [hw2 j (.inl hj),ht'];show BO t.ws (off/8) (Dj r) j=_;rw [hput j (hnot j O),hw1]
   have htk:∀o,(∃d,AO s2 o d)<->(∃d,AO s o d)\/o=off:=λo=>by
    constructor
    ·rintro⟨d,hd⟩;rcases(ht2 o d).1 hd with h1| ⟨h1,_⟩
     ·exact .inl ⟨d,(ht1' o d).1 h1⟩
     ·exact .inr h1
    ·rintro(⟨d,hd⟩| rfl)
     ·exact⟨d,(ht2 o d).2 (.inl ((ht1' o d).2 hd))⟩
     ·exact⟨1,(ht2 _ _).2 (.inr ⟨rfl,rfl⟩)⟩
   have hXt:∀o,X o->∃d,AO s o d:=λo ho=>by
    rcases h.tree with⟨_,_,h3⟩| ⟨_,_,_,_,_,h3⟩
    ·exact(h3 o).2 ho
    ·exact(h3 o).2 (.inr ho)
   rw [ht']at e2;refine⟨s2,off,by simp only [e2,if_true],λoff' t2 e=> ?_,hnew,λhx=>hnew (hXt off hx),O,O,(ht2 _ _).2 (.inr ⟨rfl,rfl⟩),?_,⟨ok2,λo d hh=> ?_,?_,h.even⟩,hkeep,by rw [hsh2,rF,aY],hlow⟩
   ·injection e with e
    injection e with e3 e4
    subst e3;subst e4;rw [e2]
   ·refine List.ext_getElem (by simp [wordsAt,hlen]) λi h1 h2=> ?_
    have hil:i<8:=by simpa [wordsAt]using h1
    rw [FC,hw2 _ (.inr (UA.DF (by rw [rF];exact hb1.1) (c:=1) ⟨O,O⟩)),ht'];show BO t.ws (off/8) (Dj r) (off/8+i)=_;unfold BO;rw [if_pos ⟨O,O⟩,Nat.add_sub_cancel_left,Bi,Af h2];rfl
   ·obtain⟨h1,h2⟩:=(Ahh o d).1 hh;rw [ht']at h1;rcases hh2 o d h1 with h3| h3
    ·exact h.nh o d h3
    ·exact h2 h3
   ·rcases h.tree with⟨h1,h2,h3⟩| ⟨bl,h1,h2,h3,hX,h4⟩
    ·exact .inl ⟨by rw [hlow 9 U,h1],h2,λo=>by rw [htk o,h3 o]⟩
    ·refine .inr ⟨bl,by rw [hlow 9 U];exact h1,by rw [hlow 9 U];exact h2.keep h.ok ok2 hkeep (λ_ _=>trivial),h3,λo ho hx=> ?_,λo=>by rw [htk o,h4 o,or_assoc]⟩;rcases hx with hx| rfl
     ·exact hX o ho hx
     ·exact hnew ((h4 _).2 (.inl ho))
def yN(h:Ox X L s items){o:Nat}(ho:X o):∃s1,IE s o=(s1,0)/\Ox (λp=>X p/\p≠o) L s1 items/\FB s s1 (λp=>p≠o)/\s1.sh=s.sh/\∀j,j<16->s1.ws j=s.ws j:=by
 have hXt:∃d,AO s o d:=by
  rcases h.tree with⟨_,_,h3⟩| ⟨_,_,_,_,_,h3⟩
  ·exact(h3 o).2 ho
  ·exact(h3 o).2 (.inr ho)
 obtain⟨c,ht⟩:=hXt;obtain⟨s1,e1,ok1,sh1,hd1,Y5,tk1⟩:=YJ h.ok ht;have hkeep:FB s s1 (λp=>p≠o):=λp d hp hpt=>⟨(tk1 p d).2 ⟨hpt,hp⟩,λj hj=>Y5 j (.inr (h.ok.DF (hpt.bounds h.ok).1 hj))⟩
 have htk:∀p,(∃d,AO s1 p d)<->(∃d,AO s p d)/\p≠o:=λp=>by
  constructor
  ·rintro⟨d,hd⟩;obtain⟨h1,h2⟩:=(tk1 p d).1 hd;exact⟨⟨d,h1⟩,h2⟩
  ·rintro⟨⟨d,hd⟩,h2⟩;exact⟨d,(tk1 p d).2 ⟨hd,h2⟩⟩
 refine⟨s1,e1,⟨ok1,λp d hh=>h.nh p d ((PQ hd1 sh1 p d).1 hh),?_,h.even⟩,hkeep,sh1,λj hj=>Y5 j (.inl hj)⟩;rcases h.tree with⟨h1,h2,h3⟩| ⟨bl,h1,h2,h3,hX,h4⟩
 ·exact .inl ⟨by rw [Y5 9 (.inl U),h1],h2,λp=>by rw [htk p,h3 p]⟩
 ·have hno:∀p∈bl,p≠o:=λp hp e=>hX p hp (e▸ho)
  refine .inr ⟨bl,by rw [Y5 9 (.inl U)];exact h1,by rw [Y5 9 (.inl U)];exact h2.keep h.ok ok1 hkeep hno,h3,λp hp hx=>hX p hp hx.1,λp=> ?_⟩;rw [htk p,h4 p];constructor
  ·rintro⟨h5| h5,h6⟩
   ·exact .inl h5
   ·exact .inr ⟨h5,h6⟩
  ·rintro(h5| ⟨h5,h6⟩)
   ·exact⟨.inl h5,hno p h5⟩
   ·exact⟨.inr h5,h6⟩
end
def Ahu{len:Mode}{w:World}{x d p L:Nat}{s:St}{F:Nat->Prop}(h:Jd len w x d p L s F):Calls prog 38 #[Az x] w λe w'=>η w w'/\match Ahq s with
 | none=>e= .returned (.tuple #[.slice none 0 0,.int .i64 5])
 | some l=>∃A c,e= .returned (.tuple #[.slice A l.length c,.int .i64 0])/\l.length<=c/\ItR w' A l/\l.length<=65537/\∀a,A=some a->w.heap.size<=a.block:=by
 refine(Tv h).mono ?_;rintro e w1⟨hb,hp⟩;refine⟨hb,?_⟩;unfold Ahq;cases hs:DJ s with
 | none=>rw [hs]at hp;exact hp
 | some im=>
   obtain⟨i2,m2⟩:=im;rw [hs]at hp;obtain⟨v,he,hi,hl⟩:=hp;unfold Aaz at hi;rw [Aoo,show i2.length=(i2.map Ak4).length by simp]at hi;have hn:∀A n c,v= .slice A n c->∀a,A=some a->w.heap.size<=a.block:=λA n c e1 a ea=>by
    rcases hi.2 with⟨h1,_⟩| ⟨g,cap,cur,h1,h2,_⟩
    ·rw [h1,ea]at e1;cases e1
    ·rw [h1,ea]at e1;injection e1 with e1
     injection e1 with e1
     rw [<-e1];exact h2
   obtain⟨A,c,hv,hc,hr⟩:=Ak5 hi;subst hv;exact⟨A,c,he,hc,hr,by simpa using hl,hn _ _ _ rfl⟩
def iR{w:World}{base base' k n:Nat}{e:TypeId}{v:Value}{xs:List Value}(h:w.ownsRow base e k v n xs)(hb:base'<=base):w.ownsRow base' e k v n xs:=
 ⟨h.1,h.2.imp id (λ⟨g,cap,cur,h1,h2,h3⟩=>⟨g,cap,cur,h1,Bc hb h2,h3⟩)⟩
