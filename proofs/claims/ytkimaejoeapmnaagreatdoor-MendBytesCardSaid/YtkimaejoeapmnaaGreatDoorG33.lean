import Derived.Deep.RegionHeldLaw
import Derived.Test.YtkimaejoeapmnaaGreatDoorG15
import Derived.Test.YtkimaejoeapmnaaGreatDoorG32
set_option maxHeartbeats 32000000
set_option maxRecDepth 100000
open Go.Lib renaming hid->Aa
open List renaming length_append->AQ,mem_map->Bf,getElem?_cons_zero->Aj,getElem?_cons_succ->Az,length_zip->QG,drop_eq_getElem_cons->Ea,getElem_zip->Adz,foldlM_cons->Ad0,getElem?_map->BZ,getElem?_eq_getElem->Af,length->Lr,drop_of_length_le->QL,nodup_nil->Ux,nodup_cons->Ht,mem_cons_self->Bq,mem_cons_of_mem->BO,getD_eq_getElem?_getD->Bh,getElem?_replicate->Iy,mem_cons->CZ
open Nat renaming le_of_lt->IC,lt_of_le_of_lt->Hq,le_trans->Bg,le_refl->Ad,not_lt_zero->Ahx
open UInt64 renaming toNat_inj->Eo,ofNat->AA
open Go.Value renaming int->Au
namespace Go.Proofs.YtkimaejoeapmnaaGreatDoor
open Go.RowKit
section
variable{len:Mode}{w w':World}{base sb mb x d p L:Nat}{s:St}{F:Nat->Prop}
theorem Ach(h:IX len w x d p L s F)(_:∀b,F b->b<base){items:List (List UInt8×UInt64)}{met:List Int}{v:Value}(hs:Ez w base sb mb x items met v)(f:Nat)(name:UInt64)(ahead:List UInt8)(A:Option Addr)(c:Nat)(hA:Le w A ahead)(hac:ahead.length<=c)(hal:ahead.length<=33)(nd:Nd)(hr:EZ s name=some nd)(hm:Bi name∉met)(QF:32<(ahead++nd.pre).length):
 Calls Tryz.prog 122 #[Aw sb,.int .u64 (name.toNat:Int),.slice A ahead.length c] w (MX (Dp s (f+1) name ahead (items,met)) base sb mb x w):=by
 have HP:Hid (Dp s (f+1) name ahead (items,met)=none):=Aa (by rw [Dp,hr];simp only;rw [if_pos (.inr QF)]);have ht:decide ((32:Int)<((ahead.length+nd.pre.length:Nat):Int))=true:=decide_eq_true (by rw [AQ]at QF;omega);have HR:=Aa (JL h name);have HRn:=Aa hr;have HS:=Aa hs;have HX:=Aa h;have hwr:IntKind.i64.wrap (name.toNat:Int)=Bi name:=rfl;have hbl:=(FM hr).1;have hbk:=(FM hr).2.1;have hbb:=(FM hr).2.2;have wZ:=Aa (Rj h hr);have HMt:=Aa hm;have y0:=hs.box.p1;have hbs:base<=w.heap.size:=IC (Hq hs.bs hs.box.lt);have SE:Hid (∀q∈met.map (fun o=>(o,(1:Int))),q.1≠Bi name):=Aa (fun q hq=>by
  obtain⟨o,ho,rfl⟩:=Bf.1 hq;exact fun e=>hm (e▸ho))
 have HA:=Aa hA;generalize Bi name=off at*;clear h hs hr hm hA;go_enter Tryz.func122,Tryz.ntmps122
 go_wp2_with fail
 refine HR.out.mono ?_;rintro e w1⟨hb1,hp1⟩;rw [HRn.out]at hp1;obtain⟨vn,rfl,hnd⟩:=hp1;obtain⟨A1,c1,A2,c2,A3,c3,rfl,o1,o2,o3⟩:=hnd;obtain⟨W2,hW2,GX,BN⟩:=FB w1 212 [.slice A1 nd.pre.length c1,.int .u64 (nd.val.toNat:Int),.slice A2 nd.labels.length c2,.slice A3 nd.kids.length c3];have hb2:Below w.heap.size w W2:=hb1.trans (GX.mono hb1.size);have S2:=HS.out.below hb2;have k1:=XT Tryz.JO Tryz.underlying3 Tryz.XY W2 mb _ off S2.map SE.out;have k2:=iO Tryz.JO Tryz.underlying3 W2 mb _ off 1 S2.map SE.out;rw [show met.map (fun o=>(o,(1:Int)))++[(off,1)]=(met++[off]).map (fun o=>(o,(1:Int)))by simp]at k2;obtain⟨S3,Uj,Gh⟩:=S2.note wZ.out HMt.out;obtain⟨W3,hW3⟩:∃W3,W3=Ey W2 mb (Ig 0 ((met++[off]).map fun o=>(o,1))).toArray ((met++[off]).map fun o=>(o,(1:Int))).length:=⟨_,rfl⟩;rw [<-hW3]at k2 S3 Uj Gh;have kT:=Uj.box BN;have yU:=(HA.out.keep (Dy.of_below hb2)).keep Uj;have HN3:Hid (Xc W3 w.heap.size (.agg #[.slice A1 nd.pre.length c1,.int .u64 (nd.val.toNat:Int),.slice A2 nd.labels.length c2,.slice A3 nd.kids.length c3]) nd):=Aa (Uj.nd ⟨_,_,_,_,_,_,rfl,own_below o1 GX,own_below o2 GX,own_below o3 GX⟩);have hpre:Rd W3 A1 nd.pre.length (nd.pre.map bv):=(CB (Uj.own (.inl rfl) (own_below o1 GX))).2;clear hW3;have z0:=S2.box.cell 0;have z2:=S2.box.cell 2;simp only [Aj,Az]at z0 z2;rw [hW2]at k1 k2 z0 z2;have HW2:=Aa hW2;clear y0 HR hW2
 go_wp2_with fail
 obtain⟨n0,n1,n2,n3, -⟩:=C9 kT;have HB3:=Aa ((hb2.mono hbs).trans Gh);have Oi:=Aa ((Dy.of_below hb2).trans Uj);have OC:=Aa S3;have HR3:=Aa yU;have je:=Aa hpre;have Uk:=Aa kT;clear k1 k2 z0 z2 hb1 GX hb2 S2 Uj Gh BN kT yU hpre o1 o2 o3 S3
 go_region_law(refine Jj rfl (.tmp 42) (.tmp 44) 22 rfl Tryz.Gi A ahead.length (ahead.map bv) (by simp [Act.eval]) (by exact HR3.out.1) (fun a e=>by obtain⟨g,_,_,e',_⟩:=HR3.out.2.1 a e;exact⟨g,e'⟩) (fun e=>by rw [HR3.out.2.2 e];rfl) A1 nd.pre.length c1 (nd.pre.map bv) (by simp [Act.eval]) (by exact je.out) (Gu _) (by omega) (by decide) ?_;intro A4 c4 w4 hc4 hr4 hb4 OZ)
 have Gz:Below W3.heap.size W3 w4:=((Dr.drew W3).below _).trans hb4;have HR4:Hid (Le w4 A4 (ahead++nd.pre)):=Aa (HR3.out.cut hr4 Gz OZ);have S4:=OC.out.below Gz;have xe:=Uk.out.below Gz Uk.out.lt;have HN4:=Aa (HN3.out.below Gz);have oh:=Aa (Oi.out.trans (Dy.of_below Gz));have HB4:=Aa (HB3.out.trans (Gz.mono (Bg hbs (by have:=HB3.out.size;exact this))));have k5:(Instr.lookup 172 (.map (some mb)) (.int .i64 off) false).run Tryz.prog w4= .ok (.int .i64 1) w4:=OQ Tryz.JO Tryz.underlying3 w4 mb (met.map fun o=>(o,(1:Int))) [] off 1 (by have:=S4.map;simpa using this) SE.out;obtain⟨z0,z1,z2⟩:=S4.box.p3;obtain⟨n0,n1,n2,n3, -⟩:=C9 xe;have kN:=Aa S4;have xg:=Aa xe;clear Gz hb4 OZ hr4 S4 xe OC HR3 je Uk HN3 Oi HB3 HA SE HS HMt;have ht2:(32:Int)<(ahead.length:Int)+(nd.pre.length:Int):=by simp at ht;omega
 go_wp2_with fail
 go_ret;refine⟨HB4.out,oh.out,?_⟩;rw [HP.out];rfl
theorem Aci(h:IX len w x d p L s F)(_:∀b,F b->b<base){items:List (List UInt8×UInt64)}{met:List Int}{v:Value}(hs:Ez w base sb mb x items met v)(f:Nat)(name:UInt64)(ahead:List UInt8)(A:Option Addr)(c:Nat)(hA:Le w A ahead)(hac:ahead.length<=c)(_:ahead.length<=33)(nd:Nd)(hr:EZ s name=some nd)(hm:Bi name∉met)(QF:¬32<(ahead++nd.pre).length)(hv:nd.val≠0)(hk:Jl (ahead++nd.pre)=false):
 Calls Tryz.prog 122 #[Aw sb,.int .u64 (name.toNat:Int),.slice A ahead.length c] w (MX (Dp s (f+1) name ahead (items,met)) base sb mb x w):=by
 have HP:Hid (Dp s (f+1) name ahead (items,met)=none):=Aa (by rw [Dp,hr];simp only;rw [if_neg (fun e=>e.elim (fun e=>hm (by simpa using e)) QF),if_pos ⟨hv,hk⟩]);rw [AQ]at QF;have ht2:¬(32:Int)<(ahead.length:Int)+(nd.pre.length:Int):=by omega
 have ht:decide ((32:Int)<((ahead.length+nd.pre.length:Nat):Int))=false:=decide_eq_false (by omega);have HKo:=Aa hk;have tv:((nd.val.toNat:Int)!=0)=true:=by
  rw [bne_iff_ne];intro e;exact hv (Eo.1 (by simp;omega))
 clear hk hv;have HR:=Aa (JL h name);have HRn:=Aa hr;have HS:=Aa hs;have HX:=Aa h;have hwr:IntKind.i64.wrap (name.toNat:Int)=Bi name:=rfl;have hbl:=(FM hr).1;have hbk:=(FM hr).2.1;have hbb:=(FM hr).2.2;have wZ:=Aa (Rj h hr);have HMt:=Aa hm;have y0:=hs.box.p1;have hbs:base<=w.heap.size:=IC (Hq hs.bs hs.box.lt);have SE:Hid (∀q∈met.map (fun o=>(o,(1:Int))),q.1≠Bi name):=Aa (fun q hq=>by
  obtain⟨o,ho,rfl⟩:=Bf.1 hq;exact fun e=>hm (e▸ho))
 have HA:=Aa hA;generalize Bi name=off at*;clear h hs hr hm hA;go_enter Tryz.func122,Tryz.ntmps122
 go_wp2_with fail
 refine HR.out.mono ?_;rintro e w1⟨hb1,hp1⟩;rw [HRn.out]at hp1;obtain⟨vn,rfl,hnd⟩:=hp1;obtain⟨A1,c1,A2,c2,A3,c3,rfl,o1,o2,o3⟩:=hnd;obtain⟨W2,hW2,GX,BN⟩:=FB w1 212 [.slice A1 nd.pre.length c1,.int .u64 (nd.val.toNat:Int),.slice A2 nd.labels.length c2,.slice A3 nd.kids.length c3];have hb2:Below w.heap.size w W2:=hb1.trans (GX.mono hb1.size);have S2:=HS.out.below hb2;have k1:=XT Tryz.JO Tryz.underlying3 Tryz.XY W2 mb _ off S2.map SE.out;have k2:=iO Tryz.JO Tryz.underlying3 W2 mb _ off 1 S2.map SE.out;rw [show met.map (fun o=>(o,(1:Int)))++[(off,1)]=(met++[off]).map (fun o=>(o,(1:Int)))by simp]at k2;obtain⟨S3,Uj,Gh⟩:=S2.note wZ.out HMt.out;obtain⟨W3,hW3⟩:∃W3,W3=Ey W2 mb (Ig 0 ((met++[off]).map fun o=>(o,1))).toArray ((met++[off]).map fun o=>(o,(1:Int))).length:=⟨_,rfl⟩;rw [<-hW3]at k2 S3 Uj Gh;have kT:=Uj.box BN;have yU:=(HA.out.keep (Dy.of_below hb2)).keep Uj;have HN3:Hid (Xc W3 w.heap.size (.agg #[.slice A1 nd.pre.length c1,.int .u64 (nd.val.toNat:Int),.slice A2 nd.labels.length c2,.slice A3 nd.kids.length c3]) nd):=Aa (Uj.nd ⟨_,_,_,_,_,_,rfl,own_below o1 GX,own_below o2 GX,own_below o3 GX⟩);have hpre:Rd W3 A1 nd.pre.length (nd.pre.map bv):=(CB (Uj.own (.inl rfl) (own_below o1 GX))).2;clear hW3;have z0:=S2.box.cell 0;have z2:=S2.box.cell 2;simp only [Aj,Az]at z0 z2;rw [hW2]at k1 k2 z0 z2;have HW2:=Aa hW2;clear y0 HR hW2
 go_wp2_with fail
 obtain⟨n0,n1,n2,n3, -⟩:=C9 kT;have HB3:=Aa ((hb2.mono hbs).trans Gh);have Oi:=Aa ((Dy.of_below hb2).trans Uj);have OC:=Aa S3;have HR3:=Aa yU;have je:=Aa hpre;have Uk:=Aa kT;clear k1 k2 z0 z2 hb1 GX hb2 S2 Uj Gh BN kT yU hpre o1 o2 o3 S3
 go_region_law(refine Jj rfl (.tmp 42) (.tmp 44) 22 rfl Tryz.Gi A ahead.length (ahead.map bv) (by simp [Act.eval]) (by exact HR3.out.1) (fun a e=>by obtain⟨g,_,_,e',_⟩:=HR3.out.2.1 a e;exact⟨g,e'⟩) (fun e=>by rw [HR3.out.2.2 e];rfl) A1 nd.pre.length c1 (nd.pre.map bv) (by simp [Act.eval]) (by exact je.out) (Gu _) (by omega) (by decide) ?_;intro A4 c4 w4 hc4 hr4 hb4 OZ)
 have Gz:Below W3.heap.size W3 w4:=((Dr.drew W3).below _).trans hb4;have HR4:Hid (Le w4 A4 (ahead++nd.pre)):=Aa (HR3.out.cut hr4 Gz OZ);have S4:=OC.out.below Gz;have xe:=Uk.out.below Gz Uk.out.lt;have HN4:=Aa (HN3.out.below Gz);have oh:=Aa (Oi.out.trans (Dy.of_below Gz));have HB4:=Aa (HB3.out.trans (Gz.mono (Bg hbs (by have:=HB3.out.size;exact this))));have k5:(Instr.lookup 172 (.map (some mb)) (.int .i64 off) false).run Tryz.prog w4= .ok (.int .i64 1) w4:=OQ Tryz.JO Tryz.underlying3 w4 mb (met.map fun o=>(o,(1:Int))) [] off 1 (by have:=S4.map;simpa using this) SE.out;obtain⟨z0,z1,z2⟩:=S4.box.p3;obtain⟨n0,n1,n2,n3, -⟩:=C9 xe;have kN:=Aa S4;have xg:=Aa xe;clear Gz hb4 OZ hr4 S4 xe OC HR3 je Uk HN3 Oi HB3 HA SE HS HMt;have HKy:=Alq A4 (ahead.length+nd.pre.length) c4 (ahead++nd.pre) w4 (by omega) (by have:=HR4.out.1;rw [AQ]at this;exact this) HKo.out;have HKy:=Aa HKy
 go_wp2_with fail
 refine HKy.out.mono ?_;rintro e w5⟨rfl,rfl⟩;clear HKy
 go_wp2_with fail
 go_ret;refine⟨HB4.out,oh.out,?_⟩;rw [HP.out];rfl
end
section
variable{len:Mode}{w w':World}{base sb mb x d p L:Nat}{s:St}{F:Nat->Prop}
theorem pV(h:IX len w x d p L s F)(hF:∀b,F b->b<base){items:List (List UInt8×UInt64)}{met:List Int}{v:Value}(hs:Ez w base sb mb x items met v)(f:Nat)(name:UInt64)(ahead:List UInt8)(A:Option Addr)(c:Nat)(hA:Le w A ahead)(hac:ahead.length<=c)(_:ahead.length<=33)(nd:Nd)(hr:EZ s name=some nd)(hm:Bi name∉met)(QF:¬32<(ahead++nd.pre).length)(hv:nd.val=0)(hxb:x<base)(htb:0<base/\1<base)(ih:∀(W:World)(kid:UInt64)(ah:List UInt8)(A:Option Addr)(c:Nat)(it:List (List UInt8×UInt64))(mt:List Int)(v:Value),IX len W x d p L s F->Ez W base sb mb x it mt v->Le W A ah->ah.length<=c->ah.length<=33->34<=f+ah.length->Calls Tryz.prog 122 #[Aw sb,.int .u64 (kid.toNat:Int),.slice A ah.length c] W (MX (Dp s f kid ah (it,mt)) base sb mb x W))(h34:34<=f+1+ahead.length):
 Calls Tryz.prog 122 #[Aw sb,.int .u64 (name.toNat:Int),.slice A ahead.length c] w (MX (Dp s (f+1) name ahead (items,met)) base sb mb x w):=by
 have HP:Hid (Dp s (f+1) name ahead (items,met)=(nd.labels.zip nd.kids).foldlM (fun(st:List (List UInt8×UInt64)×List Int)(lk:UInt8×UInt64)=>Dp s f lk.2 (ahead++nd.pre++[lk.1]) st) (items,met++[Bi name])):=Aa (by rw [Dp,hr];simp only;rw [if_neg (fun e=>e.elim (fun e=>hm (by simpa using e)) QF),if_neg (fun e=>e.1 hv),if_neg (fun e=>e hv)]);have Agd:=QF;rw [AQ]at Agd;have ht2:¬(32:Int)<(ahead.length:Int)+(nd.pre.length:Int):=by omega
 have ht:decide ((32:Int)<((ahead.length+nd.pre.length:Nat):Int))=false:=decide_eq_false (by omega);have tv:((nd.val.toNat:Int)!=0)=false:=by rw [hv];rfl
 have HLk:Hid (nd.labels.length=nd.kids.length):=Aa (by
  obtain⟨_,_,ok,FT⟩:=h.L0;exact((Bo _).1 (jh ok FT hr).1).2.2.1)
 have HVv:=Aa hv;clear hv;have HR:=Aa (JL h name);have HRn:=Aa hr;have HS:=Aa hs;have HX:=Aa h;have hwr:IntKind.i64.wrap (name.toNat:Int)=Bi name:=rfl;have hbl:=(FM hr).1;have hbk:=(FM hr).2.1;have hbb:=(FM hr).2.2;have wZ:=Aa (Rj h hr);have HMt:=Aa hm;have y0:=hs.box.p1;have hbs:base<=w.heap.size:=IC (Hq hs.bs hs.box.lt);have SE:Hid (∀q∈met.map (fun o=>(o,(1:Int))),q.1≠Bi name):=Aa (fun q hq=>by
  obtain⟨o,ho,rfl⟩:=Bf.1 hq;exact fun e=>hm (e▸ho))
 have HA:=Aa hA;generalize Bi name=off at*;clear h hs hr hm hA;go_enter Tryz.func122,Tryz.ntmps122
 go_wp2_with fail
 refine HR.out.mono ?_;rintro e w1⟨hb1,hp1⟩;rw [HRn.out]at hp1;obtain⟨vn,rfl,hnd⟩:=hp1;obtain⟨A1,c1,A2,c2,A3,c3,rfl,o1,o2,o3⟩:=hnd;obtain⟨W2,hW2,GX,BN⟩:=FB w1 212 [.slice A1 nd.pre.length c1,.int .u64 (nd.val.toNat:Int),.slice A2 nd.labels.length c2,.slice A3 nd.kids.length c3];have hb2:Below w.heap.size w W2:=hb1.trans (GX.mono hb1.size);have S2:=HS.out.below hb2;have k1:=XT Tryz.JO Tryz.underlying3 Tryz.XY W2 mb _ off S2.map SE.out;have k2:=iO Tryz.JO Tryz.underlying3 W2 mb _ off 1 S2.map SE.out;rw [show met.map (fun o=>(o,(1:Int)))++[(off,1)]=(met++[off]).map (fun o=>(o,(1:Int)))by simp]at k2;obtain⟨S3,Uj,Gh⟩:=S2.note wZ.out HMt.out;obtain⟨W3,hW3⟩:∃W3,W3=Ey W2 mb (Ig 0 ((met++[off]).map fun o=>(o,1))).toArray ((met++[off]).map fun o=>(o,(1:Int))).length:=⟨_,rfl⟩;rw [<-hW3]at k2 S3 Uj Gh;have kT:=Uj.box BN;have yU:=(HA.out.keep (Dy.of_below hb2)).keep Uj;have HN3:Hid (Xc W3 w.heap.size (.agg #[.slice A1 nd.pre.length c1,.int .u64 (nd.val.toNat:Int),.slice A2 nd.labels.length c2,.slice A3 nd.kids.length c3]) nd):=Aa (Uj.nd ⟨_,_,_,_,_,_,rfl,own_below o1 GX,own_below o2 GX,own_below o3 GX⟩);have hpre:Rd W3 A1 nd.pre.length (nd.pre.map bv):=(CB (Uj.own (.inl rfl) (own_below o1 GX))).2;clear hW3;have z0:=S2.box.cell 0;have z2:=S2.box.cell 2;simp only [Aj,Az]at z0 z2;rw [hW2]at k1 k2 z0 z2;have HW2:=Aa hW2;clear y0 HR hW2
 go_wp2_with fail
 obtain⟨n0,n1,n2,n3, -⟩:=C9 kT;have HB3:=Aa ((hb2.mono hbs).trans Gh);have Oi:=Aa ((Dy.of_below hb2).trans Uj);have OC:=Aa S3;have HR3:=Aa yU;have je:=Aa hpre;have Uk:=Aa kT;clear k1 k2 z0 z2 hb1 GX hb2 S2 Uj Gh BN kT yU hpre o1 o2 o3 S3
 go_region_law(refine Jj rfl (.tmp 42) (.tmp 44) 22 rfl Tryz.Gi A ahead.length (ahead.map bv) (by simp [Act.eval]) (by exact HR3.out.1) (fun a e=>by obtain⟨g,_,_,e',_⟩:=HR3.out.2.1 a e;exact⟨g,e'⟩) (fun e=>by rw [HR3.out.2.2 e];rfl) A1 nd.pre.length c1 (nd.pre.map bv) (by simp [Act.eval]) (by exact je.out) (Gu _) (by omega) (by decide) ?_;intro A4 c4 w4 hc4 hr4 hb4 OZ)
 have Gz:Below W3.heap.size W3 w4:=((Dr.drew W3).below _).trans hb4;have HR4:Hid (Le w4 A4 (ahead++nd.pre)):=Aa (HR3.out.cut hr4 Gz OZ);have S4:=OC.out.below Gz;have xe:=Uk.out.below Gz Uk.out.lt;have HN4:=Aa (HN3.out.below Gz);have oh:=Aa (Oi.out.trans (Dy.of_below Gz));have HB4:=Aa (HB3.out.trans (Gz.mono (Bg hbs (by have:=HB3.out.size;exact this))));have k5:(Instr.lookup 172 (.map (some mb)) (.int .i64 off) false).run Tryz.prog w4= .ok (.int .i64 1) w4:=OQ Tryz.JO Tryz.underlying3 w4 mb (met.map fun o=>(o,(1:Int))) [] off 1 (by have:=S4.map;simpa using this) SE.out;obtain⟨z0,z1,z2⟩:=S4.box.p3;obtain⟨n0,n1,n2,n3, -⟩:=C9 xe;have kN:=Aa S4;have xg:=Aa xe;clear Gz hb4 OZ hr4 S4 xe OC HR3 je Uk HN3 Oi HB3 HA SE HS HMt;generalize hn4:ahead.length+nd.pre.length=n4 at*;have NM:=Aa hn4;clear hn4;obtain⟨wl,hwl⟩:∃wl,wl=w4:=⟨_,rfl⟩;rw [<-hwl]at kN oh HB4 HR4 HN4 xg k5 z0 z1 z2 n0 n1 n2 n3⊢;clear hwl;have HSl:=kN;have jd:=HB4;have HKl:=oh;have HRl:=HR4;have pW:=HN4;have Acj:=xg
 go_wp2_with fail
 go_loopw [84](fun i wr=>∃(k:Nat)(it:List (List UInt8×UInt64))(mt:List Int)(vk:Value),k<=nd.kids.length/\i= .int .i64 (k:Nat)/\Ez wr base sb mb x it mt vk/\Dy wl wr/\Below base wl wr/\((nd.labels.zip nd.kids).drop k).foldlM (fun(st:List (List UInt8×UInt64)×List Int)(lk:UInt8×UInt64)=>Dp s f lk.2 (ahead++nd.pre++[lk.1]) st) (it,mt)=Dp s (f+1) name ahead (items,met))(fun i _=>nd.kids.length- (intOf i).toNat)
 case atStart=>exact⟨0,_,_,_,Nat.zero_le _,rfl,HSl.out,Dy.refl _,Below.refl _ _,by rw [HP.out];rfl⟩
 case round=>
  obtain⟨k,it,mt,vk,hk,rfl,hsr,hkr,hbr,hfd⟩:=hrel;have HSr:=Aa hsr;have xh:=Aa hkr;have Ob:=Aa hbr;have HFd:=Aa hfd;clear hsr hkr hbr hfd n0 n1 n2 n3;by_cases hlt:k<nd.kids.length
  ·have hll:k<nd.labels.length:=by rw [HLk.out];exact hlt
   have hzl:k<(nd.labels.zip nd.kids).length:=by rw [QG];omega
   have hdz:(nd.labels.zip nd.kids).drop k=(nd.labels[k],nd.kids[k])::(nd.labels.zip nd.kids).drop (k+1):=by
    rw [Ea hzl,Adz]
   have xk:=HFd.out;rw [hdz,Ad0]at xk;obtain⟨_,_,_,_,_,_,eN,p1,p2,p3⟩:=xh.out.nd pW.out;simp only [Value.agg.injEq]at eN;simp at eN;obtain⟨⟨rfl,rfl⟩,⟨rfl,rfl⟩,⟨rfl,rfl⟩⟩:=eN;obtain⟨kb,ko,rfl,hkb,hkc⟩:=(CB p3).2.2 (by omega);obtain⟨lb,lo,rfl,hlb,hlc⟩:=(CB p2).2.2 (by omega);have xm:=hkc k hlt;rw [BZ,Af hlt]at xm;replace xm:_=some (Au .u64 (nd.kids[k].toNat:Int)):=xm;have jK:=hlc k hll;rw [BZ,Af hll]at jK;replace jK:_=some (Au .u8 (nd.labels[k].toNat:Int)):=jK;generalize nd.kids[k]=kid at*;generalize nd.labels[k]=lab at*;have Agf:=Aa xk;obtain⟨n0,n1,n2,n3, -⟩:=C9 (xh.out.box Acj.out);have pX:=Aa (HRl.out.keep xh.out);have Vb:Hid (∀W,Dy wr W->W.cell? ⟨w1.heap.size,2,none⟩=some (.slice (some ⟨lb,lo,none⟩) nd.labels.length c2)/\W.cell? ⟨lb,lo+k,none⟩=some (.int .u8 (lab.toNat:Int))):=Aa (fun W hW=>by
    refine⟨(C9 (hW.box (xh.out.box Acj.out))).2.2.1,?_⟩;obtain⟨b',o',e',_,hc'⟩:=(CB (hW.own (.inl rfl) p2)).2.2 (by omega);injection e' with e'
    injection e' with e1 e2
    subst e1 e2;rw [hc' k hll,<-hlc k hll];exact jK)
   have HIH:=Aa (fun(W:World)(hW:Below wr.heap.size wr W)(A6:Option Addr)(c6:Nat)(XD:Le W A6 (ahead++nd.pre++[lab]))(hc6:n4+1<=c6)=>ih W kid (ahead++nd.pre++[lab]) A6 c6 it mt vk (HX.out.past ((jd.out.trans Ob.out).trans (hW.mono (Bg hbs (Bg jd.out.size Ob.out.size)))) hF hxb htb) (HSr.out.below hW) XD (by have:=NM.out;simp;omega) (by simp at QF⊢;omega) (by simp;omega));rw [show(ahead++nd.pre++[lab]).length=n4+1 by have:=NM.out;simp;omega]at HIH;have hx1:(k:Int)<(nd.kids.length:Int):=by omega
   have hx2:decide ((k:Int)<(nd.kids.length:Int))=true:=decide_eq_true hx1;have hx3:(k:Int)<(nd.labels.length:Int):=by omega
   have hx4:decide ((k:Int)<(nd.labels.length:Int))=true:=decide_eq_true hx3;have hwk:IntKind.i64.wrap ((k:Int)+1)=(k:Int)+1:=wrap64 _ (by omega) (by omega);clear hkc hlc p1 p2 p3 hdz hzl xk
   go_wp2_with fail
   cases hv:Dp s f kid (ahead++nd.pre++[lab]) (it,mt)with
   | none=>
     have HT:Hid (Dp s (f+1) name ahead (items,met)=none):=Aa (by rw [<-Agf.out];simp only [hv];rfl);rw [hv]at HIH;clear hv
     go_region_held_law(fun w'=>w'.cell? ⟨w1.heap.size,2,none⟩=some (.slice (some ⟨lb,lo,none⟩) nd.labels.length c2)/\w'.cell? ⟨lb,lo+k,none⟩=some (.int .u8 (lab.toNat:Int)))(first| go_keep| exact Vb.out _ ((Dy.of_below hb6).trans xn)| exact Vb.out _ (Dy.of_below hb6))
      (first
      | (refine L9 rfl (.tmp 96) (.tmp 102) 22 rfl Tryz.Gi wr A4 n4 ((ahead++nd.pre).map bv) (by simp [Act.eval]) (by have:=pX.out.1;rw [AQ,NM.out]at this;exact this) (fun a e=>by obtain⟨g,_,_,e',_⟩:=pX.out.2.1 a e;exact⟨g,e'⟩) (fun e=>by have:=congrArg Lr (pX.out.2.2 e);rw [AQ,NM.out]at this;exact this) (.int .u8 (lab.toNat:Int)) rfl rfl rfl rfl wr.heap.size 1 (by simp [Act.eval]) rfl rfl (by have:=NM.out;omega) (by decide) ?_;intro A6 c6 w6 hc6 XD hb6 RQ;have RS:Le w6 A6 (ahead++nd.pre++[lab]):=pX.out.cut (by rw [AQ,NM.out];exact XD) hb6 RQ)
      | (go_at_call 122;refine(HIH.out w6 hb6 A6 c6 RS hc6).mono ?_;rintro e w7⟨hb7,xn,hp7⟩;replace hp7:e= .returned (.int .i64 5):=hp7;subst hp7))
     all_goals(have HBf:=Aa ((jd.out.trans Ob.out).trans ((hb6.mono (Bg hbs (Bg jd.out.size Ob.out.size))).trans hb7)))
     all_goals(have HKf:=Aa (((HKl.out.trans xh.out).trans (Dy.of_below hb6)).trans xn))
     all_goals(clear hb6 hb7 xn XD RQ RS)
     all_goals(go_wp2_with fail)
     all_goals(go_ret)
     all_goals(refine⟨HBf.out,HKf.out,?_⟩)
     all_goals(rw [HT.out])
     all_goals rfl
   | some im=>
     obtain⟨i2,m2⟩:=im;have Am4:Hid (((nd.labels.zip nd.kids).drop (k+1)).foldlM (fun(st:List (List UInt8×UInt64)×List Int)(lk:UInt8×UInt64)=>Dp s f lk.2 (ahead++nd.pre++[lk.1]) st) (i2,m2)=Dp s (f+1) name ahead (items,met)):=Aa (by rw [<-Agf.out];simp only [hv];rfl);rw [hv]at HIH;clear hv
     go_region_held_law(fun w'=>w'.cell? ⟨w1.heap.size,2,none⟩=some (.slice (some ⟨lb,lo,none⟩) nd.labels.length c2)/\w'.cell? ⟨lb,lo+k,none⟩=some (.int .u8 (lab.toNat:Int)))(first| go_keep| exact Vb.out _ ((Dy.of_below hb6).trans xn)| exact Vb.out _ (Dy.of_below hb6))
      (first
      | (refine L9 rfl (.tmp 96) (.tmp 102) 22 rfl Tryz.Gi wr A4 n4 ((ahead++nd.pre).map bv) (by simp [Act.eval]) (by have:=pX.out.1;rw [AQ,NM.out]at this;exact this) (fun a e=>by obtain⟨g,_,_,e',_⟩:=pX.out.2.1 a e;exact⟨g,e'⟩) (fun e=>by have:=congrArg Lr (pX.out.2.2 e);rw [AQ,NM.out]at this;exact this) (.int .u8 (lab.toNat:Int)) rfl rfl rfl rfl wr.heap.size 1 (by simp [Act.eval]) rfl rfl (by have:=NM.out;omega) (by decide) ?_;intro A6 c6 w6 hc6 XD hb6 RQ;have RS:Le w6 A6 (ahead++nd.pre++[lab]):=pX.out.cut (by rw [AQ,NM.out];exact XD) hb6 RQ)
      | (go_at_call 122;refine(HIH.out w6 hb6 A6 c6 RS hc6).mono ?_;rintro e w7⟨hb7,xn,hp7⟩;obtain⟨he7,v7,hs7⟩:=(hp7:e= .returned (.int .i64 0)/\∃v',Ez w7 base sb mb x i2 m2 v');subst he7))
     all_goals(have HBf:=Aa (Ob.out.trans ((hb6.mono (Bg hbs (Bg jd.out.size Ob.out.size))).trans hb7)))
     all_goals(have HKf:=Aa ((xh.out.trans (Dy.of_below hb6)).trans xn))
     all_goals(have HSf:=Aa hs7)
     all_goals(clear hb6 hb7 xn XD RQ RS hs7)
     all_goals(go_wp2_with fail)
     all_goals(go_roundw)
     all_goals first
      | (case rel=>exact⟨k+1,i2,m2,v7,by omega,by go_num,HSf.out,HKf.out,HBf.out,Am4.out⟩)
      | (case measure=>simp [intOf];omega)
  ·have hkn:k=nd.kids.length:=by omega
   have HT:Hid (Dp s (f+1) name ahead (items,met)=some (it,mt)):=Aa (by
    rw [<-HFd.out,QL (by rw [QG];omega)];rfl)
   have HBf:=Aa (jd.out.trans Ob.out);have HKf:=Aa (HKl.out.trans xh.out);subst hkn;clear ih
   go_wp2_with fail
   go_ret;refine⟨HBf.out,HKf.out,?_⟩;rw [HT.out];exact⟨rfl,vk,HSr.out⟩
end
section
variable{len:Mode}{w w':World}{base sb mb x d p L:Nat}{s:St}{F:Nat->Prop}
theorem pY(h:IX len w x d p L s F)(hF:∀b,F b->b<base){items:List (List UInt8×UInt64)}{met:List Int}{v:Value}(hs:Ez w base sb mb x items met v)(f:Nat)(name:UInt64)(ahead:List UInt8)(A:Option Addr)(c:Nat)(hA:Le w A ahead)(hac:ahead.length<=c)(_:ahead.length<=33)(nd:Nd)(hr:EZ s name=some nd)(hm:Bi name∉met)(QF:¬32<(ahead++nd.pre).length)(hv:nd.val≠0)(hkk:Jl (ahead++nd.pre)=true)(hxb:x<base)(htb:0<base/\1<base)(ih:∀(W:World)(kid:UInt64)(ah:List UInt8)(A:Option Addr)(c:Nat)(it:List (List UInt8×UInt64))(mt:List Int)(v:Value),IX len W x d p L s F->Ez W base sb mb x it mt v->Le W A ah->ah.length<=c->ah.length<=33->34<=f+ah.length->Calls Tryz.prog 122 #[Aw sb,.int .u64 (kid.toNat:Int),.slice A ah.length c] W (MX (Dp s f kid ah (it,mt)) base sb mb x W))(h34:34<=f+1+ahead.length):
 Calls Tryz.prog 122 #[Aw sb,.int .u64 (name.toNat:Int),.slice A ahead.length c] w (MX (Dp s (f+1) name ahead (items,met)) base sb mb x w):=by
 have HP:Hid (Dp s (f+1) name ahead (items,met)=(nd.labels.zip nd.kids).foldlM (fun(st:List (List UInt8×UInt64)×List Int)(lk:UInt8×UInt64)=>Dp s f lk.2 (ahead++nd.pre++[lk.1]) st) (items++[(pairs (ahead++nd.pre),nd.val)],met++[Bi name])):=Aa (by rw [Dp,hr];simp only;rw [if_neg (fun e=>e.elim (fun e=>hm (by simpa using e)) QF),if_neg (fun e=>by rw [hkk]at e;exact nomatch e.2),if_pos hv]);have Agd:=QF;rw [AQ]at Agd;have ht2:¬(32:Int)<(ahead.length:Int)+(nd.pre.length:Int):=by omega
 have ht:decide ((32:Int)<((ahead.length+nd.pre.length:Nat):Int))=false:=decide_eq_false (by omega);have tv:((nd.val.toNat:Int)!=0)=true:=by
  rw [bne_iff_ne];intro e;exact hv (Eo.1 (by simp;omega))
 have HLk:Hid (nd.labels.length=nd.kids.length):=Aa (by
  obtain⟨_,_,ok,FT⟩:=h.L0;exact((Bo _).1 (jh ok FT hr).1).2.2.1)
 have HLn:=Aa hs.len;have HKo:=Aa hkk;clear hv hkk;have HR:=Aa (JL h name);have HRn:=Aa hr;have HS:=Aa hs;have HX:=Aa h;have hwr:IntKind.i64.wrap (name.toNat:Int)=Bi name:=rfl;have hbl:=(FM hr).1;have hbk:=(FM hr).2.1;have hbb:=(FM hr).2.2;have wZ:=Aa (Rj h hr);have HMt:=Aa hm;have y0:=hs.box.p1;have hbs:base<=w.heap.size:=IC (Hq hs.bs hs.box.lt);have SE:Hid (∀q∈met.map (fun o=>(o,(1:Int))),q.1≠Bi name):=Aa (fun q hq=>by
  obtain⟨o,ho,rfl⟩:=Bf.1 hq;exact fun e=>hm (e▸ho))
 have HA:=Aa hA;generalize Bi name=off at*;clear h hs hr hm hA;go_enter Tryz.func122,Tryz.ntmps122
 go_wp2_with fail
 refine HR.out.mono ?_;rintro e w1⟨hb1,hp1⟩;rw [HRn.out]at hp1;obtain⟨vn,rfl,hnd⟩:=hp1;obtain⟨A1,c1,A2,c2,A3,c3,rfl,o1,o2,o3⟩:=hnd;obtain⟨W2,hW2,GX,BN⟩:=FB w1 212 [.slice A1 nd.pre.length c1,.int .u64 (nd.val.toNat:Int),.slice A2 nd.labels.length c2,.slice A3 nd.kids.length c3];have hb2:Below w.heap.size w W2:=hb1.trans (GX.mono hb1.size);have S2:=HS.out.below hb2;have k1:=XT Tryz.JO Tryz.underlying3 Tryz.XY W2 mb _ off S2.map SE.out;have k2:=iO Tryz.JO Tryz.underlying3 W2 mb _ off 1 S2.map SE.out;rw [show met.map (fun o=>(o,(1:Int)))++[(off,1)]=(met++[off]).map (fun o=>(o,(1:Int)))by simp]at k2;obtain⟨S3,Uj,Gh⟩:=S2.note wZ.out HMt.out;obtain⟨W3,hW3⟩:∃W3,W3=Ey W2 mb (Ig 0 ((met++[off]).map fun o=>(o,1))).toArray ((met++[off]).map fun o=>(o,(1:Int))).length:=⟨_,rfl⟩;rw [<-hW3]at k2 S3 Uj Gh;have kT:=Uj.box BN;have yU:=(HA.out.keep (Dy.of_below hb2)).keep Uj;have HN3:Hid (Xc W3 w.heap.size (.agg #[.slice A1 nd.pre.length c1,.int .u64 (nd.val.toNat:Int),.slice A2 nd.labels.length c2,.slice A3 nd.kids.length c3]) nd):=Aa (Uj.nd ⟨_,_,_,_,_,_,rfl,own_below o1 GX,own_below o2 GX,own_below o3 GX⟩);have hpre:Rd W3 A1 nd.pre.length (nd.pre.map bv):=(CB (Uj.own (.inl rfl) (own_below o1 GX))).2;clear hW3;have z0:=S2.box.cell 0;have z2:=S2.box.cell 2;simp only [Aj,Az]at z0 z2;rw [hW2]at k1 k2 z0 z2;have HW2:=Aa hW2;clear y0 HR hW2
 go_wp2_with fail
 obtain⟨n0,n1,n2,n3, -⟩:=C9 kT;have HB3:=Aa ((hb2.mono hbs).trans Gh);have Oi:=Aa ((Dy.of_below hb2).trans Uj);have OC:=Aa S3;have HR3:=Aa yU;have je:=Aa hpre;have Uk:=Aa kT;clear k1 k2 z0 z2 hb1 GX hb2 S2 Uj Gh BN kT yU hpre o1 o2 o3 S3
 go_region_law(refine Jj rfl (.tmp 42) (.tmp 44) 22 rfl Tryz.Gi A ahead.length (ahead.map bv) (by simp [Act.eval]) (by exact HR3.out.1) (fun a e=>by obtain⟨g,_,_,e',_⟩:=HR3.out.2.1 a e;exact⟨g,e'⟩) (fun e=>by rw [HR3.out.2.2 e];rfl) A1 nd.pre.length c1 (nd.pre.map bv) (by simp [Act.eval]) (by exact je.out) (Gu _) (by omega) (by decide) ?_;intro A4 c4 w4 hc4 hr4 hb4 OZ)
 have Gz:Below W3.heap.size W3 w4:=((Dr.drew W3).below _).trans hb4;have HR4:Hid (Le w4 A4 (ahead++nd.pre)):=Aa (HR3.out.cut hr4 Gz OZ);have S4:=OC.out.below Gz;have xe:=Uk.out.below Gz Uk.out.lt;have HN4:=Aa (HN3.out.below Gz);have oh:=Aa (Oi.out.trans (Dy.of_below Gz));have HB4:=Aa (HB3.out.trans (Gz.mono (Bg hbs (by have:=HB3.out.size;exact this))));have k5:(Instr.lookup 172 (.map (some mb)) (.int .i64 off) false).run Tryz.prog w4= .ok (.int .i64 1) w4:=OQ Tryz.JO Tryz.underlying3 w4 mb (met.map fun o=>(o,(1:Int))) [] off 1 (by have:=S4.map;simpa using this) SE.out;obtain⟨z0,z1,z2⟩:=S4.box.p3;obtain⟨n0,n1,n2,n3, -⟩:=C9 xe;have kN:=Aa S4;have xg:=Aa xe;clear Gz hb4 OZ hr4 S4 xe OC HR3 je Uk HN3 Oi HB3 HA SE HS HMt;generalize hn4:ahead.length+nd.pre.length=n4 at*;have NM:=Aa hn4;clear hn4;have HKy:=Aa (Ah3 A4 n4 c4 (ahead++nd.pre) w4 (by have:=NM.out;omega) (by have:=HR4.out.1;rw [AQ,NM.out]at this;exact this) HKo.out);obtain⟨ks,hks⟩:∃ks:ByteArray,ks=⟨(pairs (ahead++nd.pre)).toArray⟩:=⟨_,rfl⟩;rw [<-hks]at HKy;have HKs:=Aa hks;clear hks
 go_wp2_with fail
 refine HKy.out.mono ?_;rintro e w5⟨rfl,O7⟩;have S5:=kN.out.below O7;have Ark:=Aa (xg.out.below O7 xg.out.lt);have rV:=Aa (HR4.out.keep (Dy.of_below O7));have HN5:=Aa (HN4.out.below O7);have yQ:=Aa (oh.out.trans (Dy.of_below O7));have Jy:=Aa (HB4.out.trans (O7.mono (Bg hbs (by have:=HB4.out.size;exact this))));have HS5:=Aa S5;have Auq:base<=w5.heap.size:=Bg hbs Jy.out.size;have hfew:=S5.few;clear z0 z1 z2 n0 n1 n2 n3 k5 HKy O7;have z0:=S5.box.cell 0;have z1:=S5.box.cell 1;have z2:=S5.box.cell 2;have f1:=S5.box.frozen 1;have hsl:=S5.box.lt;simp only [Aj,Az]at z0 z1 z2;obtain⟨n0,n1,n2,n3, -⟩:=C9 Ark.out;have HVs:Hid (some sb≠v.ownBlock):=Aa (fun e=>S5.vs e.symm);clear S5
 go_wp2_with fail
 go_region_law(refine MV rfl (.tmp 72) (.tmp 77) 99 rfl Tryz.Ai3 w5 base v items.length (items.map itV).flatten [.string ks,.int .u64 (nd.val.toNat:Int)] rfl HS5.out.row rfl rfl rfl rfl w5.heap.size 1 rfl rfl rfl (by decide) (by intro u hu;simp at hu;rcases hu with rfl| rfl<;>rfl) (by omega) (by decide) Auq ?_;intro g6 c6 w6 Xa Nz hK6 kR;have zz1:=(World.cell?_of_block (w:=w5) (a:=⟨sb,1,none⟩) (hK6.2 sb hsl HVs.out)).trans z1;have ff1:=(World.frozen?_of_block (w:=w5) (a:=⟨sb,1,none⟩) (hK6.2 sb hsl HVs.out)).trans f1)
 all_goals
  obtain⟨q1,q2,q3⟩:=HS5.out.add (pairs (ahead++nd.pre),nd.val) (by have:=HLn.out;simp;omega) (by have:=Xa;rw [HKs.out]at this;exact this) Nz hK6 kR;obtain⟨wl,hwl⟩:∃wl,wl=w6.setCell ⟨sb,1,none⟩ (.slice (some ⟨g6,0,none⟩) (items.length+1) c6):=⟨_,rfl⟩;rw [<-hwl]at q1 q2 q3;have HSl:=Aa q1;have jd:=Aa (Jy.out.trans q3);have HKl:=Aa (yQ.out.trans q2);have HRl:=Aa (rV.out.keep q2);have pW:=Aa (q2.nd HN5.out);have Acj:=Aa (q2.box Ark.out);have HWl:=Aa hwl;clear n0 n1 n2 n3;obtain⟨n0,n1,n2,n3, -⟩:=C9 Acj.out;rw [hwl]at n0 n1 n2 n3;clear q1 q2 q3 hwl
  go_wp2_with fail
  rw [<-HWl.out];clear Xa Nz hK6 kR zz1 ff1 z0 z1 z2 f1
  go_loopw [84](fun i wr=>∃(k:Nat)(it:List (List UInt8×UInt64))(mt:List Int)(vk:Value),k<=nd.kids.length/\i= .int .i64 (k:Nat)/\Ez wr base sb mb x it mt vk/\Dy wl wr/\Below base wl wr/\((nd.labels.zip nd.kids).drop k).foldlM (fun(st:List (List UInt8×UInt64)×List Int)(lk:UInt8×UInt64)=>Dp s f lk.2 (ahead++nd.pre++[lk.1]) st) (it,mt)=Dp s (f+1) name ahead (items,met))(fun i _=>nd.kids.length- (intOf i).toNat)
  case atStart=>exact⟨0,_,_,_,Nat.zero_le _,rfl,HSl.out,Dy.refl _,Below.refl _ _,by rw [HP.out];rfl⟩
  case round=>
   obtain⟨k,it,mt,vk,hk,rfl,hsr,hkr,hbr,hfd⟩:=hrel;have HSr:=Aa hsr;have xh:=Aa hkr;have Ob:=Aa hbr;have HFd:=Aa hfd;clear hsr hkr hbr hfd n0 n1 n2 n3;by_cases hlt:k<nd.kids.length
   ·have hll:k<nd.labels.length:=by rw [HLk.out];exact hlt
    have hzl:k<(nd.labels.zip nd.kids).length:=by rw [QG];omega
    have hdz:(nd.labels.zip nd.kids).drop k=(nd.labels[k],nd.kids[k])::(nd.labels.zip nd.kids).drop (k+1):=by
     rw [Ea hzl,Adz]
    have xk:=HFd.out;rw [hdz,Ad0]at xk;obtain⟨_,_,_,_,_,_,eN,p1,p2,p3⟩:=xh.out.nd pW.out;simp only [Value.agg.injEq]at eN;simp at eN;obtain⟨⟨rfl,rfl⟩,⟨rfl,rfl⟩,⟨rfl,rfl⟩⟩:=eN;obtain⟨kb,ko,rfl,hkb,hkc⟩:=(CB p3).2.2 (by omega);obtain⟨lb,lo,rfl,hlb,hlc⟩:=(CB p2).2.2 (by omega);have xm:=hkc k hlt;rw [BZ,Af hlt]at xm;replace xm:_=some (Au .u64 (nd.kids[k].toNat:Int)):=xm;have jK:=hlc k hll;rw [BZ,Af hll]at jK;replace jK:_=some (Au .u8 (nd.labels[k].toNat:Int)):=jK;generalize nd.kids[k]=kid at*;generalize nd.labels[k]=lab at*;have Agf:=Aa xk;obtain⟨n0,n1,n2,n3, -⟩:=C9 (xh.out.box Acj.out);have pX:=Aa (HRl.out.keep xh.out);have Vb:Hid (∀W,Dy wr W->W.cell? ⟨w1.heap.size,2,none⟩=some (.slice (some ⟨lb,lo,none⟩) nd.labels.length c2)/\W.cell? ⟨lb,lo+k,none⟩=some (.int .u8 (lab.toNat:Int))):=Aa (fun W hW=>by
     refine⟨(C9 (hW.box (xh.out.box Acj.out))).2.2.1,?_⟩;obtain⟨b',o',e',_,hc'⟩:=(CB (hW.own (.inl rfl) p2)).2.2 (by omega);injection e' with e'
     injection e' with e1 e2
     subst e1 e2;rw [hc' k hll,<-hlc k hll];exact jK)
    have HIH:=Aa (fun(W:World)(hW:Below wr.heap.size wr W)(A6:Option Addr)(c6:Nat)(XD:Le W A6 (ahead++nd.pre++[lab]))(hc6:n4+1<=c6)=>ih W kid (ahead++nd.pre++[lab]) A6 c6 it mt vk (HX.out.past ((jd.out.trans Ob.out).trans (hW.mono (Bg hbs (Bg jd.out.size Ob.out.size)))) hF hxb htb) (HSr.out.below hW) XD (by have:=NM.out;simp;omega) (by simp at QF⊢;omega) (by simp;omega));rw [show(ahead++nd.pre++[lab]).length=n4+1 by have:=NM.out;simp;omega]at HIH;have hx1:(k:Int)<(nd.kids.length:Int):=by omega
    have hx2:decide ((k:Int)<(nd.kids.length:Int))=true:=decide_eq_true hx1;have hx3:(k:Int)<(nd.labels.length:Int):=by omega
    have hx4:decide ((k:Int)<(nd.labels.length:Int))=true:=decide_eq_true hx3;have hwk:IntKind.i64.wrap ((k:Int)+1)=(k:Int)+1:=wrap64 _ (by omega) (by omega);clear hkc hlc p1 p2 p3 hdz hzl xk
    go_wp2_with fail
    cases hv:Dp s f kid (ahead++nd.pre++[lab]) (it,mt)with
    | none=>
      have HT:Hid (Dp s (f+1) name ahead (items,met)=none):=Aa (by rw [<-Agf.out];simp only [hv];rfl);rw [hv]at HIH;clear hv
      go_region_held_law(fun w'=>w'.cell? ⟨w1.heap.size,2,none⟩=some (.slice (some ⟨lb,lo,none⟩) nd.labels.length c2)/\w'.cell? ⟨lb,lo+k,none⟩=some (.int .u8 (lab.toNat:Int)))(first| go_keep| exact Vb.out _ ((Dy.of_below hb6).trans xn)| exact Vb.out _ (Dy.of_below hb6))
       (first
       | (refine L9 rfl (.tmp 96) (.tmp 102) 22 rfl Tryz.Gi wr A4 n4 ((ahead++nd.pre).map bv) (by simp [Act.eval]) (by have:=pX.out.1;rw [AQ,NM.out]at this;exact this) (fun a e=>by obtain⟨g,_,_,e',_⟩:=pX.out.2.1 a e;exact⟨g,e'⟩) (fun e=>by have:=congrArg Lr (pX.out.2.2 e);rw [AQ,NM.out]at this;exact this) (.int .u8 (lab.toNat:Int)) rfl rfl rfl rfl wr.heap.size 1 (by simp [Act.eval]) rfl rfl (by have:=NM.out;omega) (by decide) ?_;intro A6 c6 w6 hc6 XD hb6 RQ;have RS:Le w6 A6 (ahead++nd.pre++[lab]):=pX.out.cut (by rw [AQ,NM.out];exact XD) hb6 RQ)
       | (go_at_call 122;refine(HIH.out w6 hb6 A6 c6 RS hc6).mono ?_;rintro e w7⟨hb7,xn,hp7⟩;replace hp7:e= .returned (.int .i64 5):=hp7;subst hp7))
      all_goals(have HBf:=Aa ((jd.out.trans Ob.out).trans ((hb6.mono (Bg hbs (Bg jd.out.size Ob.out.size))).trans hb7)))
      all_goals(have HKf:=Aa (((HKl.out.trans xh.out).trans (Dy.of_below hb6)).trans xn))
      all_goals(clear hb6 hb7 xn XD RQ RS)
      all_goals(go_wp2_with fail)
      all_goals(go_ret)
      all_goals(refine⟨HBf.out,HKf.out,?_⟩)
      all_goals(rw [HT.out])
      all_goals rfl
    | some im=>
      obtain⟨i2,m2⟩:=im;have Am4:Hid (((nd.labels.zip nd.kids).drop (k+1)).foldlM (fun(st:List (List UInt8×UInt64)×List Int)(lk:UInt8×UInt64)=>Dp s f lk.2 (ahead++nd.pre++[lk.1]) st) (i2,m2)=Dp s (f+1) name ahead (items,met)):=Aa (by rw [<-Agf.out];simp only [hv];rfl);rw [hv]at HIH;clear hv
      go_region_held_law(fun w'=>w'.cell? ⟨w1.heap.size,2,none⟩=some (.slice (some ⟨lb,lo,none⟩) nd.labels.length c2)/\w'.cell? ⟨lb,lo+k,none⟩=some (.int .u8 (lab.toNat:Int)))(first| go_keep| exact Vb.out _ ((Dy.of_below hb6).trans xn)| exact Vb.out _ (Dy.of_below hb6))
       (first
       | (refine L9 rfl (.tmp 96) (.tmp 102) 22 rfl Tryz.Gi wr A4 n4 ((ahead++nd.pre).map bv) (by simp [Act.eval]) (by have:=pX.out.1;rw [AQ,NM.out]at this;exact this) (fun a e=>by obtain⟨g,_,_,e',_⟩:=pX.out.2.1 a e;exact⟨g,e'⟩) (fun e=>by have:=congrArg Lr (pX.out.2.2 e);rw [AQ,NM.out]at this;exact this) (.int .u8 (lab.toNat:Int)) rfl rfl rfl rfl wr.heap.size 1 (by simp [Act.eval]) rfl rfl (by have:=NM.out;omega) (by decide) ?_;intro A6 c6 w6 hc6 XD hb6 RQ;have RS:Le w6 A6 (ahead++nd.pre++[lab]):=pX.out.cut (by rw [AQ,NM.out];exact XD) hb6 RQ)
       | (go_at_call 122;refine(HIH.out w6 hb6 A6 c6 RS hc6).mono ?_;rintro e w7⟨hb7,xn,hp7⟩;obtain⟨he7,v7,hs7⟩:=(hp7:e= .returned (.int .i64 0)/\∃v',Ez w7 base sb mb x i2 m2 v');subst he7))
      all_goals(have HBf:=Aa (Ob.out.trans ((hb6.mono (Bg hbs (Bg jd.out.size Ob.out.size))).trans hb7)))
      all_goals(have HKf:=Aa ((xh.out.trans (Dy.of_below hb6)).trans xn))
      all_goals(have HSf:=Aa hs7)
      all_goals(clear hb6 hb7 xn XD RQ RS hs7)
      all_goals(go_wp2_with fail)
      all_goals(go_roundw)
      all_goals first
       | (case rel=>exact⟨k+1,i2,m2,v7,by omega,by go_num,HSf.out,HKf.out,HBf.out,Am4.out⟩)
       | (case measure=>simp [intOf];omega)
   ·have hkn:k=nd.kids.length:=by omega
    have HT:Hid (Dp s (f+1) name ahead (items,met)=some (it,mt)):=Aa (by
     rw [<-HFd.out,QL (by rw [QG];omega)];rfl)
    have HBf:=Aa (jd.out.trans Ob.out);have HKf:=Aa (HKl.out.trans xh.out);subst hkn;clear ih
    go_wp2_with fail
    go_ret;refine⟨HBf.out,HKf.out,?_⟩;rw [HT.out];exact⟨rfl,vk,HSr.out⟩
end
theorem fG{len:Mode}{base sb mb x d p L:Nat}{s:St}{F:Nat->Prop}(hF:∀b,F b->b<base)(hxb:x<base)(htb:0<base/\1<base):∀(f:Nat)(w:World)(name:UInt64)(ahead:List UInt8)(A:Option Addr)(c:Nat)(items:List (List UInt8×UInt64))(met:List Int)(v:Value),IX len w x d p L s F->Ez w base sb mb x items met v->Le w A ahead->ahead.length<=c->ahead.length<=33->34<=f+ahead.length->
 Calls Tryz.prog 122 #[Aw sb,.int .u64 (name.toNat:Int),.slice A ahead.length c] w (MX (Dp s f name ahead (items,met)) base sb mb x w)
 | 0,w,name,ahead,A,c,items,met,v,h,hs,hA,hac,hal,h34=>absurd h34 (by omega)
 | f+1,w,name,ahead,A,c,items,met,v,h,hs,hA,hac,hal,h34=>by
   cases hr:EZ s name with
   | none=>exact vY h hF hs f name ahead A c hr
   | some nd=>
     by_cases hm:Bi name∈met
     ·exact Abt h hF hs f name ahead A c hA hac hal nd hr hm
     ·by_cases QF:32<(ahead++nd.pre).length
      ·exact Ach h hF hs f name ahead A c hA hac hal nd hr hm QF
      ·have ih:=fun(W:World)(kid:UInt64)(ah:List UInt8)(A:Option Addr)(c:Nat)(it:List (List UInt8×UInt64))(mt:List Int)(v:Value)(h1:IX len W x d p L s F)(h2:Ez W base sb mb x it mt v)h3 h4 h5 h6=>fG hF hxb htb f W kid ah A c it mt v h1 h2 h3 h4 h5 h6
       by_cases hv:nd.val=0
       ·exact pV h hF hs f name ahead A c hA hac hal nd hr hm QF hv hxb htb ih h34
       ·cases hk:Jl (ahead++nd.pre)with
        | false=>exact Aci h hF hs f name ahead A c hA hac hal nd hr hm QF hv hk
        | true=>exact pY h hF hs f name ahead A c hA hac hal nd hr hm QF hv hk hxb htb ih h34
def Ajo(w:World)(base:Nat)(v:Value)(items:List (List UInt8×UInt64)):Prop:=w.ownsRow base 104 2 v items.length (items.map itV).flatten
def Agg(s:St)(w:World)(x:Nat)(e:Ending)(w':World):Prop:=
 Below w.heap.size w w'/\match DU s with
  | none=>e= .returned (.tuple #[.pointer none,.int .i64 5])
  | some (items,met)=>∃sb mb v,e= .returned (.tuple #[Aw sb,.int .i64 0])/\Ez w' w.heap.size sb mb x items met v
section
variable{len:Mode}{w w':World}{x d p L:Nat}{s:St}{F:Nat->Prop}
theorem Vd(h:IX len w x d p L s F):Calls Tryz.prog 79 #[Aw x] w (Agg s w x):=by
 have HA:=Aa (JV h ⟨#[]⟩ (by decide));rw [if_neg (by decide)]at HA;have hxl:=h.box.lt;have hFl:=h.sys.lt;have htl:=h.sys.tabs.lt;have HX:=Aa h;have mm:=fun W=>run_makeMap (P:=Tryz.prog) 172 W
 obtain⟨w2,hw2⟩:∃w2,w2=(w.alloc (.map #[] 0)).alloc (.cells #[Aw x,.slice none 0 0,.map (some w.heap.size)] 174):=⟨_,rfl⟩;have hb2:Below w.heap.size w w2:=by
  have h1:Below w.heap.size w (w.alloc (.map #[] 0)):=(Below.refl _ _).alloc (Ad _) _;rw [hw2];exact h1.alloc h1.size _
 have hS:Ez w2 w.heap.size (w.heap.size+1) w.heap.size x [] [] (.slice none 0 0):=by
  refine⟨hw2▸yS w _ _ _,World.ownsRow_nil _ _ _ _,?_,by omega,Ad _,(fun e=>nomatch e),Ux,(fun o ho=>nomatch ho),Ad _⟩;rw [hw2];exact(heap_alloc_old _ _ (by simp)).trans (heap_alloc_new _ _)
 have HS:=Aa hS;have HB2:=Aa hb2;have kQ:=Aa (Zp (h.below hb2));have HW2:=Aa hw2;by_cases h0:s.ws 9=0
 ·have HP:Hid (DU s=some ([],[])):=Aa (by unfold DU;rw [if_pos h0]);have t0:(((s.ws 9).toNat:Int)!=0)=false:=by rw [h0];rfl
  clear h hS hb2 hw2 h0;go_enter Tryz.func79,Tryz.ntmps79
  go_wp2_with fail
  refine HA.out.mono ?_;rintro e w1⟨rfl,rfl⟩;clear HA
  go_wp2_with fail
  rw [<-HW2.out];refine kQ.out.mono ?_;rintro e w3⟨rfl,hb3⟩;have HB3:=Aa (HB2.out.trans (hb3.mono HB2.out.size));have OC:=Aa (HS.out.below hb3);clear hb3 kQ
  go_wp2_with fail
  go_ret2;refine⟨HB3.out,?_⟩;rw [HP.out];exact⟨_,_,_,rfl,OC.out⟩
 ·have HP:Hid (DU s=Dp s 34 (s.ws 9) [] ([],[])):=Aa (by unfold DU;rw [if_neg h0]);have t0:(((s.ws 9).toNat:Int)!=0)=true:=by
   rw [bne_iff_ne];intro e;exact h0 (Eo.1 (by simp;omega))
  clear h hS hb2 hw2 h0;go_enter Tryz.func79,Tryz.ntmps79
  go_wp2_with fail
  refine HA.out.mono ?_;rintro e w1⟨rfl,rfl⟩;clear HA
  go_wp2_with fail
  rw [<-HW2.out];refine kQ.out.mono ?_;rintro e w3⟨rfl,hb3⟩;have HB3:=Aa (HB2.out.trans (hb3.mono HB2.out.size));have HV:=Aa (fG hFl hxl htl 34 w3 (s.ws 9) [] none 0 [] [] _ (HX.out.below HB3.out) (HS.out.below hb3) (Le.nil _) (Ad _) (by decide) (by decide));clear hb3 kQ;simp only [List.length_nil]at HV;cases hv:Dp s 34 (s.ws 9) [] ([],[])with
  | none=>
    have HP':Hid (DU s=none):=Aa (by rw [HP.out,hv]);rw [hv]at HV;clear hv HP
    go_wp2_with fail
    refine HV.out.mono ?_;rintro e w4⟨hb4,hk4,XZ⟩;replace XZ:e= .returned (.int .i64 5):=XZ;subst XZ;have HB4:=Aa (HB3.out.trans hb4);clear hb4 hk4 HV
    go_wp2_with fail
    go_ret2;refine⟨HB4.out,?_⟩;rw [HP'.out];rfl
  | some im=>
    obtain⟨i2,m2⟩:=im;have HP':Hid (DU s=some (i2,m2)):=Aa (by rw [HP.out,hv]);rw [hv]at HV;clear hv HP
    go_wp2_with fail
    refine HV.out.mono ?_;rintro e w4⟨hb4,hk4,XZ⟩;obtain⟨he4,v4,hs4⟩:=(XZ:e= .returned (.int .i64 0)/\∃v',Ez w4 w.heap.size (w.heap.size+1) w.heap.size x i2 m2 v');subst he4;have HB4:=Aa (HB3.out.trans hb4);have kN:=Aa hs4;clear hb4 hk4 HV hs4
    go_wp2_with fail
    go_ret2;refine⟨HB4.out,?_⟩;rw [HP'.out];exact⟨_,_,_,rfl,kN.out⟩
def Ajp(s:St)(w:World)(e:Ending)(w':World):Prop:=
 Below w.heap.size w w'/\match DU s with
  | none=>e= .returned (.tuple #[.slice none 0 0,.int .i64 5])
  | some (items,_)=>∃v,e= .returned (.tuple #[v,.int .i64 0])/\Ajo w' w.heap.size v items/\items.length<=65537
theorem fH(h:IX len w x d p L s F):Calls Tryz.prog 38 #[Aw x] w (Ajp s w):=by
 have HS:=Aa (Vd h);cases hv:DU s with
 | none=>
   have HV:=Aa hv;clear h hv;go_enter Tryz.func38,Tryz.ntmps38
   go_wp2_with fail
   refine HS.out.mono ?_;rintro e w1⟨hb1,hp1⟩;rw [HV.out]at hp1;replace hp1:e= .returned (.tuple #[.pointer none,.int .i64 5]):=hp1;subst hp1;have HB:=Aa hb1;clear hb1 HS
   go_wp2_with fail
   go_ret2;refine⟨HB.out,?_⟩;rw [HV.out];rfl
 | some im=>
   obtain⟨i2,m2⟩:=im;have HV:=Aa hv;clear h hv;go_enter Tryz.func38,Tryz.ntmps38
   go_wp2_with fail
   refine HS.out.mono ?_;rintro e w1⟨hb1,hp1⟩;rw [HV.out]at hp1;obtain⟨sb,mb,v,rfl,hs1⟩:=hp1;have z1:=hs1.box.cell 1;simp only [Az,Aj]at z1;have HB:=Aa hb1;have HI:=Aa hs1.row;have HFw:=Aa hs1.few;clear hb1 HS hs1
   go_wp2_with fail
   go_ret2;refine⟨HB.out,?_⟩;rw [HV.out];exact⟨v,rfl,HI.out,HFw.out⟩
end
section
variable{w w':World}{x d p L:Nat}{s:St}{F:Nat->Prop}
end
theorem EX{α:Type} [DecidableEq α]:∀(l1 l2:List α),l1.Nodup->(∀x∈l1,x∈l2)->l1.length<=l2.length
 | [],_,_,_=>by simp
 | a::t,l2,hn,hs=>by
   obtain⟨h1,h2⟩:=Ht.1 hn;have ha:=hs a (Bq ..);have ih:=EX t (l2.erase a) h2 (fun x hx=>(List.mem_erase_of_ne (fun e:x=a=>h1 (by rw [<-e];exact hx))).2 (hs x (BO _ hx)));rw [List.length_erase_of_mem ha]at ih;have:=List.length_pos_of_mem ha;rw [List.length_cons];omega
section
variable{X:Nat->Prop}{L:Nat}{s:St}{items:List Kv}
theorem P5.up(h:P5 X L s items):pF items:=by
 rcases h.tree with⟨_,h2,_⟩| ⟨_,_,T,_⟩
 ·rw [h2];exact List.Pairwise.nil
 ·exact T.up h.ok
theorem qc{k:List UInt8}(h:Jl k=true):k.length%2=0/\k.all DL=true:=by
 unfold Jl at h;rw [Bool.and_eq_true,decide_eq_true_eq]at h;exact h
theorem Am5{sh:Sh}(hL:L<=1024)(hs:shapeOf L=some sh):Aup L (st0 sh) []:=by
 have hok:=FI hs;have htk:∀i,GR (st0 sh) i=0:=fun i=>by
  unfold GR st0;simp only [Bh,Iy];split<;>rfl
 have hhd:∀i,hdN (st0 sh) i=0:=fun i=>by
  unfold hdN st0;simp only [Bh,Iy];split<;>rfl
 have hws:∀i,8<=i->(st0 sh).ws i=0:=fun i hi=>by
  show BQ (fun _=>0) 0 (wordsOf sh) i=0;unfold BQ;rw [if_neg];simp [wordsOf,headW];omega
 have hnt:∀o d,¬AP (st0 sh) o d:=fun o d=>by
  rintro⟨i,a,_,ha,_⟩;rw [htk,EE]at ha;cases ha
 refine⟨⟨hok,hL,by simp [st0],by simp [st0],fun i _=> .inl (htk i),fun i _=> .inl (hhd i),fun i _=> .inl (htk i),fun i a _ ha=> ?_,fun i _=> ?_⟩,fun o d=> ?_,.inl ⟨hws 9 (by decide),rfl,fun o=>⟨fun⟨d,hd⟩=>hnt o d hd,fun h=>h.elim⟩⟩,fun _ h=>by cases h⟩
 ·rw [htk,EE]at ha;cases ha
 ·rw [hws _ (by omega)];show _=(List.replicate sh.BI (0:UInt64)).getD i 0;simp only [Bh,Iy];split<;>rfl
 ·rintro⟨i,a,_,ha,_⟩;rw [hhd,EE]at ha;cases ha
end
inductive D9(s:St):UInt64->List Lk->Prop
 | nil:D9 s 0 []
 | cons(o:Nat)(r:Rc)(l:List Lk):AP s o 1->Eg r=true->wordsAt s.ws (o/8) 8=Dk r->D9 s r.next l->(∀k∈l,k.rc.stamp.toNat<r.stamp.toNat)->D9 s (AA o) (⟨o,r⟩::l)
def EU(l:List Lk):List Nat:=l.map (·.off.toNat)
section
variable{L:Nat}{s s':St}
theorem chain_nil{l:List Lk}(h:D9 s 0 l)(ok:BA L s):l=[]:=by
 generalize hz:(0:UInt64)=z at h;cases h with
 | nil=>rfl
 | cons o r l ht _ _ _ _=>
   exfalso;have hb:=ht.bounds ok;have h1:=ok.sh.MK;have h2:=ok.L1;have:=congrArg UInt64.toNat hz;rw [EF (by omega)]at this;simp at this;omega
theorem ZO{v:UInt64}{l:List Lk}(h:D9 s v l)(hv:v≠0):l≠[]:=by
 cases h with
 | nil=>exact absurd rfl hv
 | cons=>simp
theorem D9.taken{v:UInt64}{l:List Lk}(h:D9 s v l):∀o∈EU l,AP s o 1:=by
 induction h with
 | nil=>intro o ho;cases ho
 | cons o r l ht _ _ _ _ ih=>
   intro p hp;unfold EU at hp;rw [List.map_cons,CZ]at hp;rcases hp with rfl| hp
   ·exact ht
   ·exact ih p hp
theorem D9.keep{v:UInt64}{l:List Lk}(h:D9 s v l){B:Nat->Prop}(k:FV s s' B)(hb:∀o∈EU l,B o):D9 s' v l:=by
 induction h with
 | nil=>exact .nil
 | cons o r l ht hr hw _ hs ih=>
   obtain⟨h1,h2⟩:=k o 1 (hb o (Bq ..)) ht;refine .cons o r l h1 hr ?_ (ih (fun p hp=>hb p (BO _ hp))) hs;have:=Uf (o:=o) (c:=1) h2;rw [show 8*Be 1=8 from rfl]at this;rw [this,hw]
theorem D9.nodup{v:UInt64}{l:List Lk}(h:D9 s v l):(EU l).Nodup/\∀k∈l,wordsAt s.ws (k.off.toNat/8) 8=Dk k.rc/\Eg k.rc=true:=by
 induction h with
 | nil=>exact⟨Ux,fun _ h=>nomatch h⟩
 | cons o r l ht hr hw _ hs ih=>
   refine⟨Ht.2 ⟨fun hm=> ?_,ih.1⟩,fun k hk=> ?_⟩
   ·obtain⟨k,hk,e⟩:=Bf.1 hm;obtain⟨h1,h2⟩:=ih.2 k hk;have e1:Dk k.rc=Dk r:=by
     rw [<-h1,<-hw];have:k.off.toNat=o:=e;rw [this]
    have e2:k.rc=r:=by rw [<-TI k.rc h2,e1,TI r hr]
    have:=hs k hk;rw [e2]at this;omega
   ·rcases CZ.1 hk with rfl| hk
    ·exact⟨hw,hr⟩
    ·exact ih.2 k hk
theorem D9.list(ok:BA L s){v:UInt64}{l:List Lk}(h:D9 s v l):∀(f:Nat)(acc:List Lk),l.length<f->(∀k∈l,k.rc.stamp.toNat<EC acc)->Ox s f v acc=some (acc++l):=by
 induction h with
 | nil=>
   intro f acc hf _;cases f with
   | zero=>exact absurd hf (Ahx _)
   | succ f=>unfold Ox;rw [if_pos (by decide),List.append_nil]
 | cons o r l ht hr hw _ hs ih=>
   intro f acc hf hst;have hb:=ht.bounds ok;have h1:=ok.sh.MK;have h2:=ok.L1;cases f with
   | zero=>exact absurd hf (Ahx _)
   | succ f=>
     unfold Ox;rw [if_neg (by rw [EF (by omega)];omega),Rz (by omega),ht.class ok,if_neg (by simp),Int.toNat_natCast,hw,Aar r hr];simp only;have h3:r.stamp.toNat<EC acc:=hst _ (Bq ..);have e:=ih f (acc++([⟨(o:Int),r⟩]:List Lk)) (by simpa using hf) (fun k hk=>by
      have:=hs k hk;unfold EC;rw [List.getLast?_append,List.getLast?_singleton,Option.some_or];exact this)
     rw [if_neg (by omega),e,List.append_assoc];rfl
end
section
variable{X:Nat->Prop}{L:Nat}{s:St}{items:List Kv}
theorem P5.congr{Y:Nat->Prop}(h:P5 X L s items)(e:∀o,X o<->Y o):P5 Y L s items:=by
 have:X=Y:=funext fun o=>propext (e o)
 exact this▸h
theorem Am6(h:P5 X L s items)(r:Rc)(hr:Eg r=true):
 IQ s r=(s,0,6)\/∃s1 o,IQ s r=(s1,AA o,0)/\(∀off t,CQ s 1=some (off,t)->(IP {t with ws:=BQ t.ws (off/8) (Dk r)} off).2=0)/\¬(∃d,AP s o d)/\¬X o/\o<=65536/\0<o/\AP s1 o 1/\wordsAt s1.ws (o/8) 8=Dk r/\
  P5 (fun p=>X p\/p=o) L s1 items/\FV s s1 (fun _=>True)/\s1.sh=s.sh/\∀j,j<16->s1.ws j=s.ws j:=by
 unfold IQ;rw [if_neg (by rw [hr];simp)];cases hres:CQ s 1 with
 | none=>exact .inl rfl
 | some p=>
   obtain⟨off,t⟩:=p;right;obtain⟨ok1,hw1,pG,UZ,hh1,_,hh2,ht1⟩:=Ue h.ok (.inl rfl) hres;have hb1:=hh1.bounds ok1;have htf:=ok1.sh.MK;have hL1:=h.ok.L1;have hlen:=Jd r;have hl1:Be 1=1:=rfl;have hput:∀i,¬H8 off 1 i->BQ t.ws (off/8) (Dk r) i=t.ws i:=fun i hi=>by
    unfold BQ;rw [if_neg];intro h;exact hi ⟨h.1,by rw [hlen]at h;omega⟩
   have hnot:∀i,i<16+t.sh.BI->¬H8 off 1 i:=fun i hi h=>by
    unfold H8 at h;omega
   obtain⟨t',ht'⟩:∃t',t'=({t with ws:=BQ t.ws (off/8) (Dk r)}:St):=⟨_,rfl⟩;have Wi:BA L t':=ht'▸ok1.words (fun i hi=>hput _ (hnot _ (by omega)));have wY:EI t' off 1:=by rw [ht'];exact hh1
   obtain⟨s2,e2,ok2,hsh2,hw2,ht2,Amy⟩:=zy Wi wY;have pI:t'.sh=t.sh:=by rw [ht']
   have ht1':∀o d,AP t' o d<->AP s o d:=fun o d=>by rw [ht'];exact ht1 o d
   have hkeep:FV s s2 (fun _=>True):=fun o c _ ht=>by
    have ZL:=(ht1' o c).2 ht;obtain⟨hne,hap⟩:=Ll Wi wY ZL;have lY:=ZL.bounds Wi;refine⟨(ht2 o c).2 (.inl ZL),fun i hi=> ?_⟩;rw [hw2 i (.inr (Wi.DJ lY.1 hi)),ht'];show BQ t.ws (off/8) (Dk r) i=_;rw [hput i (fun h=>Md hap hb1.2.2 lY.2.2 h hi),hw1]
   have hnew:¬∃d,AP s off d:=fun⟨d,hd⟩=>(Ll Wi wY ((ht1' off d).2 hd)).1 rfl
   have hlow:∀j,j<16->s2.ws j=s.ws j:=fun j hj=>by
    rw [hw2 j (.inl hj),ht'];show BQ t.ws (off/8) (Dk r) j=_;rw [hput j (hnot j (by omega)),hw1]
   have htk:∀o,(∃d,AP s2 o d)<->(∃d,AP s o d)\/o=off:=fun o=>by
    constructor
    ·rintro⟨d,hd⟩;rcases(ht2 o d).1 hd with h1| ⟨h1,_⟩
     ·exact .inl ⟨d,(ht1' o d).1 h1⟩
     ·exact .inr h1
    ·rintro(⟨d,hd⟩| rfl)
     ·exact⟨d,(ht2 o d).2 (.inl ((ht1' o d).2 hd))⟩
     ·exact⟨1,(ht2 _ _).2 (.inr ⟨rfl,rfl⟩)⟩
   have hXt:∀o,X o->∃d,AP s o d:=fun o ho=>by
    rcases h.tree with⟨_,_,h3⟩| ⟨_,_,_,_,_,h3⟩
    ·exact(h3 o).2 ho
    ·exact(h3 o).2 (.inr ho)
   rw [ht']at e2;refine⟨s2,off,by simp only [e2,if_true],fun off' t2 e=> ?_,hnew,fun hx=>hnew (hXt off hx),by omega,by omega,(ht2 _ _).2 (.inr ⟨rfl,rfl⟩),?_,⟨ok2,fun o d hh=> ?_,?_,h.even⟩,hkeep,by rw [hsh2,pI,pG],hlow⟩
   ·injection e with e
    injection e with e3 e4
    subst e3;subst e4;rw [e2]
   ·refine List.ext_getElem (by simp [wordsAt,hlen]) fun i h1 h2=> ?_
    have hil:i<8:=by simpa [wordsAt]using h1
    rw [Gn,hw2 _ (.inr (Wi.DJ (by rw [pI];exact hb1.1) (c:=1) ⟨by omega,by omega⟩)),ht'];show BQ t.ws (off/8) (Dk r) (off/8+i)=_;unfold BQ;rw [if_pos ⟨by omega,by omega⟩,Nat.add_sub_cancel_left,Bh,Af h2];rfl
   ·obtain⟨h1,h2⟩:=(Amy o d).1 hh;rw [ht']at h1;rcases hh2 o d h1 with h3| h3
    ·exact h.nh o d h3
    ·exact h2 h3
   ·rcases h.tree with⟨h1,h2,h3⟩| ⟨bl,h1,h2,h3,hX,h4⟩
    ·exact .inl ⟨by rw [hlow 9 (by decide),h1],h2,fun o=>by rw [htk o,h3 o]⟩
    ·refine .inr ⟨bl,by rw [hlow 9 (by decide)];exact h1,by rw [hlow 9 (by decide)];exact h2.keep h.ok ok2 hkeep (fun _ _=>trivial),h3,fun o ho hx=> ?_,fun o=>by rw [htk o,h4 o,or_assoc]⟩;rcases hx with hx| rfl
     ·exact hX o ho hx
     ·exact hnew ((h4 _).2 (.inl ho))
theorem Agh(h:P5 X L s items){o:Nat}(ho:X o):∃s1,J4 s o=(s1,0)/\P5 (fun p=>X p/\p≠o) L s1 items/\FV s s1 (fun p=>p≠o)/\s1.sh=s.sh/\∀j,j<16->s1.ws j=s.ws j:=by
 have hXt:∃d,AP s o d:=by
  rcases h.tree with⟨_,_,h3⟩| ⟨_,_,_,_,_,h3⟩
  ·exact(h3 o).2 ho
  ·exact(h3 o).2 (.inr ho)
 obtain⟨c,ht⟩:=hXt;obtain⟨s1,e1,ok1,sh1,hd1,XQ,tk1⟩:=Ye h.ok ht;have hkeep:FV s s1 (fun p=>p≠o):=fun p d hp hpt=>⟨(tk1 p d).2 ⟨hpt,hp⟩,fun j hj=>XQ j (.inr (h.ok.DJ (hpt.bounds h.ok).1 hj))⟩
 have htk:∀p,(∃d,AP s1 p d)<->(∃d,AP s p d)/\p≠o:=fun p=>by
  constructor
  ·rintro⟨d,hd⟩;obtain⟨h1,h2⟩:=(tk1 p d).1 hd;exact⟨⟨d,h1⟩,h2⟩
  ·rintro⟨⟨d,hd⟩,h2⟩;exact⟨d,(tk1 p d).2 ⟨hd,h2⟩⟩
 refine⟨s1,e1,⟨ok1,fun p d hh=>h.nh p d ((Pq hd1 sh1 p d).1 hh),?_,h.even⟩,hkeep,sh1,fun j hj=>XQ j (.inl hj)⟩;rcases h.tree with⟨h1,h2,h3⟩| ⟨bl,h1,h2,h3,hX,h4⟩
 ·exact .inl ⟨by rw [XQ 9 (.inl (by decide)),h1],h2,fun p=>by rw [htk p,h3 p]⟩
 ·have hno:∀p∈bl,p≠o:=fun p hp e=>hX p hp (e▸ho)
  refine .inr ⟨bl,by rw [XQ 9 (.inl (by decide))];exact h1,by rw [XQ 9 (.inl (by decide))];exact h2.keep h.ok ok1 hkeep hno,h3,fun p hp hx=>hX p hp hx.1,fun p=> ?_⟩;rw [htk p,h4 p];constructor
  ·rintro⟨h5| h5,h6⟩
   ·exact .inl h5
   ·exact .inr ⟨h5,h6⟩
  ·rintro(h5| ⟨h5,h6⟩)
   ·exact⟨.inl h5,hno p h5⟩
   ·exact⟨.inr h5,h6⟩
end
theorem fJ{w:World}{base base' k n:Nat}{e:TypeId}{v:Value}{xs:List Value}(h:w.ownsRow base e k v n xs)(hb:base'<=base):w.ownsRow base' e k v n xs:=
 ⟨h.1,h.2.imp id (fun⟨g,cap,cur,h1,h2,h3⟩=>⟨g,cap,cur,h1,Bg hb h2,h3⟩)⟩
