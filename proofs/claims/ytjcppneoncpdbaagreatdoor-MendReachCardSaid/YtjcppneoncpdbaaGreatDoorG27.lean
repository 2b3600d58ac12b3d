import Derived.Deep.RegionHeldLaw
import Derived.Test.YtjcppneoncpdbaaGreatDoorG01
import Derived.Test.YtjcppneoncpdbaaGreatDoorG11
import Derived.Test.YtjcppneoncpdbaaGreatDoorG12
import Derived.Test.YtjcppneoncpdbaaGreatDoorG26
set_option maxHeartbeats 32000000
set_option maxRecDepth 100000
open Go.Lib renaming hid->Aa
open List renaming length_append->AQ,getElem?_cons_zero->Ad,mem_map->BX,getElem?_cons_succ->Af,length_zip->Qe,drop_eq_getElem_cons->Fz,getElem_zip->zL,foldlM_cons->zM,getElem?_map->BO,getElem?_eq_getElem->Ag,length->OU,drop_of_length_le->Qm,nodup_nil->aZ,nodup_cons->GU,mem_cons_self->Bv,mem_cons_of_mem->Bz,getD_eq_getElem?_getD->Bh,getElem?_replicate->Ii
open Nat renaming le_of_lt->Iy,lt_of_le_of_lt->GN,le_refl->Ae,le_trans->Bf,not_lt_zero->Adh
open UInt64 renaming toNat_inj->DL,ofNat->AA
open Go.Value renaming int->Aw
namespace Go.Proofs.YtjcppneoncpdbaaGreatDoor
open Go.RowKit
section
variable{len:Mode}{w w':World}{base sb mb x d p L:Nat}{s:St}{F:Nat->Prop}
theorem yh(h:Nv len w x d p L s F)(_:∀b,F b->b<base){items:List (List UInt8×UInt64)}{met:List Int}{v:Value}(hs:Ei w base sb mb x items met v)(f:Nat)(name:UInt64)(ahead:List UInt8)(A:Option Addr)(c:Nat)(hA:KW w A ahead)(hac:ahead.length<=c)(hal:ahead.length<=33)(nd:Nd)(hr:ER s name=some nd)(hm:Be name∉met)(Qd:32<(ahead++nd.pre).length):
 Calls Tryz.prog 110 #[.pointer (some ⟨sb,0,none⟩),.int .u64 (name.toNat:Int),.slice A ahead.length c] w (MK (Dt s (f+1) name ahead (items,met)) base sb mb x w):=by
 have HP:Hid (Dt s (f+1) name ahead (items,met)=none):=Aa (by rw [Dt,hr];simp only;rw [if_pos (.inr Qd)]);have ht:decide ((32:Int)<((ahead.length+nd.pre.length:Nat):Int))=true:=decide_eq_true (by rw [AQ]at Qd;omega);have HR:=Aa (J6 h name);have HRn:=Aa hr;have HS:=Aa hs;have HX:=Aa h;have hwr:IntKind.i64.wrap (name.toNat:Int)=Be name:=rfl;have hbl:=(EY hr).1;have hbk:=(EY hr).2.1;have hbb:=(EY hr).2.2;have qW:=Aa (Q7 h hr);have HMt:=Aa hm;have y0:=hs.box.cell 0;simp only [Ad]at y0;have hbs:base<=w.heap.size:=Iy (GN hs.bs hs.box.lt);have UT:Hid (∀q∈met.map (fun o=>(o,(1:Int))),q.1≠Be name):=Aa (fun q hq=>by
  obtain⟨o,ho,rfl⟩:=BX.1 hq;exact fun e=>hm (e▸ho))
 have HA:=Aa hA;generalize Be name=off at*;clear h hs hr hm hA;go_enter Tryz.func110,Tryz.ntmps110
 go_wp2_with fail
 refine HR.out.mono ?_;rintro e w1⟨hb1,hp1⟩;rw [HRn.out]at hp1;obtain⟨vn,rfl,hnd⟩:=hp1;obtain⟨A1,c1,A2,c2,A3,c3,rfl,o1,o2,o3⟩:=hnd;obtain⟨W2,hW2⟩:∃W2,W2=w1.alloc (.cells #[.slice A1 nd.pre.length c1,.int .u64 (nd.val.toNat:Int),.slice A2 nd.labels.length c2,.slice A3 nd.kids.length c3] 225):=⟨_,rfl⟩;have BN:BI W2 w1.heap.size 225 [.slice A1 nd.pre.length c1,.int .u64 (nd.val.toNat:Int),.slice A2 nd.labels.length c2,.slice A3 nd.kids.length c3]:=hW2▸heap_alloc_new _ _;have Gv:Below w1.heap.size w1 W2:=hW2▸(Below.refl _ _).alloc (Ae _) _;have hb2:Below w.heap.size w W2:=hb1.trans (Gv.mono hb1.size);have S2:=HS.out.below hb2;have k1:=WL Tryz.J9 Tryz.underlying3 Tryz.WN W2 mb _ off S2.map UT.out;have k2:=dC Tryz.J9 Tryz.underlying3 W2 mb _ off 1 S2.map UT.out;rw [show met.map (fun o=>(o,(1:Int)))++[(off,1)]=(met++[off]).map (fun o=>(o,(1:Int)))by simp]at k2;obtain⟨S3,Tt,FT⟩:=S2.note qW.out HMt.out;obtain⟨W3,hW3⟩:∃W3,W3=Ey W2 mb (Hg 0 ((met++[off]).map fun o=>(o,1))).toArray ((met++[off]).map fun o=>(o,(1:Int))).length:=⟨_,rfl⟩;rw [<-hW3]at k2 S3 Tt FT;have gU:=Tt.box BN;have uq:=(HA.out.keep (Dn.of_below hb2)).keep Tt;have HN3:Hid (VH W3 w.heap.size (.agg #[.slice A1 nd.pre.length c1,.int .u64 (nd.val.toNat:Int),.slice A2 nd.labels.length c2,.slice A3 nd.kids.length c3]) nd):=Aa (Tt.nd ⟨_,_,_,_,_,_,rfl,own_below o1 Gv,own_below o2 Gv,own_below o3 Gv⟩);have hpre:Rd W3 A1 nd.pre.length (nd.pre.map bv):=(Cj (Tt.own (.inl rfl) (own_below o1 Gv))).2;clear hW3;have z0:=S2.box.cell 0;have z2:=S2.box.cell 2;simp only [Ad,Af]at z0 z2;rw [hW2]at k1 k2 z0 z2;have HW2:=Aa hW2;clear y0 HR hW2
 go_wp2_with fail
 obtain⟨n0,n1,n2,n3, -⟩:=Ce gU;have HB3:=Aa ((hb2.mono hbs).trans FT);have KG:=Aa ((Dn.of_below hb2).trans Tt);have P5:=Aa S3;have HR3:=Aa uq;have dO:=Aa hpre;have Tu:=Aa gU;clear k1 k2 z0 z2 hb1 Gv hb2 S2 Tt FT BN gU uq hpre o1 o2 o3 S3
 go_region_law(refine IY rfl (.tmp 42) (.tmp 44) 39 rfl Tryz.FV A ahead.length (ahead.map bv) (by simp [Act.eval]) (by exact HR3.out.1) (fun a e=>by obtain⟨g,_,_,e',_⟩:=HR3.out.2.1 a e;exact⟨g,e'⟩) (fun e=>by rw [HR3.out.2.2 e];rfl) A1 nd.pre.length c1 (nd.pre.map bv) (by simp [Act.eval]) (by exact dO.out) (Hw _) (by omega) (by decide) ?_;intro A4 c4 w4 hc4 hr4 hb4 OG)
 have Gl:Below W3.heap.size W3 w4:=((Dr.drew W3).below _).trans hb4;have HR4:Hid (KW w4 A4 (ahead++nd.pre)):=Aa (HR3.out.cut hr4 Gl OG);have S4:=P5.out.below Gl;have qX:=Tu.out.below Gl Tu.out.lt;have HN4:=Aa (HN3.out.below Gl);have HK4:=Aa (KG.out.trans (Dn.of_below Gl));have HB4:=Aa (HB3.out.trans (Gl.mono (Bf hbs (by have:=HB3.out.size;exact this))));have k5:(Instr.lookup 142 (.map (some mb)) (.int .i64 off) false).run Tryz.prog w4= .ok (.int .i64 1) w4:=O9 Tryz.J9 Tryz.underlying3 w4 mb (met.map fun o=>(o,(1:Int))) [] off 1 (by have:=S4.map;simpa using this) UT.out;have z0:=S4.box.cell 0;have z1:=S4.box.cell 1;have z2:=S4.box.cell 2;simp only [Ad,Af]at z0 z1 z2;obtain⟨n0,n1,n2,n3, -⟩:=Ce qX;have gI:=Aa S4;have qY:=Aa qX;clear Gl hb4 OG hr4 S4 qX P5 HR3 dO Tu HN3 KG HB3 HA UT HS HMt;have ht2:(32:Int)<(ahead.length:Int)+(nd.pre.length:Int):=by simp at ht;omega
 go_wp2_with fail
 go_ret;refine⟨HB4.out,HK4.out,?_⟩;rw [HP.out];rfl
theorem yj(h:Nv len w x d p L s F)(_:∀b,F b->b<base){items:List (List UInt8×UInt64)}{met:List Int}{v:Value}(hs:Ei w base sb mb x items met v)(f:Nat)(name:UInt64)(ahead:List UInt8)(A:Option Addr)(c:Nat)(hA:KW w A ahead)(hac:ahead.length<=c)(_:ahead.length<=33)(nd:Nd)(hr:ER s name=some nd)(hm:Be name∉met)(Qd:¬32<(ahead++nd.pre).length)(hv:nd.val≠0)(hk:MZ (ahead++nd.pre)=false):
 Calls Tryz.prog 110 #[.pointer (some ⟨sb,0,none⟩),.int .u64 (name.toNat:Int),.slice A ahead.length c] w (MK (Dt s (f+1) name ahead (items,met)) base sb mb x w):=by
 have HP:Hid (Dt s (f+1) name ahead (items,met)=none):=Aa (by rw [Dt,hr];simp only;rw [if_neg (fun e=>e.elim (fun e=>hm (by simpa using e)) Qd),if_pos ⟨hv,hk⟩]);rw [AQ]at Qd;have ht2:¬(32:Int)<(ahead.length:Int)+(nd.pre.length:Int):=by omega
 have ht:decide ((32:Int)<((ahead.length+nd.pre.length:Nat):Int))=false:=decide_eq_false (by omega);have HKo:=Aa hk;have tv:((nd.val.toNat:Int)!=0)=true:=by
  rw [bne_iff_ne];intro e;exact hv (DL.1 (by simp;omega))
 clear hk hv;have HR:=Aa (J6 h name);have HRn:=Aa hr;have HS:=Aa hs;have HX:=Aa h;have hwr:IntKind.i64.wrap (name.toNat:Int)=Be name:=rfl;have hbl:=(EY hr).1;have hbk:=(EY hr).2.1;have hbb:=(EY hr).2.2;have qW:=Aa (Q7 h hr);have HMt:=Aa hm;have y0:=hs.box.cell 0;simp only [Ad]at y0;have hbs:base<=w.heap.size:=Iy (GN hs.bs hs.box.lt);have UT:Hid (∀q∈met.map (fun o=>(o,(1:Int))),q.1≠Be name):=Aa (fun q hq=>by
  obtain⟨o,ho,rfl⟩:=BX.1 hq;exact fun e=>hm (e▸ho))
 have HA:=Aa hA;generalize Be name=off at*;clear h hs hr hm hA;go_enter Tryz.func110,Tryz.ntmps110
 go_wp2_with fail
 refine HR.out.mono ?_;rintro e w1⟨hb1,hp1⟩;rw [HRn.out]at hp1;obtain⟨vn,rfl,hnd⟩:=hp1;obtain⟨A1,c1,A2,c2,A3,c3,rfl,o1,o2,o3⟩:=hnd;obtain⟨W2,hW2⟩:∃W2,W2=w1.alloc (.cells #[.slice A1 nd.pre.length c1,.int .u64 (nd.val.toNat:Int),.slice A2 nd.labels.length c2,.slice A3 nd.kids.length c3] 225):=⟨_,rfl⟩;have BN:BI W2 w1.heap.size 225 [.slice A1 nd.pre.length c1,.int .u64 (nd.val.toNat:Int),.slice A2 nd.labels.length c2,.slice A3 nd.kids.length c3]:=hW2▸heap_alloc_new _ _;have Gv:Below w1.heap.size w1 W2:=hW2▸(Below.refl _ _).alloc (Ae _) _;have hb2:Below w.heap.size w W2:=hb1.trans (Gv.mono hb1.size);have S2:=HS.out.below hb2;have k1:=WL Tryz.J9 Tryz.underlying3 Tryz.WN W2 mb _ off S2.map UT.out;have k2:=dC Tryz.J9 Tryz.underlying3 W2 mb _ off 1 S2.map UT.out;rw [show met.map (fun o=>(o,(1:Int)))++[(off,1)]=(met++[off]).map (fun o=>(o,(1:Int)))by simp]at k2;obtain⟨S3,Tt,FT⟩:=S2.note qW.out HMt.out;obtain⟨W3,hW3⟩:∃W3,W3=Ey W2 mb (Hg 0 ((met++[off]).map fun o=>(o,1))).toArray ((met++[off]).map fun o=>(o,(1:Int))).length:=⟨_,rfl⟩;rw [<-hW3]at k2 S3 Tt FT;have gU:=Tt.box BN;have uq:=(HA.out.keep (Dn.of_below hb2)).keep Tt;have HN3:Hid (VH W3 w.heap.size (.agg #[.slice A1 nd.pre.length c1,.int .u64 (nd.val.toNat:Int),.slice A2 nd.labels.length c2,.slice A3 nd.kids.length c3]) nd):=Aa (Tt.nd ⟨_,_,_,_,_,_,rfl,own_below o1 Gv,own_below o2 Gv,own_below o3 Gv⟩);have hpre:Rd W3 A1 nd.pre.length (nd.pre.map bv):=(Cj (Tt.own (.inl rfl) (own_below o1 Gv))).2;clear hW3;have z0:=S2.box.cell 0;have z2:=S2.box.cell 2;simp only [Ad,Af]at z0 z2;rw [hW2]at k1 k2 z0 z2;have HW2:=Aa hW2;clear y0 HR hW2
 go_wp2_with fail
 obtain⟨n0,n1,n2,n3, -⟩:=Ce gU;have HB3:=Aa ((hb2.mono hbs).trans FT);have KG:=Aa ((Dn.of_below hb2).trans Tt);have P5:=Aa S3;have HR3:=Aa uq;have dO:=Aa hpre;have Tu:=Aa gU;clear k1 k2 z0 z2 hb1 Gv hb2 S2 Tt FT BN gU uq hpre o1 o2 o3 S3
 go_region_law(refine IY rfl (.tmp 42) (.tmp 44) 39 rfl Tryz.FV A ahead.length (ahead.map bv) (by simp [Act.eval]) (by exact HR3.out.1) (fun a e=>by obtain⟨g,_,_,e',_⟩:=HR3.out.2.1 a e;exact⟨g,e'⟩) (fun e=>by rw [HR3.out.2.2 e];rfl) A1 nd.pre.length c1 (nd.pre.map bv) (by simp [Act.eval]) (by exact dO.out) (Hw _) (by omega) (by decide) ?_;intro A4 c4 w4 hc4 hr4 hb4 OG)
 have Gl:Below W3.heap.size W3 w4:=((Dr.drew W3).below _).trans hb4;have HR4:Hid (KW w4 A4 (ahead++nd.pre)):=Aa (HR3.out.cut hr4 Gl OG);have S4:=P5.out.below Gl;have qX:=Tu.out.below Gl Tu.out.lt;have HN4:=Aa (HN3.out.below Gl);have HK4:=Aa (KG.out.trans (Dn.of_below Gl));have HB4:=Aa (HB3.out.trans (Gl.mono (Bf hbs (by have:=HB3.out.size;exact this))));have k5:(Instr.lookup 142 (.map (some mb)) (.int .i64 off) false).run Tryz.prog w4= .ok (.int .i64 1) w4:=O9 Tryz.J9 Tryz.underlying3 w4 mb (met.map fun o=>(o,(1:Int))) [] off 1 (by have:=S4.map;simpa using this) UT.out;have z0:=S4.box.cell 0;have z1:=S4.box.cell 1;have z2:=S4.box.cell 2;simp only [Ad,Af]at z0 z1 z2;obtain⟨n0,n1,n2,n3, -⟩:=Ce qX;have gI:=Aa S4;have qY:=Aa qX;clear Gl hb4 OG hr4 S4 qX P5 HR3 dO Tu HN3 KG HB3 HA UT HS HMt;have HKy:=Ags A4 (ahead.length+nd.pre.length) c4 (ahead++nd.pre) w4 (by omega) (by have:=HR4.out.1;rw [AQ]at this;exact this) HKo.out;have HKy:=Aa HKy
 go_wp2_with fail
 refine HKy.out.mono ?_;rintro e w5⟨rfl,rfl⟩;clear HKy
 go_wp2_with fail
 go_ret;refine⟨HB4.out,HK4.out,?_⟩;rw [HP.out];rfl
end
section
variable{len:Mode}{w w':World}{base sb mb x d p L:Nat}{s:St}{F:Nat->Prop}
theorem kX(h:Nv len w x d p L s F)(hF:∀b,F b->b<base){items:List (List UInt8×UInt64)}{met:List Int}{v:Value}(hs:Ei w base sb mb x items met v)(f:Nat)(name:UInt64)(ahead:List UInt8)(A:Option Addr)(c:Nat)(hA:KW w A ahead)(hac:ahead.length<=c)(_:ahead.length<=33)(nd:Nd)(hr:ER s name=some nd)(hm:Be name∉met)(Qd:¬32<(ahead++nd.pre).length)(hv:nd.val=0)(hxb:x<base)(htb:0<base/\1<base)(ih:∀(W:World)(kid:UInt64)(ah:List UInt8)(A:Option Addr)(c:Nat)(it:List (List UInt8×UInt64))(mt:List Int)(v:Value),Nv len W x d p L s F->Ei W base sb mb x it mt v->KW W A ah->ah.length<=c->ah.length<=33->34<=f+ah.length->Calls Tryz.prog 110 #[.pointer (some ⟨sb,0,none⟩),.int .u64 (kid.toNat:Int),.slice A ah.length c] W (MK (Dt s f kid ah (it,mt)) base sb mb x W))(h34:34<=f+1+ahead.length):
 Calls Tryz.prog 110 #[.pointer (some ⟨sb,0,none⟩),.int .u64 (name.toNat:Int),.slice A ahead.length c] w (MK (Dt s (f+1) name ahead (items,met)) base sb mb x w):=by
 have HP:Hid (Dt s (f+1) name ahead (items,met)=(nd.labels.zip nd.kids).foldlM (fun(st:List (List UInt8×UInt64)×List Int)(lk:UInt8×UInt64)=>Dt s f lk.2 (ahead++nd.pre++[lk.1]) st) (items,met++[Be name])):=Aa (by rw [Dt,hr];simp only;rw [if_neg (fun e=>e.elim (fun e=>hm (by simpa using e)) Qd),if_neg (fun e=>e.1 hv),if_neg (fun e=>e hv)]);have Ab1:=Qd;rw [AQ]at Ab1;have ht2:¬(32:Int)<(ahead.length:Int)+(nd.pre.length:Int):=by omega
 have ht:decide ((32:Int)<((ahead.length+nd.pre.length:Nat):Int))=false:=decide_eq_false (by omega);have tv:((nd.val.toNat:Int)!=0)=false:=by rw [hv];rfl
 have HLk:Hid (nd.labels.length=nd.kids.length):=Aa (by
  obtain⟨_,_,ok,Fp⟩:=h.L0;exact((Bg _).1 (dR ok Fp hr).1).2.2.1)
 have HVv:=Aa hv;clear hv;have HR:=Aa (J6 h name);have HRn:=Aa hr;have HS:=Aa hs;have HX:=Aa h;have hwr:IntKind.i64.wrap (name.toNat:Int)=Be name:=rfl;have hbl:=(EY hr).1;have hbk:=(EY hr).2.1;have hbb:=(EY hr).2.2;have qW:=Aa (Q7 h hr);have HMt:=Aa hm;have y0:=hs.box.cell 0;simp only [Ad]at y0;have hbs:base<=w.heap.size:=Iy (GN hs.bs hs.box.lt);have UT:Hid (∀q∈met.map (fun o=>(o,(1:Int))),q.1≠Be name):=Aa (fun q hq=>by
  obtain⟨o,ho,rfl⟩:=BX.1 hq;exact fun e=>hm (e▸ho))
 have HA:=Aa hA;generalize Be name=off at*;clear h hs hr hm hA;go_enter Tryz.func110,Tryz.ntmps110
 go_wp2_with fail
 refine HR.out.mono ?_;rintro e w1⟨hb1,hp1⟩;rw [HRn.out]at hp1;obtain⟨vn,rfl,hnd⟩:=hp1;obtain⟨A1,c1,A2,c2,A3,c3,rfl,o1,o2,o3⟩:=hnd;obtain⟨W2,hW2⟩:∃W2,W2=w1.alloc (.cells #[.slice A1 nd.pre.length c1,.int .u64 (nd.val.toNat:Int),.slice A2 nd.labels.length c2,.slice A3 nd.kids.length c3] 225):=⟨_,rfl⟩;have BN:BI W2 w1.heap.size 225 [.slice A1 nd.pre.length c1,.int .u64 (nd.val.toNat:Int),.slice A2 nd.labels.length c2,.slice A3 nd.kids.length c3]:=hW2▸heap_alloc_new _ _;have Gv:Below w1.heap.size w1 W2:=hW2▸(Below.refl _ _).alloc (Ae _) _;have hb2:Below w.heap.size w W2:=hb1.trans (Gv.mono hb1.size);have S2:=HS.out.below hb2;have k1:=WL Tryz.J9 Tryz.underlying3 Tryz.WN W2 mb _ off S2.map UT.out;have k2:=dC Tryz.J9 Tryz.underlying3 W2 mb _ off 1 S2.map UT.out;rw [show met.map (fun o=>(o,(1:Int)))++[(off,1)]=(met++[off]).map (fun o=>(o,(1:Int)))by simp]at k2;obtain⟨S3,Tt,FT⟩:=S2.note qW.out HMt.out;obtain⟨W3,hW3⟩:∃W3,W3=Ey W2 mb (Hg 0 ((met++[off]).map fun o=>(o,1))).toArray ((met++[off]).map fun o=>(o,(1:Int))).length:=⟨_,rfl⟩;rw [<-hW3]at k2 S3 Tt FT;have gU:=Tt.box BN;have uq:=(HA.out.keep (Dn.of_below hb2)).keep Tt;have HN3:Hid (VH W3 w.heap.size (.agg #[.slice A1 nd.pre.length c1,.int .u64 (nd.val.toNat:Int),.slice A2 nd.labels.length c2,.slice A3 nd.kids.length c3]) nd):=Aa (Tt.nd ⟨_,_,_,_,_,_,rfl,own_below o1 Gv,own_below o2 Gv,own_below o3 Gv⟩);have hpre:Rd W3 A1 nd.pre.length (nd.pre.map bv):=(Cj (Tt.own (.inl rfl) (own_below o1 Gv))).2;clear hW3;have z0:=S2.box.cell 0;have z2:=S2.box.cell 2;simp only [Ad,Af]at z0 z2;rw [hW2]at k1 k2 z0 z2;have HW2:=Aa hW2;clear y0 HR hW2
 go_wp2_with fail
 obtain⟨n0,n1,n2,n3, -⟩:=Ce gU;have HB3:=Aa ((hb2.mono hbs).trans FT);have KG:=Aa ((Dn.of_below hb2).trans Tt);have P5:=Aa S3;have HR3:=Aa uq;have dO:=Aa hpre;have Tu:=Aa gU;clear k1 k2 z0 z2 hb1 Gv hb2 S2 Tt FT BN gU uq hpre o1 o2 o3 S3
 go_region_law(refine IY rfl (.tmp 42) (.tmp 44) 39 rfl Tryz.FV A ahead.length (ahead.map bv) (by simp [Act.eval]) (by exact HR3.out.1) (fun a e=>by obtain⟨g,_,_,e',_⟩:=HR3.out.2.1 a e;exact⟨g,e'⟩) (fun e=>by rw [HR3.out.2.2 e];rfl) A1 nd.pre.length c1 (nd.pre.map bv) (by simp [Act.eval]) (by exact dO.out) (Hw _) (by omega) (by decide) ?_;intro A4 c4 w4 hc4 hr4 hb4 OG)
 have Gl:Below W3.heap.size W3 w4:=((Dr.drew W3).below _).trans hb4;have HR4:Hid (KW w4 A4 (ahead++nd.pre)):=Aa (HR3.out.cut hr4 Gl OG);have S4:=P5.out.below Gl;have qX:=Tu.out.below Gl Tu.out.lt;have HN4:=Aa (HN3.out.below Gl);have HK4:=Aa (KG.out.trans (Dn.of_below Gl));have HB4:=Aa (HB3.out.trans (Gl.mono (Bf hbs (by have:=HB3.out.size;exact this))));have k5:(Instr.lookup 142 (.map (some mb)) (.int .i64 off) false).run Tryz.prog w4= .ok (.int .i64 1) w4:=O9 Tryz.J9 Tryz.underlying3 w4 mb (met.map fun o=>(o,(1:Int))) [] off 1 (by have:=S4.map;simpa using this) UT.out;have z0:=S4.box.cell 0;have z1:=S4.box.cell 1;have z2:=S4.box.cell 2;simp only [Ad,Af]at z0 z1 z2;obtain⟨n0,n1,n2,n3, -⟩:=Ce qX;have gI:=Aa S4;have qY:=Aa qX;clear Gl hb4 OG hr4 S4 qX P5 HR3 dO Tu HN3 KG HB3 HA UT HS HMt;generalize hn4:ahead.length+nd.pre.length=n4 at*;have NC:=Aa hn4;clear hn4;obtain⟨wl,hwl⟩:∃wl,wl=w4:=⟨_,rfl⟩;rw [<-hwl]at gI HK4 HB4 HR4 HN4 qY k5 z0 z1 z2 n0 n1 n2 n3⊢;clear hwl;have HSl:=gI;have dN:=HB4;have HKl:=HK4;have HRl:=HR4;have HNl:=HN4;have yl:=qY
 go_wp2_with fail
 go_loopw [84](fun i wr=>∃(k:Nat)(it:List (List UInt8×UInt64))(mt:List Int)(vk:Value),k<=nd.kids.length/\i= .int .i64 (k:Nat)/\Ei wr base sb mb x it mt vk/\Dn wl wr/\Below base wl wr/\((nd.labels.zip nd.kids).drop k).foldlM (fun(st:List (List UInt8×UInt64)×List Int)(lk:UInt8×UInt64)=>Dt s f lk.2 (ahead++nd.pre++[lk.1]) st) (it,mt)=Dt s (f+1) name ahead (items,met))(fun i _=>nd.kids.length- (intOf i).toNat)
 case atStart=>exact⟨0,_,_,_,Nat.zero_le _,rfl,HSl.out,Dn.refl _,Below.refl _ _,by rw [HP.out];rfl⟩
 case round=>
  obtain⟨k,it,mt,vk,hk,rfl,hsr,hkr,hbr,hfd⟩:=hrel;have HSr:=Aa hsr;have qZ:=Aa hkr;have Me:=Aa hbr;have HFd:=Aa hfd;clear hsr hkr hbr hfd n0 n1 n2 n3;by_cases hlt:k<nd.kids.length
  ·have hll:k<nd.labels.length:=by rw [HLk.out];exact hlt
   have hzl:k<(nd.labels.zip nd.kids).length:=by rw [Qe];omega
   have hdz:(nd.labels.zip nd.kids).drop k=(nd.labels[k],nd.kids[k])::(nd.labels.zip nd.kids).drop (k+1):=by
    rw [Fz hzl,zL]
   have rq:=HFd.out;rw [hdz,zM]at rq;obtain⟨_,_,_,_,_,_,eN,p1,p2,p3⟩:=qZ.out.nd HNl.out;simp only [Value.agg.injEq]at eN;simp at eN;obtain⟨⟨rfl,rfl⟩,⟨rfl,rfl⟩,⟨rfl,rfl⟩⟩:=eN;obtain⟨kb,ko,rfl,hkb,hkc⟩:=(Cj p3).2.2 (by omega);obtain⟨lb,lo,rfl,hlb,hlc⟩:=(Cj p2).2.2 (by omega);have ry:=hkc k hlt;rw [BO,Ag hlt]at ry;replace ry:_=some (Aw .u64 (nd.kids[k].toNat:Int)):=ry;have fH:=hlc k hll;rw [BO,Ag hll]at fH;replace fH:_=some (Aw .u8 (nd.labels[k].toNat:Int)):=fH;generalize nd.kids[k]=kid at*;generalize nd.labels[k]=lab at*;have Ab2:=Aa rq;obtain⟨n0,n1,n2,n3, -⟩:=Ce (qZ.out.box yl.out);have ag:=Aa (HRl.out.keep qZ.out);have Ut:Hid (∀W,Dn wr W->W.cell? ⟨w1.heap.size,2,none⟩=some (.slice (some ⟨lb,lo,none⟩) nd.labels.length c2)/\W.cell? ⟨lb,lo+k,none⟩=some (.int .u8 (lab.toNat:Int))):=Aa (fun W hW=>by
    refine⟨(Ce (hW.box (qZ.out.box yl.out))).2.2.1,?_⟩;obtain⟨b',o',e',_,hc'⟩:=(Cj (hW.own (.inl rfl) p2)).2.2 (by omega);injection e' with e'
    injection e' with e1 e2
    subst e1 e2;rw [hc' k hll,<-hlc k hll];exact fH)
   have HIH:=Aa (fun(W:World)(hW:Below wr.heap.size wr W)(A6:Option Addr)(c6:Nat)(Wx:KW W A6 (ahead++nd.pre++[lab]))(hc6:n4+1<=c6)=>ih W kid (ahead++nd.pre++[lab]) A6 c6 it mt vk (HX.out.past ((dN.out.trans Me.out).trans (hW.mono (Bf hbs (Bf dN.out.size Me.out.size)))) hF hxb htb) (HSr.out.below hW) Wx (by have:=NC.out;simp;omega) (by simp at Qd⊢;omega) (by simp;omega));rw [show(ahead++nd.pre++[lab]).length=n4+1 by have:=NC.out;simp;omega]at HIH;have hx1:(k:Int)<(nd.kids.length:Int):=by omega
   have hx2:decide ((k:Int)<(nd.kids.length:Int))=true:=decide_eq_true hx1;have hx3:(k:Int)<(nd.labels.length:Int):=by omega
   have hx4:decide ((k:Int)<(nd.labels.length:Int))=true:=decide_eq_true hx3;have hwk:IntKind.i64.wrap ((k:Int)+1)=(k:Int)+1:=wrap64 _ (by omega) (by omega);clear hkc hlc p1 p2 p3 hdz hzl rq
   go_wp2_with fail
   cases hv:Dt s f kid (ahead++nd.pre++[lab]) (it,mt)with
   | none=>
     have HT:Hid (Dt s (f+1) name ahead (items,met)=none):=Aa (by rw [<-Ab2.out];simp only [hv];rfl);rw [hv]at HIH;clear hv
     go_region_held_law(fun w'=>w'.cell? ⟨w1.heap.size,2,none⟩=some (.slice (some ⟨lb,lo,none⟩) nd.labels.length c2)/\w'.cell? ⟨lb,lo+k,none⟩=some (.int .u8 (lab.toNat:Int)))(first| go_keep| exact Ut.out _ ((Dn.of_below hb6).trans rC)| exact Ut.out _ (Dn.of_below hb6))
      (first
      | (refine Ll rfl (.tmp 96) (.tmp 102) 39 rfl Tryz.FV wr A4 n4 ((ahead++nd.pre).map bv) (by simp [Act.eval]) (by have:=ag.out.1;rw [AQ,NC.out]at this;exact this) (fun a e=>by obtain⟨g,_,_,e',_⟩:=ag.out.2.1 a e;exact⟨g,e'⟩) (fun e=>by have:=congrArg OU (ag.out.2.2 e);rw [AQ,NC.out]at this;exact this) (.int .u8 (lab.toNat:Int)) rfl rfl rfl rfl wr.heap.size 1 (by simp [Act.eval]) rfl rfl (by have:=NC.out;omega) (by decide) ?_;intro A6 c6 w6 hc6 Wx hb6 QN;have QO:KW w6 A6 (ahead++nd.pre++[lab]):=ag.out.cut (by rw [AQ,NC.out];exact Wx) hb6 QN)
      | (go_at_call 110;refine(HIH.out w6 hb6 A6 c6 QO hc6).mono ?_;rintro e w7⟨hb7,rC,hp7⟩;replace hp7:e= .returned (.int .i64 5):=hp7;subst hp7))
     all_goals(have HBf:=Aa ((dN.out.trans Me.out).trans ((hb6.mono (Bf hbs (Bf dN.out.size Me.out.size))).trans hb7)))
     all_goals(have HKf:=Aa (((HKl.out.trans qZ.out).trans (Dn.of_below hb6)).trans rC))
     all_goals(clear hb6 hb7 rC Wx QN QO)
     all_goals(go_wp2_with fail)
     all_goals(go_ret)
     all_goals(refine⟨HBf.out,HKf.out,?_⟩)
     all_goals(rw [HT.out])
     all_goals rfl
   | some im=>
     obtain⟨i2,m2⟩:=im;have Ah2:Hid (((nd.labels.zip nd.kids).drop (k+1)).foldlM (fun(st:List (List UInt8×UInt64)×List Int)(lk:UInt8×UInt64)=>Dt s f lk.2 (ahead++nd.pre++[lk.1]) st) (i2,m2)=Dt s (f+1) name ahead (items,met)):=Aa (by rw [<-Ab2.out];simp only [hv];rfl);rw [hv]at HIH;clear hv
     go_region_held_law(fun w'=>w'.cell? ⟨w1.heap.size,2,none⟩=some (.slice (some ⟨lb,lo,none⟩) nd.labels.length c2)/\w'.cell? ⟨lb,lo+k,none⟩=some (.int .u8 (lab.toNat:Int)))(first| go_keep| exact Ut.out _ ((Dn.of_below hb6).trans rC)| exact Ut.out _ (Dn.of_below hb6))
      (first
      | (refine Ll rfl (.tmp 96) (.tmp 102) 39 rfl Tryz.FV wr A4 n4 ((ahead++nd.pre).map bv) (by simp [Act.eval]) (by have:=ag.out.1;rw [AQ,NC.out]at this;exact this) (fun a e=>by obtain⟨g,_,_,e',_⟩:=ag.out.2.1 a e;exact⟨g,e'⟩) (fun e=>by have:=congrArg OU (ag.out.2.2 e);rw [AQ,NC.out]at this;exact this) (.int .u8 (lab.toNat:Int)) rfl rfl rfl rfl wr.heap.size 1 (by simp [Act.eval]) rfl rfl (by have:=NC.out;omega) (by decide) ?_;intro A6 c6 w6 hc6 Wx hb6 QN;have QO:KW w6 A6 (ahead++nd.pre++[lab]):=ag.out.cut (by rw [AQ,NC.out];exact Wx) hb6 QN)
      | (go_at_call 110;refine(HIH.out w6 hb6 A6 c6 QO hc6).mono ?_;rintro e w7⟨hb7,rC,hp7⟩;obtain⟨he7,v7,hs7⟩:=(hp7:e= .returned (.int .i64 0)/\∃v',Ei w7 base sb mb x i2 m2 v');subst he7))
     all_goals(have HBf:=Aa (Me.out.trans ((hb6.mono (Bf hbs (Bf dN.out.size Me.out.size))).trans hb7)))
     all_goals(have HKf:=Aa ((qZ.out.trans (Dn.of_below hb6)).trans rC))
     all_goals(have HSf:=Aa hs7)
     all_goals(clear hb6 hb7 rC Wx QN QO hs7)
     all_goals(go_wp2_with fail)
     all_goals(go_roundw)
     all_goals first
      | (case rel=>exact⟨k+1,i2,m2,v7,by omega,by go_num,HSf.out,HKf.out,HBf.out,Ah2.out⟩)
      | (case measure=>simp [intOf];omega)
  ·have hkn:k=nd.kids.length:=by omega
   have HT:Hid (Dt s (f+1) name ahead (items,met)=some (it,mt)):=Aa (by
    rw [<-HFd.out,Qm (by rw [Qe];omega)];rfl)
   have HBf:=Aa (dN.out.trans Me.out);have HKf:=Aa (HKl.out.trans qZ.out);subst hkn;clear ih
   go_wp2_with fail
   go_ret;refine⟨HBf.out,HKf.out,?_⟩;rw [HT.out];exact⟨rfl,vk,HSr.out⟩
end
section
variable{len:Mode}{w w':World}{base sb mb x d p L:Nat}{s:St}{F:Nat->Prop}
theorem kY(h:Nv len w x d p L s F)(hF:∀b,F b->b<base){items:List (List UInt8×UInt64)}{met:List Int}{v:Value}(hs:Ei w base sb mb x items met v)(f:Nat)(name:UInt64)(ahead:List UInt8)(A:Option Addr)(c:Nat)(hA:KW w A ahead)(hac:ahead.length<=c)(_:ahead.length<=33)(nd:Nd)(hr:ER s name=some nd)(hm:Be name∉met)(Qd:¬32<(ahead++nd.pre).length)(hv:nd.val≠0)(hkk:MZ (ahead++nd.pre)=true)(hxb:x<base)(htb:0<base/\1<base)(ih:∀(W:World)(kid:UInt64)(ah:List UInt8)(A:Option Addr)(c:Nat)(it:List (List UInt8×UInt64))(mt:List Int)(v:Value),Nv len W x d p L s F->Ei W base sb mb x it mt v->KW W A ah->ah.length<=c->ah.length<=33->34<=f+ah.length->Calls Tryz.prog 110 #[.pointer (some ⟨sb,0,none⟩),.int .u64 (kid.toNat:Int),.slice A ah.length c] W (MK (Dt s f kid ah (it,mt)) base sb mb x W))(h34:34<=f+1+ahead.length):
 Calls Tryz.prog 110 #[.pointer (some ⟨sb,0,none⟩),.int .u64 (name.toNat:Int),.slice A ahead.length c] w (MK (Dt s (f+1) name ahead (items,met)) base sb mb x w):=by
 have HP:Hid (Dt s (f+1) name ahead (items,met)=(nd.labels.zip nd.kids).foldlM (fun(st:List (List UInt8×UInt64)×List Int)(lk:UInt8×UInt64)=>Dt s f lk.2 (ahead++nd.pre++[lk.1]) st) (items++[(pairs (ahead++nd.pre),nd.val)],met++[Be name])):=Aa (by rw [Dt,hr];simp only;rw [if_neg (fun e=>e.elim (fun e=>hm (by simpa using e)) Qd),if_neg (fun e=>by rw [hkk]at e;exact nomatch e.2),if_pos hv]);have Ab1:=Qd;rw [AQ]at Ab1;have ht2:¬(32:Int)<(ahead.length:Int)+(nd.pre.length:Int):=by omega
 have ht:decide ((32:Int)<((ahead.length+nd.pre.length:Nat):Int))=false:=decide_eq_false (by omega);have tv:((nd.val.toNat:Int)!=0)=true:=by
  rw [bne_iff_ne];intro e;exact hv (DL.1 (by simp;omega))
 have HLk:Hid (nd.labels.length=nd.kids.length):=Aa (by
  obtain⟨_,_,ok,Fp⟩:=h.L0;exact((Bg _).1 (dR ok Fp hr).1).2.2.1)
 have HLn:=Aa hs.len;have HKo:=Aa hkk;clear hv hkk;have HR:=Aa (J6 h name);have HRn:=Aa hr;have HS:=Aa hs;have HX:=Aa h;have hwr:IntKind.i64.wrap (name.toNat:Int)=Be name:=rfl;have hbl:=(EY hr).1;have hbk:=(EY hr).2.1;have hbb:=(EY hr).2.2;have qW:=Aa (Q7 h hr);have HMt:=Aa hm;have y0:=hs.box.cell 0;simp only [Ad]at y0;have hbs:base<=w.heap.size:=Iy (GN hs.bs hs.box.lt);have UT:Hid (∀q∈met.map (fun o=>(o,(1:Int))),q.1≠Be name):=Aa (fun q hq=>by
  obtain⟨o,ho,rfl⟩:=BX.1 hq;exact fun e=>hm (e▸ho))
 have HA:=Aa hA;generalize Be name=off at*;clear h hs hr hm hA;go_enter Tryz.func110,Tryz.ntmps110
 go_wp2_with fail
 refine HR.out.mono ?_;rintro e w1⟨hb1,hp1⟩;rw [HRn.out]at hp1;obtain⟨vn,rfl,hnd⟩:=hp1;obtain⟨A1,c1,A2,c2,A3,c3,rfl,o1,o2,o3⟩:=hnd;obtain⟨W2,hW2⟩:∃W2,W2=w1.alloc (.cells #[.slice A1 nd.pre.length c1,.int .u64 (nd.val.toNat:Int),.slice A2 nd.labels.length c2,.slice A3 nd.kids.length c3] 225):=⟨_,rfl⟩;have BN:BI W2 w1.heap.size 225 [.slice A1 nd.pre.length c1,.int .u64 (nd.val.toNat:Int),.slice A2 nd.labels.length c2,.slice A3 nd.kids.length c3]:=hW2▸heap_alloc_new _ _;have Gv:Below w1.heap.size w1 W2:=hW2▸(Below.refl _ _).alloc (Ae _) _;have hb2:Below w.heap.size w W2:=hb1.trans (Gv.mono hb1.size);have S2:=HS.out.below hb2;have k1:=WL Tryz.J9 Tryz.underlying3 Tryz.WN W2 mb _ off S2.map UT.out;have k2:=dC Tryz.J9 Tryz.underlying3 W2 mb _ off 1 S2.map UT.out;rw [show met.map (fun o=>(o,(1:Int)))++[(off,1)]=(met++[off]).map (fun o=>(o,(1:Int)))by simp]at k2;obtain⟨S3,Tt,FT⟩:=S2.note qW.out HMt.out;obtain⟨W3,hW3⟩:∃W3,W3=Ey W2 mb (Hg 0 ((met++[off]).map fun o=>(o,1))).toArray ((met++[off]).map fun o=>(o,(1:Int))).length:=⟨_,rfl⟩;rw [<-hW3]at k2 S3 Tt FT;have gU:=Tt.box BN;have uq:=(HA.out.keep (Dn.of_below hb2)).keep Tt;have HN3:Hid (VH W3 w.heap.size (.agg #[.slice A1 nd.pre.length c1,.int .u64 (nd.val.toNat:Int),.slice A2 nd.labels.length c2,.slice A3 nd.kids.length c3]) nd):=Aa (Tt.nd ⟨_,_,_,_,_,_,rfl,own_below o1 Gv,own_below o2 Gv,own_below o3 Gv⟩);have hpre:Rd W3 A1 nd.pre.length (nd.pre.map bv):=(Cj (Tt.own (.inl rfl) (own_below o1 Gv))).2;clear hW3;have z0:=S2.box.cell 0;have z2:=S2.box.cell 2;simp only [Ad,Af]at z0 z2;rw [hW2]at k1 k2 z0 z2;have HW2:=Aa hW2;clear y0 HR hW2
 go_wp2_with fail
 obtain⟨n0,n1,n2,n3, -⟩:=Ce gU;have HB3:=Aa ((hb2.mono hbs).trans FT);have KG:=Aa ((Dn.of_below hb2).trans Tt);have P5:=Aa S3;have HR3:=Aa uq;have dO:=Aa hpre;have Tu:=Aa gU;clear k1 k2 z0 z2 hb1 Gv hb2 S2 Tt FT BN gU uq hpre o1 o2 o3 S3
 go_region_law(refine IY rfl (.tmp 42) (.tmp 44) 39 rfl Tryz.FV A ahead.length (ahead.map bv) (by simp [Act.eval]) (by exact HR3.out.1) (fun a e=>by obtain⟨g,_,_,e',_⟩:=HR3.out.2.1 a e;exact⟨g,e'⟩) (fun e=>by rw [HR3.out.2.2 e];rfl) A1 nd.pre.length c1 (nd.pre.map bv) (by simp [Act.eval]) (by exact dO.out) (Hw _) (by omega) (by decide) ?_;intro A4 c4 w4 hc4 hr4 hb4 OG)
 have Gl:Below W3.heap.size W3 w4:=((Dr.drew W3).below _).trans hb4;have HR4:Hid (KW w4 A4 (ahead++nd.pre)):=Aa (HR3.out.cut hr4 Gl OG);have S4:=P5.out.below Gl;have qX:=Tu.out.below Gl Tu.out.lt;have HN4:=Aa (HN3.out.below Gl);have HK4:=Aa (KG.out.trans (Dn.of_below Gl));have HB4:=Aa (HB3.out.trans (Gl.mono (Bf hbs (by have:=HB3.out.size;exact this))));have k5:(Instr.lookup 142 (.map (some mb)) (.int .i64 off) false).run Tryz.prog w4= .ok (.int .i64 1) w4:=O9 Tryz.J9 Tryz.underlying3 w4 mb (met.map fun o=>(o,(1:Int))) [] off 1 (by have:=S4.map;simpa using this) UT.out;have z0:=S4.box.cell 0;have z1:=S4.box.cell 1;have z2:=S4.box.cell 2;simp only [Ad,Af]at z0 z1 z2;obtain⟨n0,n1,n2,n3, -⟩:=Ce qX;have gI:=Aa S4;have qY:=Aa qX;clear Gl hb4 OG hr4 S4 qX P5 HR3 dO Tu HN3 KG HB3 HA UT HS HMt;generalize hn4:ahead.length+nd.pre.length=n4 at*;have NC:=Aa hn4;clear hn4;have HKy:=Aa (Adm A4 n4 c4 (ahead++nd.pre) w4 (by have:=NC.out;omega) (by have:=HR4.out.1;rw [AQ,NC.out]at this;exact this) HKo.out);obtain⟨ks,hks⟩:∃ks:ByteArray,ks=⟨(pairs (ahead++nd.pre)).toArray⟩:=⟨_,rfl⟩;rw [<-hks]at HKy;have HKs:=Aa hks;clear hks
 go_wp2_with fail
 refine HKy.out.mono ?_;rintro e w5⟨rfl,Ol⟩;have S5:=gI.out.below Ol;have Alk:=Aa (qY.out.below Ol qY.out.lt);have zn:=Aa (HR4.out.keep (Dn.of_below Ol));have HN5:=Aa (HN4.out.below Ol);have zB:=Aa (HK4.out.trans (Dn.of_below Ol));have Ou:=Aa (HB4.out.trans (Ol.mono (Bf hbs (by have:=HB4.out.size;exact this))));have HS5:=Aa S5;have An4:base<=w5.heap.size:=Bf hbs Ou.out.size;have hfew:=S5.few;clear z0 z1 z2 n0 n1 n2 n3 k5 HKy Ol;have z0:=S5.box.cell 0;have z1:=S5.box.cell 1;have z2:=S5.box.cell 2;have f1:=S5.box.frozen 1;have hsl:=S5.box.lt;simp only [Ad,Af]at z0 z1 z2;obtain⟨n0,n1,n2,n3, -⟩:=Ce Alk.out;have HVs:Hid (some sb≠v.ownBlock):=Aa (fun e=>S5.vs e.symm);clear S5
 go_wp2_with fail
 go_region_law(refine MJ rfl (.tmp 72) (.tmp 77) 122 rfl Tryz.Aek w5 base v items.length (items.map itV).flatten [.string ks,.int .u64 (nd.val.toNat:Int)] rfl HS5.out.row rfl rfl rfl rfl w5.heap.size 1 rfl rfl rfl (by decide) (by intro u hu;simp at hu;rcases hu with rfl| rfl<;>rfl) (by omega) (by decide) An4 ?_;intro g6 c6 w6 XQ QV hK6 gK;have zz1:=(World.cell?_of_block (w:=w5) (a:=⟨sb,1,none⟩) (hK6.2 sb hsl HVs.out)).trans z1;have ff1:=(World.frozen?_of_block (w:=w5) (a:=⟨sb,1,none⟩) (hK6.2 sb hsl HVs.out)).trans f1)
 all_goals
  obtain⟨q1,q2,q3⟩:=HS5.out.add (pairs (ahead++nd.pre),nd.val) (by have:=HLn.out;simp;omega) (by have:=XQ;rw [HKs.out]at this;exact this) QV hK6 gK;obtain⟨wl,hwl⟩:∃wl,wl=w6.setCell ⟨sb,1,none⟩ (.slice (some ⟨g6,0,none⟩) (items.length+1) c6):=⟨_,rfl⟩;rw [<-hwl]at q1 q2 q3;have HSl:=Aa q1;have dN:=Aa (Ou.out.trans q3);have HKl:=Aa (zB.out.trans q2);have HRl:=Aa (zn.out.keep q2);have HNl:=Aa (q2.nd HN5.out);have yl:=Aa (q2.box Alk.out);have HWl:=Aa hwl;clear n0 n1 n2 n3;obtain⟨n0,n1,n2,n3, -⟩:=Ce yl.out;rw [hwl]at n0 n1 n2 n3;clear q1 q2 q3 hwl
  go_wp2_with fail
  rw [<-HWl.out];clear XQ QV hK6 gK zz1 ff1 z0 z1 z2 f1
  go_loopw [84](fun i wr=>∃(k:Nat)(it:List (List UInt8×UInt64))(mt:List Int)(vk:Value),k<=nd.kids.length/\i= .int .i64 (k:Nat)/\Ei wr base sb mb x it mt vk/\Dn wl wr/\Below base wl wr/\((nd.labels.zip nd.kids).drop k).foldlM (fun(st:List (List UInt8×UInt64)×List Int)(lk:UInt8×UInt64)=>Dt s f lk.2 (ahead++nd.pre++[lk.1]) st) (it,mt)=Dt s (f+1) name ahead (items,met))(fun i _=>nd.kids.length- (intOf i).toNat)
  case atStart=>exact⟨0,_,_,_,Nat.zero_le _,rfl,HSl.out,Dn.refl _,Below.refl _ _,by rw [HP.out];rfl⟩
  case round=>
   obtain⟨k,it,mt,vk,hk,rfl,hsr,hkr,hbr,hfd⟩:=hrel;have HSr:=Aa hsr;have qZ:=Aa hkr;have Me:=Aa hbr;have HFd:=Aa hfd;clear hsr hkr hbr hfd n0 n1 n2 n3;by_cases hlt:k<nd.kids.length
   ·have hll:k<nd.labels.length:=by rw [HLk.out];exact hlt
    have hzl:k<(nd.labels.zip nd.kids).length:=by rw [Qe];omega
    have hdz:(nd.labels.zip nd.kids).drop k=(nd.labels[k],nd.kids[k])::(nd.labels.zip nd.kids).drop (k+1):=by
     rw [Fz hzl,zL]
    have rq:=HFd.out;rw [hdz,zM]at rq;obtain⟨_,_,_,_,_,_,eN,p1,p2,p3⟩:=qZ.out.nd HNl.out;simp only [Value.agg.injEq]at eN;simp at eN;obtain⟨⟨rfl,rfl⟩,⟨rfl,rfl⟩,⟨rfl,rfl⟩⟩:=eN;obtain⟨kb,ko,rfl,hkb,hkc⟩:=(Cj p3).2.2 (by omega);obtain⟨lb,lo,rfl,hlb,hlc⟩:=(Cj p2).2.2 (by omega);have ry:=hkc k hlt;rw [BO,Ag hlt]at ry;replace ry:_=some (Aw .u64 (nd.kids[k].toNat:Int)):=ry;have fH:=hlc k hll;rw [BO,Ag hll]at fH;replace fH:_=some (Aw .u8 (nd.labels[k].toNat:Int)):=fH;generalize nd.kids[k]=kid at*;generalize nd.labels[k]=lab at*;have Ab2:=Aa rq;obtain⟨n0,n1,n2,n3, -⟩:=Ce (qZ.out.box yl.out);have ag:=Aa (HRl.out.keep qZ.out);have Ut:Hid (∀W,Dn wr W->W.cell? ⟨w1.heap.size,2,none⟩=some (.slice (some ⟨lb,lo,none⟩) nd.labels.length c2)/\W.cell? ⟨lb,lo+k,none⟩=some (.int .u8 (lab.toNat:Int))):=Aa (fun W hW=>by
     refine⟨(Ce (hW.box (qZ.out.box yl.out))).2.2.1,?_⟩;obtain⟨b',o',e',_,hc'⟩:=(Cj (hW.own (.inl rfl) p2)).2.2 (by omega);injection e' with e'
     injection e' with e1 e2
     subst e1 e2;rw [hc' k hll,<-hlc k hll];exact fH)
    have HIH:=Aa (fun(W:World)(hW:Below wr.heap.size wr W)(A6:Option Addr)(c6:Nat)(Wx:KW W A6 (ahead++nd.pre++[lab]))(hc6:n4+1<=c6)=>ih W kid (ahead++nd.pre++[lab]) A6 c6 it mt vk (HX.out.past ((dN.out.trans Me.out).trans (hW.mono (Bf hbs (Bf dN.out.size Me.out.size)))) hF hxb htb) (HSr.out.below hW) Wx (by have:=NC.out;simp;omega) (by simp at Qd⊢;omega) (by simp;omega));rw [show(ahead++nd.pre++[lab]).length=n4+1 by have:=NC.out;simp;omega]at HIH;have hx1:(k:Int)<(nd.kids.length:Int):=by omega
    have hx2:decide ((k:Int)<(nd.kids.length:Int))=true:=decide_eq_true hx1;have hx3:(k:Int)<(nd.labels.length:Int):=by omega
    have hx4:decide ((k:Int)<(nd.labels.length:Int))=true:=decide_eq_true hx3;have hwk:IntKind.i64.wrap ((k:Int)+1)=(k:Int)+1:=wrap64 _ (by omega) (by omega);clear hkc hlc p1 p2 p3 hdz hzl rq
    go_wp2_with fail
    cases hv:Dt s f kid (ahead++nd.pre++[lab]) (it,mt)with
    | none=>
      have HT:Hid (Dt s (f+1) name ahead (items,met)=none):=Aa (by rw [<-Ab2.out];simp only [hv];rfl);rw [hv]at HIH;clear hv
      go_region_held_law(fun w'=>w'.cell? ⟨w1.heap.size,2,none⟩=some (.slice (some ⟨lb,lo,none⟩) nd.labels.length c2)/\w'.cell? ⟨lb,lo+k,none⟩=some (.int .u8 (lab.toNat:Int)))(first| go_keep| exact Ut.out _ ((Dn.of_below hb6).trans rC)| exact Ut.out _ (Dn.of_below hb6))
       (first
       | (refine Ll rfl (.tmp 96) (.tmp 102) 39 rfl Tryz.FV wr A4 n4 ((ahead++nd.pre).map bv) (by simp [Act.eval]) (by have:=ag.out.1;rw [AQ,NC.out]at this;exact this) (fun a e=>by obtain⟨g,_,_,e',_⟩:=ag.out.2.1 a e;exact⟨g,e'⟩) (fun e=>by have:=congrArg OU (ag.out.2.2 e);rw [AQ,NC.out]at this;exact this) (.int .u8 (lab.toNat:Int)) rfl rfl rfl rfl wr.heap.size 1 (by simp [Act.eval]) rfl rfl (by have:=NC.out;omega) (by decide) ?_;intro A6 c6 w6 hc6 Wx hb6 QN;have QO:KW w6 A6 (ahead++nd.pre++[lab]):=ag.out.cut (by rw [AQ,NC.out];exact Wx) hb6 QN)
       | (go_at_call 110;refine(HIH.out w6 hb6 A6 c6 QO hc6).mono ?_;rintro e w7⟨hb7,rC,hp7⟩;replace hp7:e= .returned (.int .i64 5):=hp7;subst hp7))
      all_goals(have HBf:=Aa ((dN.out.trans Me.out).trans ((hb6.mono (Bf hbs (Bf dN.out.size Me.out.size))).trans hb7)))
      all_goals(have HKf:=Aa (((HKl.out.trans qZ.out).trans (Dn.of_below hb6)).trans rC))
      all_goals(clear hb6 hb7 rC Wx QN QO)
      all_goals(go_wp2_with fail)
      all_goals(go_ret)
      all_goals(refine⟨HBf.out,HKf.out,?_⟩)
      all_goals(rw [HT.out])
      all_goals rfl
    | some im=>
      obtain⟨i2,m2⟩:=im;have Ah2:Hid (((nd.labels.zip nd.kids).drop (k+1)).foldlM (fun(st:List (List UInt8×UInt64)×List Int)(lk:UInt8×UInt64)=>Dt s f lk.2 (ahead++nd.pre++[lk.1]) st) (i2,m2)=Dt s (f+1) name ahead (items,met)):=Aa (by rw [<-Ab2.out];simp only [hv];rfl);rw [hv]at HIH;clear hv
      go_region_held_law(fun w'=>w'.cell? ⟨w1.heap.size,2,none⟩=some (.slice (some ⟨lb,lo,none⟩) nd.labels.length c2)/\w'.cell? ⟨lb,lo+k,none⟩=some (.int .u8 (lab.toNat:Int)))(first| go_keep| exact Ut.out _ ((Dn.of_below hb6).trans rC)| exact Ut.out _ (Dn.of_below hb6))
       (first
       | (refine Ll rfl (.tmp 96) (.tmp 102) 39 rfl Tryz.FV wr A4 n4 ((ahead++nd.pre).map bv) (by simp [Act.eval]) (by have:=ag.out.1;rw [AQ,NC.out]at this;exact this) (fun a e=>by obtain⟨g,_,_,e',_⟩:=ag.out.2.1 a e;exact⟨g,e'⟩) (fun e=>by have:=congrArg OU (ag.out.2.2 e);rw [AQ,NC.out]at this;exact this) (.int .u8 (lab.toNat:Int)) rfl rfl rfl rfl wr.heap.size 1 (by simp [Act.eval]) rfl rfl (by have:=NC.out;omega) (by decide) ?_;intro A6 c6 w6 hc6 Wx hb6 QN;have QO:KW w6 A6 (ahead++nd.pre++[lab]):=ag.out.cut (by rw [AQ,NC.out];exact Wx) hb6 QN)
       | (go_at_call 110;refine(HIH.out w6 hb6 A6 c6 QO hc6).mono ?_;rintro e w7⟨hb7,rC,hp7⟩;obtain⟨he7,v7,hs7⟩:=(hp7:e= .returned (.int .i64 0)/\∃v',Ei w7 base sb mb x i2 m2 v');subst he7))
      all_goals(have HBf:=Aa (Me.out.trans ((hb6.mono (Bf hbs (Bf dN.out.size Me.out.size))).trans hb7)))
      all_goals(have HKf:=Aa ((qZ.out.trans (Dn.of_below hb6)).trans rC))
      all_goals(have HSf:=Aa hs7)
      all_goals(clear hb6 hb7 rC Wx QN QO hs7)
      all_goals(go_wp2_with fail)
      all_goals(go_roundw)
      all_goals first
       | (case rel=>exact⟨k+1,i2,m2,v7,by omega,by go_num,HSf.out,HKf.out,HBf.out,Ah2.out⟩)
       | (case measure=>simp [intOf];omega)
   ·have hkn:k=nd.kids.length:=by omega
    have HT:Hid (Dt s (f+1) name ahead (items,met)=some (it,mt)):=Aa (by
     rw [<-HFd.out,Qm (by rw [Qe];omega)];rfl)
    have HBf:=Aa (dN.out.trans Me.out);have HKf:=Aa (HKl.out.trans qZ.out);subst hkn;clear ih
    go_wp2_with fail
    go_ret;refine⟨HBf.out,HKf.out,?_⟩;rw [HT.out];exact⟨rfl,vk,HSr.out⟩
end
theorem aO{len:Mode}{base sb mb x d p L:Nat}{s:St}{F:Nat->Prop}(hF:∀b,F b->b<base)(hxb:x<base)(htb:0<base/\1<base):∀(f:Nat)(w:World)(name:UInt64)(ahead:List UInt8)(A:Option Addr)(c:Nat)(items:List (List UInt8×UInt64))(met:List Int)(v:Value),Nv len w x d p L s F->Ei w base sb mb x items met v->KW w A ahead->ahead.length<=c->ahead.length<=33->34<=f+ahead.length->
 Calls Tryz.prog 110 #[.pointer (some ⟨sb,0,none⟩),.int .u64 (name.toNat:Int),.slice A ahead.length c] w (MK (Dt s f name ahead (items,met)) base sb mb x w)
 | 0,w,name,ahead,A,c,items,met,v,h,hs,hA,hac,hal,h34=>absurd h34 (by omega)
 | f+1,w,name,ahead,A,c,items,met,v,h,hs,hA,hac,hal,h34=>by
   cases hr:ER s name with
   | none=>exact qp h hF hs f name ahead A c hr
   | some nd=>
     by_cases hm:Be name∈met
     ·exact x9 h hF hs f name ahead A c hA hac hal nd hr hm
     ·by_cases Qd:32<(ahead++nd.pre).length
      ·exact yh h hF hs f name ahead A c hA hac hal nd hr hm Qd
      ·have ih:=fun(W:World)(kid:UInt64)(ah:List UInt8)(A:Option Addr)(c:Nat)(it:List (List UInt8×UInt64))(mt:List Int)(v:Value)(h1:Nv len W x d p L s F)(h2:Ei W base sb mb x it mt v)h3 h4 h5 h6=>aO hF hxb htb f W kid ah A c it mt v h1 h2 h3 h4 h5 h6
       by_cases hv:nd.val=0
       ·exact kX h hF hs f name ahead A c hA hac hal nd hr hm Qd hv hxb htb ih h34
       ·cases hk:MZ (ahead++nd.pre)with
        | false=>exact yj h hF hs f name ahead A c hA hac hal nd hr hm Qd hv hk
        | true=>exact kY h hF hs f name ahead A c hA hac hal nd hr hm Qd hv hk hxb htb ih h34
def Ae6(w:World)(base:Nat)(v:Value)(items:List (List UInt8×UInt64)):Prop:=w.ownsRow base 126 2 v items.length (items.map itV).flatten
def Ab3(s:St)(w:World)(x:Nat)(e:Ending)(w':World):Prop:=
 Below w.heap.size w w'/\match EH s with
  | none=>e= .returned (.tuple #[.pointer none,.int .i64 5])
  | some (items,met)=>∃sb mb v,e= .returned (.tuple #[.pointer (some ⟨sb,0,none⟩),.int .i64 0])/\Ei w' w.heap.size sb mb x items met v
section
variable{len:Mode}{w w':World}{x d p L:Nat}{s:St}{F:Nat->Prop}
theorem Uu(h:Nv len w x d p L s F):Calls Tryz.prog 58 #[.pointer (some ⟨x,0,none⟩)] w (Ab3 s w x):=by
 have HA:=Aa (JH h ⟨#[]⟩ (by decide));rw [if_neg (by decide)]at HA;have hxl:=h.box.lt;have hFl:=h.sys.lt;have htl:=h.sys.tabs.lt;have HX:=Aa h;have mm:=fun W=>run_makeMap (P:=Tryz.prog) 142 W
 obtain⟨w2,hw2⟩:∃w2,w2=(w.alloc (.map #[] 0)).alloc (.cells #[.pointer (some ⟨x,0,none⟩),.slice none 0 0,.map (some w.heap.size)] 144):=⟨_,rfl⟩;have hb2:Below w.heap.size w w2:=by
  have h1:Below w.heap.size w (w.alloc (.map #[] 0)):=(Below.refl _ _).alloc (Ae _) _;rw [hw2];exact h1.alloc h1.size _
 have hS:Ei w2 w.heap.size (w.heap.size+1) w.heap.size x [] [] (.slice none 0 0):=by
  refine⟨hw2▸um w _ _ _,World.ownsRow_nil _ _ _ _,?_,by omega,Ae _,(fun e=>nomatch e),aZ,(fun o ho=>nomatch ho),Ae _⟩;rw [hw2];exact(heap_alloc_old _ _ (by simp)).trans (heap_alloc_new _ _)
 have HS:=Aa hS;have HB2:=Aa hb2;have gJ:=Aa (XR (h.below hb2));have HW2:=Aa hw2;by_cases h0:s.ws 9=0
 ·have HP:Hid (EH s=some ([],[])):=Aa (by unfold EH;rw [if_pos h0]);have t0:(((s.ws 9).toNat:Int)!=0)=false:=by rw [h0];rfl
  clear h hS hb2 hw2 h0;go_enter Tryz.func58,Tryz.ntmps58
  go_wp2_with fail
  refine HA.out.mono ?_;rintro e w1⟨rfl,rfl⟩;clear HA
  go_wp2_with fail
  rw [<-HW2.out];refine gJ.out.mono ?_;rintro e w3⟨rfl,hb3⟩;have HB3:=Aa (HB2.out.trans (hb3.mono HB2.out.size));have P5:=Aa (HS.out.below hb3);clear hb3 gJ
  go_wp2_with fail
  go_ret2;refine⟨HB3.out,?_⟩;rw [HP.out];exact⟨_,_,_,rfl,P5.out⟩
 ·have HP:Hid (EH s=Dt s 34 (s.ws 9) [] ([],[])):=Aa (by unfold EH;rw [if_neg h0]);have t0:(((s.ws 9).toNat:Int)!=0)=true:=by
   rw [bne_iff_ne];intro e;exact h0 (DL.1 (by simp;omega))
  clear h hS hb2 hw2 h0;go_enter Tryz.func58,Tryz.ntmps58
  go_wp2_with fail
  refine HA.out.mono ?_;rintro e w1⟨rfl,rfl⟩;clear HA
  go_wp2_with fail
  rw [<-HW2.out];refine gJ.out.mono ?_;rintro e w3⟨rfl,hb3⟩;have HB3:=Aa (HB2.out.trans (hb3.mono HB2.out.size));have HV:=Aa (aO hFl hxl htl 34 w3 (s.ws 9) [] none 0 [] [] _ (HX.out.below HB3.out) (HS.out.below hb3) (KW.nil _) (Ae _) (by decide) (by decide));clear hb3 gJ;simp only [List.length_nil]at HV;cases hv:Dt s 34 (s.ws 9) [] ([],[])with
  | none=>
    have HP':Hid (EH s=none):=Aa (by rw [HP.out,hv]);rw [hv]at HV;clear hv HP
    go_wp2_with fail
    refine HV.out.mono ?_;rintro e w4⟨hb4,hk4,uz⟩;replace uz:e= .returned (.int .i64 5):=uz;subst uz;have HB4:=Aa (HB3.out.trans hb4);clear hb4 hk4 HV
    go_wp2_with fail
    go_ret2;refine⟨HB4.out,?_⟩;rw [HP'.out];rfl
  | some im=>
    obtain⟨i2,m2⟩:=im;have HP':Hid (EH s=some (i2,m2)):=Aa (by rw [HP.out,hv]);rw [hv]at HV;clear hv HP
    go_wp2_with fail
    refine HV.out.mono ?_;rintro e w4⟨hb4,hk4,uz⟩;obtain⟨he4,v4,hs4⟩:=(uz:e= .returned (.int .i64 0)/\∃v',Ei w4 w.heap.size (w.heap.size+1) w.heap.size x i2 m2 v');subst he4;have HB4:=Aa (HB3.out.trans hb4);have gI:=Aa hs4;clear hb4 hk4 HV hs4
    go_wp2_with fail
    go_ret2;refine⟨HB4.out,?_⟩;rw [HP'.out];exact⟨_,_,_,rfl,gI.out⟩
def Ae7(s:St)(w:World)(e:Ending)(w':World):Prop:=
 Below w.heap.size w w'/\match EH s with
  | none=>e= .returned (.tuple #[.slice none 0 0,.int .i64 5])
  | some (items,_)=>∃v,e= .returned (.tuple #[v,.int .i64 0])/\Ae6 w' w.heap.size v items/\items.length<=65537
theorem aP(h:Nv len w x d p L s F):Calls Tryz.prog 52 #[.pointer (some ⟨x,0,none⟩)] w (Ae7 s w):=by
 have HS:=Aa (Uu h);cases hv:EH s with
 | none=>
   have HV:=Aa hv;clear h hv;go_enter Tryz.func52,Tryz.ntmps52
   go_wp2_with fail
   refine HS.out.mono ?_;rintro e w1⟨hb1,hp1⟩;rw [HV.out]at hp1;replace hp1:e= .returned (.tuple #[.pointer none,.int .i64 5]):=hp1;subst hp1;have HB:=Aa hb1;clear hb1 HS
   go_wp2_with fail
   go_ret2;refine⟨HB.out,?_⟩;rw [HV.out];rfl
 | some im=>
   obtain⟨i2,m2⟩:=im;have HV:=Aa hv;clear h hv;go_enter Tryz.func52,Tryz.ntmps52
   go_wp2_with fail
   refine HS.out.mono ?_;rintro e w1⟨hb1,hp1⟩;rw [HV.out]at hp1;obtain⟨sb,mb,v,rfl,hs1⟩:=hp1;have z1:=hs1.box.cell 1;simp only [Af,Ad]at z1;have HB:=Aa hb1;have HI:=Aa hs1.row;have HFw:=Aa hs1.few;clear hb1 HS hs1
   go_wp2_with fail
   go_ret2;refine⟨HB.out,?_⟩;rw [HV.out];exact⟨v,rfl,HI.out,HFw.out⟩
end
section
variable{w w':World}{x d p L:Nat}{s:St}{F:Nat->Prop}
end
theorem RZ{α:Type} [DecidableEq α]:∀(l1 l2:List α),l1.Nodup->(∀x∈l1,x∈l2)->l1.length<=l2.length
 | [],_,_,_=>by simp
 | a::t,l2,hn,hs=>by
   obtain⟨h1,h2⟩:=GU.1 hn;have ha:=hs a (Bv ..);have ih:=RZ t (l2.erase a) h2 (fun x hx=>(List.mem_erase_of_ne (fun e:x=a=>h1 (by rw [<-e];exact hx))).2 (hs x (Bz _ hx)));rw [List.length_erase_of_mem ha]at ih;have:=List.length_pos_of_mem ha;rw [List.length_cons];omega
section
variable{X:Nat->Prop}{L:Nat}{s:St}{items:List Kv}
theorem QL.up(h:QL X L s items):zF items:=by
 rcases h.tree with⟨_,h2,_⟩| ⟨_,_,T,_⟩
 ·rw [h2];exact List.Pairwise.nil
 ·exact T.up h.ok
theorem Ah3{sh:Sh}(hL:L<=1024)(hs:shapeOf L=some sh):An3 L (st0 sh) []:=by
 have hok:=Io hs;have htk:∀i,Hr (st0 sh) i=0:=fun i=>by
  unfold Hr st0;simp only [Bh,Ii];split<;>rfl
 have hhd:∀i,hdN (st0 sh) i=0:=fun i=>by
  unfold hdN st0;simp only [Bh,Ii];split<;>rfl
 have hws:∀i,8<=i->(st0 sh).ws i=0:=fun i hi=>by
  show BA (fun _=>0) 0 (wordsOf sh) i=0;unfold BA;rw [if_neg];simp [wordsOf,headW];omega
 have hnt:∀o d,¬Ba (st0 sh) o d:=fun o d=>by
  rintro⟨i,a,_,ha,_⟩;rw [htk,Fq]at ha;cases ha
 refine⟨⟨hok,hL,by simp [st0],by simp [st0],fun i _=> .inl (htk i),fun i _=> .inl (hhd i),fun i _=> .inl (htk i),fun i a _ ha=> ?_,fun i _=> ?_⟩,fun o d=> ?_,.inl ⟨hws 9 (by decide),rfl,fun o=>⟨fun⟨d,hd⟩=>hnt o d hd,fun h=>h.elim⟩⟩,fun _ h=>by cases h⟩
 ·rw [htk,Fq]at ha;cases ha
 ·rw [hws _ (by omega)];show _=(List.replicate sh.BM (0:UInt64)).getD i 0;simp only [Bh,Ii];split<;>rfl
 ·rintro⟨i,a,_,ha,_⟩;rw [hhd,Fq]at ha;cases ha
end
inductive EK(s:St):UInt64->List Lk->Prop
 | nil:EK s 0 []
 | cons(o:Nat)(r:Rc)(l:List Lk):Ba s o 1->DU r=true->wordsAt s.ws (o/8) 8=CJ r->EK s r.next l->(∀k∈l,k.rc.stamp.toNat<r.stamp.toNat)->EK s (AA o) (⟨o,r⟩::l)
def Hm(l:List Lk):List Nat:=l.map (·.off.toNat)
section
variable{L:Nat}{s s':St}
theorem EK.keep{v:UInt64}{l:List Lk}(h:EK s v l){B:Nat->Prop}(k:FH s s' B)(hb:∀o∈Hm l,B o):EK s' v l:=by
 induction h with
 | nil=>exact .nil
 | cons o r l ht hr hw _ hs ih=>
   obtain⟨h1,h2⟩:=k o 1 (hb o (Bv ..)) ht;refine .cons o r l h1 hr ?_ (ih (fun p hp=>hb p (Bz _ hp))) hs;have:=Tf (o:=o) (c:=1) h2;rw [show 8*AZ 1=8 from rfl]at this;rw [this,hw]
theorem EK.nodup{v:UInt64}{l:List Lk}(h:EK s v l):(Hm l).Nodup/\∀k∈l,wordsAt s.ws (k.off.toNat/8) 8=CJ k.rc/\DU k.rc=true:=by
 induction h with
 | nil=>exact⟨aZ,fun _ h=>nomatch h⟩
 | cons o r l ht hr hw _ hs ih=>
   refine⟨GU.2 ⟨fun hm=> ?_,ih.1⟩,fun k hk=> ?_⟩
   ·obtain⟨k,hk,e⟩:=BX.1 hm;obtain⟨h1,h2⟩:=ih.2 k hk;have e1:CJ k.rc=CJ r:=by
     rw [<-h1,<-hw];have:k.off.toNat=o:=e;rw [this]
    have e2:k.rc=r:=by rw [<-Sz k.rc h2,e1,Sz r hr]
    have:=hs k hk;rw [e2]at this;omega
   ·rcases List.mem_cons.1 hk with rfl| hk
    ·exact⟨hw,hr⟩
    ·exact ih.2 k hk
theorem EK.list(ok:BG L s){v:UInt64}{l:List Lk}(h:EK s v l):∀(f:Nat)(acc:List Lk),l.length<f->(∀k∈l,k.rc.stamp.toNat<E5 acc)->S9 s f v acc=some (acc++l):=by
 induction h with
 | nil=>
   intro f acc hf _;cases f with
   | zero=>exact absurd hf (Adh _)
   | succ f=>unfold S9;rw [if_pos (by decide),List.append_nil]
 | cons o r l ht hr hw _ hs ih=>
   intro f acc hf hst;have hb:=ht.bounds ok;have h1:=ok.sh.NR;have h2:=ok.L1;cases f with
   | zero=>exact absurd hf (Adh _)
   | succ f=>
     unfold S9;rw [if_neg (by rw [D8 (by omega)];omega),LP (by omega),ht.class ok,if_neg (by simp),Int.toNat_natCast,hw,vN r hr];simp only;have h3:r.stamp.toNat<E5 acc:=hst _ (Bv ..);have e:=ih f (acc++([⟨(o:Int),r⟩]:List Lk)) (by simpa using hf) (fun k hk=>by
      have:=hs k hk;unfold E5;rw [List.getLast?_append,List.getLast?_singleton,Option.some_or];exact this)
     rw [if_neg (by omega),e,List.append_assoc];rfl
end
section
variable{X:Nat->Prop}{L:Nat}{s:St}{items:List Kv}
theorem QL.congr{Y:Nat->Prop}(h:QL X L s items)(e:∀o,X o<->Y o):QL Y L s items:=by
 have:X=Y:=funext fun o=>propext (e o)
 exact this▸h
theorem Ab4(h:QL X L s items)(r:Rc)(hr:DU r=true):
 GI s r=(s,0,6)\/∃s1 o,GI s r=(s1,AA o,0)/\(∀off t,C9 s 1=some (off,t)->(Fh {t with ws:=BA t.ws (off/8) (CJ r)} off).2=0)/\¬(∃d,Ba s o d)/\¬X o/\o<=65536/\0<o/\Ba s1 o 1/\wordsAt s1.ws (o/8) 8=CJ r/\
  QL (fun p=>X p\/p=o) L s1 items/\FH s s1 (fun _=>True)/\s1.sh=s.sh/\∀j,j<16->s1.ws j=s.ws j:=by
 unfold GI;rw [if_neg (by rw [hr];simp)];cases hres:C9 s 1 with
 | none=>exact .inl rfl
 | some p=>
   obtain⟨off,t⟩:=p;right;obtain⟨ok1,hw1,fE,Tj,hh1,_,hh2,ht1⟩:=PS h.ok (.inl rfl) hres;have hb1:=hh1.bounds ok1;have htf:=ok1.sh.NR;have hL1:=h.ok.L1;have hlen:=Hz r;have hl1:AZ 1=1:=rfl;have hput:∀i,¬Gy off 1 i->BA t.ws (off/8) (CJ r) i=t.ws i:=fun i hi=>by
    unfold BA;rw [if_neg];intro h;exact hi ⟨h.1,by rw [hlen]at h;omega⟩
   have hnot:∀i,i<16+t.sh.BM->¬Gy off 1 i:=fun i hi h=>by
    unfold Gy at h;omega
   obtain⟨t',ht'⟩:∃t',t'=({t with ws:=BA t.ws (off/8) (CJ r)}:St):=⟨_,rfl⟩;have Tm:BG L t':=ht'▸ok1.words (fun i hi=>hput _ (hnot _ (by omega)));have fF:Fv t' off 1:=by rw [ht'];exact hh1
   obtain⟨s2,e2,ok2,hsh2,hw2,ht2,Ahw⟩:=fC Tm fF;have kP:t'.sh=t.sh:=by rw [ht']
   have ht1':∀o d,Ba t' o d<->Ba s o d:=fun o d=>by rw [ht'];exact ht1 o d
   have hkeep:FH s s2 (fun _=>True):=fun o c _ ht=>by
    have Y3:=(ht1' o c).2 ht;obtain⟨hne,hap⟩:=N8 Tm fF Y3;have iR:=Y3.bounds Tm;refine⟨(ht2 o c).2 (.inl Y3),fun i hi=> ?_⟩;rw [hw2 i (.inr (Tm.DC iR.1 hi)),ht'];show BA t.ws (off/8) (CJ r) i=_;rw [hput i (fun h=>Ob hap hb1.2.2 iR.2.2 h hi),hw1]
   have hnew:¬∃d,Ba s off d:=fun⟨d,hd⟩=>(N8 Tm fF ((ht1' off d).2 hd)).1 rfl
   have hlow:∀j,j<16->s2.ws j=s.ws j:=fun j hj=>by
    rw [hw2 j (.inl hj),ht'];show BA t.ws (off/8) (CJ r) j=_;rw [hput j (hnot j (by omega)),hw1]
   have htk:∀o,(∃d,Ba s2 o d)<->(∃d,Ba s o d)\/o=off:=fun o=>by
    constructor
    ·rintro⟨d,hd⟩;rcases(ht2 o d).1 hd with h1| ⟨h1,_⟩
     ·exact .inl ⟨d,(ht1' o d).1 h1⟩
     ·exact .inr h1
    ·rintro(⟨d,hd⟩| rfl)
     ·exact⟨d,(ht2 o d).2 (.inl ((ht1' o d).2 hd))⟩
     ·exact⟨1,(ht2 _ _).2 (.inr ⟨rfl,rfl⟩)⟩
   have hXt:∀o,X o->∃d,Ba s o d:=fun o ho=>by
    rcases h.tree with⟨_,_,h3⟩| ⟨_,_,_,_,_,h3⟩
    ·exact(h3 o).2 ho
    ·exact(h3 o).2 (.inr ho)
   rw [ht']at e2;refine⟨s2,off,by simp only [e2,if_true],fun off' t2 e=> ?_,hnew,fun hx=>hnew (hXt off hx),by omega,by omega,(ht2 _ _).2 (.inr ⟨rfl,rfl⟩),?_,⟨ok2,fun o d hh=> ?_,?_,h.even⟩,hkeep,by rw [hsh2,kP,fE],hlow⟩
   ·injection e with e
    injection e with e3 e4
    subst e3;subst e4;rw [e2]
   ·refine List.ext_getElem (by simp [wordsAt,hlen]) fun i h1 h2=> ?_
    have hil:i<8:=by simpa [wordsAt]using h1
    rw [JL,hw2 _ (.inr (Tm.DC (by rw [kP];exact hb1.1) (c:=1) ⟨by omega,by omega⟩)),ht'];show BA t.ws (off/8) (CJ r) (off/8+i)=_;unfold BA;rw [if_pos ⟨by omega,by omega⟩,Nat.add_sub_cancel_left,Bh,Ag h2];rfl
   ·obtain⟨h1,h2⟩:=(Ahw o d).1 hh;rw [ht']at h1;rcases hh2 o d h1 with h3| h3
    ·exact h.nh o d h3
    ·exact h2 h3
   ·rcases h.tree with⟨h1,h2,h3⟩| ⟨bl,h1,h2,h3,hX,h4⟩
    ·exact .inl ⟨by rw [hlow 9 (by decide),h1],h2,fun o=>by rw [htk o,h3 o]⟩
    ·refine .inr ⟨bl,by rw [hlow 9 (by decide)];exact h1,by rw [hlow 9 (by decide)];exact h2.keep h.ok ok2 hkeep (fun _ _=>trivial),h3,fun o ho hx=> ?_,fun o=>by rw [htk o,h4 o,or_assoc]⟩;rcases hx with hx| rfl
     ·exact hX o ho hx
     ·exact hnew ((h4 _).2 (.inl ho))
theorem Ab5(h:QL X L s items){o:Nat}(ho:X o):∃s1,Fj s o=(s1,0)/\QL (fun p=>X p/\p≠o) L s1 items/\FH s s1 (fun p=>p≠o)/\s1.sh=s.sh/\∀j,j<16->s1.ws j=s.ws j:=by
 have hXt:∃d,Ba s o d:=by
  rcases h.tree with⟨_,_,h3⟩| ⟨_,_,_,_,_,h3⟩
  ·exact(h3 o).2 ho
  ·exact(h3 o).2 (.inr ho)
 obtain⟨c,ht⟩:=hXt;obtain⟨s1,e1,ok1,sh1,hd1,X5,tk1⟩:=fD h.ok ht;have hkeep:FH s s1 (fun p=>p≠o):=fun p d hp hpt=>⟨(tk1 p d).2 ⟨hpt,hp⟩,fun j hj=>X5 j (.inr (h.ok.DC (hpt.bounds h.ok).1 hj))⟩
 have htk:∀p,(∃d,Ba s1 p d)<->(∃d,Ba s p d)/\p≠o:=fun p=>by
  constructor
  ·rintro⟨d,hd⟩;obtain⟨h1,h2⟩:=(tk1 p d).1 hd;exact⟨⟨d,h1⟩,h2⟩
  ·rintro⟨⟨d,hd⟩,h2⟩;exact⟨d,(tk1 p d).2 ⟨hd,h2⟩⟩
 refine⟨s1,e1,⟨ok1,fun p d hh=>h.nh p d ((OO hd1 sh1 p d).1 hh),?_,h.even⟩,hkeep,sh1,fun j hj=>X5 j (.inl hj)⟩;rcases h.tree with⟨h1,h2,h3⟩| ⟨bl,h1,h2,h3,hX,h4⟩
 ·exact .inl ⟨by rw [X5 9 (.inl (by decide)),h1],h2,fun p=>by rw [htk p,h3 p]⟩
 ·have hno:∀p∈bl,p≠o:=fun p hp e=>hX p hp (e▸ho)
  refine .inr ⟨bl,by rw [X5 9 (.inl (by decide))];exact h1,by rw [X5 9 (.inl (by decide))];exact h2.keep h.ok ok1 hkeep hno,h3,fun p hp hx=>hX p hp hx.1,fun p=> ?_⟩;rw [htk p,h4 p];constructor
  ·rintro⟨h5| h5,h6⟩
   ·exact .inl h5
   ·exact .inr ⟨h5,h6⟩
  ·rintro(h5| ⟨h5,h6⟩)
   ·exact⟨.inl h5,hno p h5⟩
   ·exact⟨.inr h5,h6⟩
end
theorem aQ{w:World}{base base' k n:Nat}{e:TypeId}{v:Value}{xs:List Value}(h:w.ownsRow base e k v n xs)(hb:base'<=base):w.ownsRow base' e k v n xs:=
 ⟨h.1,h.2.imp id (fun⟨g,cap,cur,h1,h2,h3⟩=>⟨g,cap,cur,h1,Bf hb h2,h3⟩)⟩
end Go.Proofs.YtjcppneoncpdbaaGreatDoor
