import Derived.Deep.RegionHeldLaw
import Derived.Test.YtjcppneoncpdbaaGreatDoorG01
import Derived.Test.YtjcppneoncpdbaaGreatDoorG08
import Derived.Test.YtjcppneoncpdbaaGreatDoorG11
import Derived.Test.YtjcppneoncpdbaaGreatDoorG12
import Derived.Test.YtjcppneoncpdbaaGreatDoorG23
set_option maxHeartbeats 32000000
set_option maxRecDepth 100000
open Go.Lib renaming hid->Aa
open List renaming length_append->Az,getElem?_cons_zero->Ac,getElem?_cons_succ->Ae,length_zip->Px,drop_eq_getElem_cons->EG,getElem_zip->xn,foldlM_cons->xq,getElem?_map->BC,getElem?_eq_getElem->Af,length->Ju,drop_of_length_le->Kz,nodup_nil->Np,getElem?_append_right->BX,map_map->FM,length_cons->Bh,mem_cons_self->Be,mem_cons_of_mem->Bi,pairwise_map->Jy,getD_eq_getElem?_getD->AZ,getElem?_replicate->Gz,append_assoc->AA,mem_range->MN,getElem_of_mem->Ci,append_cancel_left->Dk,mem_append_left->Bl,map_cons->Bo,reverse_append->Si,reverse_singleton->P8,singleton_append->Q9,length_filter_le->KO,mergeSort_perm->L9,map_congr_left->Sj,length_map->CO,mem_singleton->BM
open Nat renaming le_of_lt->FB,lt_of_le_of_lt->Ej,le_refl->Ad,le_trans->AL,zero_le->BA,mul_comm->EC,not_lt_zero->Aa6
open Int renaming toNat_natCast->Bq,ofNat->CV
namespace Go.Proofs.YtjcppneoncpdbaaGreatDoor
open Go.RowKit
section
variable{len:Nat->Nat}{w w':World}{base sb mb x d p L:Nat}{s:St}{F:Nat->Prop}
theorem uZ(h:Qu len w x d p L s F)(_:∀b,F b->b<base){items:List (List UInt8×UInt64)}{met:List Int}{v:Value}(hs:DJ w base sb mb x items met v)(f:Nat)(name:UInt64)(ahead:List UInt8)(A:Option Addr)(c:Nat)(hA:JP w A ahead)(hac:ahead.length<=c)(hal:ahead.length<=33)(nd:Nd)(hr:Et s name=some nd)(hm:AX name∉met)(Pq:32<(ahead++nd.pre).length):
 Calls Tryz.prog 110 #[.pointer (some ⟨sb,0,none⟩),.int .u64 (name.toNat:Int),.slice A ahead.length c] w (Lr (CY s (f+1) name ahead (items,met)) base sb mb x w):=by
 have HP:Hid (CY s (f+1) name ahead (items,met)=none):=Aa (by rw [CY,hr];simp only;rw [if_pos (.inr Pq)]);have ht:decide ((32:Int)<((ahead.length+nd.pre.length:Nat):Int))=true:=decide_eq_true (by rw [Az]at Pq;omega);have HR:=Aa (II h name);have HRn:=Aa hr;have HS:=Aa hs;have HX:=Aa h;have hwr:IntKind.i64.wrap (name.toNat:Int)=AX name:=rfl;have hbl:=(Ez hr).1;have hbk:=(Ez hr).2.1;have hbb:=(Ez hr).2.2;have nX:=Aa (PU h hr);have zH:=Aa hm;have y0:=hs.box.cell 0;simp only [Ac]at y0;have hbs:base<=w.heap.size:=FB (Ej hs.bs hs.box.lt);have RY:Hid (∀q∈met.map (fun o=>(o,(1:Int))),q.1≠AX name):=Aa (fun q hq=>by
  obtain⟨o,ho,rfl⟩:=List.mem_map.1 hq;exact fun e=>hm (e▸ho))
 have HA:=Aa hA;generalize AX name=off at*;clear h hs hr hm hA;go_enter Tryz.func110,Tryz.ntmps110
 go_wp2_with fail
 refine HR.out.mono ?_;rintro e w1⟨hb1,hp1⟩;rw [HRn.out]at hp1;obtain⟨vn,rfl,hnd⟩:=hp1;obtain⟨A1,c1,A2,c2,A3,c3,rfl,o1,o2,o3⟩:=hnd;obtain⟨W2,hW2⟩:∃W2,W2=w1.alloc (.cells #[.slice A1 nd.pre.length c1,.int .u64 (nd.val.toNat:Int),.slice A2 nd.labels.length c2,.slice A3 nd.kids.length c3] 225):=⟨_,rfl⟩;have BN:BH W2 w1.heap.size 225 [.slice A1 nd.pre.length c1,.int .u64 (nd.val.toNat:Int),.slice A2 nd.labels.length c2,.slice A3 nd.kids.length c3]:=hW2▸heap_alloc_new _ _;have Fg:Below w1.heap.size w1 W2:=hW2▸(Below.refl _ _).alloc (Ad _) _;have hb2:Below w.heap.size w W2:=hb1.trans (Fg.mono hb1.size);have S2:=HS.out.below hb2;have k1:=VA Tryz.IL Tryz.underlying3 Tryz.VG W2 mb _ off S2.map RY.out;have k2:=ae Tryz.IL Tryz.underlying3 W2 mb _ off 1 S2.map RY.out;rw [show met.map (fun o=>(o,(1:Int)))++[(off,1)]=(met++[off]).map (fun o=>(o,(1:Int)))by simp]at k2;obtain⟨S3,RS,ET⟩:=S2.note nX.out zH.out;obtain⟨W3,hW3⟩:∃W3,W3=D9 W2 mb (Gi 0 ((met++[off]).map fun o=>(o,1))).toArray ((met++[off]).map fun o=>(o,(1:Int))).length:=⟨_,rfl⟩;rw [<-hW3]at k2 S3 RS ET;have dH:=RS.box BN;have qx:=(HA.out.keep (CW.of_below hb2)).keep RS;have zI:Hid (UM W3 w.heap.size (.agg #[.slice A1 nd.pre.length c1,.int .u64 (nd.val.toNat:Int),.slice A2 nd.labels.length c2,.slice A3 nd.kids.length c3]) nd):=Aa (RS.nd ⟨_,_,_,_,_,_,rfl,own_below o1 Fg,own_below o2 Fg,own_below o3 Fg⟩);have hpre:Rd W3 A1 nd.pre.length (nd.pre.map bv):=(BK (RS.own (.inl rfl) (own_below o1 Fg))).2;clear hW3;have z0:=S2.box.cell 0;have z2:=S2.box.cell 2;simp only [Ac,Ae]at z0 z2;rw [hW2]at k1 k2 z0 z2;have HW2:=Aa hW2;clear y0 HR hW2
 go_wp2_with fail
 obtain⟨n0,n1,n2,n3, -⟩:=Cb dH;have HB3:=Aa ((hb2.mono hbs).trans ET);have LP:=Aa ((CW.of_below hb2).trans RS);have O8:=Aa S3;have HR3:=Aa qx;have aK:=Aa hpre;have RU:=Aa dH;clear k1 k2 z0 z2 hb1 Fg hb2 S2 RS ET BN dH qx hpre o1 o2 o3 S3
 go_region_law(refine Ic rfl (.tmp 42) (.tmp 44) 39 rfl Tryz.FC A ahead.length (ahead.map bv) (by simp [Act.eval]) (by exact HR3.out.1) (fun a e=>by obtain⟨g,_,_,e',_⟩:=HR3.out.2.1 a e;exact⟨g,e'⟩) (fun e=>by rw [HR3.out.2.2 e];rfl) A1 nd.pre.length c1 (nd.pre.map bv) (by simp [Act.eval]) (by exact aK.out) (Gn _) (by omega) (by decide) ?_;intro A4 c4 w4 hc4 hr4 hb4 Ob)
 have Fz:Below W3.heap.size W3 w4:=((Dr.drew W3).below _).trans hb4;have HR4:Hid (JP w4 A4 (ahead++nd.pre)):=Aa (HR3.out.cut hr4 Fz Ob);have S4:=O8.out.below Fz;have nY:=RU.out.below Fz RU.out.lt;have HN4:=Aa (zI.out.below Fz);have HK4:=Aa (LP.out.trans (CW.of_below Fz));have HB4:=Aa (HB3.out.trans (Fz.mono (AL hbs (by have:=HB3.out.size;exact this))));have k5:(Instr.lookup 142 (.map (some mb)) (.int .i64 off) false).run Tryz.prog w4= .ok (.int .i64 1) w4:=NM Tryz.IL Tryz.underlying3 w4 mb (met.map fun o=>(o,(1:Int))) [] off 1 (by have:=S4.map;simpa using this) RY.out;have z0:=S4.box.cell 0;have z1:=S4.box.cell 1;have z2:=S4.box.cell 2;simp only [Ac,Ae]at z0 z1 z2;obtain⟨n0,n1,n2,n3, -⟩:=Cb nY;have dC:=Aa S4;have nZ:=Aa nY;clear Fz hb4 Ob hr4 S4 nY O8 HR3 aK RU zI LP HB3 HA RY HS zH;have ht2:(32:Int)<(ahead.length:Int)+(nd.pre.length:Int):=by simp at ht;omega
 go_wp2_with fail
 go_ret;refine⟨HB4.out,HK4.out,?_⟩;rw [HP.out];rfl
theorem ve(h:Qu len w x d p L s F)(_:∀b,F b->b<base){items:List (List UInt8×UInt64)}{met:List Int}{v:Value}(hs:DJ w base sb mb x items met v)(f:Nat)(name:UInt64)(ahead:List UInt8)(A:Option Addr)(c:Nat)(hA:JP w A ahead)(hac:ahead.length<=c)(_:ahead.length<=33)(nd:Nd)(hr:Et s name=some nd)(hm:AX name∉met)(Pq:¬32<(ahead++nd.pre).length)(hv:nd.val≠0)(hk:KE (ahead++nd.pre)=false):
 Calls Tryz.prog 110 #[.pointer (some ⟨sb,0,none⟩),.int .u64 (name.toNat:Int),.slice A ahead.length c] w (Lr (CY s (f+1) name ahead (items,met)) base sb mb x w):=by
 have HP:Hid (CY s (f+1) name ahead (items,met)=none):=Aa (by rw [CY,hr];simp only;rw [if_neg (fun e=>e.elim (fun e=>hm (by simpa using e)) Pq),if_pos ⟨hv,hk⟩]);rw [Az]at Pq;have ht2:¬(32:Int)<(ahead.length:Int)+(nd.pre.length:Int):=by omega
 have ht:decide ((32:Int)<((ahead.length+nd.pre.length:Nat):Int))=false:=decide_eq_false (by omega);have HKo:=Aa hk;have tv:((nd.val.toNat:Int)!=0)=true:=by
  rw [bne_iff_ne];intro e;exact hv (UInt64.toNat_inj.1 (by simp;omega))
 clear hk hv;have HR:=Aa (II h name);have HRn:=Aa hr;have HS:=Aa hs;have HX:=Aa h;have hwr:IntKind.i64.wrap (name.toNat:Int)=AX name:=rfl;have hbl:=(Ez hr).1;have hbk:=(Ez hr).2.1;have hbb:=(Ez hr).2.2;have nX:=Aa (PU h hr);have zH:=Aa hm;have y0:=hs.box.cell 0;simp only [Ac]at y0;have hbs:base<=w.heap.size:=FB (Ej hs.bs hs.box.lt);have RY:Hid (∀q∈met.map (fun o=>(o,(1:Int))),q.1≠AX name):=Aa (fun q hq=>by
  obtain⟨o,ho,rfl⟩:=List.mem_map.1 hq;exact fun e=>hm (e▸ho))
 have HA:=Aa hA;generalize AX name=off at*;clear h hs hr hm hA;go_enter Tryz.func110,Tryz.ntmps110
 go_wp2_with fail
 refine HR.out.mono ?_;rintro e w1⟨hb1,hp1⟩;rw [HRn.out]at hp1;obtain⟨vn,rfl,hnd⟩:=hp1;obtain⟨A1,c1,A2,c2,A3,c3,rfl,o1,o2,o3⟩:=hnd;obtain⟨W2,hW2⟩:∃W2,W2=w1.alloc (.cells #[.slice A1 nd.pre.length c1,.int .u64 (nd.val.toNat:Int),.slice A2 nd.labels.length c2,.slice A3 nd.kids.length c3] 225):=⟨_,rfl⟩;have BN:BH W2 w1.heap.size 225 [.slice A1 nd.pre.length c1,.int .u64 (nd.val.toNat:Int),.slice A2 nd.labels.length c2,.slice A3 nd.kids.length c3]:=hW2▸heap_alloc_new _ _;have Fg:Below w1.heap.size w1 W2:=hW2▸(Below.refl _ _).alloc (Ad _) _;have hb2:Below w.heap.size w W2:=hb1.trans (Fg.mono hb1.size);have S2:=HS.out.below hb2;have k1:=VA Tryz.IL Tryz.underlying3 Tryz.VG W2 mb _ off S2.map RY.out;have k2:=ae Tryz.IL Tryz.underlying3 W2 mb _ off 1 S2.map RY.out;rw [show met.map (fun o=>(o,(1:Int)))++[(off,1)]=(met++[off]).map (fun o=>(o,(1:Int)))by simp]at k2;obtain⟨S3,RS,ET⟩:=S2.note nX.out zH.out;obtain⟨W3,hW3⟩:∃W3,W3=D9 W2 mb (Gi 0 ((met++[off]).map fun o=>(o,1))).toArray ((met++[off]).map fun o=>(o,(1:Int))).length:=⟨_,rfl⟩;rw [<-hW3]at k2 S3 RS ET;have dH:=RS.box BN;have qx:=(HA.out.keep (CW.of_below hb2)).keep RS;have zI:Hid (UM W3 w.heap.size (.agg #[.slice A1 nd.pre.length c1,.int .u64 (nd.val.toNat:Int),.slice A2 nd.labels.length c2,.slice A3 nd.kids.length c3]) nd):=Aa (RS.nd ⟨_,_,_,_,_,_,rfl,own_below o1 Fg,own_below o2 Fg,own_below o3 Fg⟩);have hpre:Rd W3 A1 nd.pre.length (nd.pre.map bv):=(BK (RS.own (.inl rfl) (own_below o1 Fg))).2;clear hW3;have z0:=S2.box.cell 0;have z2:=S2.box.cell 2;simp only [Ac,Ae]at z0 z2;rw [hW2]at k1 k2 z0 z2;have HW2:=Aa hW2;clear y0 HR hW2
 go_wp2_with fail
 obtain⟨n0,n1,n2,n3, -⟩:=Cb dH;have HB3:=Aa ((hb2.mono hbs).trans ET);have LP:=Aa ((CW.of_below hb2).trans RS);have O8:=Aa S3;have HR3:=Aa qx;have aK:=Aa hpre;have RU:=Aa dH;clear k1 k2 z0 z2 hb1 Fg hb2 S2 RS ET BN dH qx hpre o1 o2 o3 S3
 go_region_law(refine Ic rfl (.tmp 42) (.tmp 44) 39 rfl Tryz.FC A ahead.length (ahead.map bv) (by simp [Act.eval]) (by exact HR3.out.1) (fun a e=>by obtain⟨g,_,_,e',_⟩:=HR3.out.2.1 a e;exact⟨g,e'⟩) (fun e=>by rw [HR3.out.2.2 e];rfl) A1 nd.pre.length c1 (nd.pre.map bv) (by simp [Act.eval]) (by exact aK.out) (Gn _) (by omega) (by decide) ?_;intro A4 c4 w4 hc4 hr4 hb4 Ob)
 have Fz:Below W3.heap.size W3 w4:=((Dr.drew W3).below _).trans hb4;have HR4:Hid (JP w4 A4 (ahead++nd.pre)):=Aa (HR3.out.cut hr4 Fz Ob);have S4:=O8.out.below Fz;have nY:=RU.out.below Fz RU.out.lt;have HN4:=Aa (zI.out.below Fz);have HK4:=Aa (LP.out.trans (CW.of_below Fz));have HB4:=Aa (HB3.out.trans (Fz.mono (AL hbs (by have:=HB3.out.size;exact this))));have k5:(Instr.lookup 142 (.map (some mb)) (.int .i64 off) false).run Tryz.prog w4= .ok (.int .i64 1) w4:=NM Tryz.IL Tryz.underlying3 w4 mb (met.map fun o=>(o,(1:Int))) [] off 1 (by have:=S4.map;simpa using this) RY.out;have z0:=S4.box.cell 0;have z1:=S4.box.cell 1;have z2:=S4.box.cell 2;simp only [Ac,Ae]at z0 z1 z2;obtain⟨n0,n1,n2,n3, -⟩:=Cb nY;have dC:=Aa S4;have nZ:=Aa nY;clear Fz hb4 Ob hr4 S4 nY O8 HR3 aK RU zI LP HB3 HA RY HS zH;have HKy:=Aeh A4 (ahead.length+nd.pre.length) c4 (ahead++nd.pre) w4 (by omega) (by have:=HR4.out.1;rw [Az]at this;exact this) HKo.out;have HKy:=Aa HKy
 go_wp2_with fail
 refine HKy.out.mono ?_;rintro e w5⟨rfl,rfl⟩;clear HKy
 go_wp2_with fail
 go_ret;refine⟨HB4.out,HK4.out,?_⟩;rw [HP.out];rfl
end
section
variable{len:Nat->Nat}{w w':World}{base sb mb x d p L:Nat}{s:St}{F:Nat->Prop}
theorem jk(h:Qu len w x d p L s F)(hF:∀b,F b->b<base){items:List (List UInt8×UInt64)}{met:List Int}{v:Value}(hs:DJ w base sb mb x items met v)(f:Nat)(name:UInt64)(ahead:List UInt8)(A:Option Addr)(c:Nat)(hA:JP w A ahead)(hac:ahead.length<=c)(_:ahead.length<=33)(nd:Nd)(hr:Et s name=some nd)(hm:AX name∉met)(Pq:¬32<(ahead++nd.pre).length)(hv:nd.val=0)(hxb:x<base)(htb:0<base/\1<base)(ih:∀(W:World)(kid:UInt64)(ah:List UInt8)(A:Option Addr)(c:Nat)(it:List (List UInt8×UInt64))(mt:List Int)(v:Value),Qu len W x d p L s F->DJ W base sb mb x it mt v->JP W A ah->ah.length<=c->ah.length<=33->34<=f+ah.length->Calls Tryz.prog 110 #[.pointer (some ⟨sb,0,none⟩),.int .u64 (kid.toNat:Int),.slice A ah.length c] W (Lr (CY s f kid ah (it,mt)) base sb mb x W))(h34:34<=f+1+ahead.length):
 Calls Tryz.prog 110 #[.pointer (some ⟨sb,0,none⟩),.int .u64 (name.toNat:Int),.slice A ahead.length c] w (Lr (CY s (f+1) name ahead (items,met)) base sb mb x w):=by
 have HP:Hid (CY s (f+1) name ahead (items,met)=(nd.labels.zip nd.kids).foldlM (fun(st:List (List UInt8×UInt64)×List Int)(lk:UInt8×UInt64)=>CY s f lk.2 (ahead++nd.pre++[lk.1]) st) (items,met++[AX name])):=Aa (by rw [CY,hr];simp only;rw [if_neg (fun e=>e.elim (fun e=>hm (by simpa using e)) Pq),if_neg (fun e=>e.1 hv),if_neg (fun e=>e hv)]);have zJ:=Pq;rw [Az]at zJ;have ht2:¬(32:Int)<(ahead.length:Int)+(nd.pre.length:Int):=by omega
 have ht:decide ((32:Int)<((ahead.length+nd.pre.length:Nat):Int))=false:=decide_eq_false (by omega);have tv:((nd.val.toNat:Int)!=0)=false:=by rw [hv];rfl
 have HLk:Hid (nd.labels.length=nd.kids.length):=Aa (by
  obtain⟨_,_,ok,EU⟩:=h.L0;exact((AY _).1 (aU ok EU hr).1).2.2.1)
 have HVv:=Aa hv;clear hv;have HR:=Aa (II h name);have HRn:=Aa hr;have HS:=Aa hs;have HX:=Aa h;have hwr:IntKind.i64.wrap (name.toNat:Int)=AX name:=rfl;have hbl:=(Ez hr).1;have hbk:=(Ez hr).2.1;have hbb:=(Ez hr).2.2;have nX:=Aa (PU h hr);have zH:=Aa hm;have y0:=hs.box.cell 0;simp only [Ac]at y0;have hbs:base<=w.heap.size:=FB (Ej hs.bs hs.box.lt);have RY:Hid (∀q∈met.map (fun o=>(o,(1:Int))),q.1≠AX name):=Aa (fun q hq=>by
  obtain⟨o,ho,rfl⟩:=List.mem_map.1 hq;exact fun e=>hm (e▸ho))
 have HA:=Aa hA;generalize AX name=off at*;clear h hs hr hm hA;go_enter Tryz.func110,Tryz.ntmps110
 go_wp2_with fail
 refine HR.out.mono ?_;rintro e w1⟨hb1,hp1⟩;rw [HRn.out]at hp1;obtain⟨vn,rfl,hnd⟩:=hp1;obtain⟨A1,c1,A2,c2,A3,c3,rfl,o1,o2,o3⟩:=hnd;obtain⟨W2,hW2⟩:∃W2,W2=w1.alloc (.cells #[.slice A1 nd.pre.length c1,.int .u64 (nd.val.toNat:Int),.slice A2 nd.labels.length c2,.slice A3 nd.kids.length c3] 225):=⟨_,rfl⟩;have BN:BH W2 w1.heap.size 225 [.slice A1 nd.pre.length c1,.int .u64 (nd.val.toNat:Int),.slice A2 nd.labels.length c2,.slice A3 nd.kids.length c3]:=hW2▸heap_alloc_new _ _;have Fg:Below w1.heap.size w1 W2:=hW2▸(Below.refl _ _).alloc (Ad _) _;have hb2:Below w.heap.size w W2:=hb1.trans (Fg.mono hb1.size);have S2:=HS.out.below hb2;have k1:=VA Tryz.IL Tryz.underlying3 Tryz.VG W2 mb _ off S2.map RY.out;have k2:=ae Tryz.IL Tryz.underlying3 W2 mb _ off 1 S2.map RY.out;rw [show met.map (fun o=>(o,(1:Int)))++[(off,1)]=(met++[off]).map (fun o=>(o,(1:Int)))by simp]at k2;obtain⟨S3,RS,ET⟩:=S2.note nX.out zH.out;obtain⟨W3,hW3⟩:∃W3,W3=D9 W2 mb (Gi 0 ((met++[off]).map fun o=>(o,1))).toArray ((met++[off]).map fun o=>(o,(1:Int))).length:=⟨_,rfl⟩;rw [<-hW3]at k2 S3 RS ET;have dH:=RS.box BN;have qx:=(HA.out.keep (CW.of_below hb2)).keep RS;have zI:Hid (UM W3 w.heap.size (.agg #[.slice A1 nd.pre.length c1,.int .u64 (nd.val.toNat:Int),.slice A2 nd.labels.length c2,.slice A3 nd.kids.length c3]) nd):=Aa (RS.nd ⟨_,_,_,_,_,_,rfl,own_below o1 Fg,own_below o2 Fg,own_below o3 Fg⟩);have hpre:Rd W3 A1 nd.pre.length (nd.pre.map bv):=(BK (RS.own (.inl rfl) (own_below o1 Fg))).2;clear hW3;have z0:=S2.box.cell 0;have z2:=S2.box.cell 2;simp only [Ac,Ae]at z0 z2;rw [hW2]at k1 k2 z0 z2;have HW2:=Aa hW2;clear y0 HR hW2
 go_wp2_with fail
 obtain⟨n0,n1,n2,n3, -⟩:=Cb dH;have HB3:=Aa ((hb2.mono hbs).trans ET);have LP:=Aa ((CW.of_below hb2).trans RS);have O8:=Aa S3;have HR3:=Aa qx;have aK:=Aa hpre;have RU:=Aa dH;clear k1 k2 z0 z2 hb1 Fg hb2 S2 RS ET BN dH qx hpre o1 o2 o3 S3
 go_region_law(refine Ic rfl (.tmp 42) (.tmp 44) 39 rfl Tryz.FC A ahead.length (ahead.map bv) (by simp [Act.eval]) (by exact HR3.out.1) (fun a e=>by obtain⟨g,_,_,e',_⟩:=HR3.out.2.1 a e;exact⟨g,e'⟩) (fun e=>by rw [HR3.out.2.2 e];rfl) A1 nd.pre.length c1 (nd.pre.map bv) (by simp [Act.eval]) (by exact aK.out) (Gn _) (by omega) (by decide) ?_;intro A4 c4 w4 hc4 hr4 hb4 Ob)
 have Fz:Below W3.heap.size W3 w4:=((Dr.drew W3).below _).trans hb4;have HR4:Hid (JP w4 A4 (ahead++nd.pre)):=Aa (HR3.out.cut hr4 Fz Ob);have S4:=O8.out.below Fz;have nY:=RU.out.below Fz RU.out.lt;have HN4:=Aa (zI.out.below Fz);have HK4:=Aa (LP.out.trans (CW.of_below Fz));have HB4:=Aa (HB3.out.trans (Fz.mono (AL hbs (by have:=HB3.out.size;exact this))));have k5:(Instr.lookup 142 (.map (some mb)) (.int .i64 off) false).run Tryz.prog w4= .ok (.int .i64 1) w4:=NM Tryz.IL Tryz.underlying3 w4 mb (met.map fun o=>(o,(1:Int))) [] off 1 (by have:=S4.map;simpa using this) RY.out;have z0:=S4.box.cell 0;have z1:=S4.box.cell 1;have z2:=S4.box.cell 2;simp only [Ac,Ae]at z0 z1 z2;obtain⟨n0,n1,n2,n3, -⟩:=Cb nY;have dC:=Aa S4;have nZ:=Aa nY;clear Fz hb4 Ob hr4 S4 nY O8 HR3 aK RU zI LP HB3 HA RY HS zH;generalize hn4:ahead.length+nd.pre.length=n4 at*;have ML:=Aa hn4;clear hn4;obtain⟨wl,hwl⟩:∃wl,wl=w4:=⟨_,rfl⟩;rw [<-hwl]at dC HK4 HB4 HR4 HN4 nZ k5 z0 z1 z2 n0 n1 n2 n3⊢;clear hwl;have Pv:=dC;have aJ:=HB4;have HKl:=HK4;have HRl:=HR4;have HNl:=HN4;have vg:=nZ
 go_wp2_with fail
 go_loopw [84](fun i wr=>∃(k:Nat)(it:List (List UInt8×UInt64))(mt:List Int)(vk:Value),k<=nd.kids.length/\i= .int .i64 (k:Nat)/\DJ wr base sb mb x it mt vk/\CW wl wr/\Below base wl wr/\((nd.labels.zip nd.kids).drop k).foldlM (fun(st:List (List UInt8×UInt64)×List Int)(lk:UInt8×UInt64)=>CY s f lk.2 (ahead++nd.pre++[lk.1]) st) (it,mt)=CY s (f+1) name ahead (items,met))(fun i _=>nd.kids.length- (intOf i).toNat)
 case atStart=>exact⟨0,_,_,_,BA _,rfl,Pv.out,CW.refl _,Below.refl _ _,by rw [HP.out];rfl⟩
 case round=>
  obtain⟨k,it,mt,vk,hk,rfl,hsr,hkr,hbr,hfd⟩:=hrel;have HSr:=Aa hsr;have og:=Aa hkr;have Py:=Aa hbr;have HFd:=Aa hfd;clear hsr hkr hbr hfd n0 n1 n2 n3;by_cases hlt:k<nd.kids.length
  ·have hll:k<nd.labels.length:=by rw [HLk.out];exact hlt
   have hzl:k<(nd.labels.zip nd.kids).length:=by rw [Px];omega
   have hdz:(nd.labels.zip nd.kids).drop k=(nd.labels[k],nd.kids[k])::(nd.labels.zip nd.kids).drop (k+1):=by
    rw [EG hzl,xn]
   have oh:=HFd.out;rw [hdz,xq]at oh;obtain⟨_,_,_,_,_,_,eN,p1,p2,p3⟩:=og.out.nd HNl.out;simp only [Value.agg.injEq]at eN;simp at eN;obtain⟨⟨rfl,rfl⟩,⟨rfl,rfl⟩,⟨rfl,rfl⟩⟩:=eN;obtain⟨kb,ko,rfl,hkb,hkc⟩:=(BK p3).2.2 (by omega);obtain⟨lb,lo,rfl,hlb,hlc⟩:=(BK p2).2.2 (by omega);have oq:=hkc k hlt;rw [BC,Af hlt]at oq;replace oq:_=some (Value.int .u64 (nd.kids[k].toNat:Int)):=oq;have bM:=hlc k hll;rw [BC,Af hll]at bM;replace bM:_=some (Value.int .u8 (nd.labels[k].toNat:Int)):=bM;generalize nd.kids[k]=kid at*;generalize nd.labels[k]=lab at*;have zK:=Aa oh;obtain⟨n0,n1,n2,n3, -⟩:=Cb (og.out.box vg.out);have Zi:=Aa (HRl.out.keep og.out);have Tz:Hid (∀W,CW wr W->W.cell? ⟨w1.heap.size,2,none⟩=some (.slice (some ⟨lb,lo,none⟩) nd.labels.length c2)/\W.cell? ⟨lb,lo+k,none⟩=some (.int .u8 (lab.toNat:Int))):=Aa (fun W hW=>by
    refine⟨(Cb (hW.box (og.out.box vg.out))).2.2.1,?_⟩;obtain⟨b',o',e',_,hc'⟩:=(BK (hW.own (.inl rfl) p2)).2.2 (by omega);injection e' with e'
    injection e' with e1 e2
    subst e1 e2;rw [hc' k hll,<-hlc k hll];exact bM)
   have HIH:=Aa (fun(W:World)(hW:Below wr.heap.size wr W)(A6:Option Addr)(c6:Nat)(Ya:JP W A6 (ahead++nd.pre++[lab]))(hc6:n4+1<=c6)=>ih W kid (ahead++nd.pre++[lab]) A6 c6 it mt vk (HX.out.past ((aJ.out.trans Py.out).trans (hW.mono (AL hbs (AL aJ.out.size Py.out.size)))) hF hxb htb) (HSr.out.below hW) Ya (by have:=ML.out;simp;omega) (by simp at Pq⊢;omega) (by simp;omega));rw [show(ahead++nd.pre++[lab]).length=n4+1 by have:=ML.out;simp;omega]at HIH;have hx1:(k:Int)<(nd.kids.length:Int):=by omega
   have hx2:decide ((k:Int)<(nd.kids.length:Int))=true:=decide_eq_true hx1;have hx3:(k:Int)<(nd.labels.length:Int):=by omega
   have hx4:decide ((k:Int)<(nd.labels.length:Int))=true:=decide_eq_true hx3;have hwk:IntKind.i64.wrap ((k:Int)+1)=(k:Int)+1:=wrap64 _ (by omega) (by omega);clear hkc hlc p1 p2 p3 hdz hzl oh
   go_wp2_with fail
   cases hv:CY s f kid (ahead++nd.pre++[lab]) (it,mt)with
   | none=>
     have HT:Hid (CY s (f+1) name ahead (items,met)=none):=Aa (by rw [<-zK.out];simp only [hv];rfl);rw [hv]at HIH;clear hv
     go_region_held_law(fun w'=>w'.cell? ⟨w1.heap.size,2,none⟩=some (.slice (some ⟨lb,lo,none⟩) nd.labels.length c2)/\w'.cell? ⟨lb,lo+k,none⟩=some (.int .u8 (lab.toNat:Int)))(first| go_keep| exact Tz.out _ ((CW.of_below hb6).trans ou)| exact Tz.out _ (CW.of_below hb6))
      (first
      | (refine Kr rfl (.tmp 96) (.tmp 102) 39 rfl Tryz.FC wr A4 n4 ((ahead++nd.pre).map bv) (by simp [Act.eval]) (by have:=Zi.out.1;rw [Az,ML.out]at this;exact this) (fun a e=>by obtain⟨g,_,_,e',_⟩:=Zi.out.2.1 a e;exact⟨g,e'⟩) (fun e=>by have:=congrArg Ju (Zi.out.2.2 e);rw [Az,ML.out]at this;exact this) (.int .u8 (lab.toNat:Int)) rfl rfl rfl rfl wr.heap.size 1 (by simp [Act.eval]) rfl rfl (by have:=ML.out;omega) (by decide) ?_;intro A6 c6 w6 hc6 Ya hb6 Qi;have Qj:JP w6 A6 (ahead++nd.pre++[lab]):=Zi.out.cut (by rw [Az,ML.out];exact Ya) hb6 Qi)
      | (go_at_call 110;refine(HIH.out w6 hb6 A6 c6 Qj hc6).mono ?_;rintro e w7⟨hb7,ou,zL⟩;replace zL:e= .returned (.int .i64 5):=zL;subst zL))
     all_goals(have zM:=Aa ((aJ.out.trans Py.out).trans ((hb6.mono (AL hbs (AL aJ.out.size Py.out.size))).trans hb7)))
     all_goals(have zN:=Aa (((HKl.out.trans og.out).trans (CW.of_below hb6)).trans ou))
     all_goals(clear hb6 hb7 ou Ya Qi Qj)
     all_goals(go_wp2_with fail)
     all_goals(go_ret)
     all_goals(refine⟨zM.out,zN.out,?_⟩)
     all_goals(rw [HT.out])
     all_goals rfl
   | some im=>
     obtain⟨i2,m2⟩:=im;have Afu:Hid (((nd.labels.zip nd.kids).drop (k+1)).foldlM (fun(st:List (List UInt8×UInt64)×List Int)(lk:UInt8×UInt64)=>CY s f lk.2 (ahead++nd.pre++[lk.1]) st) (i2,m2)=CY s (f+1) name ahead (items,met)):=Aa (by rw [<-zK.out];simp only [hv];rfl);rw [hv]at HIH;clear hv
     go_region_held_law(fun w'=>w'.cell? ⟨w1.heap.size,2,none⟩=some (.slice (some ⟨lb,lo,none⟩) nd.labels.length c2)/\w'.cell? ⟨lb,lo+k,none⟩=some (.int .u8 (lab.toNat:Int)))(first| go_keep| exact Tz.out _ ((CW.of_below hb6).trans ou)| exact Tz.out _ (CW.of_below hb6))
      (first
      | (refine Kr rfl (.tmp 96) (.tmp 102) 39 rfl Tryz.FC wr A4 n4 ((ahead++nd.pre).map bv) (by simp [Act.eval]) (by have:=Zi.out.1;rw [Az,ML.out]at this;exact this) (fun a e=>by obtain⟨g,_,_,e',_⟩:=Zi.out.2.1 a e;exact⟨g,e'⟩) (fun e=>by have:=congrArg Ju (Zi.out.2.2 e);rw [Az,ML.out]at this;exact this) (.int .u8 (lab.toNat:Int)) rfl rfl rfl rfl wr.heap.size 1 (by simp [Act.eval]) rfl rfl (by have:=ML.out;omega) (by decide) ?_;intro A6 c6 w6 hc6 Ya hb6 Qi;have Qj:JP w6 A6 (ahead++nd.pre++[lab]):=Zi.out.cut (by rw [Az,ML.out];exact Ya) hb6 Qi)
      | (go_at_call 110;refine(HIH.out w6 hb6 A6 c6 Qj hc6).mono ?_;rintro e w7⟨hb7,ou,zL⟩;obtain⟨he7,v7,hs7⟩:=(zL:e= .returned (.int .i64 0)/\∃v',DJ w7 base sb mb x i2 m2 v');subst he7))
     all_goals(have zM:=Aa (Py.out.trans ((hb6.mono (AL hbs (AL aJ.out.size Py.out.size))).trans hb7)))
     all_goals(have zN:=Aa ((og.out.trans (CW.of_below hb6)).trans ou))
     all_goals(have HSf:=Aa hs7)
     all_goals(clear hb6 hb7 ou Ya Qi Qj hs7)
     all_goals(go_wp2_with fail)
     all_goals(go_roundw)
     all_goals first
      | (case rel=>exact⟨k+1,i2,m2,v7,by omega,by go_num,HSf.out,zN.out,zM.out,Afu.out⟩)
      | (case measure=>simp [intOf];omega)
  ·have hkn:k=nd.kids.length:=by omega
   have HT:Hid (CY s (f+1) name ahead (items,met)=some (it,mt)):=Aa (by
    rw [<-HFd.out,Kz (by rw [Px];omega)];rfl)
   have zM:=Aa (aJ.out.trans Py.out);have zN:=Aa (HKl.out.trans og.out);subst hkn;clear ih
   go_wp2_with fail
   go_ret;refine⟨zM.out,zN.out,?_⟩;rw [HT.out];exact⟨rfl,vk,HSr.out⟩
end
section
variable{len:Nat->Nat}{w w':World}{base sb mb x d p L:Nat}{s:St}{F:Nat->Prop}
theorem jl(h:Qu len w x d p L s F)(hF:∀b,F b->b<base){items:List (List UInt8×UInt64)}{met:List Int}{v:Value}(hs:DJ w base sb mb x items met v)(f:Nat)(name:UInt64)(ahead:List UInt8)(A:Option Addr)(c:Nat)(hA:JP w A ahead)(hac:ahead.length<=c)(_:ahead.length<=33)(nd:Nd)(hr:Et s name=some nd)(hm:AX name∉met)(Pq:¬32<(ahead++nd.pre).length)(hv:nd.val≠0)(hkk:KE (ahead++nd.pre)=true)(hxb:x<base)(htb:0<base/\1<base)(ih:∀(W:World)(kid:UInt64)(ah:List UInt8)(A:Option Addr)(c:Nat)(it:List (List UInt8×UInt64))(mt:List Int)(v:Value),Qu len W x d p L s F->DJ W base sb mb x it mt v->JP W A ah->ah.length<=c->ah.length<=33->34<=f+ah.length->Calls Tryz.prog 110 #[.pointer (some ⟨sb,0,none⟩),.int .u64 (kid.toNat:Int),.slice A ah.length c] W (Lr (CY s f kid ah (it,mt)) base sb mb x W))(h34:34<=f+1+ahead.length):
 Calls Tryz.prog 110 #[.pointer (some ⟨sb,0,none⟩),.int .u64 (name.toNat:Int),.slice A ahead.length c] w (Lr (CY s (f+1) name ahead (items,met)) base sb mb x w):=by
 have HP:Hid (CY s (f+1) name ahead (items,met)=(nd.labels.zip nd.kids).foldlM (fun(st:List (List UInt8×UInt64)×List Int)(lk:UInt8×UInt64)=>CY s f lk.2 (ahead++nd.pre++[lk.1]) st) (items++[(pairs (ahead++nd.pre),nd.val)],met++[AX name])):=Aa (by rw [CY,hr];simp only;rw [if_neg (fun e=>e.elim (fun e=>hm (by simpa using e)) Pq),if_neg (fun e=>by rw [hkk]at e;exact nomatch e.2),if_pos hv]);have zJ:=Pq;rw [Az]at zJ;have ht2:¬(32:Int)<(ahead.length:Int)+(nd.pre.length:Int):=by omega
 have ht:decide ((32:Int)<((ahead.length+nd.pre.length:Nat):Int))=false:=decide_eq_false (by omega);have tv:((nd.val.toNat:Int)!=0)=true:=by
  rw [bne_iff_ne];intro e;exact hv (UInt64.toNat_inj.1 (by simp;omega))
 have HLk:Hid (nd.labels.length=nd.kids.length):=Aa (by
  obtain⟨_,_,ok,EU⟩:=h.L0;exact((AY _).1 (aU ok EU hr).1).2.2.1)
 have HLn:=Aa hs.len;have HKo:=Aa hkk;clear hv hkk;have HR:=Aa (II h name);have HRn:=Aa hr;have HS:=Aa hs;have HX:=Aa h;have hwr:IntKind.i64.wrap (name.toNat:Int)=AX name:=rfl;have hbl:=(Ez hr).1;have hbk:=(Ez hr).2.1;have hbb:=(Ez hr).2.2;have nX:=Aa (PU h hr);have zH:=Aa hm;have y0:=hs.box.cell 0;simp only [Ac]at y0;have hbs:base<=w.heap.size:=FB (Ej hs.bs hs.box.lt);have RY:Hid (∀q∈met.map (fun o=>(o,(1:Int))),q.1≠AX name):=Aa (fun q hq=>by
  obtain⟨o,ho,rfl⟩:=List.mem_map.1 hq;exact fun e=>hm (e▸ho))
 have HA:=Aa hA;generalize AX name=off at*;clear h hs hr hm hA;go_enter Tryz.func110,Tryz.ntmps110
 go_wp2_with fail
 refine HR.out.mono ?_;rintro e w1⟨hb1,hp1⟩;rw [HRn.out]at hp1;obtain⟨vn,rfl,hnd⟩:=hp1;obtain⟨A1,c1,A2,c2,A3,c3,rfl,o1,o2,o3⟩:=hnd;obtain⟨W2,hW2⟩:∃W2,W2=w1.alloc (.cells #[.slice A1 nd.pre.length c1,.int .u64 (nd.val.toNat:Int),.slice A2 nd.labels.length c2,.slice A3 nd.kids.length c3] 225):=⟨_,rfl⟩;have BN:BH W2 w1.heap.size 225 [.slice A1 nd.pre.length c1,.int .u64 (nd.val.toNat:Int),.slice A2 nd.labels.length c2,.slice A3 nd.kids.length c3]:=hW2▸heap_alloc_new _ _;have Fg:Below w1.heap.size w1 W2:=hW2▸(Below.refl _ _).alloc (Ad _) _;have hb2:Below w.heap.size w W2:=hb1.trans (Fg.mono hb1.size);have S2:=HS.out.below hb2;have k1:=VA Tryz.IL Tryz.underlying3 Tryz.VG W2 mb _ off S2.map RY.out;have k2:=ae Tryz.IL Tryz.underlying3 W2 mb _ off 1 S2.map RY.out;rw [show met.map (fun o=>(o,(1:Int)))++[(off,1)]=(met++[off]).map (fun o=>(o,(1:Int)))by simp]at k2;obtain⟨S3,RS,ET⟩:=S2.note nX.out zH.out;obtain⟨W3,hW3⟩:∃W3,W3=D9 W2 mb (Gi 0 ((met++[off]).map fun o=>(o,1))).toArray ((met++[off]).map fun o=>(o,(1:Int))).length:=⟨_,rfl⟩;rw [<-hW3]at k2 S3 RS ET;have dH:=RS.box BN;have qx:=(HA.out.keep (CW.of_below hb2)).keep RS;have zI:Hid (UM W3 w.heap.size (.agg #[.slice A1 nd.pre.length c1,.int .u64 (nd.val.toNat:Int),.slice A2 nd.labels.length c2,.slice A3 nd.kids.length c3]) nd):=Aa (RS.nd ⟨_,_,_,_,_,_,rfl,own_below o1 Fg,own_below o2 Fg,own_below o3 Fg⟩);have hpre:Rd W3 A1 nd.pre.length (nd.pre.map bv):=(BK (RS.own (.inl rfl) (own_below o1 Fg))).2;clear hW3;have z0:=S2.box.cell 0;have z2:=S2.box.cell 2;simp only [Ac,Ae]at z0 z2;rw [hW2]at k1 k2 z0 z2;have HW2:=Aa hW2;clear y0 HR hW2
 go_wp2_with fail
 obtain⟨n0,n1,n2,n3, -⟩:=Cb dH;have HB3:=Aa ((hb2.mono hbs).trans ET);have LP:=Aa ((CW.of_below hb2).trans RS);have O8:=Aa S3;have HR3:=Aa qx;have aK:=Aa hpre;have RU:=Aa dH;clear k1 k2 z0 z2 hb1 Fg hb2 S2 RS ET BN dH qx hpre o1 o2 o3 S3
 go_region_law(refine Ic rfl (.tmp 42) (.tmp 44) 39 rfl Tryz.FC A ahead.length (ahead.map bv) (by simp [Act.eval]) (by exact HR3.out.1) (fun a e=>by obtain⟨g,_,_,e',_⟩:=HR3.out.2.1 a e;exact⟨g,e'⟩) (fun e=>by rw [HR3.out.2.2 e];rfl) A1 nd.pre.length c1 (nd.pre.map bv) (by simp [Act.eval]) (by exact aK.out) (Gn _) (by omega) (by decide) ?_;intro A4 c4 w4 hc4 hr4 hb4 Ob)
 have Fz:Below W3.heap.size W3 w4:=((Dr.drew W3).below _).trans hb4;have HR4:Hid (JP w4 A4 (ahead++nd.pre)):=Aa (HR3.out.cut hr4 Fz Ob);have S4:=O8.out.below Fz;have nY:=RU.out.below Fz RU.out.lt;have HN4:=Aa (zI.out.below Fz);have HK4:=Aa (LP.out.trans (CW.of_below Fz));have HB4:=Aa (HB3.out.trans (Fz.mono (AL hbs (by have:=HB3.out.size;exact this))));have k5:(Instr.lookup 142 (.map (some mb)) (.int .i64 off) false).run Tryz.prog w4= .ok (.int .i64 1) w4:=NM Tryz.IL Tryz.underlying3 w4 mb (met.map fun o=>(o,(1:Int))) [] off 1 (by have:=S4.map;simpa using this) RY.out;have z0:=S4.box.cell 0;have z1:=S4.box.cell 1;have z2:=S4.box.cell 2;simp only [Ac,Ae]at z0 z1 z2;obtain⟨n0,n1,n2,n3, -⟩:=Cb nY;have dC:=Aa S4;have nZ:=Aa nY;clear Fz hb4 Ob hr4 S4 nY O8 HR3 aK RU zI LP HB3 HA RY HS zH;generalize hn4:ahead.length+nd.pre.length=n4 at*;have ML:=Aa hn4;clear hn4;have HKy:=Aa (Abb A4 n4 c4 (ahead++nd.pre) w4 (by have:=ML.out;omega) (by have:=HR4.out.1;rw [Az,ML.out]at this;exact this) HKo.out);obtain⟨ks,hks⟩:∃ks:ByteArray,ks=⟨(pairs (ahead++nd.pre)).toArray⟩:=⟨_,rfl⟩;rw [<-hks]at HKy;have HKs:=Aa hks;clear hks
 go_wp2_with fail
 refine HKy.out.mono ?_;rintro e w5⟨rfl,Ny⟩;have S5:=dC.out.below Ny;have Ajb:=Aa (nZ.out.below Ny nZ.out.lt);have HR5:=Aa (HR4.out.keep (CW.of_below Ny));have HN5:=Aa (HN4.out.below Ny);have wW:=Aa (HK4.out.trans (CW.of_below Ny));have MF:=Aa (HB4.out.trans (Ny.mono (AL hbs (by have:=HB4.out.size;exact this))));have HS5:=Aa S5;have Ali:base<=w5.heap.size:=AL hbs MF.out.size;have hfew:=S5.few;clear z0 z1 z2 n0 n1 n2 n3 k5 HKy Ny;have z0:=S5.box.cell 0;have z1:=S5.box.cell 1;have z2:=S5.box.cell 2;have f1:=S5.box.frozen 1;have hsl:=S5.box.lt;simp only [Ac,Ae]at z0 z1 z2;obtain⟨n0,n1,n2,n3, -⟩:=Cb Ajb.out;have HVs:Hid (some sb≠v.ownBlock):=Aa (fun e=>S5.vs e.symm);clear S5
 go_wp2_with fail
 go_region_law(refine Lp rfl (.tmp 72) (.tmp 77) 122 rfl Tryz.Ach w5 base v items.length (items.map itV).flatten [.string ks,.int .u64 (nd.val.toNat:Int)] rfl HS5.out.row rfl rfl rfl rfl w5.heap.size 1 rfl rfl rfl (by decide) (by intro u hu;simp at hu;rcases hu with rfl| rfl<;>rfl) (by omega) (by decide) Ali ?_;intro g6 c6 w6 WV TM hK6 dE;have zz1:=(World.cell?_of_block (w:=w5) (a:=⟨sb,1,none⟩) (hK6.2 sb hsl HVs.out)).trans z1;have ff1:=(World.frozen?_of_block (w:=w5) (a:=⟨sb,1,none⟩) (hK6.2 sb hsl HVs.out)).trans f1)
 all_goals
  obtain⟨q1,q2,q3⟩:=HS5.out.add (pairs (ahead++nd.pre),nd.val) (by have:=HLn.out;simp;omega) (by have:=WV;rw [HKs.out]at this;exact this) TM hK6 dE;obtain⟨wl,hwl⟩:∃wl,wl=w6.setCell ⟨sb,1,none⟩ (.slice (some ⟨g6,0,none⟩) (items.length+1) c6):=⟨_,rfl⟩;rw [<-hwl]at q1 q2 q3;have Pv:=Aa q1;have aJ:=Aa (MF.out.trans q3);have HKl:=Aa (wW.out.trans q2);have HRl:=Aa (HR5.out.keep q2);have HNl:=Aa (q2.nd HN5.out);have vg:=Aa (q2.box Ajb.out);have HWl:=Aa hwl;clear n0 n1 n2 n3;obtain⟨n0,n1,n2,n3, -⟩:=Cb vg.out;rw [hwl]at n0 n1 n2 n3;clear q1 q2 q3 hwl
  go_wp2_with fail
  rw [<-HWl.out];clear WV TM hK6 dE zz1 ff1 z0 z1 z2 f1
  go_loopw [84](fun i wr=>∃(k:Nat)(it:List (List UInt8×UInt64))(mt:List Int)(vk:Value),k<=nd.kids.length/\i= .int .i64 (k:Nat)/\DJ wr base sb mb x it mt vk/\CW wl wr/\Below base wl wr/\((nd.labels.zip nd.kids).drop k).foldlM (fun(st:List (List UInt8×UInt64)×List Int)(lk:UInt8×UInt64)=>CY s f lk.2 (ahead++nd.pre++[lk.1]) st) (it,mt)=CY s (f+1) name ahead (items,met))(fun i _=>nd.kids.length- (intOf i).toNat)
  case atStart=>exact⟨0,_,_,_,BA _,rfl,Pv.out,CW.refl _,Below.refl _ _,by rw [HP.out];rfl⟩
  case round=>
   obtain⟨k,it,mt,vk,hk,rfl,hsr,hkr,hbr,hfd⟩:=hrel;have HSr:=Aa hsr;have og:=Aa hkr;have Py:=Aa hbr;have HFd:=Aa hfd;clear hsr hkr hbr hfd n0 n1 n2 n3;by_cases hlt:k<nd.kids.length
   ·have hll:k<nd.labels.length:=by rw [HLk.out];exact hlt
    have hzl:k<(nd.labels.zip nd.kids).length:=by rw [Px];omega
    have hdz:(nd.labels.zip nd.kids).drop k=(nd.labels[k],nd.kids[k])::(nd.labels.zip nd.kids).drop (k+1):=by
     rw [EG hzl,xn]
    have oh:=HFd.out;rw [hdz,xq]at oh;obtain⟨_,_,_,_,_,_,eN,p1,p2,p3⟩:=og.out.nd HNl.out;simp only [Value.agg.injEq]at eN;simp at eN;obtain⟨⟨rfl,rfl⟩,⟨rfl,rfl⟩,⟨rfl,rfl⟩⟩:=eN;obtain⟨kb,ko,rfl,hkb,hkc⟩:=(BK p3).2.2 (by omega);obtain⟨lb,lo,rfl,hlb,hlc⟩:=(BK p2).2.2 (by omega);have oq:=hkc k hlt;rw [BC,Af hlt]at oq;replace oq:_=some (Value.int .u64 (nd.kids[k].toNat:Int)):=oq;have bM:=hlc k hll;rw [BC,Af hll]at bM;replace bM:_=some (Value.int .u8 (nd.labels[k].toNat:Int)):=bM;generalize nd.kids[k]=kid at*;generalize nd.labels[k]=lab at*;have zK:=Aa oh;obtain⟨n0,n1,n2,n3, -⟩:=Cb (og.out.box vg.out);have Zi:=Aa (HRl.out.keep og.out);have Tz:Hid (∀W,CW wr W->W.cell? ⟨w1.heap.size,2,none⟩=some (.slice (some ⟨lb,lo,none⟩) nd.labels.length c2)/\W.cell? ⟨lb,lo+k,none⟩=some (.int .u8 (lab.toNat:Int))):=Aa (fun W hW=>by
     refine⟨(Cb (hW.box (og.out.box vg.out))).2.2.1,?_⟩;obtain⟨b',o',e',_,hc'⟩:=(BK (hW.own (.inl rfl) p2)).2.2 (by omega);injection e' with e'
     injection e' with e1 e2
     subst e1 e2;rw [hc' k hll,<-hlc k hll];exact bM)
    have HIH:=Aa (fun(W:World)(hW:Below wr.heap.size wr W)(A6:Option Addr)(c6:Nat)(Ya:JP W A6 (ahead++nd.pre++[lab]))(hc6:n4+1<=c6)=>ih W kid (ahead++nd.pre++[lab]) A6 c6 it mt vk (HX.out.past ((aJ.out.trans Py.out).trans (hW.mono (AL hbs (AL aJ.out.size Py.out.size)))) hF hxb htb) (HSr.out.below hW) Ya (by have:=ML.out;simp;omega) (by simp at Pq⊢;omega) (by simp;omega));rw [show(ahead++nd.pre++[lab]).length=n4+1 by have:=ML.out;simp;omega]at HIH;have hx1:(k:Int)<(nd.kids.length:Int):=by omega
    have hx2:decide ((k:Int)<(nd.kids.length:Int))=true:=decide_eq_true hx1;have hx3:(k:Int)<(nd.labels.length:Int):=by omega
    have hx4:decide ((k:Int)<(nd.labels.length:Int))=true:=decide_eq_true hx3;have hwk:IntKind.i64.wrap ((k:Int)+1)=(k:Int)+1:=wrap64 _ (by omega) (by omega);clear hkc hlc p1 p2 p3 hdz hzl oh
    go_wp2_with fail
    cases hv:CY s f kid (ahead++nd.pre++[lab]) (it,mt)with
    | none=>
      have HT:Hid (CY s (f+1) name ahead (items,met)=none):=Aa (by rw [<-zK.out];simp only [hv];rfl);rw [hv]at HIH;clear hv
      go_region_held_law(fun w'=>w'.cell? ⟨w1.heap.size,2,none⟩=some (.slice (some ⟨lb,lo,none⟩) nd.labels.length c2)/\w'.cell? ⟨lb,lo+k,none⟩=some (.int .u8 (lab.toNat:Int)))(first| go_keep| exact Tz.out _ ((CW.of_below hb6).trans ou)| exact Tz.out _ (CW.of_below hb6))
       (first
       | (refine Kr rfl (.tmp 96) (.tmp 102) 39 rfl Tryz.FC wr A4 n4 ((ahead++nd.pre).map bv) (by simp [Act.eval]) (by have:=Zi.out.1;rw [Az,ML.out]at this;exact this) (fun a e=>by obtain⟨g,_,_,e',_⟩:=Zi.out.2.1 a e;exact⟨g,e'⟩) (fun e=>by have:=congrArg Ju (Zi.out.2.2 e);rw [Az,ML.out]at this;exact this) (.int .u8 (lab.toNat:Int)) rfl rfl rfl rfl wr.heap.size 1 (by simp [Act.eval]) rfl rfl (by have:=ML.out;omega) (by decide) ?_;intro A6 c6 w6 hc6 Ya hb6 Qi;have Qj:JP w6 A6 (ahead++nd.pre++[lab]):=Zi.out.cut (by rw [Az,ML.out];exact Ya) hb6 Qi)
       | (go_at_call 110;refine(HIH.out w6 hb6 A6 c6 Qj hc6).mono ?_;rintro e w7⟨hb7,ou,zL⟩;replace zL:e= .returned (.int .i64 5):=zL;subst zL))
      all_goals(have zM:=Aa ((aJ.out.trans Py.out).trans ((hb6.mono (AL hbs (AL aJ.out.size Py.out.size))).trans hb7)))
      all_goals(have zN:=Aa (((HKl.out.trans og.out).trans (CW.of_below hb6)).trans ou))
      all_goals(clear hb6 hb7 ou Ya Qi Qj)
      all_goals(go_wp2_with fail)
      all_goals(go_ret)
      all_goals(refine⟨zM.out,zN.out,?_⟩)
      all_goals(rw [HT.out])
      all_goals rfl
    | some im=>
      obtain⟨i2,m2⟩:=im;have Afu:Hid (((nd.labels.zip nd.kids).drop (k+1)).foldlM (fun(st:List (List UInt8×UInt64)×List Int)(lk:UInt8×UInt64)=>CY s f lk.2 (ahead++nd.pre++[lk.1]) st) (i2,m2)=CY s (f+1) name ahead (items,met)):=Aa (by rw [<-zK.out];simp only [hv];rfl);rw [hv]at HIH;clear hv
      go_region_held_law(fun w'=>w'.cell? ⟨w1.heap.size,2,none⟩=some (.slice (some ⟨lb,lo,none⟩) nd.labels.length c2)/\w'.cell? ⟨lb,lo+k,none⟩=some (.int .u8 (lab.toNat:Int)))(first| go_keep| exact Tz.out _ ((CW.of_below hb6).trans ou)| exact Tz.out _ (CW.of_below hb6))
       (first
       | (refine Kr rfl (.tmp 96) (.tmp 102) 39 rfl Tryz.FC wr A4 n4 ((ahead++nd.pre).map bv) (by simp [Act.eval]) (by have:=Zi.out.1;rw [Az,ML.out]at this;exact this) (fun a e=>by obtain⟨g,_,_,e',_⟩:=Zi.out.2.1 a e;exact⟨g,e'⟩) (fun e=>by have:=congrArg Ju (Zi.out.2.2 e);rw [Az,ML.out]at this;exact this) (.int .u8 (lab.toNat:Int)) rfl rfl rfl rfl wr.heap.size 1 (by simp [Act.eval]) rfl rfl (by have:=ML.out;omega) (by decide) ?_;intro A6 c6 w6 hc6 Ya hb6 Qi;have Qj:JP w6 A6 (ahead++nd.pre++[lab]):=Zi.out.cut (by rw [Az,ML.out];exact Ya) hb6 Qi)
       | (go_at_call 110;refine(HIH.out w6 hb6 A6 c6 Qj hc6).mono ?_;rintro e w7⟨hb7,ou,zL⟩;obtain⟨he7,v7,hs7⟩:=(zL:e= .returned (.int .i64 0)/\∃v',DJ w7 base sb mb x i2 m2 v');subst he7))
      all_goals(have zM:=Aa (Py.out.trans ((hb6.mono (AL hbs (AL aJ.out.size Py.out.size))).trans hb7)))
      all_goals(have zN:=Aa ((og.out.trans (CW.of_below hb6)).trans ou))
      all_goals(have HSf:=Aa hs7)
      all_goals(clear hb6 hb7 ou Ya Qi Qj hs7)
      all_goals(go_wp2_with fail)
      all_goals(go_roundw)
      all_goals first
       | (case rel=>exact⟨k+1,i2,m2,v7,by omega,by go_num,HSf.out,zN.out,zM.out,Afu.out⟩)
       | (case measure=>simp [intOf];omega)
   ·have hkn:k=nd.kids.length:=by omega
    have HT:Hid (CY s (f+1) name ahead (items,met)=some (it,mt)):=Aa (by
     rw [<-HFd.out,Kz (by rw [Px];omega)];rfl)
    have zM:=Aa (aJ.out.trans Py.out);have zN:=Aa (HKl.out.trans og.out);subst hkn;clear ih
    go_wp2_with fail
    go_ret;refine⟨zM.out,zN.out,?_⟩;rw [HT.out];exact⟨rfl,vk,HSr.out⟩
end
theorem Zw{len:Nat->Nat}{base sb mb x d p L:Nat}{s:St}{F:Nat->Prop}(hF:∀b,F b->b<base)(hxb:x<base)(htb:0<base/\1<base):∀(f:Nat)(w:World)(name:UInt64)(ahead:List UInt8)(A:Option Addr)(c:Nat)(items:List (List UInt8×UInt64))(met:List Int)(v:Value),Qu len w x d p L s F->DJ w base sb mb x items met v->JP w A ahead->ahead.length<=c->ahead.length<=33->34<=f+ahead.length->
 Calls Tryz.prog 110 #[.pointer (some ⟨sb,0,none⟩),.int .u64 (name.toNat:Int),.slice A ahead.length c] w (Lr (CY s f name ahead (items,met)) base sb mb x w)
 | 0,w,name,ahead,A,c,items,met,v,h,hs,hA,hac,hal,h34=>absurd h34 (by omega)
 | f+1,w,name,ahead,A,c,items,met,v,h,hs,hA,hac,hal,h34=>by
   cases hr:Et s name with
   | none=>exact nG h hF hs f name ahead A c hr
   | some nd=>
     by_cases hm:AX name∈met
     ·exact uA h hF hs f name ahead A c hA hac hal nd hr hm
     ·by_cases Pq:32<(ahead++nd.pre).length
      ·exact uZ h hF hs f name ahead A c hA hac hal nd hr hm Pq
      ·have ih:=fun(W:World)(kid:UInt64)(ah:List UInt8)(A:Option Addr)(c:Nat)(it:List (List UInt8×UInt64))(mt:List Int)(v:Value)(h1:Qu len W x d p L s F)(h2:DJ W base sb mb x it mt v)h3 h4 h5 h6=>Zw hF hxb htb f W kid ah A c it mt v h1 h2 h3 h4 h5 h6
       by_cases hv:nd.val=0
       ·exact jk h hF hs f name ahead A c hA hac hal nd hr hm Pq hv hxb htb ih h34
       ·cases hk:KE (ahead++nd.pre)with
        | false=>exact ve h hF hs f name ahead A c hA hac hal nd hr hm Pq hv hk
        | true=>exact jl h hF hs f name ahead A c hA hac hal nd hr hm Pq hv hk hxb htb ih h34
def qM(w:World)(base:Nat)(v:Value)(items:List (List UInt8×UInt64)):Prop:=w.ownsRow base 126 2 v items.length (items.map itV).flatten
def zO(s:St)(w:World)(x:Nat)(e:Ending)(w':World):Prop:=
 Below w.heap.size w w'/\match ED s with
  | none=>e= .returned (.tuple #[.pointer none,.int .i64 5])
  | some (items,met)=>∃sb mb v,e= .returned (.tuple #[.pointer (some ⟨sb,0,none⟩),.int .i64 0])/\DJ w' w.heap.size sb mb x items met v
section
variable{len:Nat->Nat}{w w':World}{x d p L:Nat}{s:St}{F:Nat->Prop}
theorem TA(h:Qu len w x d p L s F):Calls Tryz.prog 58 #[.pointer (some ⟨x,0,none⟩)] w (zO s w x):=by
 have HA:=Aa (IZ h ⟨#[]⟩ (by decide));rw [if_neg (by decide)]at HA;have hxl:=h.box.lt;have hFl:=h.sys.lt;have htl:=h.sys.tabs.lt;have HX:=Aa h;have mm:=fun W=>run_makeMap (P:=Tryz.prog) 142 W
 obtain⟨w2,hw2⟩:∃w2,w2=(w.alloc (.map #[] 0)).alloc (.cells #[.pointer (some ⟨x,0,none⟩),.slice none 0 0,.map (some w.heap.size)] 144):=⟨_,rfl⟩;have hb2:Below w.heap.size w w2:=by
  have h1:Below w.heap.size w (w.alloc (.map #[] 0)):=(Below.refl _ _).alloc (Ad _) _;rw [hw2];exact h1.alloc h1.size _
 have hS:DJ w2 w.heap.size (w.heap.size+1) w.heap.size x [] [] (.slice none 0 0):=by
  refine⟨hw2▸qp w _ _ _,World.ownsRow_nil _ _ _ _,?_,by omega,Ad _,(fun e=>nomatch e),Np,(fun o ho=>nomatch ho),Ad _⟩;rw [hw2];exact(heap_alloc_old _ _ (by simp)).trans (heap_alloc_new _ _)
 have HS:=Aa hS;have HB2:=Aa hb2;have dD:=Aa (Xd (h.below hb2));have HW2:=Aa hw2;by_cases h0:s.ws 9=0
 ·have HP:Hid (ED s=some ([],[])):=Aa (by unfold ED;rw [if_pos h0]);have t0:(((s.ws 9).toNat:Int)!=0)=false:=by rw [h0];rfl
  clear h hS hb2 hw2 h0;go_enter Tryz.func58,Tryz.ntmps58
  go_wp2_with fail
  refine HA.out.mono ?_;rintro e w1⟨rfl,rfl⟩;clear HA
  go_wp2_with fail
  rw [<-HW2.out];refine dD.out.mono ?_;rintro e w3⟨rfl,hb3⟩;have HB3:=Aa (HB2.out.trans (hb3.mono HB2.out.size));have O8:=Aa (HS.out.below hb3);clear hb3 dD
  go_wp2_with fail
  go_ret2;refine⟨HB3.out,?_⟩;rw [HP.out];exact⟨_,_,_,rfl,O8.out⟩
 ·have HP:Hid (ED s=CY s 34 (s.ws 9) [] ([],[])):=Aa (by unfold ED;rw [if_neg h0]);have t0:(((s.ws 9).toNat:Int)!=0)=true:=by
   rw [bne_iff_ne];intro e;exact h0 (UInt64.toNat_inj.1 (by simp;omega))
  clear h hS hb2 hw2 h0;go_enter Tryz.func58,Tryz.ntmps58
  go_wp2_with fail
  refine HA.out.mono ?_;rintro e w1⟨rfl,rfl⟩;clear HA
  go_wp2_with fail
  rw [<-HW2.out];refine dD.out.mono ?_;rintro e w3⟨rfl,hb3⟩;have HB3:=Aa (HB2.out.trans (hb3.mono HB2.out.size));have HV:=Aa (Zw hFl hxl htl 34 w3 (s.ws 9) [] none 0 [] [] _ (HX.out.below HB3.out) (HS.out.below hb3) (JP.nil _) (Ad _) (by decide) (by decide));clear hb3 dD;simp only [List.length_nil]at HV;cases hv:CY s 34 (s.ws 9) [] ([],[])with
  | none=>
    have HP':Hid (ED s=none):=Aa (by rw [HP.out,hv]);rw [hv]at HV;clear hv HP
    go_wp2_with fail
    refine HV.out.mono ?_;rintro e w4⟨hb4,hk4,iD⟩;replace iD:e= .returned (.int .i64 5):=iD;subst iD;have HB4:=Aa (HB3.out.trans hb4);clear hb4 hk4 HV
    go_wp2_with fail
    go_ret2;refine⟨HB4.out,?_⟩;rw [HP'.out];rfl
  | some im=>
    obtain⟨i2,m2⟩:=im;have HP':Hid (ED s=some (i2,m2)):=Aa (by rw [HP.out,hv]);rw [hv]at HV;clear hv HP
    go_wp2_with fail
    refine HV.out.mono ?_;rintro e w4⟨hb4,hk4,iD⟩;obtain⟨he4,v4,hs4⟩:=(iD:e= .returned (.int .i64 0)/\∃v',DJ w4 w.heap.size (w.heap.size+1) w.heap.size x i2 m2 v');subst he4;have HB4:=Aa (HB3.out.trans hb4);have dC:=Aa hs4;clear hb4 hk4 HV hs4
    go_wp2_with fail
    go_ret2;refine⟨HB4.out,?_⟩;rw [HP'.out];exact⟨_,_,_,rfl,dC.out⟩
def Ac0(s:St)(w:World)(e:Ending)(w':World):Prop:=
 Below w.heap.size w w'/\match ED s with
  | none=>e= .returned (.tuple #[.slice none 0 0,.int .i64 5])
  | some (items,_)=>∃v,e= .returned (.tuple #[v,.int .i64 0])/\qM w' w.heap.size v items/\items.length<=65537
theorem vz(h:Qu len w x d p L s F):Calls Tryz.prog 52 #[.pointer (some ⟨x,0,none⟩)] w (Ac0 s w):=by
 have HS:=Aa (TA h);cases hv:ED s with
 | none=>
   have HV:=Aa hv;clear h hv;go_enter Tryz.func52,Tryz.ntmps52
   go_wp2_with fail
   refine HS.out.mono ?_;rintro e w1⟨hb1,hp1⟩;rw [HV.out]at hp1;replace hp1:e= .returned (.tuple #[.pointer none,.int .i64 5]):=hp1;subst hp1;have HB:=Aa hb1;clear hb1 HS
   go_wp2_with fail
   go_ret2;refine⟨HB.out,?_⟩;rw [HV.out];rfl
 | some im=>
   obtain⟨i2,m2⟩:=im;have HV:=Aa hv;clear h hv;go_enter Tryz.func52,Tryz.ntmps52
   go_wp2_with fail
   refine HS.out.mono ?_;rintro e w1⟨hb1,hp1⟩;rw [HV.out]at hp1;obtain⟨sb,mb,v,rfl,hs1⟩:=hp1;have z1:=hs1.box.cell 1;simp only [Ae,Ac]at z1;have HB:=Aa hb1;have HI:=Aa hs1.row;have HFw:=Aa hs1.few;clear hb1 HS hs1
   go_wp2_with fail
   go_ret2;refine⟨HB.out,?_⟩;rw [HV.out];exact⟨v,rfl,HI.out,HFw.out⟩
end
def itC(i:It):List Value:=[.string i.k,.int .u64 (i.v.toNat:Int)]
def bP(l:List It):List Value:=(l.map itC).flatten
theorem jm:∀(l:List It)(k:Nat)(h:k<l.length),(bP l)[2*k]? =some (.string l[k].k)/\(bP l)[2*k+1]? =some (.int .u64 (l[k].v.toNat:Int))
 | a::t,0,_=>by simp [bP,itC]
 | a::t,k+1,h=>by
   obtain⟨h1,h2⟩:=jm t k (by simpa using h);have e:bP (a::t)=itC a++bP t:=rfl;rw [e];constructor
   ·rw [BX (by simp [itC];omega)];simpa [itC,show 2*(k+1) -2=2*k by omega]using h1
   ·rw [BX (by simp [itC];omega)];simpa [itC,show 2*(k+1)+1-2=2*k+1 by omega]using h2
def ItR(w:World)(A:Option Addr)(l:List It):Prop:=Rd w A (2*l.length) (bP l)
theorem ItR.at{w:World}{A:Option Addr}{l:List It}(h:ItR w A l)(k:Nat)(hk:k<l.length):∃b off,A=some ⟨b,off,none⟩/\b<w.heap.size/\w.cell? ⟨b,off+k*2,none⟩=some (.string l[k].k)/\w.cell? ⟨b,off+k*2+1,none⟩=some (.int .u64 (l[k].v.toNat:Int)):=by
 obtain⟨b,off,e,hb,hc⟩:=h.2 (by omega);obtain⟨h1,h2⟩:=jm l k hk;refine⟨b,off,e,hb,?_,?_⟩
 ·rw [EC,hc (2*k) (by omega),h1]
 ·rw [EC,Nat.add_assoc,hc (2*k+1) (by omega),h2]
def Ac1(p:List UInt8×UInt64):It:=⟨⟨p.1.toArray⟩,p.2⟩
theorem Afv(l:List (List UInt8×UInt64)):(l.map itV).flatten=bP (l.map Ac1):=by
 unfold bP;rw [FM];rfl
theorem VI{w:World}{base k n:Nat}{e:TypeId}{v:Value}{xs:List Value}(h:w.ownsRow base e k v n xs):∃A c,v= .slice A n c/\n<=c/\Rd w A (n*k) xs:=by
 rcases h.2 with⟨h1,h2⟩| ⟨g,cap,cur,h1,h2,h3,h4,h5,h6,h7⟩
 ·subst h2;exact⟨none,0,h1,Ad _,h.1,fun hn=>by omega⟩
 ·refine⟨_,_,h1,h4,h.1,fun hn=>⟨g,0,rfl,(Array.getElem?_eq_some_iff.1 h3).1,fun j hj=> ?_⟩⟩;rw [cell_of_row w g _ cur _ (0,0) h3,<-h7,List.getElem?_take,if_pos (by omega)];simp
theorem Ac2{w:World}{base:Nat}{v:Value}{l:List It}(h:w.ownsRow base 126 2 v l.length (bP l)):∃A c,v= .slice A l.length c/\l.length<=c/\ItR w A l:=by
 obtain⟨A,c,e,hc,hr⟩:=VI h;exact⟨A,c,e,hc,by unfold ItR;rw [EC];exact hr⟩
section
variable{w w':World}{x d p L:Nat}{s:St}{F:Nat->Prop}
def vC(s:St):Option (List It):=(ED s).map fun r=>r.1.map Ac1
end
theorem zQ{a b c d:UInt8}(ha:a.toNat<16)(hb:b.toNat<16)(hc:c.toNat<16)(hd:d.toNat<16):(a*16+b<c*16+d)<->(a<c\/(a=c/\b<d)):=by
 have h1:(a*16+b).toNat=a.toNat*16+b.toNat:=by
  simp only [UInt8.toNat_add,UInt8.toNat_mul];have:(16:UInt8).toNat=16:=rfl;rw [this];omega
 have h2:(c*16+d).toNat=c.toNat*16+d.toNat:=by
  simp only [UInt8.toNat_add,UInt8.toNat_mul];have:(16:UInt8).toNat=16:=rfl;rw [this];omega
 rw [UInt8.lt_iff_toNat_lt,UInt8.lt_iff_toNat_lt,UInt8.lt_iff_toNat_lt,h1,h2,<-UInt8.toNat_inj];omega
theorem zS{a b c d:UInt8}(ha:a.toNat<16)(hb:b.toNat<16)(hc:c.toNat<16)(hd:d.toNat<16):(a*16+b=c*16+d)<->(a=c/\b=d):=by
 constructor
 ·intro h;have h1:=dN a b ha hb;have h2:=dN c d hc hd;rw [h]at h1;exact⟨h1.1.symm.trans h2.1,h1.2.symm.trans h2.2⟩
 ·rintro⟨rfl,rfl⟩;rfl
theorem XG:∀(a b:List UInt8),a.length%2=0->b.length%2=0->a.all Df=true->b.all Df=true->Op.bytesLess (pairs a) (pairs b)=Op.bytesLess a b
 | [],[],_,_,_,_=>rfl
 | [],[_],_,h,_,_=>by simp at h
 | [],_::_::_,_,_,_,_=>by simp [pairs,Op.bytesLess]
 | [_],_,h,_,_,_=>by simp at h
 | _::_::_,[],_,_,_,_=>by simp [pairs,Op.bytesLess]
 | _::_::_,[_],_,h,_,_=>by simp at h
 | x::y::a,z::u::b,h1,h2,h3,h4=>by
   simp only [List.all_cons,Bool.and_eq_true]at h3 h4;have i1:x.toNat<16:=by simpa [Df]using h3.1
   have i2:y.toNat<16:=by simpa [Df]using h3.2.1
   have i3:z.toNat<16:=by simpa [Df]using h4.1
   have i4:u.toNat<16:=by simpa [Df]using h4.2.1
   have ih:=XG a b (by simp only [Bh]at h1;omega) (by simp only [Bh]at h2;omega) h3.2.2 h4.2.2;have e1:=zQ i1 i2 i3 i4;have e2:=zS i1 i2 i3 i4;rw [Bool.eq_iff_iff];simp only [pairs,Op.bytesLess,ih,Bool.or_eq_true,Bool.and_eq_true,decide_eq_true_eq,beq_iff_eq,e1,e2];constructor
   ·rintro((h| ⟨h,k⟩)| ⟨⟨h,k⟩,l⟩)
    ·exact .inl h
    ·exact .inr ⟨h,.inl k⟩
    ·exact .inr ⟨h,.inr ⟨k,l⟩⟩
   ·rintro(h| ⟨h,k| ⟨k,l⟩⟩)
    ·exact .inl (.inl h)
    ·exact .inl (.inr ⟨h,k⟩)
    ·exact .inr ⟨⟨h,k⟩,l⟩
theorem Ky{α:Type} [DecidableEq α]:∀(l1 l2:List α),l1.Nodup->(∀x∈l1,x∈l2)->l1.length<=l2.length
 | [],_,_,_=>by simp
 | a::t,l2,hn,hs=>by
   obtain⟨h1,h2⟩:=List.nodup_cons.1 hn;have ha:=hs a (Be ..);have ih:=Ky t (l2.erase a) h2 (fun x hx=>(List.mem_erase_of_ne (fun e:x=a=>h1 (by rw [<-e];exact hx))).2 (hs x (Bi _ hx)));rw [List.length_erase_of_mem ha]at ih;have:=List.length_pos_of_mem ha;rw [Bh];omega
section
variable{X:Nat->Prop}{L:Nat}{s:St}{items:List Kv}
theorem Ph.up(h:Ph X L s items):wX items:=by
 rcases h.tree with⟨_,h2,_⟩| ⟨_,_,T,_⟩
 ·rw [h2];exact List.Pairwise.nil
 ·exact T.up h.ok
theorem UZ{k:List UInt8}(h:KE k=true):k.length%2=0/\k.all Df=true:=by
 unfold KE at h;rw [Bool.and_eq_true,decide_eq_true_eq]at h;exact h
def Y5(kv:Kv):It:=Ac1 (pairs kv.1,kv.2)
theorem oz(l:List UInt8):(⟨l.toArray⟩:ByteArray).toList=l:=by rw [ByteArray.toList_eq]
theorem jo(kv:Kv):(Y5 kv).k.toList=pairs kv.1:=oz _
theorem zT(h:Ph X L s items):vC s=some (items.map Y5):=by
 obtain⟨met,h1,_⟩:=jh h;unfold vC;rw [h1];simp only [Option.map_some,FM];rfl
theorem Afw(h:Ph X L s items):Up (items.map Y5):=by
 unfold Up;rw [Jy];refine h.up.imp_of_mem fun{a b}ha hb hab=> ?_
 obtain⟨a1,a2⟩:=UZ (h.even a ha);obtain⟨b1,b2⟩:=UZ (h.even b hb);unfold yL;rw [jo,jo,XG _ _ a1 b1 a2 b2];exact hab
theorem Afx{sh:Sh}(hL:L<=1024)(hs:shapeOf L=some sh):Alf L (st0 sh) []:=by
 have hok:=Jn hs;have htk:∀i,Gl (st0 sh) i=0:=fun i=>by
  unfold Gl st0;simp only [AZ,Gz];split<;>rfl
 have hhd:∀i,hdN (st0 sh) i=0:=fun i=>by
  unfold hdN st0;simp only [AZ,Gz];split<;>rfl
 have hws:∀i,8<=i->(st0 sh).ws i=0:=fun i hi=>by
  show CP (fun _=>0) 0 (wordsOf sh) i=0;unfold CP;rw [if_neg];simp [wordsOf,headW];omega
 have hnt:∀o d,¬AO (st0 sh) o d:=fun o d=>by
  rintro⟨i,a,_,ha,_⟩;rw [htk,Fp]at ha;cases ha
 refine⟨⟨hok,hL,by simp [st0],by simp [st0],fun i _=> .inl (htk i),fun i _=> .inl (hhd i),fun i _=> .inl (htk i),fun i a _ ha=> ?_,fun i _=> ?_⟩,fun o d=> ?_,.inl ⟨hws 9 (by decide),rfl,fun o=>⟨fun⟨d,hd⟩=>hnt o d hd,fun h=>h.elim⟩⟩,fun _ h=>by cases h⟩
 ·rw [htk,Fp]at ha;cases ha
 ·rw [hws _ (by omega)];show _=(List.replicate sh.BQ (0:UInt64)).getD i 0;simp only [AZ,Gz];split<;>rfl
 ·rintro⟨i,a,_,ha,_⟩;rw [hhd,Fp]at ha;cases ha
end
inductive Ee(s:St):UInt64->List Lk->Prop
 | nil:Ee s 0 []
 | cons(o:Nat)(r:Rc)(l:List Lk):AO s o 1->DK r=true->wordsAt s.ws (o/8) 8=Dl r->Ee s r.next l->(∀k∈l,k.rc.stamp.toNat<r.stamp.toNat)->Ee s (UInt64.ofNat o) (⟨o,r⟩::l)
def Gj(l:List Lk):List Nat:=l.map (·.off.toNat)
section
variable{L:Nat}{s s':St}
theorem zU{v:UInt64}{l:List Lk}(h:Ee s v l)(hv:v≠0):l≠[]:=by
 cases h with
 | nil=>exact absurd rfl hv
 | cons=>simp
theorem Ee.keep{v:UInt64}{l:List Lk}(h:Ee s v l){B:Nat->Prop}(k:EX s s' B)(hb:∀o∈Gj l,B o):Ee s' v l:=by
 induction h with
 | nil=>exact .nil
 | cons o r l ht hr hw _ hs ih=>
   obtain⟨h1,h2⟩:=k o 1 (hb o (Be ..)) ht;refine .cons o r l h1 hr ?_ (ih (fun p hp=>hb p (Bi _ hp))) hs;have:=Rx (o:=o) (c:=1) h2;rw [show 8*AQ 1=8 from rfl]at this;rw [this,hw]
theorem Ee.nodup{v:UInt64}{l:List Lk}(h:Ee s v l):(Gj l).Nodup/\∀k∈l,wordsAt s.ws (k.off.toNat/8) 8=Dl k.rc/\DK k.rc=true:=by
 induction h with
 | nil=>exact⟨Np,fun _ h=>nomatch h⟩
 | cons o r l ht hr hw _ hs ih=>
   refine⟨List.nodup_cons.2 ⟨fun hm=> ?_,ih.1⟩,fun k hk=> ?_⟩
   ·obtain⟨k,hk,e⟩:=List.mem_map.1 hm;obtain⟨h1,h2⟩:=ih.2 k hk;have e1:Dl k.rc=Dl r:=by
     rw [<-h1,<-hw];have:k.off.toNat=o:=e;rw [this]
    have e2:k.rc=r:=by rw [<-QV k.rc h2,e1,QV r hr]
    have:=hs k hk;rw [e2]at this;omega
   ·rcases List.mem_cons.1 hk with rfl| hk
    ·exact⟨hw,hr⟩
    ·exact ih.2 k hk
theorem Ee.list(ok:Bz L s){v:UInt64}{l:List Lk}(h:Ee s v l):∀(f:Nat)(acc:List Lk),l.length<f->(∀k∈l,k.rc.stamp.toNat<DZ acc)->QW s f v acc=some (acc++l):=by
 induction h with
 | nil=>
   intro f acc hf _;cases f with
   | zero=>exact absurd hf (Aa6 _)
   | succ f=>unfold QW;rw [if_pos (by decide),List.append_nil]
 | cons o r l ht hr hw _ hs ih=>
   intro f acc hf hst;have hb:=ht.bounds ok;have h1:=ok.sh.NR;have h2:=ok.L1;cases f with
   | zero=>exact absurd hf (Aa6 _)
   | succ f=>
     unfold QW;rw [if_neg (by rw [Dj (by omega)];omega),KL (by omega),ht.class ok,if_neg (by simp),Bq,hw,rO r hr];simp only;have h3:r.stamp.toNat<DZ acc:=hst _ (Be ..);have e:=ih f (acc++([⟨(o:Int),r⟩]:List Lk)) (by simpa using hf) (fun k hk=>by
      have:=hs k hk;unfold DZ;rw [List.getLast?_append,List.getLast?_singleton,Option.some_or];exact this)
     rw [if_neg (by omega),e,AA];rfl
end
section
variable{X:Nat->Prop}{L:Nat}{s:St}{items:List Kv}
theorem Ph.congr{Y:Nat->Prop}(h:Ph X L s items)(e:∀o,X o<->Y o):Ph Y L s items:=by
 have:X=Y:=funext fun o=>propext (e o)
 exact this▸h
theorem zV(h:Ph X L s items)(r:Rc)(hr:DK r=true):
 FQ s r=(s,0,6)\/∃s1 o,FQ s r=(s1,UInt64.ofNat o,0)/\(∀off t,CJ s 1=some (off,t)->(FX {t with ws:=CP t.ws (off/8) (Dl r)} off).2=0)/\¬(∃d,AO s o d)/\¬X o/\o<=65536/\0<o/\AO s1 o 1/\wordsAt s1.ws (o/8) 8=Dl r/\
  Ph (fun p=>X p\/p=o) L s1 items/\EX s s1 (fun _=>True)/\s1.sh=s.sh/\∀j,j<16->s1.ws j=s.ws j:=by
 unfold FQ;rw [if_neg (by rw [hr];simp)];cases hres:CJ s 1 with
 | none=>exact .inl rfl
 | some p=>
   obtain⟨off,t⟩:=p;right;obtain⟨ok1,hw1,nD,Tj,hh1,_,hh2,ht1⟩:=Rt h.ok (.inl rfl) hres;have hb1:=hh1.bounds ok1;have htf:=ok1.sh.NR;have hL1:=h.ok.L1;have hlen:=Gq r;have hl1:AQ 1=1:=rfl;have hput:∀i,¬FY off 1 i->CP t.ws (off/8) (Dl r) i=t.ws i:=fun i hi=>by
    unfold CP;rw [if_neg];intro h;exact hi ⟨h.1,by rw [hlen]at h;omega⟩
   have hnot:∀i,i<16+t.sh.BQ->¬FY off 1 i:=fun i hi h=>by
    unfold FY at h;omega
   obtain⟨t',ht'⟩:∃t',t'=({t with ws:=CP t.ws (off/8) (Dl r)}:St):=⟨_,rfl⟩;have Rz:Bz L t':=ht'▸ok1.words (fun i hi=>hput _ (hnot _ (by omega)));have aY:EP t' off 1:=by rw [ht'];exact hh1
   obtain⟨s2,e2,ok2,hsh2,hw2,ht2,Ae9⟩:=aP Rz aY;have iy:t'.sh=t.sh:=by rw [ht']
   have ht1':∀o d,AO t' o d<->AO s o d:=fun o d=>by rw [ht'];exact ht1 o d
   have hkeep:EX s s2 (fun _=>True):=fun o c _ ht=>by
    have Xp:=(ht1' o c).2 ht;obtain⟨hne,hap⟩:=OA Rz aY Xp;have fH:=Xp.bounds Rz;refine⟨(ht2 o c).2 (.inl Xp),fun i hi=> ?_⟩;rw [hw2 i (.inr (Rz.Dz fH.1 hi)),ht'];show CP t.ws (off/8) (Dl r) i=_;rw [hput i (fun h=>PR hap hb1.2.2 fH.2.2 h hi),hw1]
   have hnew:¬∃d,AO s off d:=fun⟨d,hd⟩=>(OA Rz aY ((ht1' off d).2 hd)).1 rfl
   have hlow:∀j,j<16->s2.ws j=s.ws j:=fun j hj=>by
    rw [hw2 j (.inl hj),ht'];show CP t.ws (off/8) (Dl r) j=_;rw [hput j (hnot j (by omega)),hw1]
   have htk:∀o,(∃d,AO s2 o d)<->(∃d,AO s o d)\/o=off:=fun o=>by
    constructor
    ·rintro⟨d,hd⟩;rcases(ht2 o d).1 hd with h1| ⟨h1,_⟩
     ·exact .inl ⟨d,(ht1' o d).1 h1⟩
     ·exact .inr h1
    ·rintro(⟨d,hd⟩| rfl)
     ·exact⟨d,(ht2 o d).2 (.inl ((ht1' o d).2 hd))⟩
     ·exact⟨1,(ht2 _ _).2 (.inr ⟨rfl,rfl⟩)⟩
   have hXt:∀o,X o->∃d,AO s o d:=fun o ho=>by
    rcases h.tree with⟨_,_,h3⟩| ⟨_,_,_,_,_,h3⟩
    ·exact(h3 o).2 ho
    ·exact(h3 o).2 (.inr ho)
   rw [ht']at e2;refine⟨s2,off,by simp only [e2,if_true],fun off' t2 e=> ?_,hnew,fun hx=>hnew (hXt off hx),by omega,by omega,(ht2 _ _).2 (.inr ⟨rfl,rfl⟩),?_,⟨ok2,fun o d hh=> ?_,?_,h.even⟩,hkeep,by rw [hsh2,iy,nD],hlow⟩
   ·injection e with e
    injection e with e3 e4
    subst e3;subst e4;rw [e2]
   ·refine List.ext_getElem (by simp [wordsAt,hlen]) fun i h1 h2=> ?_
    have hil:i<8:=by simpa [wordsAt]using h1
    rw [PZ,hw2 _ (.inr (Rz.Dz (by rw [iy];exact hb1.1) (c:=1) ⟨by omega,by omega⟩)),ht'];show CP t.ws (off/8) (Dl r) (off/8+i)=_;unfold CP;rw [if_pos ⟨by omega,by omega⟩,Nat.add_sub_cancel_left,AZ,Af h2];rfl
   ·obtain⟨h1,h2⟩:=(Ae9 o d).1 hh;rw [ht']at h1;rcases hh2 o d h1 with h3| h3
    ·exact h.nh o d h3
    ·exact h2 h3
   ·rcases h.tree with⟨h1,h2,h3⟩| ⟨bl,h1,h2,h3,hX,h4⟩
    ·exact .inl ⟨by rw [hlow 9 (by decide),h1],h2,fun o=>by rw [htk o,h3 o]⟩
    ·refine .inr ⟨bl,by rw [hlow 9 (by decide)];exact h1,by rw [hlow 9 (by decide)];exact h2.keep h.ok ok2 hkeep (fun _ _=>trivial),h3,fun o ho hx=> ?_,fun o=>by rw [htk o,h4 o,or_assoc]⟩;rcases hx with hx| rfl
     ·exact hX o ho hx
     ·exact hnew ((h4 _).2 (.inl ho))
theorem zW(h:Ph X L s items){o:Nat}(ho:X o):∃s1,EJ s o=(s1,0)/\Ph (fun p=>X p/\p≠o) L s1 items/\EX s s1 (fun p=>p≠o)/\s1.sh=s.sh/\∀j,j<16->s1.ws j=s.ws j:=by
 have hXt:∃d,AO s o d:=by
  rcases h.tree with⟨_,_,h3⟩| ⟨_,_,_,_,_,h3⟩
  ·exact(h3 o).2 ho
  ·exact(h3 o).2 (.inr ho)
 obtain⟨c,ht⟩:=hXt;obtain⟨s1,e1,ok1,sh1,hd1,ws1,tk1⟩:=aQ h.ok ht;have hkeep:EX s s1 (fun p=>p≠o):=fun p d hp hpt=>⟨(tk1 p d).2 ⟨hpt,hp⟩,fun j hj=>ws1 j (.inr (h.ok.Dz (hpt.bounds h.ok).1 hj))⟩
 have htk:∀p,(∃d,AO s1 p d)<->(∃d,AO s p d)/\p≠o:=fun p=>by
  constructor
  ·rintro⟨d,hd⟩;obtain⟨h1,h2⟩:=(tk1 p d).1 hd;exact⟨⟨d,h1⟩,h2⟩
  ·rintro⟨⟨d,hd⟩,h2⟩;exact⟨d,(tk1 p d).2 ⟨hd,h2⟩⟩
 refine⟨s1,e1,⟨ok1,fun p d hh=>h.nh p d ((Oe hd1 sh1 p d).1 hh),?_,h.even⟩,hkeep,sh1,fun j hj=>ws1 j (.inl hj)⟩;rcases h.tree with⟨h1,h2,h3⟩| ⟨bl,h1,h2,h3,hX,h4⟩
 ·exact .inl ⟨by rw [ws1 9 (.inl (by decide)),h1],h2,fun p=>by rw [htk p,h3 p]⟩
 ·have hno:∀p∈bl,p≠o:=fun p hp e=>hX p hp (e▸ho)
  refine .inr ⟨bl,by rw [ws1 9 (.inl (by decide))];exact h1,by rw [ws1 9 (.inl (by decide))];exact h2.keep h.ok ok1 hkeep hno,h3,fun p hp hx=>hX p hp hx.1,fun p=> ?_⟩;rw [htk p,h4 p];constructor
  ·rintro⟨h5| h5,h6⟩
   ·exact .inl h5
   ·exact .inr ⟨h5,h6⟩
  ·rintro(h5| ⟨h5,h6⟩)
   ·exact⟨.inl h5,hno p h5⟩
   ·exact⟨.inr h5,h6⟩
end
theorem XH{α:Type}{r:α->α->Prop}(hi:∀x,¬r x x)(hs:∀x y,r x y->¬r y x):∀(a b:List α),a.Pairwise r->b.Pairwise r->(∀x,x∈a<->x∈b)->a=b
 | [],[],_,_,_=>rfl
 | [],y::b,_,_,h=>absurd ((h y).2 (Be ..)) (fun h=>nomatch h)
 | x::a,[],_,_,h=>absurd ((h x).1 (Be ..)) (fun h=>nomatch h)
 | x::a,y::b,ha,hb,h=>by
   obtain⟨ha1,ha2⟩:=List.pairwise_cons.1 ha;obtain⟨hb1,hb2⟩:=List.pairwise_cons.1 hb;have e:x=y:=by
    rcases List.mem_cons.1 ((h x).1 (Be ..))with e| h1
    ·exact e
    ·rcases List.mem_cons.1 ((h y).2 (Be ..))with e| h2
     ·exact e.symm
     ·exact absurd (ha1 y h2) (hs y x (hb1 x h1))
   subst e;refine congrArg (List.cons x) (XH hi hs a b ha2 hb2 fun z=> ?_);constructor
   ·intro hz;rcases List.mem_cons.1 ((h z).1 (Bi _ hz))with e| h1
    ·subst e;exact absurd (ha1 z hz) (hi z)
    ·exact h1
   ·intro hz;rcases List.mem_cons.1 ((h z).2 (Bi _ hz))with e| h1
    ·subst e;exact absurd (hb1 z hz) (hi z)
    ·exact h1
section
variable{l:List It}{key:ByteArray}
end
section
variable{L:Nat}{s:St}{items items':List Kv}
theorem Oh{w:Nat}{a:Nat}(ok:OkW w):a∈GX w<->En w a=true:=by
 unfold GX;rw [List.mem_filter,MN];refine⟨fun h=>h.2,fun h=>⟨?_,h⟩⟩;obtain⟨c,hc,ha,_⟩:=ok.PG h;rw [hc.class];exact ha
theorem TB(ok:Bz L s)(o:Nat):o∈IB s<->∃d,AO s o d:=by
 unfold IB;rw [List.mem_flatMap];constructor
 ·rintro⟨i,hi,ho⟩;rw [MN,ok.Pn]at hi;obtain⟨a,ha,rfl⟩:=List.mem_map.1 ho;exact⟨_,i,a,hi,(Oh (ok.tk i hi)).1 ha,rfl,rfl⟩
 ·rintro⟨d,i,a,hi,ha,rfl,rfl⟩;exact⟨i,by rw [MN,ok.Pn];exact hi,List.mem_map.2 ⟨a,(Oh (ok.tk i hi)).2 ha,rfl⟩⟩
theorem zX(w:Nat):(GX w).Pairwise (·<·):=by
 unfold GX;exact List.Pairwise.filter _ List.pairwise_lt_range
theorem VJ(ok:Bz L s):(IB s).Pairwise (·<·):=by
 unfold IB;rw [List.flatMap_def,List.pairwise_flatten];refine⟨fun l hl=> ?_,?_⟩
 ·obtain⟨i,hi,rfl⟩:=List.mem_map.1 hl;rw [MN,ok.Pn]at hi;rw [Jy];refine(zX (Gl s i)).imp_of_mem fun{a b}ha hb hab=> ?_
  obtain⟨c,hc,_,_⟩:=(ok.tk i hi).PG ((Oh (ok.tk i hi)).1 ha);have hc0:0<64*AQ (AU (Gl s i)):=by
   rw [hc.class];have:=(Eh hc.cls).2.1;omega
  unfold Ce;have:=Nat.mul_lt_mul_of_pos_left hab hc0;omega
 ·rw [Jy];refine List.pairwise_lt_range.imp_of_mem fun{i j}hi hj hij x hx y hy=> ?_
  rw [MN,ok.Pn]at hi hj;obtain⟨a,ha,rfl⟩:=List.mem_map.1 hx;obtain⟨b,hb,rfl⟩:=List.mem_map.1 hy;obtain⟨c,hc,ha',_⟩:=(ok.tk i hi).PG ((Oh (ok.tk i hi)).1 ha);rw [hc.class];have:=(KH (sh:=s.sh) (i:=i) hc.cls ha').2;have h2:s.sh.data+1024*j<=Ce s.sh j (AU (Gl s j)) b:=by unfold Ce;omega
  have h3:=(Eh hc.cls).2.1;omega
end
theorem bQ{a b:List Kv}(ha:wX a)(hb:wX b)(h:∀x,x∈a<->x∈b):a=b:=
 XH (r:=fun a b:Kv=>Op.bytesLess a.1 b.1=true) (fun x h=>by rw [Fa]at h;cases h) (fun x y h k=>by
  have:=KI _ _ _ h k;rw [Fa]at this;cases this) a b ha hb h
theorem Ac3{l:List Kv}(h:wX l){a b:Kv}(ha:a∈l)(hb:b∈l)(e:a.1=b.1):a=b:=by
 obtain⟨i,hi,rfl⟩:=Ci ha;obtain⟨j,hj,rfl⟩:=Ci hb;have hr:=List.pairwise_iff_getElem.1 h;rcases Nat.lt_trichotomy i j with h1| h1| h1
 ·have:=hr i j hi hj h1;rw [e,Fa]at this;cases this
 ·subst h1;rfl
 ·have:=hr j i hj hi h1;rw [e,Fa]at this;cases this
section
variable{X:Nat->Prop}{L:Nat}{s:St}{items:List Kv}
theorem o5 (h : Ph X L s items) (key : List UInt8) (hk : key.length <= 16) : (∃ v, EZ s key = (v, 0) /\ (CQ key, v) ∈ items /\ v ≠ 0) \/ (EZ s key = (0, 7) /\ ∀ kv ∈ items, kv.1 ≠ CQ key) := by
  by_cases h0 : s.ws 9 = 0
  · have hi : items = [] := by
      rcases h.tree with ⟨_, h2, _⟩ | ⟨_, h1, _⟩
      · exact h2
      · exact absurd h0 h1
    subst hi
    refine .inr ⟨?_, fun _ h => nomatch h⟩
    unfold EZ Fj
    rw [if_neg (by omega), h0, DD, if_pos rfl]
    rfl
  · rcases h.tree with ⟨h1, _⟩ | ⟨blocks, h1, T, hnd, hX, htk⟩
    · exact absurd h1 h0
    · obtain ⟨way, last, rest', q, rl, nl, parts, A, B, b1, b2, o, hp, a⟩ := around h.ok h1 T hnd key hk
      have S := a.spot
      have hgl : (way ++ [last]).getLast? = some last := by simp
      have hmem : ∀ kv ∈ items, kv ∈ A \/ kv ∈ B \/ ∃ k, (k, kv.2) ∈ BB last.nd ++ Bd last.nd.pre last.nd.labels parts /\ kv.1 = q ++ k := fun kv hkv => by
        rw [S.its, AA] at hkv
        rcases List.mem_append.1 hkv with g | g
        · exact .inl g
        · rcases List.mem_append.1 g with g | g
          · exact .inr (.inr (DC.1 g))
          · exact .inr (.inl g)
      unfold EZ
      rw [if_neg (by omega), hp]
      simp only
      by_cases hpr : last.nd.pre = rest'
      · have hst : CB (way ++ [last]) rest' = some last := by unfold CB; rw [hgl]; simp only; rw [if_pos hpr]
        rw [hst]
        simp only
        have hkey : CQ key = q ++ last.nd.pre := by rw [hpr]; exact S.cut
        by_cases hv : last.nd.val = 0
        · rw [if_pos hv]
          refine .inr ⟨rfl, fun kv hkv e => ?_⟩
          rcases hmem kv hkv with g | g | ⟨k, g1, g2⟩
          · exact a.other kv (.inl g) e
          · exact a.other kv (.inr g) e
          · rcases List.mem_append.1 g1 with g1 | g1
            · exact (EF g1).2 hv
            · obtain ⟨i, i1, i2, kv', _, e2⟩ := Ei g1
              rw [g2, hkey] at e
              have e3 := Dk e
              have e4 : k = last.nd.pre ++ last.nd.labels[i] :: kv'.1 := congrArg Prod.fst e2
              rw [e4] at e3
              have := congrArg Ju e3
              simp at this
        · rw [if_neg hv]
          refine .inl ⟨_, rfl, ?_, hv⟩
          rw [S.its, AA]
          refine List.mem_append_right _ (Bl _ (DC.2 ⟨last.nd.pre, Bl _ ?_, hkey⟩))
          unfold BB
          rw [if_pos hv]
          exact List.mem_singleton.2 rfl
      · have hst : CB (way ++ [last]) rest' = none := by unfold CB; rw [hgl]; simp only; rw [if_neg hpr]
        rw [hst]
        refine .inr ⟨rfl, fun kv hkv e => ?_⟩
        rcases hmem kv hkv with g | g | ⟨k, g1, g2⟩
        · exact a.other kv (.inl g) e
        · exact a.other kv (.inr g) e
        · rw [g2, S.cut] at e
          exact a.below hpr _ g1 (Dk e)
end
structure Cm(L:Nat)(s:St)(items:List Kv)(ch:List UInt8->List Lk):Prop where
 ix:Ph (fun o=>∃kv∈items,o∈Gj (ch kv.1)) L s items
 chain:∀kv∈items,Ee s kv.2 (ch kv.1)/\kv.2≠0
 none:∀k,(∀kv∈items,kv.1≠k)->ch k=[]
 gy:∀kv∈items,∀kv'∈items,kv.1≠kv'.1->∀o∈Gj (ch kv.1),o∉Gj (ch kv'.1)
def I4(ch:List UInt8->List Lk)(k:List UInt8)(x:Lk):List UInt8->List Lk:=fun k'=>if k'=k then x::ch k' else ch k'
def D6(s:St)(stamp:UInt64)(y:Wr):St×UInt64×UInt64×Int:=
 if(EZ s y.key.data.toList).2≠0/\(EZ s y.key.data.toList).2≠7 then(s,0,0,(EZ s y.key.data.toList).2)else
 if y.gone=true/\(EZ s y.key.data.toList).1=0 then(s,0,0,0)else
 if(FQ s ⟨stamp,(EZ s y.key.data.toList).1,y.gone,y.text⟩).2.2≠0 then((FQ s ⟨stamp,(EZ s y.key.data.toList).1,y.gone,y.text⟩).1,0,0,(FQ s ⟨stamp,(EZ s y.key.data.toList).1,y.gone,y.text⟩).2.2)else
 if(FZ (FQ s ⟨stamp,(EZ s y.key.data.toList).1,y.gone,y.text⟩).1 y.key.data.toList (FQ s ⟨stamp,(EZ s y.key.data.toList).1,y.gone,y.text⟩).2.1).2≠0 then
  ((EJ (FZ (FQ s ⟨stamp,(EZ s y.key.data.toList).1,y.gone,y.text⟩).1 y.key.data.toList (FQ s ⟨stamp,(EZ s y.key.data.toList).1,y.gone,y.text⟩).2.1).1 (AX (FQ s ⟨stamp,(EZ s y.key.data.toList).1,y.gone,y.text⟩).2.1)).1,0,0,
    (FZ (FQ s ⟨stamp,(EZ s y.key.data.toList).1,y.gone,y.text⟩).1 y.key.data.toList (FQ s ⟨stamp,(EZ s y.key.data.toList).1,y.gone,y.text⟩).2.1).2)else
 ((FZ (FQ s ⟨stamp,(EZ s y.key.data.toList).1,y.gone,y.text⟩).1 y.key.data.toList (FQ s ⟨stamp,(EZ s y.key.data.toList).1,y.gone,y.text⟩).2.1).1,(EZ s y.key.data.toList).1,(FQ s ⟨stamp,(EZ s y.key.data.toList).1,y.gone,y.text⟩).2.1,0)
def OO(s s':St):Prop:=s'.sh=s.sh/\∀j,j<16->j≠9->s'.ws j=s.ws j
theorem OO.refl(s:St):OO s s:=⟨rfl,fun _ _ _=>rfl⟩
theorem OO.trans{s s' s'':St}(h:OO s s')(k:OO s' s''):OO s s'':=⟨k.1.trans h.1,fun j h1 h2=>(k.2 j h1 h2).trans (h.2 j h1 h2)⟩
theorem Qg.Afy{X:Nat->Prop}{s s':St}(h:Qg X s s'):OO s s':=⟨h.sh,h.low⟩
section
variable{L:Nat}{s:St}{items:List Kv}{ch:List UInt8->List Lk}
theorem Cm.key(h:Cm L s items ch){a b:Kv}(ha:a∈items)(hb:b∈items)(e:a.1=b.1):a=b:=Ac3 h.ix.up ha hb e
theorem vF (h : Cm L s items ch) {k : List UInt8} {lk : Lk} {s1 s2 : St} {o : Nat} (ho : lk.off = o) (hr : DK lk.rc = true) (ho6 : o <= 65536) (h0 : 0 < o) (hnx : ¬ ∃ kv ∈ items, o ∈ Gj (ch kv.1)) (hv : Ee s lk.rc.next (ch k)) (hst : ∀ x ∈ ch k, x.rc.stamp.toNat < lk.rc.stamp.toNat)
    (k1 : EX s s1 (fun _ => True)) (ht : AO s1 o 1) (hw : wordsAt s1.ws (o / 8) 8 = Dl lk.rc) {items' : List Kv} (k2 : EX s1 s2 (fun p => (∃ kv ∈ items, p ∈ Gj (ch kv.1)) \/ p = o)) (ix : Ph (fun p => (∃ kv ∈ items, p ∈ Gj (ch kv.1)) \/ p = o) L s2 items') (hp : jf items items' k (UInt64.ofNat o)) :
    Cm L s2 items' (I4 ch k lk) := by
  have hkey : ∀ kv ∈ items', (kv = (k, UInt64.ofNat o)) \/ (kv ∈ items /\ kv.1 ≠ k) := fun kv hkv => (hp kv).1 hkv
  have hin : (k, UInt64.ofNat o) ∈ items' := (hp _).2 (.inl rfl)
  have hother : ∀ kv ∈ items, kv.1 ≠ k -> I4 ch k lk kv.1 = ch kv.1 := fun kv _ hne => by unfold I4; rw [if_neg hne]
  have hself : I4 ch k lk k = lk :: ch k := by unfold I4; rw [if_pos rfl]
  have hlo : Gj (lk :: ch k) = o :: Gj (ch k) := by unfold Gj; rw [Bo, ho, Bq]
  have hold : ∀ p ∈ Gj (ch k), ∃ kv ∈ items, p ∈ Gj (ch kv.1) := fun p hpm => by
    by_cases hh : ∀ kv ∈ items, kv.1 ≠ k
    · rw [h.none k hh] at hpm; cases hpm
    · obtain ⟨kv, h1⟩ := Classical.not_forall.1 hh
      obtain ⟨h2, h3⟩ := Classical.not_imp.1 h1
      exact ⟨kv, h2, by rw [Classical.not_not.1 h3]; exact hpm⟩
  have hcon : ∀ kv ∈ items, kv.1 = k -> ∀ p ∈ Gj (ch kv.1), p ∈ Gj (ch k) := fun kv _ e p hp => by rw [<- e]; exact hp
  refine ⟨ix.congr fun p => ?_, fun kv hkv => ?_, fun k' hk' => ?_, fun a ha b hb hab p hpa hpb => ?_⟩
  · constructor
    · rintro (⟨kv, h1, h2⟩ | rfl)
      · by_cases e : kv.1 = k
        · exact ⟨_, hin, by rw [hself, hlo]; exact Bi _ (hcon kv h1 e p h2)⟩
        · exact ⟨kv, (hp kv).2 (.inr ⟨h1, e⟩), by rw [hother kv h1 e]; exact h2⟩
      · exact ⟨_, hin, by rw [hself, hlo]; exact Be ..⟩
    · rintro ⟨kv, h1, h2⟩
      rcases hkey kv h1 with rfl | ⟨h3, h4⟩
      · rw [hself, hlo] at h2
        rcases List.mem_cons.1 h2 with h2 | h2
        · exact .inr h2
        · exact .inl (hold p h2)
      · rw [hother kv h3 h4] at h2
        exact .inl ⟨kv, h3, h2⟩
  · rcases hkey kv hkv with rfl | ⟨h3, h4⟩
    · rw [hself]
      refine ⟨?_, fun e => ?_⟩
      · obtain ⟨t1, t2⟩ := k2 o 1 (.inr rfl) ht
        have hw2 := Rx (o := o) (c := 1) t2
        rw [show 8 * AQ 1 = 8 from rfl, hw] at hw2
        have hc := (hv.keep k1 (fun _ _ => trivial)).keep k2 (fun p hp => .inl (hold p hp))
        have := Ee.cons o lk.rc (ch k) t1 hr hw2 hc hst
        rw [<- ho] at this
        exact this
      · have := congrArg UInt64.toNat e
        rw [Dj (by omega)] at this
        simp at this
        omega
    · rw [hother kv h3 h4]
      exact ⟨((h.chain kv h3).1.keep k1 (fun _ _ => trivial)).keep k2 (fun p hp => .inl ⟨kv, h3, hp⟩), (h.chain kv h3).2⟩
  · have hne : k' ≠ k := fun e => hk' _ hin e.symm
    unfold I4
    rw [if_neg hne]
    refine h.none k' (fun kv hkv e => ?_)
    exact hk' kv ((hp kv).2 (.inr ⟨hkv, by rw [e]; exact hne⟩)) e
  · have key : ∀ c : Kv, c ∈ items -> c.1 ≠ k -> ∀ p, p ∈ Gj (ch c.1) -> p ∈ o :: Gj (ch k) -> False := fun c hc hck p h1 h2 => by
      rcases List.mem_cons.1 h2 with rfl | h2
      · exact hnx ⟨c, hc, h1⟩
      · obtain ⟨kv, g1, g2⟩ := hold p h2
        by_cases hh : ∀ kv ∈ items, kv.1 ≠ k
        · rw [h.none k hh] at h2; cases h2
        · obtain ⟨kv, h1'⟩ := Classical.not_forall.1 hh
          obtain ⟨h3, h4⟩ := Classical.not_imp.1 h1'
          have h4 := Classical.not_not.1 h4
          exact h.gy c hc kv h3 (by rw [h4]; exact hck) p h1 (by rw [h4]; exact h2)
    rcases hkey a ha with rfl | ⟨a1, a2⟩
    · rcases hkey b hb with rfl | ⟨b1, b2⟩
      · exact hab rfl
      · rw [hself, hlo] at hpa
        rw [hother b b1 b2] at hpb
        exact key b b1 b2 p hpb hpa
    · rw [hother a a1 a2] at hpa
      rcases hkey b hb with rfl | ⟨b1, b2⟩
      · rw [hself, hlo] at hpb
        exact key a a1 a2 p hpa hpb
      · rw [hother b b1 b2] at hpb
        exact h.gy a a1 b b1 hab p hpa hpb
theorem Cm.keep(h:Cm L s items ch){s':St}(k:EX s s' (fun p=>∃kv∈items,p∈Gj (ch kv.1)))(ix:Ph (fun p=>∃kv∈items,p∈Gj (ch kv.1)) L s' items):Cm L s' items ch:=
 ⟨ix,fun kv hkv=>⟨(h.chain kv hkv).1.keep k (fun _ hp=>⟨kv,hkv,hp⟩),(h.chain kv hkv).2⟩,h.none,h.gy⟩
def Ac4(L:Nat)(s:St)(items:List Kv)(ch:List UInt8->List Lk)(stamp:UInt64)(y:Wr)(r:St×UInt64×UInt64×Int):Prop:=
 OO s r.1/\((r.2=(0,0,6)/\Cm L r.1 items ch)\/
  (r=(s,0,0,0)/\y.gone=true/\∀kv∈items,kv.1≠CQ y.key.data.toList)\/
  (∃o v items',r.2=(v,UInt64.ofNat o,0)/\0<o/\o<=65536/\((v=0/\y.gone=false/\∀kv∈items,kv.1≠CQ y.key.data.toList)\/(v≠0/\(CQ y.key.data.toList,v)∈items))/\
   Cm L r.1 items' (I4 ch (CQ y.key.data.toList) ⟨o,⟨stamp,v,y.gone,y.text⟩⟩)/\jf items items' (CQ y.key.data.toList) (UInt64.ofNat o)))
theorem XI(h:Cm L s items ch)(stamp:UInt64)(y:Wr)(hy:CX y=true)(hs0:stamp.toNat≠0)(hst:∀x∈ch (CQ y.key.data.toList),x.rc.stamp.toNat<stamp.toNat):Ac4 L s items ch stamp y (D6 s stamp y):=by
 have hyk:y.key.data.toList.length<=16/\y.text.size<=40/\(y.gone=true->y.text.size=0):=by
  unfold CX at hy;simp only [Bool.and_eq_true,decide_eq_true_eq,Bool.or_eq_true,Bool.not_eq_true']at hy;exact⟨hy.1.1,hy.1.2,fun hg=>hy.2.resolve_left (by rw [hg];simp)⟩
 have hget:∃v e,EZ s y.key.data.toList=(v,e)/\¬(e≠0/\e≠7)/\((v=0/\∀kv∈items,kv.1≠CQ y.key.data.toList)\/(v≠0/\(CQ y.key.data.toList,v)∈items))/\Ee s v (ch (CQ y.key.data.toList)):=by
  rcases o5 h.ix y.key.data.toList hyk.1 with⟨v,e,hm,hv⟩| ⟨e,hn⟩
  ·exact⟨v,0,e,by simp,.inr ⟨hv,hm⟩,(h.chain _ hm).1⟩
  ·exact⟨0,7,e,by simp,.inl ⟨rfl,hn⟩,by rw [h.none _ hn];exact .nil⟩
 obtain⟨v,e,hg,he,hcase,hch⟩:=hget;unfold D6;rw [hg];simp only;rw [if_neg he];by_cases hgv:y.gone=true/\v=0
 ·rw [if_pos hgv];exact⟨OO.refl s,.inr (.inl ⟨rfl,hgv.1,(hcase.resolve_right (fun h=>h.1 hgv.2)).2⟩)⟩
 ·rw [if_neg hgv];have hr:DK ⟨stamp,v,y.gone,y.text⟩=true:=(IU _).2 ⟨hs0,hyk.2.1,hyk.2.2⟩;rcases zV h.ix ⟨stamp,v,y.gone,y.text⟩ hr with ea| ⟨s1,o,ea,_,hnt,hnX,ho6,ho0,ht1,hw1,ix1,k1,sh1,Alj⟩
  ·rw [ea];simp only;rw [if_pos (by decide)];exact⟨OO.refl s,.inl ⟨rfl,h⟩⟩
  ·rw [ea];simp only;rw [if_neg (by simp)];have hone:UInt64.ofNat o≠0:=fun e=>by
    have:=congrArg UInt64.toNat e;rw [Dj (by omega)]at this;simp at this;omega
   have hL1:OO s s1:=⟨sh1,fun j hj _=>Alj j hj⟩;obtain⟨kx,hput⟩:=nU ix1 y.key.data.toList hyk.1 (UInt64.ofNat o) hone;generalize FZ s1 y.key.data.toList (UInt64.ofNat o)=rp at kx hput;obtain⟨s2,e2⟩:=rp;simp only at kx hput⊢;rcases hput with⟨rfl,nT,_⟩| ⟨rfl,items',nT,hp⟩
   ·rw [if_pos (by decide)];obtain⟨s3,e3,ix3,k3,sh3,Alk⟩:=zW nT (o:=o) (.inr rfl);have hof:AX (UInt64.ofNat o)=o:=KL (by omega);rw [hof,e3];refine⟨(hL1.trans kx.Afy).trans ⟨sh3,fun j hj _=>Alk j hj⟩,.inl ⟨rfl,?_⟩⟩;have kk:EX s s3 (fun p=>∃kv∈items,p∈Gj (ch kv.1)):=fun p c hp ht=>by
     obtain⟨u1,u2⟩:=k1 p c trivial ht;obtain⟨u3,u4⟩:=kx.keep p c (.inl hp) u1;obtain⟨u5,u6⟩:=k3 p c (fun e=>hnX (e▸hp)) u3;exact⟨u5,fun j hj=>((u6 j hj).trans (u4 j hj)).trans (u2 j hj)⟩
    refine h.keep kk (ix3.congr fun p=> ?_);constructor
    ·rintro⟨h1| h1,h2⟩
     ·exact h1
     ·exact absurd h1 h2
    ·exact fun h1=>⟨.inl h1,fun e=>hnX (e▸h1)⟩
   ·rw [if_neg (by simp)];refine⟨hL1.trans kx.Afy,.inr (.inr ⟨o,v,items',rfl,ho0,ho6,?_,?_,hp⟩)⟩
    ·rcases hcase with⟨h1,h2⟩| ⟨h1,h2⟩
     ·exact .inl ⟨h1,by cases hgn:y.gone with
      | false=>rfl
      | true=>exact absurd ⟨hgn,h1⟩ hgv,h2⟩
     ·exact .inr ⟨h1,h2⟩
    ·exact vF h (k:=CQ y.key.data.toList) (lk:=⟨o,⟨stamp,v,y.gone,y.text⟩⟩) rfl hr ho6 ho0 hnX hch hst k1 ht1 hw1 kx.keep nT hp
end
section
variable{L:Nat}{s:St}{items items':List Kv}{ch:List UInt8->List Lk}
theorem o6{s:St}{L:Nat}(ok:Bz L s){v:UInt64}{k:Lk}{l:List Lk}(h:Ee s v (k::l)):∃o:Nat,k.off=o/\v=UInt64.ofNat o/\AO s o 1/\DK k.rc=true/\wordsAt s.ws (o/8) 8=Dl k.rc/\Ee s k.rc.next l/\(∀x∈l,x.rc.stamp.toNat<k.rc.stamp.toNat)/\0<o/\o<=65536:=by
 cases h with
 | cons o r l ht hr hw hn hs=>
   have hb:=ht.bounds ok;have h1:=ok.sh.NR;have h2:=ok.L1;exact⟨o,rfl,rfl,ht,hr,hw,hn,hs,by omega,by omega⟩
def Ik(s:St)(key:List UInt8)(v:UInt64):St×Int:=if v=0 then((LY s key).1,(LY s key).2.2)else FZ s key v
theorem Zx {s0 : St} (h0 : Cm L s0 items ch) {key : ByteArray} (hk : key.size <= 16) {lk : Lk} {o : Nat} (ho : lk.off = o) (hp : jf items items' (CQ key.data.toList) (UInt64.ofNat o)) (h : Cm L s items' (I4 ch (CQ key.data.toList) lk))
    (hcase : (lk.rc.next = 0 /\ ∀ kv ∈ items, kv.1 ≠ CQ key.data.toList) \/ (lk.rc.next ≠ 0 /\ (CQ key.data.toList, lk.rc.next) ∈ items)) :
    ∃ s1 s2, Ik s key.data.toList lk.rc.next = (s1, 0) /\ EJ s1 o = (s2, 0) /\ Cm L s2 items ch /\ OO s s2 := by
  have hkl : key.data.toList.length <= 16 := hk
  obtain ⟨k, hkk⟩ : ∃ k, k = CQ key.data.toList := ⟨_, rfl⟩
  rw [<- hkk] at hp h hcase
  have hin : (k, UInt64.ofNat o) ∈ items' := (hp _).2 (.inl rfl)
  have hself : I4 ch k lk k = lk :: ch k := by unfold I4; rw [if_pos rfl]
  have hother : ∀ k', k' ≠ k -> I4 ch k lk k' = ch k' := fun k' hne => by unfold I4; rw [if_neg hne]
  have hlo : Gj (lk :: ch k) = o :: Gj (ch k) := by unfold Gj; rw [Bo, ho, Bq]
  have hc := (h.chain _ hin).1
  simp only [hself] at hc
  obtain ⟨o', ho', _, _, _, _, hnext, _, _, _⟩ := o6 h.ix.ok hc
  have hnd := hc.nodup.1
  rw [hlo] at hnd
  obtain ⟨hn1, _⟩ := List.nodup_cons.1 hnd
  -- the places of the elder versions
  have hsub : ∀ p, (∃ kv ∈ items, p ∈ Gj (ch kv.1)) -> (∃ kv ∈ items', p ∈ Gj (I4 ch k lk kv.1)) /\ p ≠ o := fun p ⟨kv, h1, h2⟩ => by
    by_cases e : kv.1 = k
    · rw [e] at h2
      exact ⟨⟨_, hin, by rw [hself, hlo]; exact Bi _ h2⟩, fun e2 => hn1 (e2 ▸ h2)⟩
    · refine ⟨⟨kv, (hp kv).2 (.inr ⟨h1, e⟩), by rw [hother _ e]; exact h2⟩, fun e2 => ?_⟩
      subst e2
      exact h.gy _ hin kv ((hp kv).2 (.inr ⟨h1, e⟩)) (fun e3 => e e3.symm) p (by rw [hself, hlo]; exact Be ..) (by rw [hother _ e]; exact h2)
  have hsub2 : ∀ p, (∃ kv ∈ items', p ∈ Gj (I4 ch k lk kv.1)) /\ p ≠ o -> ∃ kv ∈ items, p ∈ Gj (ch kv.1) := fun p ⟨⟨kv, h1, h2⟩, h3⟩ => by
    rcases (hp kv).1 h1 with rfl | ⟨h4, h5⟩
    · rw [hself, hlo] at h2
      have h2 := (List.mem_cons.1 h2).resolve_left h3
      rcases hcase with ⟨g1, g2⟩ | ⟨g1, g2⟩
      · rw [h0.none k g2] at h2; cases h2
      · exact ⟨_, g2, h2⟩
    · rw [hother _ h5] at h2
      exact ⟨kv, h4, h2⟩
  -- the index as it was
  have hidx : ∃ s1, Ik s key.data.toList lk.rc.next = (s1, 0) /\ Qg (fun p => ∃ kv ∈ items', p ∈ Gj (I4 ch k lk kv.1)) s s1 /\ Ph (fun p => ∃ kv ∈ items', p ∈ Gj (I4 ch k lk kv.1)) L s1 items := by
    unfold Ik
    rcases hcase with ⟨g1, g2⟩ | ⟨g1, g2⟩
    · rw [if_pos g1]
      rcases Afs h.ix key.data.toList hkl with ⟨e, hno⟩ | ⟨kx, e, hm, oC, nT, hcut⟩
      · exact absurd hkk (hno _ hin)
      · refine ⟨(LY s key.data.toList).1, by rw [e], kx, ?_⟩
        have : oC = items := bQ nT.up h0.ix.up (fun x => by
          rw [hcut x, hp x, <- hkk]
          constructor
          · rintro ⟨rfl | ⟨h1, _⟩, h2⟩
            · exact absurd rfl h2
            · exact h1
          · exact fun h1 => ⟨.inr ⟨h1, g2 x h1⟩, g2 x h1⟩)
        rw [<- this]; exact nT
    · rw [if_neg g1]
      obtain ⟨kx, hput⟩ := nU h.ix key.data.toList hkl lk.rc.next g1
      generalize FZ s key.data.toList lk.rc.next = rp at kx hput
      obtain ⟨s1, e⟩ := rp
      simp only at kx hput
      rcases hput with ⟨_, _, hno⟩ | ⟨rfl, oC, nT, hpp⟩
      · exact absurd hkk (hno _ hin)
      · refine ⟨s1, rfl, kx, ?_⟩
        have : oC = items := bQ nT.up h0.ix.up (fun x => by
          rw [hpp x, hp x, <- hkk]
          constructor
          · rintro (rfl | ⟨rfl | ⟨h1, _⟩, h2⟩)
            · exact g2
            · exact absurd rfl h2
            · exact h1
          · intro h1
            by_cases e : x.1 = k
            · exact .inl (h0.key h1 g2 e)
            · exact .inr ⟨.inr ⟨h1, e⟩, e⟩)
        rw [<- this]; exact nT
  obtain ⟨s1, e1, kx, ix1⟩ := hidx
  obtain ⟨s2, e2, nT, k2, jZ, Alm⟩ := zW ix1 (o := o) ⟨_, hin, by rw [hself, hlo]; exact Be ..⟩
  have kk : ∀ B : Nat -> Prop, (∀ p, B p -> ∃ kv ∈ items, p ∈ Gj (ch kv.1)) -> EX s s2 B := fun B hB p c hp ht => by
    obtain ⟨g1, g2⟩ := hsub p (hB p hp)
    obtain ⟨u1, u2⟩ := kx.keep p c g1 ht
    obtain ⟨u3, u4⟩ := k2 p c g2 u1
    exact ⟨u3, fun j hj => (u4 j hj).trans (u2 j hj)⟩
  refine ⟨s1, s2, e1, e2, ⟨nT.congr fun p => ⟨hsub2 p, hsub p⟩, fun kv hkv => ⟨?_, (h0.chain kv hkv).2⟩, h0.none, h0.gy⟩, kx.Afy.trans ⟨jZ, fun j hj _ => Alm j hj⟩⟩
  refine Ee.keep (s := s) ?_ (kk _ (fun _ h => h)) (fun p hp => ⟨kv, hkv, hp⟩)
  by_cases e : kv.1 = k
  · have hv : kv.2 = lk.rc.next := by
      rcases hcase with ⟨_, g2⟩ | ⟨_, g2⟩
      · exact absurd e (g2 kv hkv)
      · exact congrArg Prod.snd (h0.key hkv g2 e)
    rw [hv, e]
    exact hnext
  · have := (h.chain kv ((hp kv).2 (.inr ⟨hkv, e⟩))).1
    rw [hother _ e] at this
    exact this
abbrev Past:=ByteArray×UInt64×UInt64
def JS(s:St):List Past->St
 | []=>s
 | (key,v,place)::l=>if place=0 then JS s l else if(Ik s key.data.toList v).2≠0 then(Ik s key.data.toList v).1 else JS (EJ (Ik s key.data.toList v).1 (AX place)).1 l
inductive Hist(L:Nat)(items:List Kv)(ch:List UInt8->List Lk):List Past->List Kv->(List UInt8->List Lk)->Prop
 | nil:Hist L items ch [] items ch
 | skip{l:List Past}{it:List Kv}{c:List UInt8->List Lk}(key:ByteArray):Hist L items ch l it c->Hist L items ch (l++[(key,0,0)]) it c
 | add{l:List Past}{it it':List Kv}{c:List UInt8->List Lk}{key:ByteArray}{lk:Lk}{o:Nat}{s0:St}:Hist L items ch l it c->Cm L s0 it c->key.size<=16->lk.off=o->0<o->o<=65536->jf it it' (CQ key.data.toList) (UInt64.ofNat o)->
  ((lk.rc.next=0/\∀kv∈it,kv.1≠CQ key.data.toList)\/(lk.rc.next≠0/\(CQ key.data.toList,lk.rc.next)∈it))->Hist L items ch (l++[(key,lk.rc.next,UInt64.ofNat o)]) it' (I4 c (CQ key.data.toList) lk)
theorem Ac5{l:List Past}{it:List Kv}{c:List UInt8->List Lk}(h:Hist L items ch l it c):∀{s:St},Cm L s it c->Cm L (JS s l.reverse) items ch/\OO s (JS s l.reverse):=by
 induction h with
 | nil=>exact fun hs=>⟨hs,OO.refl _⟩
 | skip key _ ih=>
   intro s hs;rw [Si,P8,Q9,JS,if_pos rfl];exact ih hs
 | add _ h0 hk ho h1 h2 hp hcase ih=>
   intro s hs;rename_i o _ _;obtain⟨s1,s2,e1,e2,hs2,hl2⟩:=Zx h0 hk ho hp hs hcase;have hne:UInt64.ofNat o≠0:=fun e=>by
    have:=congrArg UInt64.toNat e;rw [Dj (by omega)]at this;simp at this;omega
   rw [Si,P8,Q9,JS,if_neg hne,e1];simp only;rw [if_neg (by simp),KL h2,e2];obtain⟨g1,g2⟩:=ih hs2;exact⟨g1,hl2.trans g2⟩
end
theorem Ee.len{s:St}{v:UInt64}{l:List Lk}(h:Ee s v l):∀b:Nat,(∀k∈l,k.rc.stamp.toNat<b)->l.length<=b:=by
 induction h with
 | nil=>intro b _;exact BA _
 | cons o r l _ _ _ _ hs ih=>
   intro b hb;have h1:=ih r.stamp.toNat hs;have h2:r.stamp.toNat<b:=hb _ (Be ..);rw [Bh];omega
theorem Ee.listed{L:Nat}{s:St}(ok:Bz L s){v:UInt64}{l:List Lk}(h:Ee s v l):QG s v=some l:=by
 have:=h.list ok 18446744073709551618 [] (Ej (h.len 18446744073709551616 (fun k _=>UInt64.toNat_lt _)) (by decide)) (fun k _=>UInt64.toNat_lt _);rw [List.nil_append]at this;exact this
structure oD where
 s:St
 done:List Past
 over:Bool
 end_:Int
def Le(stamp:UInt64)(set:List Wr)(j:oD):oD×Bool×Int:=
 if j.over=true then(j,true,j.end_)else
 match set[j.done.length]? with
 | some y=>if(D6 j.s stamp y).2.2.2≠0 then(⟨JS (D6 j.s stamp y).1 j.done.reverse,j.done,true,(D6 j.s stamp y).2.2.2⟩,true,(D6 j.s stamp y).2.2.2)else
  (⟨(D6 j.s stamp y).1,j.done++[(y.key,(D6 j.s stamp y).2.1,(D6 j.s stamp y).2.2.1)],false,0⟩,false,0)
 | none=>(⟨{j.s with ws:=FH j.s.ws 8 stamp},j.done,true,0⟩,true,0)
section
variable{L:Nat}{s:St}{items:List Kv}{ch:List UInt8->List Lk}
theorem Cm.slot(h:Cm L s items ch)(v:UInt64):Cm L {s with ws:=FH s.ws 8 v} items ch:=by
 have hw:∀j,16<=j->FH s.ws 8 v j=s.ws j:=fun j hj=>by unfold FH;rw [if_neg (by omega)]
 have ok':Bz L {s with ws:=FH s.ws 8 v}:=h.ix.ok.words (fun i _=>hw _ (by omega));have kt:EX s {s with ws:=FH s.ws 8 v} (fun _=>True):=fun o c _ ht=>⟨ht,fun j hj=>hw j (by have:=h.ix.ok.Dz (ht.bounds h.ix.ok).1 hj;omega)⟩
 exact h.keep (kt.mono (fun _ _=>trivial)) (h.ix.same ok' h.ix.nh (fun _=>Iff.rfl) kt (by show FH s.ws 8 v 9=_;unfold FH;rw [if_neg (by decide)]))
theorem zY{a b:List UInt8}(h:CQ a=CQ b):a=b:=by rw [<-QS a,h,QS]
structure Zy(L:Nat)(s0:St)(items:List Kv)(ch:List UInt8->List Lk)(stamp:UInt64)(set:List Wr)(j:oD):Prop where
 it:∃it c,Hist L items ch j.done it c/\Cm L j.s it c/\(∀i,j.done.length<=i->∀y,set[i]? =some y->c (CQ y.key.data.toList)=ch (CQ y.key.data.toList))/\(∀k,∀x∈c k,x.rc.stamp.toNat<=stamp.toNat)
 low:OO s0 j.s
 len:j.done.length<=set.length
 run:j.over=false/\j.end_=0
theorem vG(h:Cm L s items ch)(stamp:UInt64)(set:List Wr)(hst:∀k,∀x∈ch k,x.rc.stamp.toNat<stamp.toNat):Zy L s items ch stamp set ⟨s,[],false,0⟩:=
 ⟨⟨items,ch,.nil,h,fun _ _ _ _=>rfl,fun k x hx=>FB (hst k x hx)⟩,OO.refl s,BA _,rfl,rfl⟩
theorem step_ok{s0:St}{stamp:UInt64}{set:List Wr}{j:oD}(h:Zy L s0 items ch stamp set j)(hr:∀y∈set,CX y=true)(hu:Yx set)(hs0:stamp.toNat≠0)(hst:∀k,∀x∈ch k,x.rc.stamp.toNat<stamp.toNat):
 (j.done.length<set.length/\(Le stamp set j).2=(false,0)/\(Le stamp set j).1.done.length=j.done.length+1/\Zy L s0 items ch stamp set (Le stamp set j).1)\/
 (j.done.length<set.length/\(Le stamp set j).2=(true,6)/\(Le stamp set j).1.over=true/\Cm L (Le stamp set j).1.s items ch/\OO s0 (Le stamp set j).1.s)\/
 (j.done.length=set.length/\(Le stamp set j).2=(true,0)/\(Le stamp set j).1.over=true/\(Le stamp set j).1.s.ws 8=stamp/\(Le stamp set j).1.s.sh=s0.sh/\(∀i,i<16->i≠8->i≠9->(Le stamp set j).1.s.ws i=s0.ws i)/\∃it c,Cm L (Le stamp set j).1.s it c/\∀k,∀x∈c k,x.rc.stamp.toNat<=stamp.toNat):=by
 obtain⟨⟨it,c,hh,hs,hc,hle⟩,hlow,hlen,hrun,hend⟩:=h;unfold Le;rw [if_neg (by rw [hrun];decide)];by_cases hlt:j.done.length<set.length
 ·rw [Af hlt];simp only;obtain⟨y,hy⟩:∃y,y=set[j.done.length]:=⟨_,rfl⟩;rw [<-hy];have hyr:CX y=true:=hr y (hy▸List.getElem_mem hlt);have hyk:y.key.size<=16:=by
   unfold CX at hyr;simp only [Bool.and_eq_true,decide_eq_true_eq]at hyr;exact hyr.1.1
  have hcy:=hc j.done.length (Ad _) y (by rw [hy];exact Af hlt);have hother:∀i,j.done.length+1<=i->∀z,set[i]? =some z->CQ z.key.data.toList≠CQ y.key.data.toList:=fun i hi z hz e=>by
   obtain⟨hil,hz⟩:=List.getElem?_eq_some_iff.1 hz;have:=hu.lt hlt hil hi;rw [hz,<-hy]at this;unfold ER at this;rw [ByteArray.toList_eq,ByteArray.toList_eq,zY e,Fa]at this;cases this
  obtain⟨lw,hw⟩:=XI hs stamp y hyr hs0 (fun x hx=>by rw [hcy]at hx;exact hst _ x hx);rcases hw with⟨e,hs'⟩| ⟨e,hg,hno⟩| ⟨o,v,it',e,ho0,ho6,hcase,hs',hp⟩
  ·right;left;have e4:(D6 j.s stamp y).2.2.2=6:=by rw [e]
   rw [if_pos (by rw [e4];decide),e4];obtain⟨g1,g2⟩:=Ac5 hh hs';exact⟨hlt,rfl,rfl,g1,(hlow.trans lw).trans g2⟩
  ·left;rw [e];rw [if_neg (by simp)];refine⟨hlt,rfl,by simp,⟨⟨it,c,.skip y.key hh,hs,fun i hi z hz=>hc i (by simp at hi;omega) z hz,hle⟩,hlow,by simp;omega,rfl,rfl⟩⟩
  ·left;obtain⟨s',hs1⟩:∃s',s'=(D6 j.s stamp y).1:=⟨_,rfl⟩;rw [<-hs1]at lw hs'⊢;rw [e];rw [if_neg (by simp)];refine⟨hlt,rfl,by simp,⟨⟨it',_,Hist.add (lk:=⟨o,⟨stamp,v,y.gone,y.text⟩⟩) hh hs hyk rfl ho0 ho6 hp ?_,hs',fun i hi z hz=> ?_,fun k x hx=> ?_⟩,hlow.trans lw,by simp;omega,rfl,rfl⟩⟩
   ·rcases hcase with⟨g1,_,g2⟩| g
    ·exact .inl ⟨g1,g2⟩
    ·exact .inr g
   ·have hi':j.done.length+1<=i:=by simpa using hi
    unfold I4;rw [if_neg (hother i hi' z hz)];exact hc i (by omega) z hz
   ·unfold I4 at hx;split at hx
    ·rcases List.mem_cons.1 hx with rfl| hx
     ·exact Ad _
     ·exact hle k x hx
    ·exact hle k x hx
 ·right;right;rw [List.getElem?_eq_none (by omega)];refine⟨by omega,rfl,rfl,by show FH j.s.ws 8 stamp 8=_;unfold FH;rw [if_pos rfl],hlow.1,fun i h1 h2 h3=> ?_,it,c,hs.slot stamp,hle⟩;show FH j.s.ws 8 stamp i=_;unfold FH;rw [if_neg h2];exact hlow.2 i h1 h3
end
theorem zZ{len:Nat->Nat}{w:World}{x d p L:Nat}{s:St}{F:Nat->Prop}(h:Qu len w x d p L s F):Calls Tryz.prog 52 #[.pointer (some ⟨x,0,none⟩)] w fun e w'=>Below w.heap.size w w'/\match vC s with
 | none=>e= .returned (.tuple #[.slice none 0 0,.int .i64 5])
 | some l=>∃A c,e= .returned (.tuple #[.slice A l.length c,.int .i64 0])/\l.length<=c/\ItR w' A l/\l.length<=65537/\∀a,A=some a->w.heap.size<=a.block:=by
 refine(vz h).mono ?_;rintro e w1⟨hb,hp⟩;refine⟨hb,?_⟩;unfold vC;cases hs:ED s with
 | none=>rw [hs]at hp;exact hp
 | some im=>
   obtain⟨i2,m2⟩:=im;rw [hs]at hp;obtain⟨v,he,hi,hl⟩:=hp;unfold qM at hi;rw [Afv,show i2.length=(i2.map Ac1).length by simp]at hi;have hn:∀A n c,v= .slice A n c->∀a,A=some a->w.heap.size<=a.block:=fun A n c e1 a ea=>by
    rcases hi.2 with⟨h1,_⟩| ⟨g,cap,cur,h1,h2,_⟩
    ·rw [h1,ea]at e1;cases e1
    ·rw [h1,ea]at e1;injection e1 with e1
     injection e1 with e1
     rw [<-e1];exact h2
   obtain⟨A,c,hv,hc,hr⟩:=Ac2 hi;subst hv;exact⟨A,c,he,hc,hr,by simpa using hl,hn _ _ _ rfl⟩
theorem vH{w:World}{base base' k n:Nat}{e:TypeId}{v:Value}{xs:List Value}(h:w.ownsRow base e k v n xs)(hb:base'<=base):w.ownsRow base' e k v n xs:=
 ⟨h.1,h.2.imp id (fun⟨g,cap,cur,h1,h2,h3⟩=>⟨g,cap,cur,h1,AL hb h2,h3⟩)⟩
section
variable{w:World}{d p L:Nat}{s:St}{tb hb n cT cH:Nat}
def JU(s:St)(i:Nat):Nat:=((List.range i).map fun i=>(GX (hdN s i)).length).sum
theorem Va(s:St)(i:Nat):JU s (i+1)=JU s i+(GX (hdN s i)).length:=by simp [JU,List.range_succ]
theorem Zz(s:St):∀i,JU s i<=16*i
 | 0=>by simp [JU]
 | i+1=>by
   rw [Va];have:=Zz s i;have:(GX (hdN s i)).length<=16:=AL (KO _ _) (by simp [Fq]);omega
theorem vI(h:Gg w d p L s tb hb n cT cH)(hnh:s.hd.length=n):Calls Tryz.prog 24 #[.pointer (some ⟨p,0,none⟩)] w fun e w'=>e= .returned (.int .i64 (dU s:Nat))/\Below w.heap.size w w':=by
 have RY:=Aa (Ff h);have HP:=Aa h;have y6:=h.y6;have Abx:n<=64:=by have:=h.ok.fits;have:=h.L1;have:=h.YS;omega
 have hall:dU s=JU s n:=by unfold dU JU;rw [hnh]
 rw [hall];clear h hall;go_enter Tryz.func24,Tryz.ntmps24
 go_wp2_with fail
 refine RY.out.mono ?_;rintro e w1⟨rfl,rfl⟩;clear RY
 go_wp2_with fail
 go_loopw [3,13](fun u i wr=>∃k:Nat,k<=n/\i= .int .i64 (k:Nat)/\u= .int .i64 (JU s k:Nat)/\Below w.heap.size w wr)(fun _ i _=>n- (intOf i).toNat)
 case atStart=>exact⟨0,BA _,rfl,rfl,Below.refl _ _⟩
 case round=>
  obtain⟨k,hk,rfl,rfl,hb⟩:=hrel;have HB:=Aa hb;clear hb;by_cases hlt:k<n
  ·have hx1:(k:Int)<(n:Int):=by omega
   have hx2:decide ((k:Int)<(n:Int))=true:=decide_eq_true hx1;have hx5:decide (k<n)=true:=decide_eq_true hlt;have hwk:IntKind.i64.wrap ((k:Int)+1)=(k:Int)+1:=wrap64 _ (by omega) (by omega);have z1:=(HP.out.below HB.out).hd k hlt;have hx:=JK s k;have XX:=Aa (Zu (hdN s k) wr hx);have UL:Hid (JU s (k+1)=JU s k+(GX (hdN s k)).length):=Aa (Va s k);have hl1:=Zz s k;have hll:(GX (hdN s k)).length<=16:=AL (KO _ _) (by simp [Fq]);have hwm:IntKind.i64.wrap ((JU s k:Int)+((GX (hdN s k)).length:Int))=(JU s k:Int)+((GX (hdN s k)).length:Int):=wrap64 _ (by omega) (by omega);generalize GX (hdN s k)=l at*;generalize hdN s k=x at*;generalize JU s k=M at*
   go_wp2_with fail
   refine XX.out.mono ?_;rintro e w2⟨v,rfl,hO,hb2⟩;obtain⟨A2,c2,rfl,_,_⟩:=VI hO;have HB2:=Aa (HB.out.trans (hb2.mono HB.out.size));clear hO hb2 XX
   go_wp2_with fail
   go_roundw
   case rel=>exact⟨k+1,by omega,by go_num,by rw [UL.out];go_num,HB2.out⟩
   case measure=>simp [intOf];omega
  ·have hkn:k=n:=by omega
   subst hkn;have hx2:decide ((k:Int)<(k:Int))=false:=decide_eq_false (by omega);have hx5:decide (k<k)=false:=decide_eq_false (by omega)
   go_wp2_with fail
   go_ret;exact⟨rfl,HB.out⟩
end
theorem Ee.Aln{s:St}{v:UInt64}{l:List Lk}(h:Ee s v l):l.map (·.off)=(Gj l).map CV:=by
 induction h with
 | nil=>rfl
 | cons o r l _ _ _ _ _ ih=>
   unfold Gj at ih⊢;rw [Bo,Bo,Bo,ih];rfl
theorem jq{s:St}{ch:List UInt8->List Lk}{f:Kv->List UInt8×UInt64}(hf:∀kv,(f kv).2=kv.2):∀(l:List Kv)(acc:List Int),(∀kv∈l,QG s kv.2=some (ch kv.1))->eG s (l.map f) acc=some (acc++(l.map fun kv=>(ch kv.1).map (·.off)).flatten)
 | [],acc,_=>by simp [eG]
 | kv::t,acc,h=>by
   rw [Bo,eG,hf,h kv (Be ..)];simp only;rw [jq hf t _ (fun x hx=>h x (Bi _ hx))];simp
theorem qN:∀{l:List Int},l.Pairwise (fun x y=>x<y)->ZR l=true
 | [],_=>rfl
 | [_],_=>rfl
 | a::b::t,h=>by
   obtain⟨h1,h2⟩:=List.pairwise_cons.1 h;have h3:=h1 b (Be ..);unfold ZR;rw [qN h2,Bool.and_true,Bool.not_eq_true',beq_eq_false_iff_ne];omega
theorem XJ{ch:List UInt8->List Lk}:∀(l:List Kv),l.Pairwise (fun a b=>a.1≠b.1)->(∀kv∈l,(Gj (ch kv.1)).Nodup)->(∀a∈l,∀b∈l,a.1≠b.1->∀o∈Gj (ch a.1),o∉Gj (ch b.1))->((l.map fun kv=>Gj (ch kv.1)).flatten).Nodup
 | [],_,_,_=>Np
 | kv::t,h,hn,hd=>by
   obtain⟨h1,h2⟩:=List.pairwise_cons.1 h;rw [Bo,List.flatten_cons];refine List.nodup_append.2 ⟨hn kv (Be ..),XJ t h2 (fun x hx=>hn x (Bi _ hx)) (fun a ha b hb=>hd a (Bi _ ha) b (Bi _ hb)),fun x hx y hy e=> ?_⟩;subst e;obtain⟨l',hl,hxl⟩:=List.mem_flatten.1 hy;obtain⟨kv',hk,rfl⟩:=List.mem_map.1 hl;exact hd kv (Be ..) kv' (Bi _ hk) (h1 kv' hk) x hx hxl
section
variable{L:Nat}{s:St}{items:List Kv}{ch:List UInt8->List Lk}
theorem oG(ok:Bz L s){N:List Nat}(hn:N.Nodup)(hm:∀o,o∈N<->∃d,AO s o d){r:List Int}(hp:r.Perm (N.map CV)):OW r=(IB s).map CV:=by
 unfold OW;have hperm:=(L9 r (fun x y=>decide (x<=y))).trans hp;have hnd:(r.mergeSort (fun x y=>decide (x<=y))).Nodup:=hperm.nodup_iff.2 (List.pairwise_map.2 (hn.imp fun{a b}hab e=>hab (by injection e)));have hsort:(r.mergeSort (fun x y=>decide (x<=y))).Pairwise (fun x y=>decide (x<=y)=true):=List.pairwise_mergeSort (fun a b c h k=>by simp at h k⊢;omega) (fun a b=>by simp;omega) _;have hlt:(r.mergeSort (fun x y=>decide (x<=y))).Pairwise (fun(x y:Int)=>x<y):=(List.pairwise_and_iff.2 ⟨hsort,hnd⟩).imp (fun{a b}h=>by
  have h1:a<=b:=by simpa using h.1
  have h2:a≠b:=h.2;omega)
 refine XH (r:=fun(x y:Int)=>x<y) (fun x=>by omega) (fun x y h=>by omega) _ _ hlt (by rw [Jy];exact(VJ ok).imp fun{a b}h=>by show(a:Int)<b;omega) fun x=> ?_
 rw [hperm.mem_iff];simp only [List.mem_map];constructor
 ·rintro⟨o,ho,rfl⟩;exact⟨o,(TB ok o).2 ((hm o).1 ho),rfl⟩
 ·rintro⟨o,ho,rfl⟩;exact⟨o,(hm o).2 ((TB ok o).1 ho),rfl⟩
theorem jr(h:Cm L s items ch):∃its met r,ED s=some (its,met)/\its=items.map (fun kv=>(pairs kv.1,kv.2))/\eG s its (OW met)=some r/\r.length<=100000/\OW r=(IB s).map CV/\ZR (OW r)=true/\
 (IB s).length=met.length+((items.map fun kv=>ch kv.1).flatten).length:=by
 obtain⟨met,h1,h2,h3,h4⟩:=jh h.ix;obtain⟨N,hN⟩:∃N,N=met++(items.map fun kv=>Gj (ch kv.1)).flatten:=⟨_,rfl⟩;have Ad4:∀o,o∈(items.map fun kv=>Gj (ch kv.1)).flatten<->∃kv∈items,o∈Gj (ch kv.1):=fun o=>by
  rw [List.mem_flatten];constructor
  ·rintro⟨l,hl,ho⟩;obtain⟨kv,hk,rfl⟩:=List.mem_map.1 hl;exact⟨kv,hk,ho⟩
  ·rintro⟨kv,hk,ho⟩;exact⟨_,List.mem_map.2 ⟨kv,hk,rfl⟩,ho⟩
 have hm:∀o,o∈N<->∃d,AO s o d:=fun o=>by rw [hN,List.mem_append,Ad4,h4 o]
 have hn:N.Nodup:=by
  rw [hN];refine List.nodup_append.2 ⟨h2,XJ items (h.ix.up.imp fun{a b}hab e=>by rw [e,Fa]at hab;cases hab) (fun kv hkv=>(h.chain kv hkv).1.nodup.1) h.gy,fun x hx y hy e=> ?_⟩;subst e;exact h3 x hx ((Ad4 x).1 hy)
 have hoff:(items.map fun kv=>(ch kv.1).map (·.off)).flatten=((items.map fun kv=>Gj (ch kv.1)).flatten).map CV:=by
  rw [List.map_flatten,FM];congr 1;exact Sj fun kv hkv=>(h.chain kv hkv).1.Aln
 have hr:=jq (s:=s) (ch:=ch) (f:=fun kv=>(pairs kv.1,kv.2)) (fun _=>rfl) items (OW (met.map CV)) (fun kv hkv=>(h.chain kv hkv).1.listed h.ix.ok);have hperm:(OW (met.map CV)++(items.map fun kv=>(ch kv.1).map (·.off)).flatten).Perm (N.map CV):=by
  rw [hN,List.map_append,hoff];exact List.Perm.append_right _ (L9 _ _)
 have hs:=oG h.ix.ok hn hm hperm;have hlen:(OW (met.map CV)++(items.map fun kv=>(ch kv.1).map (·.off)).flatten).length=(IB s).length:=by
  have:=(L9 (OW (met.map CV)++(items.map fun kv=>(ch kv.1).map (·.off)).flatten) (fun x y=>decide (x<=y))).length_eq;unfold OW at hs;unfold OW at this⊢;rw [hs,CO]at this;exact this.symm
 refine⟨_,met.map CV,_,h1,rfl,hr,?_,hs,?_,?_⟩
 ·have hb:=Ky N (List.range 65537) hn (fun o ho=>by
  obtain⟨d,hd⟩:=(hm o).1 ho;have:=(hd.bounds h.ix.ok).2.1;have:=h.ix.ok.L1;exact List.mem_range.2 (by omega))
  rw [hperm.length_eq,CO];rw [List.length_range]at hb;omega
 ·rw [hs];refine qN ?_;rw [Jy];exact(VJ h.ix.ok).imp fun{a b}h=>by show(a:Int)<b;omega
 ·rw [<-hlen,Az];have e1:(OW (met.map CV)).length=(met.map CV).length:=(L9 _ _).length_eq;rw [e1];congr 1;simp only [List.length_flatten,FM];congr 1;exact Sj fun kv _=>by simp
end
theorem Aaa{L:Nat}{sh:Sh}(hL:L<=1024)(hs:shapeOf L=some sh):Cm L (st0 sh) [] (fun _=>[]):=
 ⟨(Afx hL hs).congr (fun _=>⟨fun h=>h.elim,fun⟨_,h,_⟩=>(nomatch h)⟩),(fun _ h=>(nomatch h)),(fun _ _=>rfl),(fun _ h=>(nomatch h))⟩
def GM:Sh:={lines:=100,BQ:=6,table:=128,data:=192}
theorem qO:shapeOf 100=some GM:=by decide+kernel
def JV:ByteArray:=⟨#[97]⟩
def Jg:ByteArray:=⟨#[120]⟩
def vJ:ByteArray:=⟨#[98]⟩
theorem jv:lX GM JV Jg=true:=by decide+kernel
def bT:Wr:=⟨JV,Jg,false⟩
def Ajc:Wr:=⟨vJ,⟨#[]⟩,true⟩
theorem Ac6:D6 (st0 GM) 1 bT=(Po GM JV Jg,0,QJ GM Jg,0):=by
 have hg:EZ (st0 GM) bT.key.data.toList=(0,7):=qg GM JV (by decide);have ha:FQ (st0 GM) ⟨1,0,bT.gone,bT.text⟩=(one1 GM Jg,QJ GM Jg,0):=one_add jv;have hp:FZ (one1 GM Jg) bT.key.data.toList (QJ GM Jg)=(Po GM JV Jg,0):=qf jv;unfold D6;rw [hg];simp only;rw [if_neg (by simp),if_neg (by simp [bT]),ha];simp only;rw [if_neg (by simp),hp];simp
theorem XK:∃o,QJ GM Jg=UInt64.ofNat o/\Cm 100 (Po GM JV Jg) [(CQ JV.data.toList,UInt64.ofNat o)] (I4 (fun _=>[]) (CQ JV.data.toList) ⟨o,⟨1,0,false,Jg⟩⟩)/\(Po GM JV Jg).ws 8=0:=by
 have h:=XI (Aaa (L:=100) (by decide) qO) 1 bT (by decide+kernel) (by decide) (fun x hx=>(nomatch hx));rw [Ac6]at h;obtain⟨hl,h1⟩:=h;have h80:(Po GM JV Jg).ws 8=0:=(hl.2 8 (by decide) (by decide)).trans (Gt GM 8 (by decide));rcases h1 with⟨h1,_⟩| ⟨_,h1,_⟩| ⟨o,v,items',h1,_,_,hv,hs,hp⟩
 ·exact absurd (congrArg (fun r=>r.2.2) h1) (by decide)
 ·cases h1
 ·simp only [Prod.mk.injEq]at h1;obtain⟨rfl,h1,_⟩:=h1;refine⟨o,h1,?_,h80⟩;have hi:items'=[(CQ JV.data.toList,UInt64.ofNat o)]:=bQ hs.ix.up (List.pairwise_singleton _ _) (fun x=>by
   rw [hp x];simp only [List.not_mem_nil,false_and,or_false,BM];exact Iff.rfl)
  rw [hi]at hs;exact hs
theorem Afz:EZ (Po GM JV Jg) vJ.data.toList=(0,7):=by
 obtain⟨o,_,hs,_⟩:=XK;rcases o5 hs.ix vJ.data.toList (by decide)with⟨v,_,hm,_⟩| ⟨h,_⟩
 ·rw [BM]at hm;exact absurd (congrArg Prod.fst hm) (show¬CQ vJ.data.toList=CQ JV.data.toList by decide+kernel)
 ·exact h
theorem Ajd:∃o,vC {Po GM JV Jg with ws:=FH (Po GM JV Jg).ws 8 1}=some [⟨JV,UInt64.ofNat o⟩]/\QG {Po GM JV Jg with ws:=FH (Po GM JV Jg).ws 8 1} (UInt64.ofNat o)=some [⟨o,⟨1,0,false,Jg⟩⟩]:=by
 obtain⟨o,_,hs,_⟩:=XK;have hs2:=hs.slot 1;refine⟨o,?_,?_⟩
 ·rw [zT hs2.ix];rfl
 ·have hc:=(hs2.chain _ (List.mem_singleton.2 rfl)).1.listed hs2.ix.ok;simp only [I4,if_true]at hc;exact hc
end Go.Proofs.YtjcppneoncpdbaaGreatDoor
