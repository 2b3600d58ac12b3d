import Derived.Deep.RegionHeldLaw
import Derived.Laws.StructEq
import Derived.Test.YtdjfbnoolfpcnaaGreatDoorG04
import Derived.Test.YtdjfbnoolfpcnaaGreatDoorG11
import Derived.Test.YtdjfbnoolfpcnaaGreatDoorG12
namespace Go.Proofs.YtdjfbnoolfpcnaaGreatDoor
open Go.RowKit
section
variable{len:Mode}{w w':World}{base sb mb x d p L:Nat}{s:St}{F:Nat→Prop}
set_option maxHeartbeats 16000000 in
set_option maxRecDepth 100000 in
theorem visit_far(h:IxL len w x d p L s F)(_:∀b,F b→b<base){items:List (List UInt8×UInt64)}{met:List Int}{v:Value}(hs:SurvAt w base sb mb x items met v)(f:Nat)(name:UInt64)(ahead:List UInt8)(A:Option Addr)(c:Nat)(hA:Row8 w A ahead)(hac:ahead.length≤c)(hal:ahead.length≤33)(nd:Nd)(hr:readP s name=some nd)(hm:offOf name∉met)(hfar:32<(ahead++nd.pre).length):
 Calls Tryz.prog 55 #[.pointer (some ⟨sb,0,none⟩),.int .u64 (name.toNat:Int),.slice A ahead.length c] w (VisPost (visitP s (f+1) name ahead (items,met)) base sb mb x w):=by
 have HP:Hid (visitP s (f+1) name ahead (items,met)=none):=Lib.hid (by rw [visitP,hr];simp only;rw [if_pos (.inr hfar)]);have ht:decide ((32:Int)<((ahead.length+nd.pre.length:Nat):Int))=true:=decide_eq_true (by rw [List.length_append]at hfar;omega);have HR:=Lib.hid (read_index h name);have HRn:=Lib.hid hr;have HS:=Lib.hid hs;have HX:=Lib.hid h;have hwr:IntKind.i64.wrap (name.toNat:Int)=offOf name:=rfl;have hbl:=(read_lens hr).1;have hbk:=(read_lens hr).2.1;have hbb:=(read_lens hr).2.2;have HOff:=Lib.hid (read_off h hr);have HMt:=Lib.hid hm;have y0:=hs.box.cell 0;simp only [List.getElem?_cons_zero]at y0;have hbs:base≤w.heap.size:=Nat.le_of_lt (Nat.lt_of_le_of_lt hs.bs hs.box.lt);have HNo:Hid (∀q∈met.map (fun o=>(o,(1:Int))),q.1≠offOf name):=Lib.hid (fun q hq=>by
  obtain⟨o,ho,rfl⟩:=List.mem_map.1 hq;exact fun e=>hm (e▸ho))
 have HA:=Lib.hid hA;generalize offOf name=off at*;clear h hs hr hm hA;go_enter Tryz.func55,Tryz.ntmps55
 go_wp2_with fail
 refine HR.out.mono ?_;rintro e w1⟨hb1,hp1⟩;rw [HRn.out]at hp1;obtain⟨vn,rfl,hnd⟩:=hp1;obtain⟨A1,c1,A2,c2,A3,c3,rfl,o1,o2,o3⟩:=hnd;obtain⟨W2,hW2⟩:∃W2,W2=w1.alloc (.cells #[.slice A1 nd.pre.length c1,.int .u64 (nd.val.toNat:Int),.slice A2 nd.labels.length c2,.slice A3 nd.kids.length c3] 72):=⟨_,rfl⟩;have BN:Blk W2 w1.heap.size 72 [.slice A1 nd.pre.length c1,.int .u64 (nd.val.toNat:Int),.slice A2 nd.labels.length c2,.slice A3 nd.kids.length c3]:=hW2▸heap_alloc_new _ _;have hb12:Below w1.heap.size w1 W2:=hW2▸(Below.refl _ _).alloc (Nat.le_refl _) _;have hb2:Below w.heap.size w W2:=hb1.trans (hb12.mono hb1.size);have S2:=HS.out.below hb2;have k1:=look_no Tryz.metMap Tryz.underlying3 Tryz.zeroInt W2 mb _ off S2.map HNo.out;have k2:=upd_no Tryz.metMap Tryz.underlying3 W2 mb _ off 1 S2.map HNo.out;rw [show met.map (fun o=>(o,(1:Int)))++[(off,1)]=(met++[off]).map (fun o=>(o,(1:Int)))by simp]at k2;obtain⟨S3,kk3,hb23⟩:=S2.note HOff.out HMt.out;obtain⟨W3,hW3⟩:∃W3,W3=putMap W2 mb (metE 0 ((met++[off]).map fun o=>(o,1))).toArray ((met++[off]).map fun o=>(o,(1:Int))).length:=⟨_,rfl⟩;rw [←hW3]at k2 S3 kk3 hb23;have BN3:=kk3.box BN;have HA3:=(HA.out.keep (KeepB.of_below hb2)).keep kk3;have HN3:Hid (NdV W3 w.heap.size (.agg #[.slice A1 nd.pre.length c1,.int .u64 (nd.val.toNat:Int),.slice A2 nd.labels.length c2,.slice A3 nd.kids.length c3]) nd):=Lib.hid (kk3.nd ⟨_,_,_,_,_,_,rfl,own_below o1 hb12,own_below o2 hb12,own_below o3 hb12⟩);have hpre:Rd W3 A1 nd.pre.length (nd.pre.map bv):=(rd_own (kk3.own (.inl rfl) (own_below o1 hb12))).2;clear hW3;have z0:=S2.box.cell 0;have z2:=S2.box.cell 2;simp only [List.getElem?_cons_zero,List.getElem?_cons_succ]at z0 z2;rw [hW2]at k1 k2 z0 z2;have HW2:=Lib.hid hW2;clear y0 HR hW2
 go_wp2_with fail
 obtain⟨n0,n1,n2,n3, -⟩:=blk4' BN3;have HB3:=Lib.hid ((hb2.mono hbs).trans hb23);have HK3:=Lib.hid ((KeepB.of_below hb2).trans kk3);have HS3:=Lib.hid S3;have HR3:=Lib.hid HA3;have HP3:=Lib.hid hpre;have HBN3:=Lib.hid BN3;clear k1 k2 z0 z2 hb1 hb12 hb2 S2 kk3 hb23 BN BN3 HA3 hpre o1 o2 o3 S3
 go_region_law(refine step_app_cut rfl (.tmp 42) (.tmp 44) 26 rfl Tryz.bytesTy A ahead.length (ahead.map bv) (by simp [Act.eval]) (by exact HR3.out.1) (fun a e=>by obtain⟨g,_,_,e',_⟩:=HR3.out.2.1 a e;exact⟨g,e'⟩) (fun e=>by rw [HR3.out.2.2 e];rfl) A1 nd.pre.length c1 (nd.pre.map bv) (by simp [Act.eval]) (by exact HP3.out) (oneCell_bv _) (by omega) (by decide) ?_;intro A4 c4 w4 hc4 hr4 hb4 hcut4)
 have hb34:Below W3.heap.size W3 w4:=((Dr.drew W3).below _).trans hb4;have HR4:Hid (Row8 w4 A4 (ahead++nd.pre)):=Lib.hid (HR3.out.cut hr4 hb34 hcut4);have S4:=HS3.out.below hb34;have BN4:=HBN3.out.below hb34 HBN3.out.lt;have HN4:=Lib.hid (HN3.out.below hb34);have HK4:=Lib.hid (HK3.out.trans (KeepB.of_below hb34));have HB4:=Lib.hid (HB3.out.trans (hb34.mono (Nat.le_trans hbs (by have:=HB3.out.size;exact this))));have k5:(Instr.lookup 57 (.map (some mb)) (.int .i64 off) false).run Tryz.prog w4= .ok (.int .i64 1) w4:=look_yes Tryz.metMap Tryz.underlying3 w4 mb (met.map fun o=>(o,(1:Int))) [] off 1 (by have:=S4.map;simpa using this) HNo.out;have z0:=S4.box.cell 0;have z1:=S4.box.cell 1;have z2:=S4.box.cell 2;simp only [List.getElem?_cons_zero,List.getElem?_cons_succ]at z0 z1 z2;obtain⟨n0,n1,n2,n3, -⟩:=blk4' BN4;have HS4:=Lib.hid S4;have HBN4:=Lib.hid BN4;clear hb34 hb4 hcut4 hr4 S4 BN4 HS3 HR3 HP3 HBN3 HN3 HK3 HB3 HA HNo HS HMt;have ht2:(32:Int)<(ahead.length:Int)+(nd.pre.length:Int):=by simp at ht;omega
 go_wp2_with fail
 go_ret;refine⟨HB4.out,HK4.out,?_⟩;rw [HP.out];rfl
set_option maxHeartbeats 16000000 in
set_option maxRecDepth 100000 in
theorem visit_key(h:IxL len w x d p L s F)(_:∀b,F b→b<base){items:List (List UInt8×UInt64)}{met:List Int}{v:Value}(hs:SurvAt w base sb mb x items met v)(f:Nat)(name:UInt64)(ahead:List UInt8)(A:Option Addr)(c:Nat)(hA:Row8 w A ahead)(hac:ahead.length≤c)(_:ahead.length≤33)(nd:Nd)(hr:readP s name=some nd)(hm:offOf name∉met)(hfar:¬32<(ahead++nd.pre).length)(hv:nd.val≠0)(hk:keyOk (ahead++nd.pre)=false):
 Calls Tryz.prog 55 #[.pointer (some ⟨sb,0,none⟩),.int .u64 (name.toNat:Int),.slice A ahead.length c] w (VisPost (visitP s (f+1) name ahead (items,met)) base sb mb x w):=by
 have HP:Hid (visitP s (f+1) name ahead (items,met)=none):=Lib.hid (by rw [visitP,hr];simp only;rw [if_neg (fun e=>e.elim (fun e=>hm (by simpa using e)) hfar),if_pos ⟨hv,hk⟩]);rw [List.length_append]at hfar;have ht2:¬(32:Int)<(ahead.length:Int)+(nd.pre.length:Int):=by omega
 have ht:decide ((32:Int)<((ahead.length+nd.pre.length:Nat):Int))=false:=decide_eq_false (by omega);have HKo:=Lib.hid hk;have tv:((nd.val.toNat:Int)!=0)=true:=by
  rw [bne_iff_ne];intro e;exact hv (UInt64.toNat_inj.1 (by simp;omega))
 clear hk hv;have HR:=Lib.hid (read_index h name);have HRn:=Lib.hid hr;have HS:=Lib.hid hs;have HX:=Lib.hid h;have hwr:IntKind.i64.wrap (name.toNat:Int)=offOf name:=rfl;have hbl:=(read_lens hr).1;have hbk:=(read_lens hr).2.1;have hbb:=(read_lens hr).2.2;have HOff:=Lib.hid (read_off h hr);have HMt:=Lib.hid hm;have y0:=hs.box.cell 0;simp only [List.getElem?_cons_zero]at y0;have hbs:base≤w.heap.size:=Nat.le_of_lt (Nat.lt_of_le_of_lt hs.bs hs.box.lt);have HNo:Hid (∀q∈met.map (fun o=>(o,(1:Int))),q.1≠offOf name):=Lib.hid (fun q hq=>by
  obtain⟨o,ho,rfl⟩:=List.mem_map.1 hq;exact fun e=>hm (e▸ho))
 have HA:=Lib.hid hA;generalize offOf name=off at*;clear h hs hr hm hA;go_enter Tryz.func55,Tryz.ntmps55
 go_wp2_with fail
 refine HR.out.mono ?_;rintro e w1⟨hb1,hp1⟩;rw [HRn.out]at hp1;obtain⟨vn,rfl,hnd⟩:=hp1;obtain⟨A1,c1,A2,c2,A3,c3,rfl,o1,o2,o3⟩:=hnd;obtain⟨W2,hW2⟩:∃W2,W2=w1.alloc (.cells #[.slice A1 nd.pre.length c1,.int .u64 (nd.val.toNat:Int),.slice A2 nd.labels.length c2,.slice A3 nd.kids.length c3] 72):=⟨_,rfl⟩;have BN:Blk W2 w1.heap.size 72 [.slice A1 nd.pre.length c1,.int .u64 (nd.val.toNat:Int),.slice A2 nd.labels.length c2,.slice A3 nd.kids.length c3]:=hW2▸heap_alloc_new _ _;have hb12:Below w1.heap.size w1 W2:=hW2▸(Below.refl _ _).alloc (Nat.le_refl _) _;have hb2:Below w.heap.size w W2:=hb1.trans (hb12.mono hb1.size);have S2:=HS.out.below hb2;have k1:=look_no Tryz.metMap Tryz.underlying3 Tryz.zeroInt W2 mb _ off S2.map HNo.out;have k2:=upd_no Tryz.metMap Tryz.underlying3 W2 mb _ off 1 S2.map HNo.out;rw [show met.map (fun o=>(o,(1:Int)))++[(off,1)]=(met++[off]).map (fun o=>(o,(1:Int)))by simp]at k2;obtain⟨S3,kk3,hb23⟩:=S2.note HOff.out HMt.out;obtain⟨W3,hW3⟩:∃W3,W3=putMap W2 mb (metE 0 ((met++[off]).map fun o=>(o,1))).toArray ((met++[off]).map fun o=>(o,(1:Int))).length:=⟨_,rfl⟩;rw [←hW3]at k2 S3 kk3 hb23;have BN3:=kk3.box BN;have HA3:=(HA.out.keep (KeepB.of_below hb2)).keep kk3;have HN3:Hid (NdV W3 w.heap.size (.agg #[.slice A1 nd.pre.length c1,.int .u64 (nd.val.toNat:Int),.slice A2 nd.labels.length c2,.slice A3 nd.kids.length c3]) nd):=Lib.hid (kk3.nd ⟨_,_,_,_,_,_,rfl,own_below o1 hb12,own_below o2 hb12,own_below o3 hb12⟩);have hpre:Rd W3 A1 nd.pre.length (nd.pre.map bv):=(rd_own (kk3.own (.inl rfl) (own_below o1 hb12))).2;clear hW3;have z0:=S2.box.cell 0;have z2:=S2.box.cell 2;simp only [List.getElem?_cons_zero,List.getElem?_cons_succ]at z0 z2;rw [hW2]at k1 k2 z0 z2;have HW2:=Lib.hid hW2;clear y0 HR hW2
 go_wp2_with fail
 obtain⟨n0,n1,n2,n3, -⟩:=blk4' BN3;have HB3:=Lib.hid ((hb2.mono hbs).trans hb23);have HK3:=Lib.hid ((KeepB.of_below hb2).trans kk3);have HS3:=Lib.hid S3;have HR3:=Lib.hid HA3;have HP3:=Lib.hid hpre;have HBN3:=Lib.hid BN3;clear k1 k2 z0 z2 hb1 hb12 hb2 S2 kk3 hb23 BN BN3 HA3 hpre o1 o2 o3 S3
 go_region_law(refine step_app_cut rfl (.tmp 42) (.tmp 44) 26 rfl Tryz.bytesTy A ahead.length (ahead.map bv) (by simp [Act.eval]) (by exact HR3.out.1) (fun a e=>by obtain⟨g,_,_,e',_⟩:=HR3.out.2.1 a e;exact⟨g,e'⟩) (fun e=>by rw [HR3.out.2.2 e];rfl) A1 nd.pre.length c1 (nd.pre.map bv) (by simp [Act.eval]) (by exact HP3.out) (oneCell_bv _) (by omega) (by decide) ?_;intro A4 c4 w4 hc4 hr4 hb4 hcut4)
 have hb34:Below W3.heap.size W3 w4:=((Dr.drew W3).below _).trans hb4;have HR4:Hid (Row8 w4 A4 (ahead++nd.pre)):=Lib.hid (HR3.out.cut hr4 hb34 hcut4);have S4:=HS3.out.below hb34;have BN4:=HBN3.out.below hb34 HBN3.out.lt;have HN4:=Lib.hid (HN3.out.below hb34);have HK4:=Lib.hid (HK3.out.trans (KeepB.of_below hb34));have HB4:=Lib.hid (HB3.out.trans (hb34.mono (Nat.le_trans hbs (by have:=HB3.out.size;exact this))));have k5:(Instr.lookup 57 (.map (some mb)) (.int .i64 off) false).run Tryz.prog w4= .ok (.int .i64 1) w4:=look_yes Tryz.metMap Tryz.underlying3 w4 mb (met.map fun o=>(o,(1:Int))) [] off 1 (by have:=S4.map;simpa using this) HNo.out;have z0:=S4.box.cell 0;have z1:=S4.box.cell 1;have z2:=S4.box.cell 2;simp only [List.getElem?_cons_zero,List.getElem?_cons_succ]at z0 z1 z2;obtain⟨n0,n1,n2,n3, -⟩:=blk4' BN4;have HS4:=Lib.hid S4;have HBN4:=Lib.hid BN4;clear hb34 hb4 hcut4 hr4 S4 BN4 HS3 HR3 HP3 HBN3 HN3 HK3 HB3 HA HNo HS HMt;have HKy:=key_no A4 (ahead.length+nd.pre.length) c4 (ahead++nd.pre) w4 (by omega) (by have:=HR4.out.1;rw [List.length_append]at this;exact this) HKo.out;have HKy:=Lib.hid HKy
 go_wp2_with fail
 refine HKy.out.mono ?_;rintro e w5⟨rfl,rfl⟩;clear HKy
 go_wp2_with fail
 go_ret;refine⟨HB4.out,HK4.out,?_⟩;rw [HP.out];rfl
end
section
variable{len:Mode}{w w':World}{base sb mb x d p L:Nat}{s:St}{F:Nat→Prop}
set_option maxHeartbeats 16000000 in
set_option maxRecDepth 100000 in
theorem visit_deep0(h:IxL len w x d p L s F)(hF:∀b,F b→b<base){items:List (List UInt8×UInt64)}{met:List Int}{v:Value}(hs:SurvAt w base sb mb x items met v)(f:Nat)(name:UInt64)(ahead:List UInt8)(A:Option Addr)(c:Nat)(hA:Row8 w A ahead)(hac:ahead.length≤c)(_:ahead.length≤33)(nd:Nd)(hr:readP s name=some nd)(hm:offOf name∉met)(hfar:¬32<(ahead++nd.pre).length)(hv:nd.val=0)(hxb:x<base)(htb:0<base∧1<base)(ih:∀(W:World)(kid:UInt64)(ah:List UInt8)(A:Option Addr)(c:Nat)(it:List (List UInt8×UInt64))(mt:List Int)(v:Value),IxL len W x d p L s F→SurvAt W base sb mb x it mt v→Row8 W A ah→ah.length≤c→ah.length≤33→34≤f+ah.length→Calls Tryz.prog 55 #[.pointer (some ⟨sb,0,none⟩),.int .u64 (kid.toNat:Int),.slice A ah.length c] W (VisPost (visitP s f kid ah (it,mt)) base sb mb x W))(h34:34≤f+1+ahead.length):
 Calls Tryz.prog 55 #[.pointer (some ⟨sb,0,none⟩),.int .u64 (name.toNat:Int),.slice A ahead.length c] w (VisPost (visitP s (f+1) name ahead (items,met)) base sb mb x w):=by
 have HP:Hid (visitP s (f+1) name ahead (items,met)=(nd.labels.zip nd.kids).foldlM (fun(st:List (List UInt8×UInt64)×List Int)(lk:UInt8×UInt64)=>visitP s f lk.2 (ahead++nd.pre++[lk.1]) st) (items,met++[offOf name])):=Lib.hid (by rw [visitP,hr];simp only;rw [if_neg (fun e=>e.elim (fun e=>hm (by simpa using e)) hfar),if_neg (fun e=>e.1 hv),if_neg (fun e=>e hv)]);have hfar2:=hfar;rw [List.length_append]at hfar2;have ht2:¬(32:Int)<(ahead.length:Int)+(nd.pre.length:Int):=by omega
 have ht:decide ((32:Int)<((ahead.length+nd.pre.length:Nat):Int))=false:=decide_eq_false (by omega);have tv:((nd.val.toNat:Int)!=0)=false:=by rw [hv];rfl
 have HLk:Hid (nd.labels.length=nd.kids.length):=Lib.hid (by
  obtain⟨_,_,ok,hntk⟩:=h.L0;exact((rightB_iff _).1 (read_ok ok hntk hr).1).2.2.1)
 have HVv:=Lib.hid hv;clear hv;have HR:=Lib.hid (read_index h name);have HRn:=Lib.hid hr;have HS:=Lib.hid hs;have HX:=Lib.hid h;have hwr:IntKind.i64.wrap (name.toNat:Int)=offOf name:=rfl;have hbl:=(read_lens hr).1;have hbk:=(read_lens hr).2.1;have hbb:=(read_lens hr).2.2;have HOff:=Lib.hid (read_off h hr);have HMt:=Lib.hid hm;have y0:=hs.box.cell 0;simp only [List.getElem?_cons_zero]at y0;have hbs:base≤w.heap.size:=Nat.le_of_lt (Nat.lt_of_le_of_lt hs.bs hs.box.lt);have HNo:Hid (∀q∈met.map (fun o=>(o,(1:Int))),q.1≠offOf name):=Lib.hid (fun q hq=>by
  obtain⟨o,ho,rfl⟩:=List.mem_map.1 hq;exact fun e=>hm (e▸ho))
 have HA:=Lib.hid hA;generalize offOf name=off at*;clear h hs hr hm hA;go_enter Tryz.func55,Tryz.ntmps55
 go_wp2_with fail
 refine HR.out.mono ?_;rintro e w1⟨hb1,hp1⟩;rw [HRn.out]at hp1;obtain⟨vn,rfl,hnd⟩:=hp1;obtain⟨A1,c1,A2,c2,A3,c3,rfl,o1,o2,o3⟩:=hnd;obtain⟨W2,hW2⟩:∃W2,W2=w1.alloc (.cells #[.slice A1 nd.pre.length c1,.int .u64 (nd.val.toNat:Int),.slice A2 nd.labels.length c2,.slice A3 nd.kids.length c3] 72):=⟨_,rfl⟩;have BN:Blk W2 w1.heap.size 72 [.slice A1 nd.pre.length c1,.int .u64 (nd.val.toNat:Int),.slice A2 nd.labels.length c2,.slice A3 nd.kids.length c3]:=hW2▸heap_alloc_new _ _;have hb12:Below w1.heap.size w1 W2:=hW2▸(Below.refl _ _).alloc (Nat.le_refl _) _;have hb2:Below w.heap.size w W2:=hb1.trans (hb12.mono hb1.size);have S2:=HS.out.below hb2;have k1:=look_no Tryz.metMap Tryz.underlying3 Tryz.zeroInt W2 mb _ off S2.map HNo.out;have k2:=upd_no Tryz.metMap Tryz.underlying3 W2 mb _ off 1 S2.map HNo.out;rw [show met.map (fun o=>(o,(1:Int)))++[(off,1)]=(met++[off]).map (fun o=>(o,(1:Int)))by simp]at k2;obtain⟨S3,kk3,hb23⟩:=S2.note HOff.out HMt.out;obtain⟨W3,hW3⟩:∃W3,W3=putMap W2 mb (metE 0 ((met++[off]).map fun o=>(o,1))).toArray ((met++[off]).map fun o=>(o,(1:Int))).length:=⟨_,rfl⟩;rw [←hW3]at k2 S3 kk3 hb23;have BN3:=kk3.box BN;have HA3:=(HA.out.keep (KeepB.of_below hb2)).keep kk3;have HN3:Hid (NdV W3 w.heap.size (.agg #[.slice A1 nd.pre.length c1,.int .u64 (nd.val.toNat:Int),.slice A2 nd.labels.length c2,.slice A3 nd.kids.length c3]) nd):=Lib.hid (kk3.nd ⟨_,_,_,_,_,_,rfl,own_below o1 hb12,own_below o2 hb12,own_below o3 hb12⟩);have hpre:Rd W3 A1 nd.pre.length (nd.pre.map bv):=(rd_own (kk3.own (.inl rfl) (own_below o1 hb12))).2;clear hW3;have z0:=S2.box.cell 0;have z2:=S2.box.cell 2;simp only [List.getElem?_cons_zero,List.getElem?_cons_succ]at z0 z2;rw [hW2]at k1 k2 z0 z2;have HW2:=Lib.hid hW2;clear y0 HR hW2
 go_wp2_with fail
 obtain⟨n0,n1,n2,n3, -⟩:=blk4' BN3;have HB3:=Lib.hid ((hb2.mono hbs).trans hb23);have HK3:=Lib.hid ((KeepB.of_below hb2).trans kk3);have HS3:=Lib.hid S3;have HR3:=Lib.hid HA3;have HP3:=Lib.hid hpre;have HBN3:=Lib.hid BN3;clear k1 k2 z0 z2 hb1 hb12 hb2 S2 kk3 hb23 BN BN3 HA3 hpre o1 o2 o3 S3
 go_region_law(refine step_app_cut rfl (.tmp 42) (.tmp 44) 26 rfl Tryz.bytesTy A ahead.length (ahead.map bv) (by simp [Act.eval]) (by exact HR3.out.1) (fun a e=>by obtain⟨g,_,_,e',_⟩:=HR3.out.2.1 a e;exact⟨g,e'⟩) (fun e=>by rw [HR3.out.2.2 e];rfl) A1 nd.pre.length c1 (nd.pre.map bv) (by simp [Act.eval]) (by exact HP3.out) (oneCell_bv _) (by omega) (by decide) ?_;intro A4 c4 w4 hc4 hr4 hb4 hcut4)
 have hb34:Below W3.heap.size W3 w4:=((Dr.drew W3).below _).trans hb4;have HR4:Hid (Row8 w4 A4 (ahead++nd.pre)):=Lib.hid (HR3.out.cut hr4 hb34 hcut4);have S4:=HS3.out.below hb34;have BN4:=HBN3.out.below hb34 HBN3.out.lt;have HN4:=Lib.hid (HN3.out.below hb34);have HK4:=Lib.hid (HK3.out.trans (KeepB.of_below hb34));have HB4:=Lib.hid (HB3.out.trans (hb34.mono (Nat.le_trans hbs (by have:=HB3.out.size;exact this))));have k5:(Instr.lookup 57 (.map (some mb)) (.int .i64 off) false).run Tryz.prog w4= .ok (.int .i64 1) w4:=look_yes Tryz.metMap Tryz.underlying3 w4 mb (met.map fun o=>(o,(1:Int))) [] off 1 (by have:=S4.map;simpa using this) HNo.out;have z0:=S4.box.cell 0;have z1:=S4.box.cell 1;have z2:=S4.box.cell 2;simp only [List.getElem?_cons_zero,List.getElem?_cons_succ]at z0 z1 z2;obtain⟨n0,n1,n2,n3, -⟩:=blk4' BN4;have HS4:=Lib.hid S4;have HBN4:=Lib.hid BN4;clear hb34 hb4 hcut4 hr4 S4 BN4 HS3 HR3 HP3 HBN3 HN3 HK3 HB3 HA HNo HS HMt;generalize hn4:ahead.length+nd.pre.length=n4 at*;have HN4n:=Lib.hid hn4;clear hn4;obtain⟨wl,hwl⟩:∃wl,wl=w4:=⟨_,rfl⟩;rw [←hwl]at HS4 HK4 HB4 HR4 HN4 HBN4 k5 z0 z1 z2 n0 n1 n2 n3⊢;clear hwl;have HSl:=HS4;have HBl:=HB4;have HKl:=HK4;have HRl:=HR4;have HNl:=HN4;have HBNl:=HBN4
 go_wp2_with fail
 go_loopw [84](fun i wr=>∃(k:Nat)(it:List (List UInt8×UInt64))(mt:List Int)(vk:Value),k≤nd.kids.length∧i= .int .i64 (k:Nat)∧SurvAt wr base sb mb x it mt vk∧KeepB wl wr∧Below base wl wr∧((nd.labels.zip nd.kids).drop k).foldlM (fun(st:List (List UInt8×UInt64)×List Int)(lk:UInt8×UInt64)=>visitP s f lk.2 (ahead++nd.pre++[lk.1]) st) (it,mt)=visitP s (f+1) name ahead (items,met))(fun i _=>nd.kids.length- (intOf i).toNat)
 case atStart=>exact⟨0,_,_,_,Nat.zero_le _,rfl,HSl.out,KeepB.refl _,Below.refl _ _,by rw [HP.out];rfl⟩
 case round=>
  obtain⟨k,it,mt,vk,hk,rfl,hsr,hkr,hbr,hfd⟩:=hrel;have HSr:=Lib.hid hsr;have HKr:=Lib.hid hkr;have HBr:=Lib.hid hbr;have HFd:=Lib.hid hfd;clear hsr hkr hbr hfd n0 n1 n2 n3;by_cases hlt:k<nd.kids.length
  ·have hll:k<nd.labels.length:=by rw [HLk.out];exact hlt
   have hzl:k<(nd.labels.zip nd.kids).length:=by rw [List.length_zip];omega
   have hdz:(nd.labels.zip nd.kids).drop k=(nd.labels[k],nd.kids[k])::(nd.labels.zip nd.kids).drop (k+1):=by
    rw [List.drop_eq_getElem_cons hzl,List.getElem_zip]
   have hfd2:=HFd.out;rw [hdz,List.foldlM_cons]at hfd2;obtain⟨_,_,_,_,_,_,eN,p1,p2,p3⟩:=HKr.out.nd HNl.out;simp only [Value.agg.injEq]at eN;simp at eN;obtain⟨⟨rfl,rfl⟩,⟨rfl,rfl⟩,⟨rfl,rfl⟩⟩:=eN;obtain⟨kb,ko,rfl,hkb,hkc⟩:=(rd_own p3).2.2 (by omega);obtain⟨lb,lo,rfl,hlb,hlc⟩:=(rd_own p2).2.2 (by omega);have hkck:=hkc k hlt;rw [List.getElem?_map,List.getElem?_eq_getElem hlt]at hkck;replace hkck:_=some (Value.int .u64 (nd.kids[k].toNat:Int)):=hkck;have hlck:=hlc k hll;rw [List.getElem?_map,List.getElem?_eq_getElem hll]at hlck;replace hlck:_=some (Value.int .u8 (nd.labels[k].toNat:Int)):=hlck;generalize nd.kids[k]=kid at*;generalize nd.labels[k]=lab at*;have HFd2:=Lib.hid hfd2;obtain⟨n0,n1,n2,n3, -⟩:=blk4' (HKr.out.box HBNl.out);have HRr:=Lib.hid (HRl.out.keep HKr.out);have HCell:Hid (∀W,KeepB wr W→W.cell? ⟨w1.heap.size,2,none⟩=some (.slice (some ⟨lb,lo,none⟩) nd.labels.length c2)∧W.cell? ⟨lb,lo+k,none⟩=some (.int .u8 (lab.toNat:Int))):=Lib.hid (fun W hW=>by
    refine⟨(blk4' (hW.box (HKr.out.box HBNl.out))).2.2.1,?_⟩;obtain⟨b',o',e',_,hc'⟩:=(rd_own (hW.own (.inl rfl) p2)).2.2 (by omega);injection e' with e'
    injection e' with e1 e2
    subst e1 e2;rw [hc' k hll,←hlc k hll];exact hlck)
   have HIH:=Lib.hid (fun(W:World)(hW:Below wr.heap.size wr W)(A6:Option Addr)(c6:Nat)(hr6:Row8 W A6 (ahead++nd.pre++[lab]))(hc6:n4+1≤c6)=>ih W kid (ahead++nd.pre++[lab]) A6 c6 it mt vk (HX.out.past ((HBl.out.trans HBr.out).trans (hW.mono (Nat.le_trans hbs (Nat.le_trans HBl.out.size HBr.out.size)))) hF hxb htb) (HSr.out.below hW) hr6 (by have:=HN4n.out;simp;omega) (by simp at hfar⊢;omega) (by simp;omega));rw [show(ahead++nd.pre++[lab]).length=n4+1 by have:=HN4n.out;simp;omega]at HIH;have hx1:(k:Int)<(nd.kids.length:Int):=by omega
   have hx2:decide ((k:Int)<(nd.kids.length:Int))=true:=decide_eq_true hx1;have hx3:(k:Int)<(nd.labels.length:Int):=by omega
   have hx4:decide ((k:Int)<(nd.labels.length:Int))=true:=decide_eq_true hx3;have hwk:IntKind.i64.wrap ((k:Int)+1)=(k:Int)+1:=wrap64 _ (by omega) (by omega);clear hkc hlc p1 p2 p3 hdz hzl hfd2
   go_wp2_with fail
   cases hv:visitP s f kid (ahead++nd.pre++[lab]) (it,mt)with
   | none=>
     have HT:Hid (visitP s (f+1) name ahead (items,met)=none):=Lib.hid (by rw [←HFd2.out];simp only [hv];rfl);rw [hv]at HIH;clear hv
     go_region_held_law(fun w'=>w'.cell? ⟨w1.heap.size,2,none⟩=some (.slice (some ⟨lb,lo,none⟩) nd.labels.length c2)∧w'.cell? ⟨lb,lo+k,none⟩=some (.int .u8 (lab.toNat:Int)))(first| go_keep| exact HCell.out _ ((KeepB.of_below hb6).trans hk7)| exact HCell.out _ (KeepB.of_below hb6))
      (first
      | (refine step_app_cut1 rfl (.tmp 96) (.tmp 102) 26 rfl Tryz.bytesTy wr A4 n4 ((ahead++nd.pre).map bv) (by simp [Act.eval]) (by have:=HRr.out.1;rw [List.length_append,HN4n.out]at this;exact this) (fun a e=>by obtain⟨g,_,_,e',_⟩:=HRr.out.2.1 a e;exact⟨g,e'⟩) (fun e=>by have:=congrArg List.length (HRr.out.2.2 e);rw [List.length_append,HN4n.out]at this;exact this) (.int .u8 (lab.toNat:Int)) rfl rfl rfl rfl wr.heap.size 1 (by simp [Act.eval]) rfl rfl (by have:=HN4n.out;omega) (by decide) ?_;intro A6 c6 w6 hc6 hr6 hb6 hcut6;have hrow6:Row8 w6 A6 (ahead++nd.pre++[lab]):=HRr.out.cut (by rw [List.length_append,HN4n.out];exact hr6) hb6 hcut6)
      | (go_at_call 55;refine(HIH.out w6 hb6 A6 c6 hrow6 hc6).mono ?_;rintro e w7⟨hb7,hk7,hp7⟩;replace hp7:e= .returned (.int .i64 5):=hp7;subst hp7))
     all_goals(have HBf:=Lib.hid ((HBl.out.trans HBr.out).trans ((hb6.mono (Nat.le_trans hbs (Nat.le_trans HBl.out.size HBr.out.size))).trans hb7)))
     all_goals(have HKf:=Lib.hid (((HKl.out.trans HKr.out).trans (KeepB.of_below hb6)).trans hk7))
     all_goals(clear hb6 hb7 hk7 hr6 hcut6 hrow6)
     all_goals(go_wp2_with fail)
     all_goals(go_ret)
     all_goals(refine⟨HBf.out,HKf.out,?_⟩)
     all_goals(rw [HT.out])
     all_goals rfl
   | some im=>
     obtain⟨i2,m2⟩:=im;have HFd3:Hid (((nd.labels.zip nd.kids).drop (k+1)).foldlM (fun(st:List (List UInt8×UInt64)×List Int)(lk:UInt8×UInt64)=>visitP s f lk.2 (ahead++nd.pre++[lk.1]) st) (i2,m2)=visitP s (f+1) name ahead (items,met)):=Lib.hid (by rw [←HFd2.out];simp only [hv];rfl);rw [hv]at HIH;clear hv
     go_region_held_law(fun w'=>w'.cell? ⟨w1.heap.size,2,none⟩=some (.slice (some ⟨lb,lo,none⟩) nd.labels.length c2)∧w'.cell? ⟨lb,lo+k,none⟩=some (.int .u8 (lab.toNat:Int)))(first| go_keep| exact HCell.out _ ((KeepB.of_below hb6).trans hk7)| exact HCell.out _ (KeepB.of_below hb6))
      (first
      | (refine step_app_cut1 rfl (.tmp 96) (.tmp 102) 26 rfl Tryz.bytesTy wr A4 n4 ((ahead++nd.pre).map bv) (by simp [Act.eval]) (by have:=HRr.out.1;rw [List.length_append,HN4n.out]at this;exact this) (fun a e=>by obtain⟨g,_,_,e',_⟩:=HRr.out.2.1 a e;exact⟨g,e'⟩) (fun e=>by have:=congrArg List.length (HRr.out.2.2 e);rw [List.length_append,HN4n.out]at this;exact this) (.int .u8 (lab.toNat:Int)) rfl rfl rfl rfl wr.heap.size 1 (by simp [Act.eval]) rfl rfl (by have:=HN4n.out;omega) (by decide) ?_;intro A6 c6 w6 hc6 hr6 hb6 hcut6;have hrow6:Row8 w6 A6 (ahead++nd.pre++[lab]):=HRr.out.cut (by rw [List.length_append,HN4n.out];exact hr6) hb6 hcut6)
      | (go_at_call 55;refine(HIH.out w6 hb6 A6 c6 hrow6 hc6).mono ?_;rintro e w7⟨hb7,hk7,hp7⟩;obtain⟨he7,v7,hs7⟩:=(hp7:e= .returned (.int .i64 0)∧∃v',SurvAt w7 base sb mb x i2 m2 v');subst he7))
     all_goals(have HBf:=Lib.hid (HBr.out.trans ((hb6.mono (Nat.le_trans hbs (Nat.le_trans HBl.out.size HBr.out.size))).trans hb7)))
     all_goals(have HKf:=Lib.hid ((HKr.out.trans (KeepB.of_below hb6)).trans hk7))
     all_goals(have HSf:=Lib.hid hs7)
     all_goals(clear hb6 hb7 hk7 hr6 hcut6 hrow6 hs7)
     all_goals(go_wp2_with fail)
     all_goals(go_roundw)
     all_goals first
      | (case rel=>exact⟨k+1,i2,m2,v7,by omega,by go_num,HSf.out,HKf.out,HBf.out,HFd3.out⟩)
      | (case measure=>simp [intOf];omega)
  ·have hkn:k=nd.kids.length:=by omega
   have HT:Hid (visitP s (f+1) name ahead (items,met)=some (it,mt)):=Lib.hid (by
    rw [←HFd.out,List.drop_of_length_le (by rw [List.length_zip];omega)];rfl)
   have HBf:=Lib.hid (HBl.out.trans HBr.out);have HKf:=Lib.hid (HKl.out.trans HKr.out);subst hkn;clear ih
   go_wp2_with fail
   go_ret;refine⟨HBf.out,HKf.out,?_⟩;rw [HT.out];exact⟨rfl,vk,HSr.out⟩
end
section
variable{len:Mode}{w w':World}{base sb mb x d p L:Nat}{s:St}{F:Nat→Prop}
set_option maxHeartbeats 16000000 in
set_option maxRecDepth 100000 in
theorem visit_deep1(h:IxL len w x d p L s F)(hF:∀b,F b→b<base){items:List (List UInt8×UInt64)}{met:List Int}{v:Value}(hs:SurvAt w base sb mb x items met v)(f:Nat)(name:UInt64)(ahead:List UInt8)(A:Option Addr)(c:Nat)(hA:Row8 w A ahead)(hac:ahead.length≤c)(_:ahead.length≤33)(nd:Nd)(hr:readP s name=some nd)(hm:offOf name∉met)(hfar:¬32<(ahead++nd.pre).length)(hv:nd.val≠0)(hkk:keyOk (ahead++nd.pre)=true)(hxb:x<base)(htb:0<base∧1<base)(ih:∀(W:World)(kid:UInt64)(ah:List UInt8)(A:Option Addr)(c:Nat)(it:List (List UInt8×UInt64))(mt:List Int)(v:Value),IxL len W x d p L s F→SurvAt W base sb mb x it mt v→Row8 W A ah→ah.length≤c→ah.length≤33→34≤f+ah.length→Calls Tryz.prog 55 #[.pointer (some ⟨sb,0,none⟩),.int .u64 (kid.toNat:Int),.slice A ah.length c] W (VisPost (visitP s f kid ah (it,mt)) base sb mb x W))(h34:34≤f+1+ahead.length):
 Calls Tryz.prog 55 #[.pointer (some ⟨sb,0,none⟩),.int .u64 (name.toNat:Int),.slice A ahead.length c] w (VisPost (visitP s (f+1) name ahead (items,met)) base sb mb x w):=by
 have HP:Hid (visitP s (f+1) name ahead (items,met)=(nd.labels.zip nd.kids).foldlM (fun(st:List (List UInt8×UInt64)×List Int)(lk:UInt8×UInt64)=>visitP s f lk.2 (ahead++nd.pre++[lk.1]) st) (items++[(pairs (ahead++nd.pre),nd.val)],met++[offOf name])):=Lib.hid (by rw [visitP,hr];simp only;rw [if_neg (fun e=>e.elim (fun e=>hm (by simpa using e)) hfar),if_neg (fun e=>by rw [hkk]at e;exact nomatch e.2),if_pos hv]);have hfar2:=hfar;rw [List.length_append]at hfar2;have ht2:¬(32:Int)<(ahead.length:Int)+(nd.pre.length:Int):=by omega
 have ht:decide ((32:Int)<((ahead.length+nd.pre.length:Nat):Int))=false:=decide_eq_false (by omega);have tv:((nd.val.toNat:Int)!=0)=true:=by
  rw [bne_iff_ne];intro e;exact hv (UInt64.toNat_inj.1 (by simp;omega))
 have HLk:Hid (nd.labels.length=nd.kids.length):=Lib.hid (by
  obtain⟨_,_,ok,hntk⟩:=h.L0;exact((rightB_iff _).1 (read_ok ok hntk hr).1).2.2.1)
 have HLn:=Lib.hid hs.len;have HKo:=Lib.hid hkk;clear hv hkk;have HR:=Lib.hid (read_index h name);have HRn:=Lib.hid hr;have HS:=Lib.hid hs;have HX:=Lib.hid h;have hwr:IntKind.i64.wrap (name.toNat:Int)=offOf name:=rfl;have hbl:=(read_lens hr).1;have hbk:=(read_lens hr).2.1;have hbb:=(read_lens hr).2.2;have HOff:=Lib.hid (read_off h hr);have HMt:=Lib.hid hm;have y0:=hs.box.cell 0;simp only [List.getElem?_cons_zero]at y0;have hbs:base≤w.heap.size:=Nat.le_of_lt (Nat.lt_of_le_of_lt hs.bs hs.box.lt);have HNo:Hid (∀q∈met.map (fun o=>(o,(1:Int))),q.1≠offOf name):=Lib.hid (fun q hq=>by
  obtain⟨o,ho,rfl⟩:=List.mem_map.1 hq;exact fun e=>hm (e▸ho))
 have HA:=Lib.hid hA;generalize offOf name=off at*;clear h hs hr hm hA;go_enter Tryz.func55,Tryz.ntmps55
 go_wp2_with fail
 refine HR.out.mono ?_;rintro e w1⟨hb1,hp1⟩;rw [HRn.out]at hp1;obtain⟨vn,rfl,hnd⟩:=hp1;obtain⟨A1,c1,A2,c2,A3,c3,rfl,o1,o2,o3⟩:=hnd;obtain⟨W2,hW2⟩:∃W2,W2=w1.alloc (.cells #[.slice A1 nd.pre.length c1,.int .u64 (nd.val.toNat:Int),.slice A2 nd.labels.length c2,.slice A3 nd.kids.length c3] 72):=⟨_,rfl⟩;have BN:Blk W2 w1.heap.size 72 [.slice A1 nd.pre.length c1,.int .u64 (nd.val.toNat:Int),.slice A2 nd.labels.length c2,.slice A3 nd.kids.length c3]:=hW2▸heap_alloc_new _ _;have hb12:Below w1.heap.size w1 W2:=hW2▸(Below.refl _ _).alloc (Nat.le_refl _) _;have hb2:Below w.heap.size w W2:=hb1.trans (hb12.mono hb1.size);have S2:=HS.out.below hb2;have k1:=look_no Tryz.metMap Tryz.underlying3 Tryz.zeroInt W2 mb _ off S2.map HNo.out;have k2:=upd_no Tryz.metMap Tryz.underlying3 W2 mb _ off 1 S2.map HNo.out;rw [show met.map (fun o=>(o,(1:Int)))++[(off,1)]=(met++[off]).map (fun o=>(o,(1:Int)))by simp]at k2;obtain⟨S3,kk3,hb23⟩:=S2.note HOff.out HMt.out;obtain⟨W3,hW3⟩:∃W3,W3=putMap W2 mb (metE 0 ((met++[off]).map fun o=>(o,1))).toArray ((met++[off]).map fun o=>(o,(1:Int))).length:=⟨_,rfl⟩;rw [←hW3]at k2 S3 kk3 hb23;have BN3:=kk3.box BN;have HA3:=(HA.out.keep (KeepB.of_below hb2)).keep kk3;have HN3:Hid (NdV W3 w.heap.size (.agg #[.slice A1 nd.pre.length c1,.int .u64 (nd.val.toNat:Int),.slice A2 nd.labels.length c2,.slice A3 nd.kids.length c3]) nd):=Lib.hid (kk3.nd ⟨_,_,_,_,_,_,rfl,own_below o1 hb12,own_below o2 hb12,own_below o3 hb12⟩);have hpre:Rd W3 A1 nd.pre.length (nd.pre.map bv):=(rd_own (kk3.own (.inl rfl) (own_below o1 hb12))).2;clear hW3;have z0:=S2.box.cell 0;have z2:=S2.box.cell 2;simp only [List.getElem?_cons_zero,List.getElem?_cons_succ]at z0 z2;rw [hW2]at k1 k2 z0 z2;have HW2:=Lib.hid hW2;clear y0 HR hW2
 go_wp2_with fail
 obtain⟨n0,n1,n2,n3, -⟩:=blk4' BN3;have HB3:=Lib.hid ((hb2.mono hbs).trans hb23);have HK3:=Lib.hid ((KeepB.of_below hb2).trans kk3);have HS3:=Lib.hid S3;have HR3:=Lib.hid HA3;have HP3:=Lib.hid hpre;have HBN3:=Lib.hid BN3;clear k1 k2 z0 z2 hb1 hb12 hb2 S2 kk3 hb23 BN BN3 HA3 hpre o1 o2 o3 S3
 go_region_law(refine step_app_cut rfl (.tmp 42) (.tmp 44) 26 rfl Tryz.bytesTy A ahead.length (ahead.map bv) (by simp [Act.eval]) (by exact HR3.out.1) (fun a e=>by obtain⟨g,_,_,e',_⟩:=HR3.out.2.1 a e;exact⟨g,e'⟩) (fun e=>by rw [HR3.out.2.2 e];rfl) A1 nd.pre.length c1 (nd.pre.map bv) (by simp [Act.eval]) (by exact HP3.out) (oneCell_bv _) (by omega) (by decide) ?_;intro A4 c4 w4 hc4 hr4 hb4 hcut4)
 have hb34:Below W3.heap.size W3 w4:=((Dr.drew W3).below _).trans hb4;have HR4:Hid (Row8 w4 A4 (ahead++nd.pre)):=Lib.hid (HR3.out.cut hr4 hb34 hcut4);have S4:=HS3.out.below hb34;have BN4:=HBN3.out.below hb34 HBN3.out.lt;have HN4:=Lib.hid (HN3.out.below hb34);have HK4:=Lib.hid (HK3.out.trans (KeepB.of_below hb34));have HB4:=Lib.hid (HB3.out.trans (hb34.mono (Nat.le_trans hbs (by have:=HB3.out.size;exact this))));have k5:(Instr.lookup 57 (.map (some mb)) (.int .i64 off) false).run Tryz.prog w4= .ok (.int .i64 1) w4:=look_yes Tryz.metMap Tryz.underlying3 w4 mb (met.map fun o=>(o,(1:Int))) [] off 1 (by have:=S4.map;simpa using this) HNo.out;have z0:=S4.box.cell 0;have z1:=S4.box.cell 1;have z2:=S4.box.cell 2;simp only [List.getElem?_cons_zero,List.getElem?_cons_succ]at z0 z1 z2;obtain⟨n0,n1,n2,n3, -⟩:=blk4' BN4;have HS4:=Lib.hid S4;have HBN4:=Lib.hid BN4;clear hb34 hb4 hcut4 hr4 S4 BN4 HS3 HR3 HP3 HBN3 HN3 HK3 HB3 HA HNo HS HMt;generalize hn4:ahead.length+nd.pre.length=n4 at*;have HN4n:=Lib.hid hn4;clear hn4;have HKy:=Lib.hid (key_yes A4 n4 c4 (ahead++nd.pre) w4 (by have:=HN4n.out;omega) (by have:=HR4.out.1;rw [List.length_append,HN4n.out]at this;exact this) HKo.out);obtain⟨ks,hks⟩:∃ks:ByteArray,ks=⟨(pairs (ahead++nd.pre)).toArray⟩:=⟨_,rfl⟩;rw [←hks]at HKy;have HKs:=Lib.hid hks;clear hks
 go_wp2_with fail
 refine HKy.out.mono ?_;rintro e w5⟨rfl,hb45⟩;have S5:=HS4.out.below hb45;have HBN5:=Lib.hid (HBN4.out.below hb45 HBN4.out.lt);have HR5:=Lib.hid (HR4.out.keep (KeepB.of_below hb45));have HN5:=Lib.hid (HN4.out.below hb45);have HK5:=Lib.hid (HK4.out.trans (KeepB.of_below hb45));have HB5:=Lib.hid (HB4.out.trans (hb45.mono (Nat.le_trans hbs (by have:=HB4.out.size;exact this))));have HS5:=Lib.hid S5;have hbs5:base≤w5.heap.size:=Nat.le_trans hbs HB5.out.size;have hfew:=S5.few;clear z0 z1 z2 n0 n1 n2 n3 k5 HKy hb45;have z0:=S5.box.cell 0;have z1:=S5.box.cell 1;have z2:=S5.box.cell 2;have f1:=S5.box.frozen 1;have hsl:=S5.box.lt;simp only [List.getElem?_cons_zero,List.getElem?_cons_succ]at z0 z1 z2;obtain⟨n0,n1,n2,n3, -⟩:=blk4' HBN5.out;have HVs:Hid (some sb≠v.ownBlock):=Lib.hid (fun e=>S5.vs e.symm);clear S5
 go_wp2_with fail
 go_region_law(refine step_app_one rfl (.tmp 72) (.tmp 77) 40 rfl Tryz.itemTyK w5 base v items.length (items.map itV).flatten [.string ks,.int .u64 (nd.val.toNat:Int)] rfl HS5.out.row rfl rfl rfl rfl w5.heap.size 1 rfl rfl rfl (by decide) (by intro u hu;simp at hu;rcases hu with rfl| rfl<;>rfl) (by omega) (by decide) hbs5 ?_;intro g6 c6 w6 hO6 hB6 hK6 hg6;have zz1:=(World.cell?_of_block (w:=w5) (a:=⟨sb,1,none⟩) (hK6.2 sb hsl HVs.out)).trans z1;have ff1:=(World.frozen?_of_block (w:=w5) (a:=⟨sb,1,none⟩) (hK6.2 sb hsl HVs.out)).trans f1)
 all_goals
  obtain⟨q1,q2,q3⟩:=HS5.out.add (pairs (ahead++nd.pre),nd.val) (by have:=HLn.out;simp;omega) (by have:=hO6;rw [HKs.out]at this;exact this) hB6 hK6 hg6;obtain⟨wl,hwl⟩:∃wl,wl=w6.setCell ⟨sb,1,none⟩ (.slice (some ⟨g6,0,none⟩) (items.length+1) c6):=⟨_,rfl⟩;rw [←hwl]at q1 q2 q3;have HSl:=Lib.hid q1;have HBl:=Lib.hid (HB5.out.trans q3);have HKl:=Lib.hid (HK5.out.trans q2);have HRl:=Lib.hid (HR5.out.keep q2);have HNl:=Lib.hid (q2.nd HN5.out);have HBNl:=Lib.hid (q2.box HBN5.out);have HWl:=Lib.hid hwl;clear n0 n1 n2 n3;obtain⟨n0,n1,n2,n3, -⟩:=blk4' HBNl.out;rw [hwl]at n0 n1 n2 n3;clear q1 q2 q3 hwl
  go_wp2_with fail
  rw [←HWl.out];clear hO6 hB6 hK6 hg6 zz1 ff1 z0 z1 z2 f1
  go_loopw [84](fun i wr=>∃(k:Nat)(it:List (List UInt8×UInt64))(mt:List Int)(vk:Value),k≤nd.kids.length∧i= .int .i64 (k:Nat)∧SurvAt wr base sb mb x it mt vk∧KeepB wl wr∧Below base wl wr∧((nd.labels.zip nd.kids).drop k).foldlM (fun(st:List (List UInt8×UInt64)×List Int)(lk:UInt8×UInt64)=>visitP s f lk.2 (ahead++nd.pre++[lk.1]) st) (it,mt)=visitP s (f+1) name ahead (items,met))(fun i _=>nd.kids.length- (intOf i).toNat)
  case atStart=>exact⟨0,_,_,_,Nat.zero_le _,rfl,HSl.out,KeepB.refl _,Below.refl _ _,by rw [HP.out];rfl⟩
  case round=>
   obtain⟨k,it,mt,vk,hk,rfl,hsr,hkr,hbr,hfd⟩:=hrel;have HSr:=Lib.hid hsr;have HKr:=Lib.hid hkr;have HBr:=Lib.hid hbr;have HFd:=Lib.hid hfd;clear hsr hkr hbr hfd n0 n1 n2 n3;by_cases hlt:k<nd.kids.length
   ·have hll:k<nd.labels.length:=by rw [HLk.out];exact hlt
    have hzl:k<(nd.labels.zip nd.kids).length:=by rw [List.length_zip];omega
    have hdz:(nd.labels.zip nd.kids).drop k=(nd.labels[k],nd.kids[k])::(nd.labels.zip nd.kids).drop (k+1):=by
     rw [List.drop_eq_getElem_cons hzl,List.getElem_zip]
    have hfd2:=HFd.out;rw [hdz,List.foldlM_cons]at hfd2;obtain⟨_,_,_,_,_,_,eN,p1,p2,p3⟩:=HKr.out.nd HNl.out;simp only [Value.agg.injEq]at eN;simp at eN;obtain⟨⟨rfl,rfl⟩,⟨rfl,rfl⟩,⟨rfl,rfl⟩⟩:=eN;obtain⟨kb,ko,rfl,hkb,hkc⟩:=(rd_own p3).2.2 (by omega);obtain⟨lb,lo,rfl,hlb,hlc⟩:=(rd_own p2).2.2 (by omega);have hkck:=hkc k hlt;rw [List.getElem?_map,List.getElem?_eq_getElem hlt]at hkck;replace hkck:_=some (Value.int .u64 (nd.kids[k].toNat:Int)):=hkck;have hlck:=hlc k hll;rw [List.getElem?_map,List.getElem?_eq_getElem hll]at hlck;replace hlck:_=some (Value.int .u8 (nd.labels[k].toNat:Int)):=hlck;generalize nd.kids[k]=kid at*;generalize nd.labels[k]=lab at*;have HFd2:=Lib.hid hfd2;obtain⟨n0,n1,n2,n3, -⟩:=blk4' (HKr.out.box HBNl.out);have HRr:=Lib.hid (HRl.out.keep HKr.out);have HCell:Hid (∀W,KeepB wr W→W.cell? ⟨w1.heap.size,2,none⟩=some (.slice (some ⟨lb,lo,none⟩) nd.labels.length c2)∧W.cell? ⟨lb,lo+k,none⟩=some (.int .u8 (lab.toNat:Int))):=Lib.hid (fun W hW=>by
     refine⟨(blk4' (hW.box (HKr.out.box HBNl.out))).2.2.1,?_⟩;obtain⟨b',o',e',_,hc'⟩:=(rd_own (hW.own (.inl rfl) p2)).2.2 (by omega);injection e' with e'
     injection e' with e1 e2
     subst e1 e2;rw [hc' k hll,←hlc k hll];exact hlck)
    have HIH:=Lib.hid (fun(W:World)(hW:Below wr.heap.size wr W)(A6:Option Addr)(c6:Nat)(hr6:Row8 W A6 (ahead++nd.pre++[lab]))(hc6:n4+1≤c6)=>ih W kid (ahead++nd.pre++[lab]) A6 c6 it mt vk (HX.out.past ((HBl.out.trans HBr.out).trans (hW.mono (Nat.le_trans hbs (Nat.le_trans HBl.out.size HBr.out.size)))) hF hxb htb) (HSr.out.below hW) hr6 (by have:=HN4n.out;simp;omega) (by simp at hfar⊢;omega) (by simp;omega));rw [show(ahead++nd.pre++[lab]).length=n4+1 by have:=HN4n.out;simp;omega]at HIH;have hx1:(k:Int)<(nd.kids.length:Int):=by omega
    have hx2:decide ((k:Int)<(nd.kids.length:Int))=true:=decide_eq_true hx1;have hx3:(k:Int)<(nd.labels.length:Int):=by omega
    have hx4:decide ((k:Int)<(nd.labels.length:Int))=true:=decide_eq_true hx3;have hwk:IntKind.i64.wrap ((k:Int)+1)=(k:Int)+1:=wrap64 _ (by omega) (by omega);clear hkc hlc p1 p2 p3 hdz hzl hfd2
    go_wp2_with fail
    cases hv:visitP s f kid (ahead++nd.pre++[lab]) (it,mt)with
    | none=>
      have HT:Hid (visitP s (f+1) name ahead (items,met)=none):=Lib.hid (by rw [←HFd2.out];simp only [hv];rfl);rw [hv]at HIH;clear hv
      go_region_held_law(fun w'=>w'.cell? ⟨w1.heap.size,2,none⟩=some (.slice (some ⟨lb,lo,none⟩) nd.labels.length c2)∧w'.cell? ⟨lb,lo+k,none⟩=some (.int .u8 (lab.toNat:Int)))(first| go_keep| exact HCell.out _ ((KeepB.of_below hb6).trans hk7)| exact HCell.out _ (KeepB.of_below hb6))
       (first
       | (refine step_app_cut1 rfl (.tmp 96) (.tmp 102) 26 rfl Tryz.bytesTy wr A4 n4 ((ahead++nd.pre).map bv) (by simp [Act.eval]) (by have:=HRr.out.1;rw [List.length_append,HN4n.out]at this;exact this) (fun a e=>by obtain⟨g,_,_,e',_⟩:=HRr.out.2.1 a e;exact⟨g,e'⟩) (fun e=>by have:=congrArg List.length (HRr.out.2.2 e);rw [List.length_append,HN4n.out]at this;exact this) (.int .u8 (lab.toNat:Int)) rfl rfl rfl rfl wr.heap.size 1 (by simp [Act.eval]) rfl rfl (by have:=HN4n.out;omega) (by decide) ?_;intro A6 c6 w6 hc6 hr6 hb6 hcut6;have hrow6:Row8 w6 A6 (ahead++nd.pre++[lab]):=HRr.out.cut (by rw [List.length_append,HN4n.out];exact hr6) hb6 hcut6)
       | (go_at_call 55;refine(HIH.out w6 hb6 A6 c6 hrow6 hc6).mono ?_;rintro e w7⟨hb7,hk7,hp7⟩;replace hp7:e= .returned (.int .i64 5):=hp7;subst hp7))
      all_goals(have HBf:=Lib.hid ((HBl.out.trans HBr.out).trans ((hb6.mono (Nat.le_trans hbs (Nat.le_trans HBl.out.size HBr.out.size))).trans hb7)))
      all_goals(have HKf:=Lib.hid (((HKl.out.trans HKr.out).trans (KeepB.of_below hb6)).trans hk7))
      all_goals(clear hb6 hb7 hk7 hr6 hcut6 hrow6)
      all_goals(go_wp2_with fail)
      all_goals(go_ret)
      all_goals(refine⟨HBf.out,HKf.out,?_⟩)
      all_goals(rw [HT.out])
      all_goals rfl
    | some im=>
      obtain⟨i2,m2⟩:=im;have HFd3:Hid (((nd.labels.zip nd.kids).drop (k+1)).foldlM (fun(st:List (List UInt8×UInt64)×List Int)(lk:UInt8×UInt64)=>visitP s f lk.2 (ahead++nd.pre++[lk.1]) st) (i2,m2)=visitP s (f+1) name ahead (items,met)):=Lib.hid (by rw [←HFd2.out];simp only [hv];rfl);rw [hv]at HIH;clear hv
      go_region_held_law(fun w'=>w'.cell? ⟨w1.heap.size,2,none⟩=some (.slice (some ⟨lb,lo,none⟩) nd.labels.length c2)∧w'.cell? ⟨lb,lo+k,none⟩=some (.int .u8 (lab.toNat:Int)))(first| go_keep| exact HCell.out _ ((KeepB.of_below hb6).trans hk7)| exact HCell.out _ (KeepB.of_below hb6))
       (first
       | (refine step_app_cut1 rfl (.tmp 96) (.tmp 102) 26 rfl Tryz.bytesTy wr A4 n4 ((ahead++nd.pre).map bv) (by simp [Act.eval]) (by have:=HRr.out.1;rw [List.length_append,HN4n.out]at this;exact this) (fun a e=>by obtain⟨g,_,_,e',_⟩:=HRr.out.2.1 a e;exact⟨g,e'⟩) (fun e=>by have:=congrArg List.length (HRr.out.2.2 e);rw [List.length_append,HN4n.out]at this;exact this) (.int .u8 (lab.toNat:Int)) rfl rfl rfl rfl wr.heap.size 1 (by simp [Act.eval]) rfl rfl (by have:=HN4n.out;omega) (by decide) ?_;intro A6 c6 w6 hc6 hr6 hb6 hcut6;have hrow6:Row8 w6 A6 (ahead++nd.pre++[lab]):=HRr.out.cut (by rw [List.length_append,HN4n.out];exact hr6) hb6 hcut6)
       | (go_at_call 55;refine(HIH.out w6 hb6 A6 c6 hrow6 hc6).mono ?_;rintro e w7⟨hb7,hk7,hp7⟩;obtain⟨he7,v7,hs7⟩:=(hp7:e= .returned (.int .i64 0)∧∃v',SurvAt w7 base sb mb x i2 m2 v');subst he7))
      all_goals(have HBf:=Lib.hid (HBr.out.trans ((hb6.mono (Nat.le_trans hbs (Nat.le_trans HBl.out.size HBr.out.size))).trans hb7)))
      all_goals(have HKf:=Lib.hid ((HKr.out.trans (KeepB.of_below hb6)).trans hk7))
      all_goals(have HSf:=Lib.hid hs7)
      all_goals(clear hb6 hb7 hk7 hr6 hcut6 hrow6 hs7)
      all_goals(go_wp2_with fail)
      all_goals(go_roundw)
      all_goals first
       | (case rel=>exact⟨k+1,i2,m2,v7,by omega,by go_num,HSf.out,HKf.out,HBf.out,HFd3.out⟩)
       | (case measure=>simp [intOf];omega)
   ·have hkn:k=nd.kids.length:=by omega
    have HT:Hid (visitP s (f+1) name ahead (items,met)=some (it,mt)):=Lib.hid (by
     rw [←HFd.out,List.drop_of_length_le (by rw [List.length_zip];omega)];rfl)
    have HBf:=Lib.hid (HBl.out.trans HBr.out);have HKf:=Lib.hid (HKl.out.trans HKr.out);subst hkn;clear ih
    go_wp2_with fail
    go_ret;refine⟨HBf.out,HKf.out,?_⟩;rw [HT.out];exact⟨rfl,vk,HSr.out⟩
end
theorem visit_all{len:Mode}{base sb mb x d p L:Nat}{s:St}{F:Nat→Prop}(hF:∀b,F b→b<base)(hxb:x<base)(htb:0<base∧1<base):∀(f:Nat)(w:World)(name:UInt64)(ahead:List UInt8)(A:Option Addr)(c:Nat)(items:List (List UInt8×UInt64))(met:List Int)(v:Value),IxL len w x d p L s F→SurvAt w base sb mb x items met v→Row8 w A ahead→ahead.length≤c→ahead.length≤33→34≤f+ahead.length→
 Calls Tryz.prog 55 #[.pointer (some ⟨sb,0,none⟩),.int .u64 (name.toNat:Int),.slice A ahead.length c] w (VisPost (visitP s f name ahead (items,met)) base sb mb x w)
 | 0,w,name,ahead,A,c,items,met,v,h,hs,hA,hac,hal,h34=>absurd h34 (by omega)
 | f+1,w,name,ahead,A,c,items,met,v,h,hs,hA,hac,hal,h34=>by
   cases hr:readP s name with
   | none=>exact visit_none h hF hs f name ahead A c hr
   | some nd=>
     by_cases hm:offOf name∈met
     ·exact visit_met h hF hs f name ahead A c hA hac hal nd hr hm
     ·by_cases hfar:32<(ahead++nd.pre).length
      ·exact visit_far h hF hs f name ahead A c hA hac hal nd hr hm hfar
      ·have ih:=fun(W:World)(kid:UInt64)(ah:List UInt8)(A:Option Addr)(c:Nat)(it:List (List UInt8×UInt64))(mt:List Int)(v:Value)(h1:IxL len W x d p L s F)(h2:SurvAt W base sb mb x it mt v)h3 h4 h5 h6=>visit_all hF hxb htb f W kid ah A c it mt v h1 h2 h3 h4 h5 h6
       by_cases hv:nd.val=0
       ·exact visit_deep0 h hF hs f name ahead A c hA hac hal nd hr hm hfar hv hxb htb ih h34
       ·cases hk:keyOk (ahead++nd.pre)with
        | false=>exact visit_key h hF hs f name ahead A c hA hac hal nd hr hm hfar hv hk
        | true=>exact visit_deep1 h hF hs f name ahead A c hA hac hal nd hr hm hfar hv hk hxb htb ih h34
def ItemsAt(w:World)(base:Nat)(v:Value)(items:List (List UInt8×UInt64)):Prop:=w.ownsRow base 61 2 v items.length (items.map itV).flatten
def SurvPost(s:St)(w:World)(x:Nat)(e:Ending)(w':World):Prop:=
 Below w.heap.size w w'∧match surveyP s with
  | none=>e= .returned (.tuple #[.pointer none,.int .i64 5])
  | some (items,met)=>∃sb mb v,e= .returned (.tuple #[.pointer (some ⟨sb,0,none⟩),.int .i64 0])∧SurvAt w' w.heap.size sb mb x items met v
section
variable{len:Mode}{w w':World}{x d p L:Nat}{s:St}{F:Nat→Prop}
set_option maxHeartbeats 8000000 in
set_option maxRecDepth 100000 in
theorem survey_index(h:IxL len w x d p L s F):Calls Tryz.prog 30 #[.pointer (some ⟨x,0,none⟩)] w (SurvPost s w x):=by
 have HA:=Lib.hid (ask_index h ⟨#[]⟩ (by decide));rw [if_neg (by decide)]at HA;have hxl:=h.box.lt;have hFl:=h.sys.lt;have htl:=h.sys.tabs.lt;have HX:=Lib.hid h;have mm:=fun W=>run_makeMap (P:=Tryz.prog) 57 W
 obtain⟨w2,hw2⟩:∃w2,w2=(w.alloc (.map #[] 0)).alloc (.cells #[.pointer (some ⟨x,0,none⟩),.slice none 0 0,.map (some w.heap.size)] 89):=⟨_,rfl⟩;have hb2:Below w.heap.size w w2:=by
  have h1:Below w.heap.size w (w.alloc (.map #[] 0)):=(Below.refl _ _).alloc (Nat.le_refl _) _;rw [hw2];exact h1.alloc h1.size _
 have hS:SurvAt w2 w.heap.size (w.heap.size+1) w.heap.size x [] [] (.slice none 0 0):=by
  refine⟨hw2▸blk_two w _ _ _,World.ownsRow_nil _ _ _ _,?_,by omega,Nat.le_refl _,(fun e=>nomatch e),List.nodup_nil,(fun o ho=>nomatch ho),Nat.le_refl _⟩;rw [hw2];exact(heap_alloc_old _ _ (by simp)).trans (heap_alloc_new _ _)
 have HS:=Lib.hid hS;have HB2:=Lib.hid hb2;have HRt:=Lib.hid (root_index (h.below hb2));have HW2:=Lib.hid hw2;by_cases h0:s.ws 9=0
 ·have HP:Hid (surveyP s=some ([],[])):=Lib.hid (by unfold surveyP;rw [if_pos h0]);have t0:(((s.ws 9).toNat:Int)!=0)=false:=by rw [h0];rfl
  clear h hS hb2 hw2 h0;go_enter Tryz.func30,Tryz.ntmps30
  go_wp2_with fail
  refine HA.out.mono ?_;rintro e w1⟨rfl,rfl⟩;clear HA
  go_wp2_with fail
  rw [←HW2.out];refine HRt.out.mono ?_;rintro e w3⟨rfl,hb3⟩;have HB3:=Lib.hid (HB2.out.trans (hb3.mono HB2.out.size));have HS3:=Lib.hid (HS.out.below hb3);clear hb3 HRt
  go_wp2_with fail
  go_ret2;refine⟨HB3.out,?_⟩;rw [HP.out];exact⟨_,_,_,rfl,HS3.out⟩
 ·have HP:Hid (surveyP s=visitP s 34 (s.ws 9) [] ([],[])):=Lib.hid (by unfold surveyP;rw [if_neg h0]);have t0:(((s.ws 9).toNat:Int)!=0)=true:=by
   rw [bne_iff_ne];intro e;exact h0 (UInt64.toNat_inj.1 (by simp;omega))
  clear h hS hb2 hw2 h0;go_enter Tryz.func30,Tryz.ntmps30
  go_wp2_with fail
  refine HA.out.mono ?_;rintro e w1⟨rfl,rfl⟩;clear HA
  go_wp2_with fail
  rw [←HW2.out];refine HRt.out.mono ?_;rintro e w3⟨rfl,hb3⟩;have HB3:=Lib.hid (HB2.out.trans (hb3.mono HB2.out.size));have HV:=Lib.hid (visit_all hFl hxl htl 34 w3 (s.ws 9) [] none 0 [] [] _ (HX.out.below HB3.out) (HS.out.below hb3) (Row8.nil _) (Nat.le_refl _) (by decide) (by decide));clear hb3 HRt;simp only [List.length_nil]at HV;cases hv:visitP s 34 (s.ws 9) [] ([],[])with
  | none=>
    have HP':Hid (surveyP s=none):=Lib.hid (by rw [HP.out,hv]);rw [hv]at HV;clear hv HP
    go_wp2_with fail
    refine HV.out.mono ?_;rintro e w4⟨hb4,hk4,hp4⟩;replace hp4:e= .returned (.int .i64 5):=hp4;subst hp4;have HB4:=Lib.hid (HB3.out.trans hb4);clear hb4 hk4 HV
    go_wp2_with fail
    go_ret2;refine⟨HB4.out,?_⟩;rw [HP'.out];rfl
  | some im=>
    obtain⟨i2,m2⟩:=im;have HP':Hid (surveyP s=some (i2,m2)):=Lib.hid (by rw [HP.out,hv]);rw [hv]at HV;clear hv HP
    go_wp2_with fail
    refine HV.out.mono ?_;rintro e w4⟨hb4,hk4,hp4⟩;obtain⟨he4,v4,hs4⟩:=(hp4:e= .returned (.int .i64 0)∧∃v',SurvAt w4 w.heap.size (w.heap.size+1) w.heap.size x i2 m2 v');subst he4;have HB4:=Lib.hid (HB3.out.trans hb4);have HS4:=Lib.hid hs4;clear hb4 hk4 HV hs4
    go_wp2_with fail
    go_ret2;refine⟨HB4.out,?_⟩;rw [HP'.out];exact⟨_,_,_,rfl,HS4.out⟩
def AllPost(s:St)(w:World)(e:Ending)(w':World):Prop:=
 Below w.heap.size w w'∧match surveyP s with
  | none=>e= .returned (.tuple #[.slice none 0 0,.int .i64 5])
  | some (items,_)=>∃v,e= .returned (.tuple #[v,.int .i64 0])∧ItemsAt w' w.heap.size v items∧items.length≤65537
set_option maxHeartbeats 4000000 in
theorem all_index(h:IxL len w x d p L s F):Calls Tryz.prog 9 #[.pointer (some ⟨x,0,none⟩)] w (AllPost s w):=by
 have HS:=Lib.hid (survey_index h);cases hv:surveyP s with
 | none=>
   have HV:=Lib.hid hv;clear h hv;go_enter Tryz.func9,Tryz.ntmps9
   go_wp2_with fail
   refine HS.out.mono ?_;rintro e w1⟨hb1,hp1⟩;rw [HV.out]at hp1;replace hp1:e= .returned (.tuple #[.pointer none,.int .i64 5]):=hp1;subst hp1;have HB:=Lib.hid hb1;clear hb1 HS
   go_wp2_with fail
   go_ret2;refine⟨HB.out,?_⟩;rw [HV.out];rfl
 | some im=>
   obtain⟨i2,m2⟩:=im;have HV:=Lib.hid hv;clear h hv;go_enter Tryz.func9,Tryz.ntmps9
   go_wp2_with fail
   refine HS.out.mono ?_;rintro e w1⟨hb1,hp1⟩;rw [HV.out]at hp1;obtain⟨sb,mb,v,rfl,hs1⟩:=hp1;have z1:=hs1.box.cell 1;simp only [List.getElem?_cons_succ,List.getElem?_cons_zero]at z1;have HB:=Lib.hid hb1;have HI:=Lib.hid hs1.row;have HFw:=Lib.hid hs1.few;clear hb1 HS hs1
   go_wp2_with fail
   go_ret2;refine⟨HB.out,?_⟩;rw [HV.out];exact⟨v,rfl,HI.out,HFw.out⟩
end
def itC(i:It):List Value:=[.string i.k,.int .u64 (i.v.toNat:Int)]
def itCs(l:List It):List Value:=(l.map itC).flatten
theorem itCs_len:∀(l:List It),(itCs l).length=2*l.length
 | []=>rfl
 | a::t=>by
   have:=itCs_len t;simp only [itCs,List.map_cons,List.flatten_cons,List.length_append,List.length_cons]at this⊢;rw [this];simp [itC];omega
theorem itCs_app(l:List It)(a:It):itCs (l++[a])=itCs l++itC a:=by simp [itCs]
theorem itCs_get:∀(l:List It)(k:Nat)(h:k<l.length),(itCs l)[2*k]? =some (.string l[k].k)∧(itCs l)[2*k+1]? =some (.int .u64 (l[k].v.toNat:Int))
 | a::t,0,_=>by simp [itCs,itC]
 | a::t,k+1,h=>by
   obtain⟨h1,h2⟩:=itCs_get t k (by simpa using h);have e:itCs (a::t)=itC a++itCs t:=rfl;rw [e];constructor
   ·rw [List.getElem?_append_right (by simp [itC];omega)];simpa [itC,show 2*(k+1) -2=2*k by omega]using h1
   ·rw [List.getElem?_append_right (by simp [itC];omega)];simpa [itC,show 2*(k+1)+1-2=2*k+1 by omega]using h2
def ItR(w:World)(A:Option Addr)(l:List It):Prop:=Rd w A (2*l.length) (itCs l)
theorem ItR.below{w w':World}{A:Option Addr}{l:List It}(h:ItR w A l)(k:Below w.heap.size w w'):ItR w' A l:=Rd.below h k
theorem ItR.at{w:World}{A:Option Addr}{l:List It}(h:ItR w A l)(k:Nat)(hk:k<l.length):∃b off,A=some ⟨b,off,none⟩∧b<w.heap.size∧w.cell? ⟨b,off+k*2,none⟩=some (.string l[k].k)∧w.cell? ⟨b,off+k*2+1,none⟩=some (.int .u64 (l[k].v.toNat:Int)):=by
 obtain⟨b,off,e,hb,hc⟩:=h.2 (by omega);obtain⟨h1,h2⟩:=itCs_get l k hk;refine⟨b,off,e,hb,?_,?_⟩
 ·rw [Nat.mul_comm,hc (2*k) (by omega),h1]
 ·rw [Nat.mul_comm,Nat.add_assoc,hc (2*k+1) (by omega),h2]
def toIt(p:List UInt8×UInt64):It:=⟨⟨p.1.toArray⟩,p.2⟩
theorem itV_is(l:List (List UInt8×UInt64)):(l.map itV).flatten=itCs (l.map toIt):=by
 unfold itCs;rw [List.map_map];rfl
theorem own_rdk{w:World}{base k n:Nat}{e:TypeId}{v:Value}{xs:List Value}(h:w.ownsRow base e k v n xs):∃A c,v= .slice A n c∧n≤c∧Rd w A (n*k) xs:=by
 rcases h.2 with⟨h1,h2⟩| ⟨g,cap,cur,h1,h2,h3,h4,h5,h6,h7⟩
 ·subst h2;exact⟨none,0,h1,Nat.le_refl _,h.1,fun hn=>by omega⟩
 ·refine⟨_,_,h1,h4,h.1,fun hn=>⟨g,0,rfl,(Array.getElem?_eq_some_iff.1 h3).1,fun j hj=> ?_⟩⟩;rw [cell_of_row w g _ cur _ (0,0) h3,←h7,List.getElem?_take,if_pos (by omega)];simp
theorem own_itr{w:World}{base:Nat}{v:Value}{l:List It}(h:w.ownsRow base 61 2 v l.length (itCs l)):∃A c,v= .slice A l.length c∧l.length≤c∧ItR w A l:=by
 obtain⟨A,c,e,hc,hr⟩:=own_rdk h;exact⟨A,c,e,hc,by unfold ItR;rw [Nat.mul_comm];exact hr⟩
section
variable{w w':World}{x d p L:Nat}{s:St}{F:Nat→Prop}
def allK(s:St):Option (List It):=(surveyP s).map fun r=>r.1.map toIt
theorem ItR.take{w:World}{A:Option Addr}{l:List It}(h:ItR w A l)(k:Nat):ItR w A (l.take k):=by
 refine⟨by rw [itCs_len],fun hn=> ?_⟩;have hk:(l.take k).length≤l.length:=by simp;omega
 obtain⟨b,off,e,hb,hc⟩:=h.2 (by omega);refine⟨b,off,e,hb,fun j hj=> ?_⟩;rw [hc j (by omega)];have e2:itCs l=itCs (l.take k)++itCs (l.drop k):=by
  unfold itCs;rw [←List.flatten_append,←List.map_append,List.take_append_drop]
 rw [e2,List.getElem?_append_left (by rw [itCs_len];exact hj)]
end
section
variable{w w':World}{x d p L:Nat}{s:St}{F:Nat→Prop}
end
section
variable{w w':World}{x d p L:Nat}{s:St}{F:Nat→Prop}
end
theorem Tryz.refItemTyK:RowTyK Tryz.prog 44 96 (.agg #[.string ⟨#[]⟩,.int .u64 0]) 2 24:=⟨Tryz.underlying44,by kernel_rfl,rfl⟩
theorem Tryz.eqRef(a b:ByteArray)(x y:Int)(w:World):(Op.equalIn 10000 96 (.agg #[.string a,.int .u64 x]) (.agg #[.string b,.int .u64 y])).run Tryz.prog w= .ok (a.toList==b.toList&&x==y) w:=by
 have hS:Tryz.prog.underlying 96=some (.struct (Tryz.prog.fieldsOf 96)):=by kernel_rfl
 rw [show(10000:Nat)=9999+1 from rfl]
 first
  | rw [run_equalIn_agg w 9999 96 _ _ hS (by kernel_rfl)]
  | rw [run_equalIn_agg w 9999 96 _ _ hS (fun w=>by kernel_rfl)]
 have u9:=Tryz.underlying9;have u31:=Tryz.underlying23;simp only [Program.fieldsOf,Tryz.underlying96];go_simp;by_cases h1:a.toList=b.toList<;>by_cases h2:x=y<;>simp [h1,h2]
def sameI(a b:It):Bool:=(a.k.toList==b.k.toList)&&(a.v.toNat==b.v.toNat)
def sameK(a b:List It)(k:Nat):Prop:=∀j(h1:j<a.length)(h2:j<b.length),j<k→sameI a[j] b[j]=true
set_option maxHeartbeats 4000000 in
set_option maxRecDepth 100000 in
theorem same_any(a b:List It)(A B:Option Addr)(c d:Nat)(w:World)(hla:a.length≤100000)(ha:ItR w A a)(hb:ItR w B b):Calls Tryz.prog 17 #[.slice A a.length c,.slice B b.length d] w fun e w'=>((e= .returned (.bool true)∧a.length=b.length∧sameK a b a.length)∨(e= .returned (.bool false)∧¬(a.length=b.length∧sameK a b a.length)))∧Dr w w':=by
 have HA:=Lib.hid ha;have HB:=Lib.hid hb;clear ha hb;by_cases hn:a.length=b.length
 ·have t1:((a.length:Int)!=(b.length:Int))=false:=by simp [hn]
  obtain⟨n,hnn⟩:∃n,n=b.length:=⟨_,rfl⟩;have HN:=Lib.hid hnn;have HL:=Lib.hid hn;rw [hn,←hnn];have t2:((n:Int)!=(n:Int))=false:=by simp
  clear hnn t1;go_enter Tryz.func17,Tryz.ntmps17
  go_wp2_with fail
  go_loopw [5](fun i wr=>∃k:Nat,k≤n∧i= .int .i64 (k:Nat)∧sameK a b k∧Dr w wr)(fun i _=>n- (intOf i).toNat)
  case atStart=>exact⟨0,Nat.zero_le _,rfl,fun j _ _ h=>absurd h (by omega),Dr.refl _⟩
  case round=>
   obtain⟨k,hk,rfl,hsm,hdr⟩:=hrel;have HD:=Lib.hid hdr;have HS:=Lib.hid hsm;clear hdr hsm;by_cases hlt:k<n
   ·have hla':k<a.length:=by have:=HN.out;omega
    have hlb':k<b.length:=by have:=HN.out;omega
    obtain⟨ba,oa,rfl,_,q1,q2⟩:=(HA.out.below (HD.out.below _)).at k hla';obtain⟨bb,ob,rfl,_,r1,r2⟩:=(HB.out.below (HD.out.below _)).at k hlb';have hx1:(k:Int)<(n:Int):=by omega
    have hx2:decide ((k:Int)<(n:Int))=true:=decide_eq_true hx1;have hx5:decide (k<n)=true:=decide_eq_true hlt;have hwk:IntKind.i64.wrap ((k:Int)+1)=(k:Int)+1:=wrap64 _ (by omega) (by have:=HN.out;omega);have hm:Tryz.prog.eqGuardType Tryz.prog.depth 96=false:=by kernel_rfl
    have hq:=fun W=>Tryz.eqRef a[k].k b[k].k (a[k].v.toNat:Int) (b[k].v.toNat:Int) W
    have hv:(((a[k].v.toNat:Int))==(b[k].v.toNat:Int))=(a[k].v.toNat==b[k].v.toNat):=by
     rw [Bool.eq_iff_iff,beq_iff_eq,beq_iff_eq];omega
    have HY:Hid (sameI a[k] b[k]=true→sameK a b (k+1)):=Lib.hid (fun h j h1 h2 hj=>by
     by_cases e:j=k
     ·subst e;exact h
     ·exact HS.out j h1 h2 (by omega))
    have HZ:Hid (sameI a[k] b[k]=false→¬(a.length=b.length∧sameK a b a.length)):=Lib.hid (fun h hh=>by
     have:=hh.2 k hla' hlb' hla';rw [h]at this;cases this)
    rw [hv]at hq;unfold sameI at HY HZ;generalize(a[k].k.toList==b[k].k.toList)=ek at*;generalize(a[k].v.toNat==b[k].v.toNat)=ev at*;cases ek<;>cases ev
    case true.true=>
     have HT:=Lib.hid (HY.out rfl);clear HY HZ
     go_wp2_with fail
     go_quiet(fail)
     go_wp2_with fail
     go_roundw
     case rel=>exact⟨k+1,by omega,by go_num,HT.out,by first| exact HD.out.trans (Dr.one _ _)| exact HD.out⟩
     case measure=>simp [intOf];omega
    all_goals(have HT:=Lib.hid (HZ.out rfl))
    all_goals(clear HY HZ)
    all_goals(go_wp2_with fail)
    all_goals(go_quiet(fail))
    all_goals(go_wp2_with fail)
    all_goals(go_ret)
    all_goals(exact⟨.inr ⟨rfl,fun h=>HT.out ⟨HL.out,by rw [HL.out,←HN.out];exact h.2⟩⟩,by first| exact HD.out.trans (Dr.one _ _)| exact HD.out⟩)
   ·have hx1:decide ((k:Int)<(n:Int))=false:=decide_eq_false (by omega);have hx5:decide (k<n)=false:=decide_eq_false hlt;have HT:Hid (sameK a b a.length):=Lib.hid (fun j h1 h2 hj=>HS.out j h1 h2 (by have:=HN.out;have:=HL.out;omega))
    go_wp2_with fail
    go_ret;exact⟨.inl ⟨rfl,trivial,by have h:=HT.out;rw [HL.out,←HN.out]at h;exact h⟩,HD.out⟩
 ·have t1:((a.length:Int)!=(b.length:Int))=true:=by simp;omega
  have HT:Hid (¬(a.length=b.length∧sameK a b a.length)):=Lib.hid (fun h=>hn h.1);go_enter Tryz.func17,Tryz.ntmps17
  go_wp2_with fail
  go_ret;exact⟨.inr ⟨rfl,HT.out⟩,Dr.refl _⟩
set_option maxHeartbeats 4000000 in
set_option maxRecDepth 100000 in
theorem find_any(l:List It)(A:Option Addr)(c:Nat)(key:ByteArray)(w:World)(hl:l.length≤100000)(h:ItR w A l):Calls Tryz.prog 32 #[.slice A l.length c,.string key] w fun e w'=>e= .returned (.tuple #[.int .i64 (findR l key:Nat),.bool (isR l key)])∧Dr w w':=by
 have HR:=Lib.hid h;clear h;go_enter Tryz.func32,Tryz.ntmps32
 go_wp2_with fail
 go_loopw [6](fun i wr=>∃k:Nat,k≤l.length∧i= .int .i64 (k:Nat)∧(∀j(h:j<l.length),j<k→Op.bytesLess l[j].k.toList key.toList=true)∧Dr w wr)(fun i _=>l.length- (intOf i).toNat)
 case atStart=>exact⟨0,Nat.zero_le _,rfl,fun j _ h=>absurd h (by omega),Dr.refl _⟩
 case round=>
  obtain⟨k,hk,rfl,hls,hdr⟩:=hrel;have HD:=Lib.hid hdr;have HL:=Lib.hid hls;clear hdr hls;by_cases hlt:k<l.length
  ·obtain⟨b,off,rfl,_,q1,q2⟩:=(HR.out.below (HD.out.below _)).at k hlt;have hx1:(k:Int)<(l.length:Int):=by omega
   have hx2:decide ((k:Int)<(l.length:Int))=true:=decide_eq_true hx1;have hx5:decide (k<l.length)=true:=decide_eq_true hlt;have hwk:IntKind.i64.wrap ((k:Int)+1)=(k:Int)+1:=wrap64 _ (by omega) (by omega);have HY:Hid (Op.bytesLess l[k].k.toList key.toList=true→∀j(h:j<l.length),j<k+1→Op.bytesLess l[j].k.toList key.toList=true):=Lib.hid (fun h j h1 hj=>by
    by_cases e:j=k
    ·subst e;exact h
    ·exact HL.out j h1 (by omega))
   have HZ:Hid (Op.bytesLess l[k].k.toList key.toList=false→findR l key=k∧isR l key=(l[k].k.toList==key.toList)):=Lib.hid (fun h=>findR_at hlt h HL.out);generalize l[k]=it at*;cases hbl:Op.bytesLess it.k.toList key.toList with
   | true=>
     have HT:=Lib.hid (HY.out hbl);clear HY HZ
     go_wp2_with fail
     try go_quiet(fail)
     try go_wp2_with fail
     go_roundw
     case rel=>exact⟨k+1,by omega,by go_num,HT.out,by first| exact HD.out.trans (Dr.one _ _)| exact HD.out⟩
     case measure=>simp [intOf];omega
   | false=>
     have HT:=Lib.hid (HZ.out hbl);clear HY HZ
     go_wp2_with fail
     go_quiet(fail)
     go_wp2_with fail
     go_ret2;exact⟨by rw [HT.out.1,HT.out.2];rfl,by first| exact HD.out.trans (Dr.one _ _)| exact HD.out⟩
  ·have hx1:decide ((k:Int)<(l.length:Int))=false:=decide_eq_false (by omega);have hx5:decide (k<l.length)=false:=decide_eq_false hlt;have HT:=Lib.hid (findR_no (l:=l) (key:=key) (fun j h=>HL.out j h (by omega)))
   go_wp2_with fail
   go_ret2;exact⟨by rw [HT.out.1,HT.out.2];rfl,HD.out⟩
theorem ItR.drop{w:World}{b off c k:Nat}{P:Option Addr}{l:List It}(h:ItR w (some ⟨b,off,none⟩) l)(hc:l.length≤c)(hP:(c=k∧P=some ⟨b,off,none⟩)∨P=some ⟨b,off+k*2,none⟩):ItR w P (l.drop k):=by
 refine⟨by rw [itCs_len],fun hn=> ?_⟩;rw [List.length_drop]at hn;rcases hP with⟨h1,_⟩| rfl
 ·omega
 ·obtain⟨b',off',e',hb,hcc⟩:=h.2 (by omega);injection e' with e'
  injection e' with e1 e2
  subst e1 e2;refine⟨_,_,rfl,hb,fun j hj=> ?_⟩;rw [List.length_drop]at hj;have e:itCs l=itCs (l.take k)++itCs (l.drop k):=by
   unfold itCs;rw [←List.flatten_append,←List.map_append,List.take_append_drop]
  rw [Nat.add_assoc,hcc (k*2+j) (by omega),e,List.getElem?_append_right (by rw [itCs_len,List.length_take];omega),itCs_len,List.length_take,Nat.min_eq_left (by omega)];congr 1;omega
theorem itCs_app'(a b:List It):itCs (a++b)=itCs a++itCs b:=by simp [itCs]
theorem itCs_one(l:List It):∀u∈itCs l,u.oneCell'=true:=by
 intro u hu;unfold itCs at hu;obtain⟨x,hx,hu⟩:=List.mem_flatten.1 hu;obtain⟨i,_,rfl⟩:=List.mem_map.1 hx;simp [itC]at hu;rcases hu with rfl| rfl<;>rfl
theorem own_itrE{w:World}{base:Nat}{e:TypeId}{v:Value}{l:List It}(h:w.ownsRow base e 2 v l.length (itCs l)):∃A c,v= .slice A l.length c∧l.length≤c∧ItR w A l:=by
 obtain⟨A,c,e,hc,hr⟩:=own_rdk h;exact⟨A,c,e,hc,by unfold ItR;rw [Nat.mul_comm];exact hr⟩
def PutRPost(r:List It×Int)(l:List It)(A:Option Addr)(w:World)(e:Ending)(w':World):Prop:=
 ∃A' c',e= .returned (.tuple #[.slice A' r.1.length c',.int .i64 r.2])∧r.1.length≤c'∧(A'=none→c'=0)∧ItR w' A' r.1∧Below w.heap.size w w'∧((A'=A∧r.1=l)∨∀a,A'=some a→w.heap.size≤a.block)
set_option maxHeartbeats 4000000 in
set_option maxRecDepth 100000 in
theorem putR_any(l:List It)(A:Option Addr)(c:Nat)(key:ByteArray)(v:UInt64)(w:World)(hl:l.length≤100000)(hc:l.length≤c)(hA:A=none→c=0)(hks:key.size≤1000000)(h:ItR w A l):Calls Tryz.prog 13 #[.slice A l.length c,.string key,.int .u64 (v.toNat:Int)] w (PutRPost (putR l key v) l A w):=by
 have HR:=Lib.hid h;by_cases h16:16<key.size
 ·have HP:Hid (putR l key v=(l,3)):=Lib.hid (by unfold putR;rw [if_pos h16]);have t1:decide ((16:Int)<(key.size:Int))=true:=decide_eq_true (by omega);clear h;go_enter Tryz.func13,Tryz.ntmps13
  go_wp2_with fail
  go_ret2;rw [HP.out];exact⟨_,_,rfl,hc,hA,HR.out,Below.refl _ _,.inl ⟨rfl,rfl⟩⟩
 ·have t1:decide ((16:Int)<(key.size:Int))=false:=decide_eq_false (by omega);by_cases hv0:v.toNat=0
  ·have HP:Hid (putR l key v=(l,2)):=Lib.hid (by unfold putR;rw [if_neg h16,if_pos hv0]);have t2:((v.toNat:Int)==0)=true:=by rw [hv0];rfl
   clear h;go_enter Tryz.func13,Tryz.ntmps13
   go_wp2_with fail
   go_ret2;rw [HP.out];exact⟨_,_,rfl,hc,hA,HR.out,Below.refl _ _,.inl ⟨rfl,rfl⟩⟩
  ·have t2:((v.toNat:Int)==0)=false:=by rw [beq_eq_false_iff_ne];omega
   have HF:=Lib.hid (find_any l A c key w hl h);obtain⟨at_,hat⟩:=(⟨_,rfl⟩:∃at_,findR l key=at_);obtain⟨is_,his⟩:=(⟨_,rfl⟩:∃is_,isR l key=is_);have hle:at_≤l.length:=hat▸findR_le l key;have hlt:is_=true→at_<l.length:=fun e=>hat▸isR_lt (his.trans e)
   have HP:Hid (putR l key v=(l.take at_++⟨key,v⟩::l.drop (at_+if is_ then 1 else 0),0)):=Lib.hid (by unfold putR;rw [if_neg h16,if_neg hv0,hat,his]);obtain⟨to,hto⟩:∃to,to=at_+if is_ then 1 else 0:=⟨_,rfl⟩
   have htl:to≤l.length:=by
    rw [hto];cases is_ with
    | true=>have:=hlt rfl;simp;omega
    | false=>simpa using hle
   rw [hat,his]at HF;rw [←hto]at HP;have hwa:is_=true→IntKind.i64.wrap ((at_:Int)+1)=(to:Int):=fun e=>by
    rw [hto,e];exact(wrap64 _ (by omega) (by omega)).trans (by simp)
   have hwb:is_=false→(at_:Int)=(to:Int):=fun e=>by rw [hto,e];simp
   have hx1:(at_:Int)≤(c:Int):=by omega
   have hx2:decide ((at_:Int)≤(c:Int))=true:=decide_eq_true hx1;have hx3:decide (at_≤c)=true:=decide_eq_true (by omega);have hx4:at_≤c:=by omega
   have hx5:(0:Int)≤(at_:Int):=by omega
   have hy1:(to:Int)≤(l.length:Int):=by omega
   have hy2:decide ((to:Int)≤(l.length:Int))=true:=decide_eq_true hy1;have hy3:(l.length:Int)≤(c:Int):=by omega
   have hy4:(0:Int)≤(to:Int):=by omega
   have HTo:=Lib.hid hto;clear hat his hlt h hto;have HDr:Hid (∀(W:World),Below w.heap.size w W→∀P m,m=l.length-to→((l.length=to)∨∃b off f,A=some ⟨b,off,f⟩∧((c=to∧P=A)∨P=some ⟨b,off+to*2,f⟩))→Rd W P (m*2) (itCs (l.drop to))):=Lib.hid (fun W hW P m hm hP=>by
    subst hm;by_cases h0:l.length-to=0
    ·rw [h0];refine⟨by rw [itCs_len,List.length_drop,h0],fun hn=>absurd hn (by omega)⟩
    ·have hRW:=HR.out.below hW;obtain⟨b,off,e,hb,hcc⟩:=hRW.2 (by omega);rcases hP with hP| ⟨b',off',f',e',hP⟩
     ·omega
     ·rw [e]at e';injection e' with e'
      injection e' with e1 e2 e3
      subst e1 e2 e3;have:=ItR.drop (k:=to) (P:=P) (e▸hRW) hc (hP.imp (fun h=>⟨h.1,h.2.trans e⟩) id);unfold ItR at this;rw [List.length_drop,Nat.mul_comm]at this;exact this)
   have HTk:Hid (∀(W:World),Below w.heap.size w W→Rd W A (at_*2) (itCs (l.take at_))):=Lib.hid (fun W hW=>by
    have:=(HR.out.below hW).take at_;unfold ItR at this
    rwa [List.length_take,Nat.min_eq_left hle,Nat.mul_comm]at this)
   have hone1:=itCs_one (l.take at_);have hone2:=itCs_one (l.drop to);go_enter Tryz.func13,Tryz.ntmps13
   go_wp2_with fail
   refine HF.out.mono ?_;rintro e w1⟨rfl,hdr⟩;clear HF;have hb1:=hdr.below w.heap.size;have hbn:Below w1.heap.size w1 (w1.alloc (.cells #[] 96)):=(Below.refl _ _).alloc (Nat.le_refl _) _;have HB2:=Lib.hid (hb1.trans (hbn.mono hb1.size));have hO1:Hid ((w1.alloc (.cells #[] 96)).ownsRow w.heap.size 96 2 (.slice (some ⟨w1.heap.size,0,none⟩) 0 0) 0 []):=Lib.hid (by
    refine⟨rfl,.inr ⟨w1.heap.size,0,#[],rfl,hb1.size,heap_alloc_new _ _,Nat.le_refl _,by decide,rfl,rfl⟩⟩)
   clear hdr hbn hb1;have hO5':Hid (∀(v5:Value)(w5:World),w5.ownsRow w.heap.size 96 2 v5 (at_+1+(l.length-to)) (itCs (l.take at_)++[.string key,.int .u64 (v.toNat:Int)]++itCs (l.drop to))→Below w.heap.size w w5→PutRPost (putR l key v) l A w (.returned (.tuple #[v5,.int .i64 0])) w5):=Lib.hid (fun v5 w5 ho hb=>by
    have e1:at_+1+(l.length-to)=(l.take at_++⟨key,v⟩::l.drop to).length:=by
     simp only [List.length_append,List.length_take,List.length_cons,List.length_drop,Nat.min_eq_left hle];omega
    have e2:itCs (l.take at_)++[.string key,.int .u64 (v.toNat:Int)]++itCs (l.drop to)=itCs (l.take at_++⟨key,v⟩::l.drop to):=by
     rw [itCs_app',List.append_assoc];rfl
    rw [e1,e2]at ho;rw [HP.out];have hnew:∀a n c',v5= .slice (some a) n c'→w.heap.size≤a.block:=fun a n c' e=>by
     rcases ho.2 with⟨h1,h2⟩| ⟨g,cap,cur,h1,h2,_⟩
     ·rw [h1]at e;cases e
     ·rw [h1]at e;injection e with e;injection e with e;rw [←e];exact h2
    have hnil:∀n c',v5= .slice none n c'→c'=0:=fun n c' e=>by
     rcases ho.2 with⟨h1,h2⟩| ⟨g,cap,cur,h1,h2,_⟩
     ·rw [h1]at e;injection e with _ _ e;exact e.symm
     ·rw [h1]at e;cases e
    obtain⟨A5,c5,rfl,hc5,hr5⟩:=own_itrE ho;exact⟨A5,c5,rfl,hc5,fun e=>hnil _ _ (by rw [e]),hr5,hb,.inr (fun a e=>hnew a _ _ (by rw [e]))⟩)
   have HB0:=Lib.hid HP;rcases A with _| ⟨b,off,f⟩
   ·obtain rfl:c=0:=hA rfl;have hl0:l.length=0:=by omega
    obtain rfl:l=[]:=List.eq_nil_of_length_eq_zero hl0;obtain rfl:at_=0:=by omega
    obtain rfl:to=0:=by omega
    obtain rfl:is_=false:=by
     cases is_ with
     | false=>rfl
     | true=>have:=HTo.out;simp at this
    clear HP hwa hwb hx1 hx2 hx3 hx4 hx5 hy1 hy2 hy3 hy4
    go_wp2_with(at_builtin;first
     | (refine wpList_app_rows rfl (.tmp 24) (.tmp 27) 44 rfl Tryz.refItemTyK (by decide) w.heap.size _ 0 [] rfl (by exact hO1.out) _ 0 _ (itCs []) rfl (by exact HTk.out _ HB2.out) hone1 (by omega) (by decide) (by exact HB2.out.size) ?_
        intro v2 w2 hO2 hB2 hK2;rw [Nat.zero_add,List.nil_append]at hO2;have HO2:=Lib.hid hO2;have HB3:=Lib.hid (HB2.out.trans hB2);clear hO2 hB2 hK2)
     | (refine wpList_app_one rfl (.tmp 29) (.tmp 33) 44 rfl Tryz.refItemTyK _ w.heap.size v2 0 (itCs []) [.string key,.int .u64 (v.toNat:Int)] rfl (by exact HO2.out) rfl w2.heap.size 1 rfl rfl rfl (by decide) (by intro u hu;simp at hu;rcases hu with rfl| rfl<;>rfl) (by omega) (by decide) (by exact HB3.out.size) ?_
        intro g3 c3 w3 hO3 hB3 hK3 hg3;have HO3:=Lib.hid hO3;have HB4:=Lib.hid (HB3.out.trans hB3);clear hO3 hB3 hK3 hg3)
     | (refine wpList_app_rows rfl (.tmp 38) (.tmp 41) 44 rfl Tryz.refItemTyK (by decide) w.heap.size _ (0+1) _ rfl (by exact HO3.out) _ _ _ (itCs []) rfl (by exact HDr.out _ HB4.out _ _ (by rfl) (by first| exact .inl (by omega)| exact .inr ⟨_,_,_,rfl,by by_cases hq:c=to<;>simp [hq,Addr.add]⟩)) hone2 (by omega) (by decide) (by exact HB4.out.size) ?_
        intro v5 w5 hO5 hB5 hK5;have HO5:=Lib.hid hO5;have HB6:=Lib.hid (HB4.out.trans hB5);clear hO5 hB5 hK5))
    all_goals(go_ret2)
    all_goals(exact hO5'.out _ _ HO5.out HB6.out)
   ·clear HP;have hf:l.length=0∨f=none:=by
     rcases Nat.eq_zero_or_pos l.length with h0| h0
     ·exact .inl h0
     ·obtain⟨b',off',e',_⟩:=HR.out.2 (by omega);injection e' with e'
      injection e' with _ _ e'
      exact .inr e'
    have HPf:Hid (∀P,P=(if c=to then some (⟨b,off,f⟩:Addr)else some (Addr.add ⟨b,off,f⟩ (to*2)))→(l.length=to)∨∃b' off' f',(some (⟨b,off,f⟩:Addr))=some ⟨b',off',f'⟩∧((c=to∧P=some ⟨b,off,f⟩)∨P=some ⟨b',off'+to*2,f'⟩)):=Lib.hid (fun P hP=>by
     rcases hf with h0| h0
     ·exact .inl (by omega)
     ·subst h0;refine .inr ⟨b,off,none,rfl,?_⟩;subst hP;by_cases hq:c=to
      ·exact .inl ⟨hq,if_pos hq⟩
      ·exact .inr (by rw [if_neg hq,Addr.add_lit]))
    clear hf;cases is_ with
    | true=>
      have hwk:=hwa rfl;clear hwa hwb
      go_wp2_with(at_builtin;first
      | (refine wpList_app_rows rfl (.tmp 24) (.tmp 27) 44 rfl Tryz.refItemTyK (by decide) w.heap.size _ 0 [] rfl (by exact hO1.out) _ at_ _ (itCs (l.take at_)) rfl (by exact HTk.out _ HB2.out) hone1 (by omega) (by decide) (by exact HB2.out.size) ?_
         intro v2 w2 hO2 hB2 hK2;rw [Nat.zero_add,List.nil_append]at hO2;have HO2:=Lib.hid hO2;have HB3:=Lib.hid (HB2.out.trans hB2);clear hO2 hB2 hK2)
      | (refine wpList_app_one rfl (.tmp 29) (.tmp 33) 44 rfl Tryz.refItemTyK _ w.heap.size v2 at_ (itCs (l.take at_)) [.string key,.int .u64 (v.toNat:Int)] rfl (by exact HO2.out) rfl w2.heap.size 1 rfl rfl rfl (by decide) (by intro u hu;simp at hu;rcases hu with rfl| rfl<;>rfl) (by omega) (by decide) (by exact HB3.out.size) ?_
         intro g3 c3 w3 hO3 hB3 hK3 hg3;have HO3:=Lib.hid hO3;have HB4:=Lib.hid (HB3.out.trans hB3);clear hO3 hB3 hK3 hg3)
      | (refine wpList_app_rows rfl (.tmp 38) (.tmp 41) 44 rfl Tryz.refItemTyK (by decide) w.heap.size _ (at_+1) _ rfl (by exact HO3.out) _ _ _ (itCs (l.drop to)) rfl (by exact HDr.out _ HB4.out _ _ rfl (HPf.out _ (by first| rfl| (by_cases hq:c=to<;>simp [hq])))) hone2 (by omega) (by decide) (by exact HB4.out.size) ?_
         intro v5 w5 hO5 hB5 hK5;have HO5:=Lib.hid hO5;have HB6:=Lib.hid (HB4.out.trans hB5);clear hO5 hB5 hK5))
      all_goals(go_ret2)
      all_goals(exact hO5'.out _ _ HO5.out HB6.out)
    | false=>
      obtain rfl:to=at_:=by have:=hwb rfl;omega
      clear hwa hwb
      go_wp2_with(at_builtin;first
      | (refine wpList_app_rows rfl (.tmp 24) (.tmp 27) 44 rfl Tryz.refItemTyK (by decide) w.heap.size _ 0 [] rfl (by exact hO1.out) _ to _ (itCs (l.take to)) rfl (by exact HTk.out _ HB2.out) hone1 (by omega) (by decide) (by exact HB2.out.size) ?_
         intro v2 w2 hO2 hB2 hK2;rw [Nat.zero_add,List.nil_append]at hO2;have HO2:=Lib.hid hO2;have HB3:=Lib.hid (HB2.out.trans hB2);clear hO2 hB2 hK2)
      | (refine wpList_app_one rfl (.tmp 29) (.tmp 33) 44 rfl Tryz.refItemTyK _ w.heap.size v2 to (itCs (l.take to)) [.string key,.int .u64 (v.toNat:Int)] rfl (by exact HO2.out) rfl w2.heap.size 1 rfl rfl rfl (by decide) (by intro u hu;simp at hu;rcases hu with rfl| rfl<;>rfl) (by omega) (by decide) (by exact HB3.out.size) ?_
         intro g3 c3 w3 hO3 hB3 hK3 hg3;have HO3:=Lib.hid hO3;have HB4:=Lib.hid (HB3.out.trans hB3);clear hO3 hB3 hK3 hg3)
      | (refine wpList_app_rows rfl (.tmp 38) (.tmp 41) 44 rfl Tryz.refItemTyK (by decide) w.heap.size _ (to+1) _ rfl (by exact HO3.out) _ _ _ (itCs (l.drop to)) rfl (by exact HDr.out _ HB4.out _ _ rfl (HPf.out _ (by first| rfl| (by_cases hq:c=to<;>simp [hq])))) hone2 (by omega) (by decide) (by exact HB4.out.size) ?_
         intro v5 w5 hO5 hB5 hK5;have HO5:=Lib.hid hO5;have HB6:=Lib.hid (HB4.out.trans hB5);clear hO5 hB5 hK5))
      all_goals(go_ret2)
      all_goals(exact hO5'.out _ _ HO5.out HB6.out)
theorem own_mono2{w:World}{base base' k n:Nat}{e:TypeId}{v:Value}{xs:List Value}(h:w.ownsRow base e k v n xs)(hb:base'≤base):w.ownsRow base' e k v n xs:=
 ⟨h.1,h.2.imp id (fun⟨g,cap,cur,h1,h2,h3⟩=>⟨g,cap,cur,h1,Nat.le_trans hb h2,h3⟩)⟩
section
variable{w:World}{p:Option Addr}
end
end Go.Proofs.YtdjfbnoolfpcnaaGreatDoor
