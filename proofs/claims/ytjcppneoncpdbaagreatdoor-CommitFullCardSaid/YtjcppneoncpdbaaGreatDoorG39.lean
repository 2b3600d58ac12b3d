import Derived.Test.YtjcppneoncpdbaaGreatDoorRows
import Derived.ProofKit
import Derived.LaidMore
import Derived.OpenShut
import Derived.Stop.Joined
import Derived.Test.YtjcppneoncpdbaaGreatDoorG05
open List renaming getElem?_eq_getElem->Af,getElem_map->P5,getD_eq_getElem?_getD->AZ
namespace Go.Proofs.YtjcppneoncpdbaaGreatDoor
open Go.ChangeShapes Go.WideShapes Go.ChangeAt Go.RowKit
theorem ZA{P:Program}{W:World}{n:String}{g t e len fuel:Nat}{q:IntKind}{cs:Array Value}{ns:List Int}{p:List MemPlace}(hg:P.globalNamed n=some g)(hv:W.var? P n=some cs)
 (hd:DataW.trod (fun _=>()) P W 0 (fun _=>true) false fuel t cs.toList=some (.agg (ns.map fun k=> .lit (.int q k)),p))(ht:P.underlying t=some (.array len e))(he:P.underlying e=some (.int q))(h1:P.cellsOf e=1)(hn:ns.length=len):
 ∀j(h:j<ns.length),W.cell? ⟨g,j,none⟩=some (.int q ns[j]):=by
 intro j hj;obtain⟨xs,m,_,hx,_,hxl,hel⟩:=DataW.trod_array ht hd;have h2:=hel j (by omega);rw [h1,Nat.mul_one,Af (by omega)]at h2;obtain⟨k,e1,e2,_⟩:=DataW.trod_int he h2;simp only [Prod.mk.injEq,DataW.agg.injEq]at hx;have e3:=congrArg (fun l=>l[j]?) hx.1;simp only [List.getElem?_map,Af hj,Af (show j<xs.length by omega),Option.map_some,Option.some.injEq,e2]at e3;injection e3 with e3
 injection e3 with _ e3
 rw [World.var?_cell hg hv j,<-Array.getElem?_toList,e3];have e4:=congrArg (fun l=>l[0]?) e1;simpa using e4
def laid2:List (String×DataW Unit):=Rows.commitArgsRow.laid
theorem dw{W:World}(h:laidMetH Tryz.prog laid2 W):Tabs W:=by
 rw [MakeChecks.laidMetH_plain _ _ _ (by kernel_rfl)]at h;obtain⟨ps,⟨g0,t0,cs0,f0,p0,q0,hg0,ht0,hv0,hd0,⟨g1,t1,cs1,f1,p1,q1,hg1,ht1,hv1,hd1,_,_⟩,_⟩,_,_⟩:=h;obtain rfl:=Option.some.inj ((by kernel_rfl:_=some 1).symm.trans hg0);obtain rfl:=Option.some.inj ((by kernel_rfl:_=some 0).symm.trans hg1);obtain rfl:=Option.some.inj ((by kernel_rfl:_=some 99).symm.trans ht0);obtain rfl:=Option.some.inj ((by kernel_rfl:_=some 286).symm.trans ht1);have c8:Tryz.prog.cellsOf 5=1:=by kernel_rfl
 have c32:Tryz.prog.cellsOf 207=1:=by kernel_rfl
 have hb:=ZA (q:= .u8) (ns:=Lib.deBruijn64tab.map Int.ofNat) hg0 hv0 hd0 Tryz.underlying99 Tryz.underlying5 c8 rfl;have hf:=ZA (q:= .u32) (ns:=JB.map Int.ofNat) hg1 hv1 hd1 Tryz.underlying286 Tryz.underlying207 c32 rfl;refine⟨fun j hj=> ?_,fun j hj=> ?_⟩
 ·have hj':j<JB.length:=hj;rw [hf j (by simpa using hj'),P5,AZ,Af hj'];rfl
 ·have hj':j<Lib.deBruijn64tab.length:=hj;rw [hb j (by simpa using hj'),P5,AZ,Af hj'];rfl
theorem door_met(os:Os)(args:Array Value):laidMetH Tryz.prog laid2 ((World.doorLaid Tryz.prog 400 os).forCall (fun _ _=>0) ⟨#[],args,[]⟩).memory:=
 laidMetH_of_parts3 (fuel:=8) (laidMet_of_run' 8 (by kernel_rfl) (by kernel_rfl)) (by kernel_rfl) (by kernel_rfl)
end Go.Proofs.YtjcppneoncpdbaaGreatDoor
