import Derived.LaidMore
import Derived.Stop.Joined
import Derived.Lib.SmallJoins
import Derived.Test.YtkimaejoeapmnaaGreatDoorH08
set_option linter.defProp false
open List renaming getElem?_eq_getElem->Af,getElem_map->IU,getD_eq_getElem?_getD->Bi
namespace Go.Proofs.YtkimaejoeapmnaaGreatDoor
open Go.Proofs.Tryz
open Go.ChangeShapes Go.WideShapes Go.ChangeAt Go.RowKit
def jk{P:Program}{W:World}{n:String}{g t e len fuel:Nat}{q:IntKind}{cs:Array Value}{ns:List Int}{p:List MemPlace}(hg:P.globalNamed n=some g)(hv:W.var? P n=some cs)
 (hd:DataW.trod (λ_=>()) P W 0 (λ_=>true) false fuel t cs.toList=some (.agg (ns.map λk=> .lit (.int q k)),p))(ht:P.underlying t=some (.array len e))(he:P.underlying e=some (.int q))(h1:P.cellsOf e=1)(hn:ns.length=len):
 ∀j(h:j<ns.length),W.cell? (Δ g j)=some (.int q ns[j]):=by
 intro j hj;obtain⟨xs,m,_,hx,_,hxl,hel⟩:=DataW.trod_array ht hd;have h2:=hel j O;rw [h1,Nat.mul_one,Af O]at h2;obtain⟨k,e1,e2,_⟩:=DataW.trod_int he h2;simp only [Prod.mk.injEq,DataW.agg.injEq]at hx;have e3:=congrArg (λl=>l[j]?) hx.1;simp only [List.getElem?_map,Af hj,Af (show j<xs.length by omega),Option.map_some,Option.some.injEq,e2]at e3;injection e3 with e3
 injection e3 with _ e3
 rw [World.var?_cell hg hv j,<-Array.getElem?_toList,e3];have e4:=congrArg (λl=>l[0]?) e1;simpa using e4
def laid2:List (String×DataW Unit):=Rows.mendAgainRow.laid
def mG{W:World}(h:laidMetH prog laid2 W):Tabs W:=by
 rw [MakeChecks.laidMetH_plain _ _ _ Γ]at h;obtain⟨ps,⟨g0,t0,cs0,f0,p0,q0,hg0,ht0,hv0,hd0,⟨g1,t1,cs1,f1,p1,q1,hg1,ht1,hv1,hd1,_,_⟩,_⟩,_,_⟩:=h;obtain rfl:=Option.some.inj ((by kernel_rfl:_=some 1).symm.trans hg0);obtain rfl:=Option.some.inj ((by kernel_rfl:_=some 0).symm.trans hg1);obtain rfl:=Option.some.inj ((by kernel_rfl:_=some 79).symm.trans ht0);obtain rfl:=Option.some.inj ((by kernel_rfl:_=some 274).symm.trans ht1);have c8:prog.cellsOf 5=1:=by kernel_rfl
 have c32:prog.cellsOf 163=1:=by kernel_rfl
 have hb:=jk (q:= .u8) (ns:=Lib.deBruijn64tab.map Int.ofNat) hg0 hv0 hd0 underlying79 underlying5 c8 rfl;have hf:=jk (q:= .u32) (ns:=Lm.map Int.ofNat) hg1 hv1 hd1 underlying274 underlying163 c32 rfl;refine⟨λj hj=> ?_,λj hj=> ?_⟩
 ·have hj':j<Lm.length:=hj;rw [hf j (by simpa using hj'),IU,Bi,Af hj'];rfl
 ·have hj':j<Lib.deBruijn64tab.length:=hj;rw [hb j (by simpa using hj'),IU,Bi,Af hj'];rfl
def door_met(os:Os)(args:Array Value):laidMetH prog laid2 ((World.doorLaid prog 400 os).forCall (λ_ _=>0) ⟨#[],args,[]⟩).memory:=
 laidMetH_of_parts3 (fuel:=8) (laidMet_of_run' 8 Γ Γ) Γ Γ
end Go.Proofs.YtkimaejoeapmnaaGreatDoor
namespace Go.Proofs.YtkimaejoeapmnaaGreatDoor
open Go.ChangeShapes Go.WideShapes Go.ChangeAt Go.RowKit
