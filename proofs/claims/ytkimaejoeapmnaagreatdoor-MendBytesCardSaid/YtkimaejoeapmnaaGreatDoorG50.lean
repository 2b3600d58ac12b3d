import Derived.LaidMore
import Derived.Stop.Joined
import Derived.Lib.SmallJoins
import Derived.Test.YtkimaejoeapmnaaGreatDoorG08
open List renaming getElem?_eq_getElem->Af,getElem_map->GU,getD_eq_getElem?_getD->Bh
namespace Go.Proofs.YtkimaejoeapmnaaGreatDoor
open Go.ChangeShapes Go.WideShapes Go.ChangeAt Go.RowKit
theorem gz{P:Program}{W:World}{n:String}{g t e len fuel:Nat}{q:IntKind}{cs:Array Value}{ns:List Int}{p:List MemPlace}(hg:P.globalNamed n=some g)(hv:W.var? P n=some cs)
 (hd:DataW.trod (fun _=>()) P W 0 (fun _=>true) false fuel t cs.toList=some (.agg (ns.map fun k=> .lit (.int q k)),p))(ht:P.underlying t=some (.array len e))(he:P.underlying e=some (.int q))(h1:P.cellsOf e=1)(hn:ns.length=len):
 ∀j(h:j<ns.length),W.cell? ⟨g,j,none⟩=some (.int q ns[j]):=by
 intro j hj;obtain⟨xs,m,_,hx,_,hxl,hel⟩:=DataW.trod_array ht hd;have h2:=hel j (by omega);rw [h1,Nat.mul_one,Af (by omega)]at h2;obtain⟨k,e1,e2,_⟩:=DataW.trod_int he h2;simp only [Prod.mk.injEq,DataW.agg.injEq]at hx;have e3:=congrArg (fun l=>l[j]?) hx.1;simp only [List.getElem?_map,Af hj,Af (show j<xs.length by omega),Option.map_some,Option.some.injEq,e2]at e3;injection e3 with e3
 injection e3 with _ e3
 rw [World.var?_cell hg hv j,<-Array.getElem?_toList,e3];have e4:=congrArg (fun l=>l[0]?) e1;simpa using e4
def laid2:List (String×DataW Unit):=Rows.mendAgainRow.laid
theorem kF{W:World}(h:laidMetH Tryz.prog laid2 W):Tabs W:=by
 rw [MakeChecks.laidMetH_plain _ _ _ (by kernel_rfl)]at h;obtain⟨ps,⟨g0,t0,cs0,f0,p0,q0,hg0,ht0,hv0,hd0,⟨g1,t1,cs1,f1,p1,q1,hg1,ht1,hv1,hd1,_,_⟩,_⟩,_,_⟩:=h;obtain rfl:=Option.some.inj ((by kernel_rfl:_=some 1).symm.trans hg0);obtain rfl:=Option.some.inj ((by kernel_rfl:_=some 0).symm.trans hg1);obtain rfl:=Option.some.inj ((by kernel_rfl:_=some 79).symm.trans ht0);obtain rfl:=Option.some.inj ((by kernel_rfl:_=some 274).symm.trans ht1);have c8:Tryz.prog.cellsOf 5=1:=by kernel_rfl
 have c32:Tryz.prog.cellsOf 163=1:=by kernel_rfl
 have hb:=gz (q:= .u8) (ns:=Lib.deBruijn64tab.map Int.ofNat) hg0 hv0 hd0 Tryz.underlying79 Tryz.underlying5 c8 rfl;have hf:=gz (q:= .u32) (ns:=KR.map Int.ofNat) hg1 hv1 hd1 Tryz.underlying274 Tryz.underlying163 c32 rfl;refine⟨fun j hj=> ?_,fun j hj=> ?_⟩
 ·have hj':j<KR.length:=hj;rw [hf j (by simpa using hj'),GU,Bh,Af hj'];rfl
 ·have hj':j<Lib.deBruijn64tab.length:=hj;rw [hb j (by simpa using hj'),GU,Bh,Af hj'];rfl
theorem door_met(os:Os)(args:Array Value):laidMetH Tryz.prog laid2 ((World.doorLaid Tryz.prog 400 os).forCall (fun _ _=>0) ⟨#[],args,[]⟩).memory:=
 laidMetH_of_parts3 (fuel:=8) (laidMet_of_run' 8 (by kernel_rfl) (by kernel_rfl)) (by kernel_rfl) (by kernel_rfl)
end Go.Proofs.YtkimaejoeapmnaaGreatDoor
namespace Go.Proofs.YtkimaejoeapmnaaGreatDoor
open Go.ChangeShapes Go.WideShapes Go.ChangeAt Go.RowKit
theorem open_bytes{H:Type}{enc:TypeId×Value->H}{W:World}{v:Value}{d:DataW H}{p:List MemPlace}(h:DataW.Trod enc Tryz.prog W 0 (fun _=>true) true 22 v d p)(h1:v.cells.toList=[v]):
 ∃A c l,v= .slice A l.length c/\l.length<=maxLen/\l.length<=c/\Bs W A l.length l:=by
 obtain⟨m,hm⟩:=h;rw [h1]at hm;rcases open_ints Tryz.underlying22 Tryz.underlying5 (by kernel_rfl) hm with⟨hcs,_⟩| ⟨x,n,cp,zs,hcs,_,hl,hmx,hz,_,hcell,hwz⟩
 ·simp only [List.cons.injEq,and_true]at hcs;exact⟨none,0,[],hcs,by simp,Nat.le_refl _,⟨rfl,fun h=>absurd h (by simp)⟩⟩
 ·simp only [List.cons.injEq,and_true]at hcs;obtain⟨l,hb,hl1,hl2⟩:=Aaj (w:=W) (a:=some x) (len:=n) (cap:=cp) (zs:=zs) (.inr ⟨_,rfl,hl,hmx,by simpa using hz,hcell,hwz⟩);have hn:=hb.len;exact⟨some x,cp,l,by rw [hcs,hn],by omega,by omega,by rw [hn];exact hb⟩
