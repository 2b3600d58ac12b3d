import Derived.LaidMore
import Derived.Stop.Joined
import Derived.Lib.SmallJoins
import Derived.Test.YtfmkofmaabgbkaaGreatDoorJ06
set_option linter.defProp false
open List renaming getElem?_eq_getElem->Ah,getElem_map->SL,getD_eq_getElem?_getD->Bg
namespace Go.Proofs.YtfmkofmaabgbkaaGreatDoor
open Go.Proofs.Tryz
section
open Go.ChangeShapes Go.WideShapes Go.ChangeAt Go.RowKit
def l7{P:Program}{c:World}{n:String}{g t e len fuel:Nat}{q:IntKind}{f:Array Value}{ns:List Int}{p:List MemPlace}(v:P.globalNamed n=some g)(y:c.var? P n=some f)
 (r:DataW.trod (λ_=>()) P c 0 (λ_=>true) false fuel t f.toList=some (.agg (ns.map λk=>.lit (.int q k)),p))(x:P.underlying t=some (.array len e))(s:P.underlying e=some (.int q))(h1:P.cellsOf e=1)(A:ns.length=len):
 ∀a(h:a<ns.length),c.cell? (Δ g a)=some (.int q ns[a]):=by
 intro a w;obtain⟨z,C,_,j,_,B,u⟩:=DataW.trod_array x r;have i:=u a O;rw[h1,Nat.mul_one,Ah O]at i;obtain⟨k,l,m,_⟩:=DataW.trod_int s i;simp only[Prod.mk.injEq,DataW.agg.injEq]at j;have b:=congrArg (λd=>d[a]?) j.1;simp only[List.getElem?_map,Ah w,Ah (show a<z.length by omega),Option.map_some,Option.some.injEq,m]at b;injection b with b
 injection b with _ b
 rw[World.var?_cell v y a,<-Array.getElem?_toList,b];have o:=congrArg (λd=>d[0]?) l;simpa using o
def laid2:List (String×DataW Unit):=Rows.scriptRunsRow.laid
def pR{d:World}(h:laidMetH prog laid2 d):Tabs d:=by
 rw[MakeChecks.laidMetH_plain _ _ _ Γ]at h;obtain⟨y,⟨u,t0,s,f0,w,z,e,n,p,k,⟨v,t1,t,f1,x,A,f,o,r,l,_,_⟩,_⟩,_,_⟩:=h;obtain rfl:=Option.some.inj ((by kernel_rfl:_=some 1).symm.trans e);obtain rfl:=Option.some.inj ((by kernel_rfl:_=some 0).symm.trans f);obtain rfl:=Option.some.inj ((by kernel_rfl:_=some 205).symm.trans n);obtain rfl:=Option.some.inj ((by kernel_rfl:_=some 263).symm.trans o);have i:prog.cellsOf 5=1:=by kernel_rfl
 have g:prog.cellsOf 139=1:=by kernel_rfl
 have j:=l7 (q:=.u8) (ns:=Lib.deBruijn64tab.map Int.ofNat) e p k underlying205 underlying5 i rfl;have m:=l7 (q:=.u32) (ns:=MB.map Int.ofNat) f r l underlying263 underlying139 g rfl;refine⟨λb c=>?_,λb c=>?_⟩
 ·have a:b<MB.length:=c;rw[m b (by simpa using a),SL,Bg,Ah a];rfl
 ·have a:b<Lib.deBruijn64tab.length:=c;rw[j b (by simpa using a),SL,Bg,Ah a];rfl
def door_met(os:Os)(args:Array Value):laidMetH prog laid2 ((World.doorLaid prog 400 os).forCall (λ_ _=>0) ⟨#[],args,[]⟩).memory:=
 laidMetH_of_parts3 (fuel:=8) (laidMet_of_run' 8 Γ Γ) Γ Γ
end
section
open Go.ChangeShapes Go.WideShapes Go.ChangeAt Go.RowKit
def open_bytes{H:Type}{enc:TypeId×Value->H}{e:World}{v:Value}{d:DataW H}{p:List MemPlace}(h:DataW.Trod enc prog e 0 (λ_=>true) true 22 v d p)(h1:v.cells.toList=[v]):
 ∃f g b,v=.slice f b.length g/\b.length<=maxLen/\b.length<=g/\Bs e f b.length b:=by
 obtain⟨z,k⟩:=h;rw[h1]at k;rcases open_ints underlying22 underlying5 Γ k with⟨c,_⟩|⟨m,t,i,u,c,_,o,q,s,_,n,r⟩
 ·simp only[List.cons.injEq,and_true]at c;exact⟨none,0,[],c,by simp,Nat.le_refl _,⟨rfl,λh=>absurd h Θ⟩⟩
 ·simp only[List.cons.injEq,and_true]at c;obtain⟨b,j,x,y⟩:=Adh (w:=e) (a:=some m) (len:=t) (cap:=i) (zs:=u) (.inr ⟨_,rfl,o,q,by simpa using s,n,r⟩);have l:=j.len;exact⟨some m,i,b,by rw[c,l],O,O,by rw[l];exact j⟩
