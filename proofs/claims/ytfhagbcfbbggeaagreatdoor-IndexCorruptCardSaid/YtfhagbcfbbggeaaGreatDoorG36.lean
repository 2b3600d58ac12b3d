import Derived.Deep.SlicePairs
import Derived.Deep.Fields
import Derived.WideShapes
import Derived.Lib.SmallJoins
import Derived.Test.YtfhagbcfbbggeaaGreatDoorG29
namespace Go.Proofs.YtfhagbcfbbggeaaGreatDoor
open Go.ChangeShapes Go.WideShapes Go.ChangeAt Go.RowKit Go.Joins Go.Deep Go.WideElems Go.Maps
theorem array2{α:Type}{cs:Array α}(h:cs.size=2):∃c0 c1,cs= #[c0,c1]:=by
 obtain⟨l⟩:=cs
 match l,h with
 | [c0,c1],_=>exact⟨c0,c1,rfl⟩
theorem open_agg2{H:Type}{enc:TypeId×Value→H}{P:Program}{w:World}{base:Nat}{spare:Nat→Bool}{held:Bool}{r:Reach}{b0:Nat}{t:TypeId}{f0 f1:Field}{v:Value}{d:DataW H}{p:List MemPlace}(hs:P.underlying t=some (.struct #[f0,f1]))(hone:oneCellFields P #[f0,f1]=true)(hC:P.cellsOf t=2)
 (hv:Value.okWide P w r b0 t v)(h:DataW.Trod enc P w base spare held t v d p):
 ∃(v0 v1:Value)(y0 y1:DataW H×List MemPlace)(n:Nat),v= .agg #[v0,v1]∧
  DataW.trod enc P w base spare held n f0.type [v0]=some y0∧DataW.trod enc P w base spare held n f1.type [v1]=some y1:=by
 obtain⟨cs,rfl,hsz⟩:=okWide_struct hs hv
 obtain⟨c0,c1,rfl⟩:=array2 (hsz.trans hC)
 obtain⟨fuel,hf⟩:=h
 obtain⟨xs,n,_,_,hl,hlen,hf⟩:=DataW.trod_struct hs hf
 obtain⟨o0,k0⟩:=hone_of hone 0 f0 rfl
 obtain⟨o1,k1⟩:=hone_of hone 1 f1 rfl
 have h0:=hf 0 f0 rfl
 have h1:=hf 1 f1 rfl
 match xs,hlen with
 | [y0,y1],_=>exact⟨c0,c1,y0,y1,n,rfl,by simpa [Value.cells,o0,k0]using h0,by simpa [Value.cells,o1,k1]using h1⟩
theorem u16_nat{a:Int}(h:(Lit.int .u16 a).wf=true):∃n:Nat,a=(n:Int)∧n<65536:=by
 have hb:0≤a∧a≤65535:=by simpa [Lit.wf,IntKind.min,IntKind.max,IntKind.bits,IntKind.signed]using h
 exact⟨a.toNat,by omega,by omega⟩
set_option maxRecDepth 100000 in
theorem open_turn{H:Type}{enc:TypeId×Value→H}{W:World}{v:Value}{d:DataW H}{p:List MemPlace}{r:Reach}{b0:Nat}(hv:Value.okWide Tryz.prog W r b0 26 v)(h:DataW.Trod enc Tryz.prog W 0 (fun _=>true) true 26 v d p):
 ∃(n:Nat)(y:UInt64),v= .agg #[.int .u16 (n:Int),.int .u64 (y.toNat:Int)]∧n<65536:=by
 obtain⟨c0,c1,y0,y1,m,hv0,g0,g1⟩:=open_agg2 Tryz.underlying26 (by kernel_rfl) (by kernel_rfl) hv h
 obtain⟨x0,e0,_,wx0⟩:=DataW.trod_int Tryz.underlying23 g0
 obtain⟨x1,e1,_,wx1⟩:=DataW.trod_int Tryz.underlying24 g1
 obtain⟨n,rfl,hn⟩:=u16_nat wx0
 obtain⟨y,rfl⟩:=u64_of_wf'' wx1
 simp only [List.cons.injEq,and_true]at e0 e1
 exact⟨n,y,by rw [hv0,e0,e1],hn⟩
end Go.Proofs.YtfhagbcfbbggeaaGreatDoor
