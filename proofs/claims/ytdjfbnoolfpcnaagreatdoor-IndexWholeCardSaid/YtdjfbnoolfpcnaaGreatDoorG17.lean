import Derived.Test.YtdjfbnoolfpcnaaGreatDoorRows
import Derived.ProofKit
import Derived.LaidMore
import Derived.OpenShut
import Derived.Stop.Joined
import Derived.Deep.SlicePairs
import Derived.ChangeOld
import Derived.Deep.Fields
import Derived.WideShapes
import Derived.Lib.SmallJoins
import Derived.ShutString
import Derived.Test.YtdjfbnoolfpcnaaGreatDoorG01
import Derived.Test.YtdjfbnoolfpcnaaGreatDoorG05
import Derived.Test.YtdjfbnoolfpcnaaGreatDoorG13
import Derived.Test.YtdjfbnoolfpcnaaGreatDoorG16
namespace Go.Proofs.YtdjfbnoolfpcnaaGreatDoor
open Go.ChangeShapes Go.WideShapes Go.ChangeAt Go.RowKit
theorem tab_cells{P:Program}{W:World}{n:String}{g t e len fuel:Nat}{q:IntKind}{cs:Array Value}{ns:List Int}{p:List MemPlace}(hg:P.globalNamed n=some g)(hv:W.var? P n=some cs)
 (hd:DataW.trod (fun _=>()) P W 0 (fun _=>true) false fuel t cs.toList=some (.agg (ns.map fun k=> .lit (.int q k)),p))(ht:P.underlying t=some (.array len e))(he:P.underlying e=some (.int q))(h1:P.cellsOf e=1)(hn:ns.length=len):
 ∀j(h:j<ns.length),W.cell? ⟨g,j,none⟩=some (.int q ns[j]):=by
 intro j hj;obtain⟨xs,m,_,hx,_,hxl,hel⟩:=DataW.trod_array ht hd;have h2:=hel j (by omega);rw [h1,Nat.mul_one,List.getElem?_eq_getElem (by omega)]at h2;obtain⟨k,e1,e2,_⟩:=DataW.trod_int he h2;simp only [Prod.mk.injEq,DataW.agg.injEq]at hx;have e3:=congrArg (fun l=>l[j]?) hx.1;simp only [List.getElem?_map,List.getElem?_eq_getElem hj,List.getElem?_eq_getElem (show j<xs.length by omega),Option.map_some,Option.some.injEq,e2]at e3;injection e3 with e3
 injection e3 with _ e3
 rw [World.var?_cell hg hv j,←Array.getElem?_toList,e3];have e4:=congrArg (fun l=>l[0]?) e1;simpa using e4
def laid2:List (String×DataW Unit):=Rows.indexWholeRow.laid
theorem tabs_of_laid{W:World}(h:laidMetH Tryz.prog laid2 W):Tabs W:=by
 rw [MakeChecks.laidMetH_plain _ _ _ (by kernel_rfl)]at h;obtain⟨ps,⟨g0,t0,cs0,f0,p0,q0,hg0,ht0,hv0,hd0,⟨g1,t1,cs1,f1,p1,q1,hg1,ht1,hv1,hd1,_,_⟩,_⟩,_,_⟩:=h;obtain rfl:=Option.some.inj ((by kernel_rfl:_=some 1).symm.trans hg0);obtain rfl:=Option.some.inj ((by kernel_rfl:_=some 0).symm.trans hg1);obtain rfl:=Option.some.inj ((by kernel_rfl:_=some 98).symm.trans ht0);obtain rfl:=Option.some.inj ((by kernel_rfl:_=some 241).symm.trans ht1);have c8:Tryz.prog.cellsOf 5=1:=by kernel_rfl
 have c32:Tryz.prog.cellsOf 191=1:=by kernel_rfl
 have hb:=tab_cells (q:= .u8) (ns:=Lib.deBruijn64tab.map Int.ofNat) hg0 hv0 hd0 Tryz.underlying98 Tryz.underlying5 c8 rfl;have hf:=tab_cells (q:= .u32) (ns:=foursN.map Int.ofNat) hg1 hv1 hd1 Tryz.underlying241 Tryz.underlying191 c32 rfl;refine⟨fun j hj=> ?_,fun j hj=> ?_⟩
 ·have hj':j<foursN.length:=hj;rw [hf j (by simpa using hj'),List.getElem_map,List.getD_eq_getElem?_getD,List.getElem?_eq_getElem hj'];rfl
 ·have hj':j<Lib.deBruijn64tab.length:=hj;rw [hb j (by simpa using hj'),List.getElem_map,List.getD_eq_getElem?_getD,List.getElem?_eq_getElem hj'];rfl
theorem door_met(os:Os)(args:Array Value):laidMetH Tryz.prog laid2 ((World.doorLaid Tryz.prog 400 os).forCall (fun _ _=>0) ⟨#[],args,[]⟩).memory:=
 laidMetH_of_parts3 (fuel:=8) (laidMet_of_run' 8 (by kernel_rfl) (by kernel_rfl)) (by kernel_rfl) (by kernel_rfl)
end Go.Proofs.YtdjfbnoolfpcnaaGreatDoor
namespace Go.Proofs.YtdjfbnoolfpcnaaGreatDoor
open Go.ChangeShapes Go.WideShapes Go.ChangeAt Go.RowKit
theorem u64_of_wf''{a:Int}(h:(Lit.int .u64 a).wf=true):∃x:UInt64,a=(x.toNat:Int):=by
 obtain⟨n,rfl,hn⟩:=u64_of_wf h;exact⟨UInt64.ofNat n,by rw [UInt64.toNat_ofNat_of_lt' (by simpa [UInt64.size]using hn)]⟩
end Go.Proofs.YtdjfbnoolfpcnaaGreatDoor
namespace Go.Proofs.YtdjfbnoolfpcnaaGreatDoor
open Go.ChangeShapes Go.WideShapes Go.ChangeAt Go.RowKit
theorem u8_nat{a:Int}(h:(Lit.int .u8 a).wf=true):∃n:Nat,a=(n:Int)∧n<256:=by
 have hb:0≤a∧a≤255:=by simpa [Lit.wf,IntKind.min,IntKind.max,IntKind.bits,IntKind.signed]using h
 exact⟨a.toNat,by omega,by omega⟩
theorem u8_of_wf10{a:Int}(h:(Lit.int .u8 a).wf=true):∃x:UInt8,a=(x.toNat:Int):=by
 obtain⟨n,rfl,hn⟩:=u8_nat h;exact⟨UInt8.ofNat n,by rw [UInt8.toNat_ofNat_of_lt' (by simpa [UInt8.size]using hn)]⟩
set_option maxRecDepth 100000 in
theorem open_acts{H:Type}{enc:TypeId×Value→H}{W:World}{v:Value}{d:DataW H}{p:List MemPlace}(h:DataW.Trod enc Tryz.prog W 0 (fun _=>true) true 22 v d p)(h1:v.cells.toList=[v]):
 ∃A c l,v= .slice A l.length c∧l.length≤maxLen∧l.length≤c∧(A=none→c=0)∧Rd W A (l.length*3) (acCs l):=by
 obtain⟨m,hm⟩:=h;rw [h1]at hm;rcases Go.Deep.open_slice Tryz.underlying22 hm with⟨hcs,_⟩| ⟨a,len,cap,m',n,D,Pl,hcs,_,hl,hc,hmm,_,hi⟩
 ·simp only [List.cons.injEq,and_true]at hcs;exact⟨none,0,[],hcs,by simp,Nat.le_refl _,fun _=>rfl,by simp [acCs],fun h=>absurd h (by simp)⟩
 ·simp only [List.cons.injEq,and_true]at hcs;have hlm:len≤m':=by rw [hmm];simp;omega
  have ce:Tryz.prog.cellsOf 25=3:=by kernel_rfl
  have each:∀i,i<len→∃x:Ac,W.cell? (a.add (i*3))=some (.int .u8 (x.kind.toNat:Int))∧W.cell? (a.add (i*3+1))=some (.string x.key)∧W.cell? (a.add (i*3+2))=some (.int .u64 (x.n.toNat:Int)):=fun i hil=>by
   obtain⟨cs',g1,g2⟩:=hi i (by omega);rw [ce]at g1;obtain⟨_,hlen,hcell⟩:=World.cells?_some g1;obtain⟨xs,k,hk,hxy,_,hxl,hf⟩:=DataW.trod_struct Tryz.underlying25 g2
   match xs,hxl,cs',hlen with
   | [y0,y1,y2],_,[v0,v1,v2],_=>
     have f0:=hf 0 _ rfl;have f1:=hf 1 _ rfl;have f2:=hf 2 _ rfl;simp [show Tryz.prog.cellsOf 9=1 by kernel_rfl,show Tryz.prog.cellsOf 5=1 by kernel_rfl,show Tryz.prog.cellsOf 23=1 by kernel_rfl]at f0 f1 f2;obtain⟨x0,e0,_,wx0⟩:=DataW.trod_int Tryz.underlying5 f0;obtain⟨s1,e1,_⟩:=DataW.trod_string Tryz.underlying9 f1;obtain⟨x2,e2,_,wx2⟩:=DataW.trod_int Tryz.underlying23 f2;obtain⟨s0,rfl⟩:=u8_of_wf10 wx0;obtain⟨s2,rfl⟩:=u64_of_wf'' wx2;simp only [List.cons.injEq,and_true]at e0 e1 e2;have q0:=hcell 0 (by omega);have q1:=hcell 1 (by omega);have q2:=hcell 2 (by omega);rw [Go.Deep.add_add]at q0 q1 q2;simp only [Nat.add_zero,List.getElem?_cons_zero,List.getElem?_cons_succ,e0,e1,e2]at q0 q1 q2;exact⟨⟨s0,s1,s2⟩,q0,q1,q2⟩
  obtain⟨l,hll,hle⟩:∃l:List Ac,l.length=len∧∀i(h:i<l.length),W.cell? (a.add (i*3))=some (.int .u8 (l[i].kind.toNat:Int))∧W.cell? (a.add (i*3+1))=some (.string l[i].key)∧W.cell? (a.add (i*3+2))=some (.int .u64 (l[i].n.toNat:Int)):=by
   refine⟨(List.range len).pmap (fun i hi=>(each i hi).choose) (fun i hi=>List.mem_range.1 hi),by simp,fun i hil=> ?_⟩;have hil':i<len:=by simpa using hil
   have:=(each i hil').choose_spec;simpa using this
  have hsp:0<len→a=⟨a.block,a.off,none⟩:=fun h0=>by
   have h2:=World.cell?_spot (hle 0 (by omega)).1;have h3:a.spot=none:=by simpa [Addr.add]using h2
   cases a
   simp only at h3;subst h3;rfl
  refine⟨some a,cap,l,by rw [hcs,hll],by omega,by omega,(fun e=>nomatch e),acCs_len l,fun h0=> ?_⟩;have ha:=hsp (by omega);have hlt:a.block<W.heap.size:=by
   have:=(hle 0 (by omega)).1;rw [Nat.zero_mul]at this;exact World.block_lt_of_cell? W _ (by simpa [Addr.add]using this)
  refine⟨a.block,a.off,by rw [←ha],hlt,fun j hj=> ?_⟩;have hj2:j/3<l.length:=by omega
  obtain⟨q0,q1,q2⟩:=hle (j/3) hj2;have hf:=fun i(hi:i<3)=>flat3_get acC 3 (fun _=>rfl) l (j/3) i hj2 hi
  rw [ha,Addr.add_lit]at q0 q1 q2;rcases(show j%3=0∨j%3=1∨j%3=2 by omega)with e| e| e
  ·have e2:j=j/3*3+0:=by omega
   have:=hf 0 (by decide);rw [←e2]at this;rw [show(acCs l)[j]? =_ from this];rw [show j/3*3=j by omega]at q0;exact q0
  ·have e2:j=j/3*3+1:=by omega
   have:=hf 1 (by decide);rw [←e2]at this;rw [show(acCs l)[j]? =_ from this];rw [←e2]at q1;exact q1
  ·have e2:j=j/3*3+2:=by omega
   have:=hf 2 (by decide);rw [←e2]at this;rw [show(acCs l)[j]? =_ from this];rw [←e2]at q2;exact q2
end Go.Proofs.YtdjfbnoolfpcnaaGreatDoor
namespace Go.Proofs.YtdjfbnoolfpcnaaGreatDoor
open Go.ChangeShapes Go.WideShapes Go.ChangeAt Go.RowKit Go.Joins Go.Deep Go.WideElems Go.Maps
theorem array2{α:Type}{cs:Array α}(h:cs.size=2):∃c0 c1,cs= #[c0,c1]:=by
 obtain⟨l⟩:=cs
 match l,h with
 | [c0,c1],_=>exact⟨c0,c1,rfl⟩
theorem open_agg2{H:Type}{enc:TypeId×Value→H}{P:Program}{w:World}{base:Nat}{spare:Nat→Bool}{held:Bool}{r:Reach}{b0:Nat}{t:TypeId}{f0 f1:Field}{v:Value}{d:DataW H}{p:List MemPlace}(hs:P.underlying t=some (.struct #[f0,f1]))(hone:oneCellFields P #[f0,f1]=true)(hC:P.cellsOf t=2)
 (hv:Value.okWide P w r b0 t v)(h:DataW.Trod enc P w base spare held t v d p):
 ∃(v0 v1:Value)(y0 y1:DataW H×List MemPlace)(n:Nat),v= .agg #[v0,v1]∧
  DataW.trod enc P w base spare held n f0.type [v0]=some y0∧DataW.trod enc P w base spare held n f1.type [v1]=some y1:=by
 obtain⟨cs,rfl,hsz⟩:=okWide_struct hs hv;obtain⟨c0,c1,rfl⟩:=array2 (hsz.trans hC);obtain⟨fuel,hf⟩:=h;obtain⟨xs,n,_,_,hl,hlen,hf⟩:=DataW.trod_struct hs hf;obtain⟨o0,k0⟩:=hone_of hone 0 f0 rfl;obtain⟨o1,k1⟩:=hone_of hone 1 f1 rfl;have h0:=hf 0 f0 rfl;have h1:=hf 1 f1 rfl
 match xs,hlen with
 | [y0,y1],_=>exact⟨c0,c1,y0,y1,n,rfl,by simpa [Value.cells,o0,k0]using h0,by simpa [Value.cells,o1,k1]using h1⟩
end Go.Proofs.YtdjfbnoolfpcnaaGreatDoor
namespace Go.Proofs.YtdjfbnoolfpcnaaGreatDoor
open Go.ChangeShapes Go.WideShapes Go.ChangeAt Go.RowKit
end Go.Proofs.YtdjfbnoolfpcnaaGreatDoor
namespace Go.Proofs.YtdjfbnoolfpcnaaGreatDoor
open Go.ChangeShapes Go.WideShapes Go.ChangeAt Go.RowKit Go.Joins Go.Deep Go.WideElems Go.Maps
theorem array3{α:Type}{cs:Array α}(h:cs.size=3):∃c0 c1 c2,cs= #[c0,c1,c2]:=by
 obtain⟨l⟩:=cs
 match l,h with
 | [c0,c1,c2],_=>exact⟨c0,c1,c2,rfl⟩
theorem open_agg3{H:Type}{enc:TypeId×Value→H}{P:Program}{w:World}{base:Nat}{spare:Nat→Bool}{held:Bool}{r:Reach}{b0:Nat}{t:TypeId}{f0 f1 f2:Field}{v:Value}{d:DataW H}{p:List MemPlace}(hs:P.underlying t=some (.struct #[f0,f1,f2]))(hone:oneCellFields P #[f0,f1,f2]=true)(hC:P.cellsOf t=3)
 (hv:Value.okWide P w r b0 t v)(h:DataW.Trod enc P w base spare held t v d p):
 ∃(v0 v1 v2:Value)(y0 y1 y2:DataW H×List MemPlace)(n:Nat),v= .agg #[v0,v1,v2]∧
  DataW.trod enc P w base spare held n f0.type [v0]=some y0∧DataW.trod enc P w base spare held n f1.type [v1]=some y1∧DataW.trod enc P w base spare held n f2.type [v2]=some y2:=by
 obtain⟨cs,rfl,hsz⟩:=okWide_struct hs hv;obtain⟨c0,c1,c2,rfl⟩:=array3 (hsz.trans hC);obtain⟨fuel,hf⟩:=h;obtain⟨xs,n,_,_,hl,hlen,hf⟩:=DataW.trod_struct hs hf;obtain⟨o0,k0⟩:=hone_of hone 0 f0 rfl;obtain⟨o1,k1⟩:=hone_of hone 1 f1 rfl;obtain⟨o2,k2⟩:=hone_of hone 2 f2 rfl;have h0:=hf 0 f0 rfl;have h1:=hf 1 f1 rfl;have h2:=hf 2 f2 rfl
 match xs,hlen with
 | [y0,y1,y2],_=>exact⟨c0,c1,c2,y0,y1,y2,n,rfl,by simpa [Value.cells,o0,k0]using h0,by simpa [Value.cells,o1,k1]using h1,by simpa [Value.cells,o2,k2]using h2⟩
set_option maxRecDepth 100000 in
theorem open_act{H:Type}{enc:TypeId×Value→H}{W:World}{v:Value}{d:DataW H}{p:List MemPlace}{r:Reach}{b0:Nat}(hv:Value.okWide Tryz.prog W r b0 25 v)(h:DataW.Trod enc Tryz.prog W 0 (fun _=>true) true 25 v d p):
 ∃a:Ac,v= .agg #[.int .u8 (a.kind.toNat:Int),.string a.key,.int .u64 (a.n.toNat:Int)]:=by
 obtain⟨c0,c1,c2,y0,y1,y2,m,hv0,g0,g1,g2⟩:=open_agg3 Tryz.underlying25 (by kernel_rfl) (by kernel_rfl) hv h;obtain⟨x0,e0,_,wx0⟩:=DataW.trod_int Tryz.underlying5 g0;obtain⟨s1,e1,_⟩:=DataW.trod_string Tryz.underlying9 g1;obtain⟨x2,e2,_,wx2⟩:=DataW.trod_int Tryz.underlying23 g2;obtain⟨k,rfl⟩:=u8_of_wf10 wx0;obtain⟨y,rfl⟩:=u64_of_wf'' wx2;simp only [List.cons.injEq,and_true]at e0 e1 e2;exact⟨⟨k,s1,y⟩,by rw [hv0,e0,e1,e2]⟩
theorem has_lt{P:Program}{w:World}{r:Reach}{base:Nat}{a:Addr}{e:TypeId}{n:Nat}(h:World.has P w r base a e n):a.block<w.heap.size:=by
 obtain⟨_,_,row,cells,h,_⟩:=h;by_cases hl:a.block<w.heap.size
 ·exact hl
 ·unfold World.shape? at h;rw [Array.getElem?_eq_none (by omega)]at h;cases h
set_option maxRecDepth 100000 in
theorem end_lt{W:World}{r:Reach}{b0:Nat}{c0:Value}{a:Addr}{n c:Nat}(hv:Value.okWide Tryz.prog W r b0 28 (.agg #[c0,.slice (some a) n c])):a.block<W.heap.size:=by
 simp only [Value.okWide,Tryz.underlying28]at hv;obtain⟨cs,e,_,ts,h1,_,h2⟩:=hv;injection e with e
 subst e;have e1:Tryz.prog.cellTypes Tryz.prog.depth 28=some [5,26]:=by kernel_rfl
 rw [e1]at h1;injection h1 with h1
 subst h1;obtain⟨u,h3,h4⟩:=h2 1 _ rfl;injection h3 with h3
 subst h3;simp only [Cell.okWide,Cell.ok,Tryz.underlying26]at h4;exact has_lt h4.2.2
set_option maxRecDepth 100000 in
theorem open_end{H:Type}{enc:TypeId×Value→H}{W:World}{v:Value}{d:DataW H}{p:List MemPlace}{r:Reach}{b0:Nat}(hv:Value.okWide Tryz.prog W r b0 28 v)(h:DataW.Trod enc Tryz.prog W 0 (fun _=>true) true 28 v d p):
 ∃(n:Nat)(A:Option Addr)(c:Nat)(l:List UInt8),v= .agg #[.int .u8 (n:Int),.slice A l.length c]∧n<256∧l.length≤maxLen∧l.length≤c∧Bs W A l.length l∧∀a,A=some a→a.block<W.heap.size:=by
 obtain⟨c0,c1,y0,y1,m,hv0,g0,g1⟩:=open_agg2 Tryz.underlying28 (by kernel_rfl) (by kernel_rfl) hv h;obtain⟨x0,e0,_,wx0⟩:=DataW.trod_int Tryz.underlying5 g0;obtain⟨n,rfl,hn⟩:=u8_nat wx0;simp only [List.cons.injEq,and_true]at e0;rcases open_ints Tryz.underlying26 Tryz.underlying5 (by kernel_rfl) g1 with⟨hcs,_⟩| ⟨x,k,cp,zs,hcs,_,hl,hmx,hz,_,hcell,hwz⟩
 ·simp only [List.cons.injEq,and_true]at hcs;exact⟨n,none,0,[],by rw [hv0,e0,hcs];rfl,hn,by simp,Nat.le_refl _,⟨rfl,fun h=>absurd h (by simp)⟩,fun a e=>nomatch e⟩
 ·simp only [List.cons.injEq,and_true]at hcs;obtain⟨l,hb,hl1,hl2⟩:=bs_of_row (w:=W) (a:=some x) (len:=k) (cap:=cp) (zs:=zs) (.inr ⟨_,rfl,hl,hmx,by simpa using hz,hcell,hwz⟩);have hk:=hb.len;refine⟨n,some x,cp,l,by rw [hv0,e0,hcs,hk],hn,by omega,by omega,by rw [hk];exact hb,fun a ea=> ?_⟩;injection ea with ea
  rw [hv0,hcs]at hv;rw [←ea];exact end_lt hv
end Go.Proofs.YtdjfbnoolfpcnaaGreatDoor
namespace Go.Proofs.YtdjfbnoolfpcnaaGreatDoor.indexWhole
theorem k10:(Rows.indexWholeRow.inPlace==Tryz.prog.inPlace 3)=true:=by kernel_rfl
theorem k11:(Rows.indexWholeRow.unfollowed==Tryz.prog.unfollowed 3)=true:=by kernel_rfl
theorem k12:(Rows.indexWholeRow.recurses==Tryz.prog.recurses 3)=true:=by kernel_rfl
theorem k13:(Rows.indexWholeRow.named==Tryz.prog.varsNamed 3)=true:=by kernel_rfl
theorem closed:joinedFacts Tryz.prog 3 Tryz.f3 Rows.indexWholeSpec Rows.indexWholeRow=true:=by
 unfold joinedFacts;rw [k10,k11,k12,k13];kernel_rfl
end Go.Proofs.YtdjfbnoolfpcnaaGreatDoor.indexWhole
