import Derived.Test.YtjcppneoncpdbaaGreatDoorRows
import Derived.ProofKit
import Derived.LaidMore
import Derived.OpenShut
import Derived.Stop.Joined
import Derived.ShutString
import Derived.ChangeOld
import Derived.Lib.SmallJoins
import Derived.Deep.SlicePairs
import Derived.Test.YtjcppneoncpdbaaGreatDoorG01
import Derived.Test.YtjcppneoncpdbaaGreatDoorG06
import Derived.Test.YtjcppneoncpdbaaGreatDoorG12
import Derived.Test.YtjcppneoncpdbaaGreatDoorG35
set_option maxHeartbeats 32000000
set_option maxRecDepth 100000
open List renaming getElem?_eq_getElem->Ag,getElem_map->MX,getD_eq_getElem?_getD->Bh,mem_range->DY
open Go.World renaming cell?_spot->zk,block_lt_of_cell?->Dq
namespace Go.Proofs.YtjcppneoncpdbaaGreatDoor
open Go.ChangeShapes Go.WideShapes Go.ChangeAt Go.RowKit
theorem aX{P:Program}{W:World}{n:String}{g t e len fuel:Nat}{q:IntKind}{cs:Array Value}{ns:List Int}{p:List MemPlace}(hg:P.globalNamed n=some g)(hv:W.var? P n=some cs)
 (hd:DataW.trod (fun _=>()) P W 0 (fun _=>true) false fuel t cs.toList=some (.agg (ns.map fun k=> .lit (.int q k)),p))(ht:P.underlying t=some (.array len e))(he:P.underlying e=some (.int q))(h1:P.cellsOf e=1)(hn:ns.length=len):
 ∀j(h:j<ns.length),W.cell? ⟨g,j,none⟩=some (.int q ns[j]):=by
 intro j hj;obtain⟨xs,m,_,hx,_,hxl,hel⟩:=DataW.trod_array ht hd;have h2:=hel j (by omega);rw [h1,Nat.mul_one,Ag (by omega)]at h2;obtain⟨k,e1,e2,_⟩:=DataW.trod_int he h2;simp only [Prod.mk.injEq,DataW.agg.injEq]at hx;have e3:=congrArg (fun l=>l[j]?) hx.1;simp only [List.getElem?_map,Ag hj,Ag (show j<xs.length by omega),Option.map_some,Option.some.injEq,e2]at e3;injection e3 with e3
 injection e3 with _ e3
 rw [World.var?_cell hg hv j,<-Array.getElem?_toList,e3];have e4:=congrArg (fun l=>l[0]?) e1;simpa using e4
def laid2:List (String×DataW Unit):=Rows.commitArgsRow.laid
theorem gy{W:World}(h:laidMetH Tryz.prog laid2 W):Tabs W:=by
 rw [MakeChecks.laidMetH_plain _ _ _ (by kernel_rfl)]at h;obtain⟨ps,⟨g0,t0,cs0,f0,p0,q0,hg0,ht0,hv0,hd0,⟨g1,t1,cs1,f1,p1,q1,hg1,ht1,hv1,hd1,_,_⟩,_⟩,_,_⟩:=h;obtain rfl:=Option.some.inj ((by kernel_rfl:_=some 1).symm.trans hg0);obtain rfl:=Option.some.inj ((by kernel_rfl:_=some 0).symm.trans hg1);obtain rfl:=Option.some.inj ((by kernel_rfl:_=some 99).symm.trans ht0);obtain rfl:=Option.some.inj ((by kernel_rfl:_=some 286).symm.trans ht1);have c8:Tryz.prog.cellsOf 5=1:=by kernel_rfl
 have c32:Tryz.prog.cellsOf 207=1:=by kernel_rfl
 have hb:=aX (q:= .u8) (ns:=Lib.deBruijn64tab.map Int.ofNat) hg0 hv0 hd0 Tryz.underlying99 Tryz.underlying5 c8 rfl;have hf:=aX (q:= .u32) (ns:=KJ.map Int.ofNat) hg1 hv1 hd1 Tryz.underlying286 Tryz.underlying207 c32 rfl;refine⟨fun j hj=> ?_,fun j hj=> ?_⟩
 ·have hj':j<KJ.length:=hj;rw [hf j (by simpa using hj'),MX,Bh,Ag hj'];rfl
 ·have hj':j<Lib.deBruijn64tab.length:=hj;rw [hb j (by simpa using hj'),MX,Bh,Ag hj'];rfl
theorem door_met(os:Os)(args:Array Value):laidMetH Tryz.prog laid2 ((World.doorLaid Tryz.prog 400 os).forCall (fun _ _=>0) ⟨#[],args,[]⟩).memory:=
 laidMetH_of_parts3 (fuel:=8) (laidMet_of_run' 8 (by kernel_rfl) (by kernel_rfl)) (by kernel_rfl) (by kernel_rfl)
end Go.Proofs.YtjcppneoncpdbaaGreatDoor
namespace Go.Proofs.YtjcppneoncpdbaaGreatDoor
open Go.ChangeShapes Go.WideShapes Go.ChangeAt Go.RowKit
end Go.Proofs.YtjcppneoncpdbaaGreatDoor
namespace Go.Proofs.YtjcppneoncpdbaaGreatDoor
open Go.ChangeShapes Go.WideShapes Go.ChangeAt Go.RowKit
theorem YF{H:Type}{enc:TypeId×Value->H}{W:World}{v:Value}{x:DataW H×List MemPlace}{m:Nat}(hm:DataW.trod enc Tryz.prog W 0 (fun _=>true) true m 22 [v]=some x):
 ∃A c l,v= .slice A l.length c/\l.length<=maxLen/\l.length<=c/\(A=none->c=0)/\Rd W A (l.length*3) (Fb l):=by
 rcases Go.Deep.open_slice Tryz.underlying22 hm with⟨hcs,_⟩| ⟨a,len,cap,m',n,D,Pl,hcs,_,hl,hc,hmm,_,hi⟩
 ·simp only [List.cons.injEq,and_true]at hcs;exact⟨none,0,[],hcs,by simp,Nat.le_refl _,fun _=>rfl,by simp [Fb],fun h=>absurd h (by simp)⟩
 ·simp only [List.cons.injEq,and_true]at hcs;have hlm:len<=m':=by rw [hmm];simp;omega
  have ce:Tryz.prog.cellsOf 37=3:=by kernel_rfl
  have each:∀i,i<len->∃x:Wr,W.cell? (a.add (i*3))=some (.string x.key)/\W.cell? (a.add (i*3+1))=some (.string x.text)/\W.cell? (a.add (i*3+2))=some (.bool x.gone):=fun i hil=>by
   obtain⟨cs',g1,g2⟩:=hi i (by omega);rw [ce]at g1;obtain⟨_,hlen,hcell⟩:=World.cells?_some g1;obtain⟨xs,k,hk,hxy,_,hxl,hf⟩:=DataW.trod_struct Tryz.underlying37 g2
   match xs,hxl,cs',hlen with
   | [y0,y1,y2],_,[v0,v1,v2],_=>
     have f0:=hf 0 _ rfl;have f1:=hf 1 _ rfl;have f2:=hf 2 _ rfl;simp [show Tryz.prog.cellsOf 9=1 by kernel_rfl,show Tryz.prog.cellsOf 4=1 by kernel_rfl]at f0 f1 f2;obtain⟨s0,e0,_⟩:=DataW.trod_string Tryz.underlying9 f0;obtain⟨s1,e1,_⟩:=DataW.trod_string Tryz.underlying9 f1;obtain⟨s2,e2,_⟩:=DataW.trod_bool Tryz.underlying4 f2;simp only [List.cons.injEq,and_true]at e0 e1 e2;have q0:=hcell 0 (by omega);have q1:=hcell 1 (by omega);have q2:=hcell 2 (by omega);rw [Go.Deep.add_add]at q0 q1 q2;simp only [Nat.add_zero,List.getElem?_cons_zero,List.getElem?_cons_succ,e0,e1,e2]at q0 q1 q2;exact⟨⟨s0,s1,s2⟩,q0,q1,q2⟩
  obtain⟨l,hll,hle⟩:∃l:List Wr,l.length=len/\∀i(h:i<l.length),W.cell? (a.add (i*3))=some (.string l[i].key)/\W.cell? (a.add (i*3+1))=some (.string l[i].text)/\W.cell? (a.add (i*3+2))=some (.bool l[i].gone):=by
   refine⟨(List.range len).pmap (fun i hi=>(each i hi).choose) (fun i hi=>DY.1 hi),by simp,fun i hil=> ?_⟩;have Aiw:i<len:=by simpa using hil
   have:=(each i Aiw).choose_spec;simpa using this
  have hsp:0<len->a=⟨a.block,a.off,none⟩:=fun h0=>by
   have h2:=zk (hle 0 (by omega)).1;have h3:a.spot=none:=by simpa [Addr.add]using h2
   cases a
   simp only at h3;subst h3;rfl
  refine⟨some a,cap,l,by rw [hcs,hll],by omega,by omega,(fun e=>nomatch e),LH l,fun h0=> ?_⟩;have ha:=hsp (by omega);have hlt:a.block<W.heap.size:=by
   have:=(hle 0 (by omega)).1;rw [Nat.zero_mul]at this;exact Dq W _ (by simpa [Addr.add]using this)
  refine⟨a.block,a.off,by rw [<-ha],hlt,fun j hj=> ?_⟩;have hj2:j/3<l.length:=by omega
  obtain⟨q0,q1,q2⟩:=hle (j/3) hj2;have hf:=fun i(hi:i<3)=>flat_get wrC 3 (fun _=>rfl) l (j/3) i hj2 hi
  rw [ha,Addr.add_lit]at q0 q1 q2;rcases(show j%3=0\/j%3=1\/j%3=2 by omega)with e| e| e
  ·have e2:j=j/3*3+0:=by omega
   have:=hf 0 (by decide);rw [<-e2]at this;rw [show(Fb l)[j]? =_ from this];rw [show j/3*3=j by omega]at q0;exact q0
  ·have e2:j=j/3*3+1:=by omega
   have:=hf 1 (by decide);rw [<-e2]at this;rw [show(Fb l)[j]? =_ from this];rw [<-e2]at q1;exact q1
  ·have e2:j=j/3*3+2:=by omega
   have:=hf 2 (by decide);rw [<-e2]at this;rw [show(Fb l)[j]? =_ from this];rw [<-e2]at q2;exact q2
end Go.Proofs.YtjcppneoncpdbaaGreatDoor
namespace Go.Proofs.YtjcppneoncpdbaaGreatDoor
open Go.ChangeShapes Go.WideShapes Go.ChangeAt Go.RowKit
theorem Aix{a:Int}(h:(Lit.int .u8 a).wf=true):∃n:Nat,a=(n:Int)/\n<256:=by
 have hb:0<=a/\a<=255:=by simpa [Lit.wf,IntKind.min,IntKind.max,IntKind.bits,IntKind.signed]using h
 exact⟨a.toNat,by omega,by omega⟩
theorem sG{H:Type}{enc:TypeId×Value->H}{W:World}{v:Value}{d:DataW H}{p:List MemPlace}(h:DataW.Trod enc Tryz.prog W 0 (fun _=>true) true 51 v d p)(h1:v.cells.toList=[v]):
 ∃A c l,v= .slice A l.length c/\l.length<=maxLen/\Vr W A l:=by
 obtain⟨m,hm⟩:=h;rw [h1]at hm;rcases Go.Deep.open_slice1 Tryz.underlying51 (by kernel_rfl) hm with⟨hcs,_⟩| ⟨a,len,cap,m',n,V,D,Pl,hcs,_,hl,hc,hmm,_,hi⟩
 ·simp only [List.cons.injEq,and_true]at hcs;exact⟨none,0,[],hcs,by simp,fun i h=>absurd h (by simp)⟩
 ·simp only [List.cons.injEq,and_true]at hcs;have hlm:len<=m':=by rw [hmm];simp;omega
  have each:∀i,i<len->∃x:List Wr,∃Ai ci,W.cell? (a.add i)=some (.slice Ai x.length ci)/\x.length<=maxLen/\Rd W Ai (x.length*3) (Fb x):=fun i hil=>by
   obtain⟨g1,g2⟩:=hi i (by omega);obtain⟨A,c,x,e,e1,_,_,e2⟩:=YF g2;exact⟨x,A,c,by rw [g1,e],e1,e2⟩
  obtain⟨l,hll,hle⟩:∃l:List (List Wr),l.length=len/\∀i(h:i<l.length),∃Ai ci,W.cell? (a.add i)=some (.slice Ai l[i].length ci)/\l[i].length<=maxLen/\Rd W Ai (l[i].length*3) (Fb l[i]):=by
   refine⟨(List.range len).pmap (fun i hi=>(each i hi).choose) (fun i hi=>DY.1 hi),by simp,fun i hil=> ?_⟩;have Aiw:i<len:=by simpa using hil
   have:=(each i Aiw).choose_spec;simpa using this
  refine⟨some a,cap,l,by rw [hcs,hll],by omega,fun i hil=> ?_⟩;obtain⟨Ai,ci,q0,q1,q2⟩:=hle i hil;obtain⟨_,_,q9,_,_⟩:=hle 0 (by omega);have h2:=zk q9;have h3:a.spot=none:=by simpa [Addr.add]using h2
  cases a
  simp only at h3;subst h3;rw [Addr.add_lit]at q0;exact⟨_,_,Ai,ci,rfl,Dq W _ q0,q0,q1,q2⟩
end Go.Proofs.YtjcppneoncpdbaaGreatDoor
