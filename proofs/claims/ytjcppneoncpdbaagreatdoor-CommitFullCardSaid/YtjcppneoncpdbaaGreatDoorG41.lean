import Derived.Deep.SlicePairs
import Derived.Test.YtjcppneoncpdbaaGreatDoorG12
import Derived.Test.YtjcppneoncpdbaaGreatDoorG40
set_option maxHeartbeats 32000000
set_option maxRecDepth 100000
namespace Go.Proofs.YtjcppneoncpdbaaGreatDoor
open Go.ChangeShapes Go.WideShapes Go.ChangeAt Go.RowKit
theorem XV{H:Type}{enc:TypeId×Value->H}{W:World}{v:Value}{x:DataW H×List MemPlace}{m:Nat}(hm:DataW.trod enc Tryz.prog W 0 (fun _=>true) true m 22 [v]=some x):
 ∃A c l,v= .slice A l.length c/\l.length<=maxLen/\l.length<=c/\(A=none->c=0)/\Rd W A (l.length*3) (EE l):=by
 rcases Go.Deep.open_slice Tryz.underlying22 hm with⟨hcs,_⟩| ⟨a,len,cap,m',n,D,Pl,hcs,_,hl,hc,hmm,_,hi⟩
 ·simp only [List.cons.injEq,and_true]at hcs;exact⟨none,0,[],hcs,by simp,Nat.le_refl _,fun _=>rfl,by simp [EE],fun h=>absurd h (by simp)⟩
 ·simp only [List.cons.injEq,and_true]at hcs;have hlm:len<=m':=by rw [hmm];simp;omega
  have ce:Tryz.prog.cellsOf 37=3:=by kernel_rfl
  have each:∀i,i<len->∃x:Wr,W.cell? (a.add (i*3))=some (.string x.key)/\W.cell? (a.add (i*3+1))=some (.string x.text)/\W.cell? (a.add (i*3+2))=some (.bool x.gone):=fun i hil=>by
   obtain⟨cs',g1,g2⟩:=hi i (by omega);rw [ce]at g1;obtain⟨_,hlen,hcell⟩:=World.cells?_some g1;obtain⟨xs,k,hk,hxy,_,hxl,hf⟩:=DataW.trod_struct Tryz.underlying37 g2
   match xs,hxl,cs',hlen with
   | [y0,y1,y2],_,[v0,v1,v2],_=>
     have f0:=hf 0 _ rfl;have f1:=hf 1 _ rfl;have f2:=hf 2 _ rfl;simp [show Tryz.prog.cellsOf 9=1 by kernel_rfl,show Tryz.prog.cellsOf 4=1 by kernel_rfl]at f0 f1 f2;obtain⟨s0,e0,_⟩:=DataW.trod_string Tryz.underlying9 f0;obtain⟨s1,e1,_⟩:=DataW.trod_string Tryz.underlying9 f1;obtain⟨s2,e2,_⟩:=DataW.trod_bool Tryz.underlying4 f2;simp only [List.cons.injEq,and_true]at e0 e1 e2;have q0:=hcell 0 (by omega);have q1:=hcell 1 (by omega);have q2:=hcell 2 (by omega);rw [Go.Deep.add_add]at q0 q1 q2;simp only [Nat.add_zero,List.getElem?_cons_zero,List.getElem?_cons_succ,e0,e1,e2]at q0 q1 q2;exact⟨⟨s0,s1,s2⟩,q0,q1,q2⟩
  obtain⟨l,hll,hle⟩:∃l:List Wr,l.length=len/\∀i(h:i<l.length),W.cell? (a.add (i*3))=some (.string l[i].key)/\W.cell? (a.add (i*3+1))=some (.string l[i].text)/\W.cell? (a.add (i*3+2))=some (.bool l[i].gone):=by
   refine⟨(List.range len).pmap (fun i hi=>(each i hi).choose) (fun i hi=>List.mem_range.1 hi),by simp,fun i hil=> ?_⟩;have Agi:i<len:=by simpa using hil
   have:=(each i Agi).choose_spec;simpa using this
  have hsp:0<len->a=⟨a.block,a.off,none⟩:=fun h0=>by
   have h2:=World.cell?_spot (hle 0 (by omega)).1;have h3:a.spot=none:=by simpa [Addr.add]using h2
   cases a
   simp only at h3;subst h3;rfl
  refine⟨some a,cap,l,by rw [hcs,hll],by omega,by omega,(fun e=>nomatch e),KJ l,fun h0=> ?_⟩;have ha:=hsp (by omega);have hlt:a.block<W.heap.size:=by
   have:=(hle 0 (by omega)).1;rw [Nat.zero_mul]at this;exact World.block_lt_of_cell? W _ (by simpa [Addr.add]using this)
  refine⟨a.block,a.off,by rw [<-ha],hlt,fun j hj=> ?_⟩;have hj2:j/3<l.length:=by omega
  obtain⟨q0,q1,q2⟩:=hle (j/3) hj2;have hf:=fun i(hi:i<3)=>flat_get yU 3 (fun _=>rfl) l (j/3) i hj2 hi
  rw [ha,Addr.add_lit]at q0 q1 q2;rcases(show j%3=0\/j%3=1\/j%3=2 by omega)with e| e| e
  ·have e2:j=j/3*3+0:=by omega
   have:=hf 0 (by decide);rw [<-e2]at this;rw [show(EE l)[j]? =_ from this];rw [show j/3*3=j by omega]at q0;exact q0
  ·have e2:j=j/3*3+1:=by omega
   have:=hf 1 (by decide);rw [<-e2]at this;rw [show(EE l)[j]? =_ from this];rw [<-e2]at q1;exact q1
  ·have e2:j=j/3*3+2:=by omega
   have:=hf 2 (by decide);rw [<-e2]at this;rw [show(EE l)[j]? =_ from this];rw [<-e2]at q2;exact q2
end Go.Proofs.YtjcppneoncpdbaaGreatDoor
