import Derived.Deep.SlicePairs
import Derived.Test.YtkimaejoeapmnaaGreatDoorH42
import Derived.Test.YtkimaejoeapmnaaGreatDoorH50
set_option linter.defProp false
set_option maxHeartbeats 32000000
set_option maxRecDepth 100000
open List renaming mem_range->Dy
open Go.World renaming cell?_spot->Ae4,block_lt_of_cell?->D6
namespace Go.Proofs.YtkimaejoeapmnaaGreatDoor
open Go.Proofs.Tryz
open Go.ChangeShapes Go.WideShapes Go.ChangeAt Go.RowKit
def bU{H:Type}{enc:TypeId×Value->H}{W:World}{v:Value}{x:DataW H×List MemPlace}{m:Nat}(hm:DataW.trod enc prog W 0 (λ_=>true) true m 113 [v]=some x):
 ∃A c l,v= .slice A l.length c/\l.length<=maxLen/\l.length<=c/\(A=none->c=0)/\Rd W A (l.length*3) (FQ l):=by
 rcases Go.Deep.open_slice underlying113 hm with⟨hcs,_⟩| ⟨a,len,cap,m',n,D,Pl,hcs,_,hl,hc,hmm,_,hi⟩
 ·simp only [List.cons.injEq,and_true]at hcs;exact⟨none,0,[],hcs,by simp,Nat.le_refl _,λ_=>rfl,by simp [FQ],λh=>absurd h Θ⟩
 ·simp only [List.cons.injEq,and_true]at hcs;have hlm:len<=m':=by rw [hmm];simp;omega
  have ce:prog.cellsOf 115=3:=by kernel_rfl
  have each:∀i,i<len->∃x:Wr,W.cell? (a.add (i*3))=some (.string x.key)/\W.cell? (a.add (i*3+1))=some (.string x.text)/\W.cell? (a.add (i*3+2))=some (.bool x.gone):=λi hil=>by
   obtain⟨cs',g1,g2⟩:=hi i O;rw [ce]at g1;obtain⟨_,hlen,hcell⟩:=World.cells?_some g1;obtain⟨xs,k,hk,hxy,_,hxl,hf⟩:=DataW.trod_struct underlying115 g2
   match xs,hxl,cs',hlen with
   | [y0,y1,y2],_,[v0,v1,v2],_=>
     have f0:=hf 0 _ rfl;have f1:=hf 1 _ rfl;have f2:=hf 2 _ rfl;simp [show prog.cellsOf 9=1 by kernel_rfl,show prog.cellsOf 4=1 by kernel_rfl]at f0 f1 f2;obtain⟨s0,e0,_⟩:=DataW.trod_string underlying9 f0;obtain⟨s1,e1,_⟩:=DataW.trod_string underlying9 f1;obtain⟨s2,e2,_⟩:=DataW.trod_bool underlying4 f2;simp only [List.cons.injEq,and_true]at e0 e1 e2;have q0:=hcell 0 O;have q1:=hcell 1 O;have q2:=hcell 2 O;rw [Go.Deep.add_add]at q0 q1 q2;simp only [Nat.add_zero,List.getElem?_cons_zero,List.getElem?_cons_succ,e0,e1,e2]at q0 q1 q2;exact⟨⟨s0,s1,s2⟩,q0,q1,q2⟩
  obtain⟨l,hll,hle⟩:∃l:List Wr,l.length=len/\∀i(h:i<l.length),W.cell? (a.add (i*3))=some (.string l[i].key)/\W.cell? (a.add (i*3+1))=some (.string l[i].text)/\W.cell? (a.add (i*3+2))=some (.bool l[i].gone):=by
   refine⟨(List.range len).pmap (λi hi=>(each i hi).choose) (λi hi=>Dy.1 hi),by simp,λi hil=> ?_⟩;have Ap8:i<len:=by simpa using hil
   have:=(each i Ap8).choose_spec;simpa using this
  have hsp:0<len->a=(Δ a.block a.off):=λh0=>by
   have h2:=Ae4 (hle 0 O).1;have h3:a.spot=none:=by simpa [Addr.add]using h2
   cases a
   simp only at h3;subst h3;rfl
  refine⟨some a,cap,l,by rw [hcs,hll],O,O,(λe=>nomatch e),MO l,λh0=> ?_⟩;have ha:=hsp O;have hlt:a.block<W.heap.size:=by
   have:=(hle 0 O).1;rw [Nat.zero_mul]at this;exact D6 W _ (by simpa [Addr.add]using this)
  refine⟨a.block,a.off,by rw [<-ha],hlt,λj hj=> ?_⟩;have hj2:j/3<l.length:=O
  obtain⟨q0,q1,q2⟩:=hle (j/3) hj2;have hf:=λi(hi:i<3)=>flat_get wrC 3 (λ_=>rfl) l (j/3) i hj2 hi
  rw [ha,Addr.add_lit]at q0 q1 q2;rcases(show j%3=0\/j%3=1\/j%3=2 by omega)with e| e| e
  ·have e2:j=j/3*3+0:=O
   have:=hf 0 U;rw [<-e2]at this;rw [show(FQ l)[j]? =_ from this];rw [show j/3*3=j by omega]at q0;exact q0
  ·have e2:j=j/3*3+1:=O
   have:=hf 1 U;rw [<-e2]at this;rw [show(FQ l)[j]? =_ from this];rw [<-e2]at q1;exact q1
  ·have e2:j=j/3*3+2:=O
   have:=hf 2 U;rw [<-e2]at this;rw [show(FQ l)[j]? =_ from this];rw [<-e2]at q2;exact q2
end Go.Proofs.YtkimaejoeapmnaaGreatDoor
namespace Go.Proofs.YtkimaejoeapmnaaGreatDoor
open Go.Proofs.Tryz
open Go.ChangeShapes Go.WideShapes Go.ChangeAt Go.RowKit
def Ap9{a:Int}(h:(Lit.int .u8 a).wf=true):∃n:Nat,a=(n:Int)/\n<256:=by
 have hb:0<=a/\a<=255:=by simpa [Lit.wf,IntKind.min,IntKind.max,IntKind.bits,IntKind.signed]using h
 exact⟨a.toNat,O,O⟩
def zq{H:Type}{enc:TypeId×Value->H}{W:World}{v:Value}{d:DataW H}{p:List MemPlace}(h:DataW.Trod enc prog W 0 (λ_=>true) true 44 v d p)(h1:v.cells.toList=[v]):
 ∃A c l,v= .slice A l.length c/\l.length<=maxLen/\Xo W A l:=by
 obtain⟨m,hm⟩:=h;rw [h1]at hm;rcases Go.Deep.open_slice1 underlying44 Γ hm with⟨hcs,_⟩| ⟨a,len,cap,m',n,V,D,Pl,hcs,_,hl,hc,hmm,_,hi⟩
 ·simp only [List.cons.injEq,and_true]at hcs;exact⟨none,0,[],hcs,by simp,λi h=>absurd h Θ⟩
 ·simp only [List.cons.injEq,and_true]at hcs;have hlm:len<=m':=by rw [hmm];simp;omega
  have each:∀i,i<len->∃x:List Wr,∃Ai ci,W.cell? (a.add i)=some (.slice Ai x.length ci)/\x.length<=maxLen/\Rd W Ai (x.length*3) (FQ x):=λi hil=>by
   obtain⟨g1,g2⟩:=hi i O;obtain⟨A,c,x,e,e1,_,_,e2⟩:=bU g2;exact⟨x,A,c,by rw [g1,e],e1,e2⟩
  obtain⟨l,hll,hle⟩:∃l:List (List Wr),l.length=len/\∀i(h:i<l.length),∃Ai ci,W.cell? (a.add i)=some (.slice Ai l[i].length ci)/\l[i].length<=maxLen/\Rd W Ai (l[i].length*3) (FQ l[i]):=by
   refine⟨(List.range len).pmap (λi hi=>(each i hi).choose) (λi hi=>Dy.1 hi),by simp,λi hil=> ?_⟩;have Ap8:i<len:=by simpa using hil
   have:=(each i Ap8).choose_spec;simpa using this
  refine⟨some a,cap,l,by rw [hcs,hll],O,λi hil=> ?_⟩;obtain⟨Ai,ci,q0,q1,q2⟩:=hle i hil;obtain⟨_,_,q9,_,_⟩:=hle 0 O;have h2:=Ae4 q9;have h3:a.spot=none:=by simpa [Addr.add]using h2
  cases a
  simp only at h3;subst h3;rw [Addr.add_lit]at q0;exact⟨_,_,Ai,ci,rfl,D6 W _ q0,q0,q1,q2⟩
