import Derived.Test.YtjcppneoncpdbaaGreatDoorG35
import Derived.Test.YtjcppneoncpdbaaGreatDoorG41
set_option maxHeartbeats 32000000
set_option maxRecDepth 100000
namespace Go.Proofs.YtjcppneoncpdbaaGreatDoor
open Go.ChangeShapes Go.WideShapes Go.ChangeAt Go.RowKit
theorem Agj{a:Int}(h:(Lit.int .u8 a).wf=true):∃n:Nat,a=(n:Int)/\n<256:=by
 have hb:0<=a/\a<=255:=by simpa [Lit.wf,IntKind.min,IntKind.max,IntKind.bits,IntKind.signed]using h
 exact⟨a.toNat,by omega,by omega⟩
theorem oU{H:Type}{enc:TypeId×Value->H}{W:World}{v:Value}{d:DataW H}{p:List MemPlace}(h:DataW.Trod enc Tryz.prog W 0 (fun _=>true) true 51 v d p)(h1:v.cells.toList=[v]):
 ∃A c l,v= .slice A l.length c/\l.length<=maxLen/\U4 W A l:=by
 obtain⟨m,hm⟩:=h;rw [h1]at hm;rcases Go.Deep.open_slice1 Tryz.underlying51 (by kernel_rfl) hm with⟨hcs,_⟩| ⟨a,len,cap,m',n,V,D,Pl,hcs,_,hl,hc,hmm,_,hi⟩
 ·simp only [List.cons.injEq,and_true]at hcs;exact⟨none,0,[],hcs,by simp,fun i h=>absurd h (by simp)⟩
 ·simp only [List.cons.injEq,and_true]at hcs;have hlm:len<=m':=by rw [hmm];simp;omega
  have each:∀i,i<len->∃x:List Wr,∃Ai ci,W.cell? (a.add i)=some (.slice Ai x.length ci)/\x.length<=maxLen/\Rd W Ai (x.length*3) (EE x):=fun i hil=>by
   obtain⟨g1,g2⟩:=hi i (by omega);obtain⟨A,c,x,e,e1,_,_,e2⟩:=XV g2;exact⟨x,A,c,by rw [g1,e],e1,e2⟩
  obtain⟨l,hll,hle⟩:∃l:List (List Wr),l.length=len/\∀i(h:i<l.length),∃Ai ci,W.cell? (a.add i)=some (.slice Ai l[i].length ci)/\l[i].length<=maxLen/\Rd W Ai (l[i].length*3) (EE l[i]):=by
   refine⟨(List.range len).pmap (fun i hi=>(each i hi).choose) (fun i hi=>List.mem_range.1 hi),by simp,fun i hil=> ?_⟩;have Agi:i<len:=by simpa using hil
   have:=(each i Agi).choose_spec;simpa using this
  refine⟨some a,cap,l,by rw [hcs,hll],by omega,fun i hil=> ?_⟩;obtain⟨Ai,ci,q0,q1,q2⟩:=hle i hil;obtain⟨_,_,q9,_,_⟩:=hle 0 (by omega);have h2:=World.cell?_spot q9;have h3:a.spot=none:=by simpa [Addr.add]using h2
  cases a
  simp only at h3;subst h3;rw [Addr.add_lit]at q0;exact⟨_,_,Ai,ci,rfl,World.block_lt_of_cell? W _ q0,q0,q1,q2⟩
end Go.Proofs.YtjcppneoncpdbaaGreatDoor
