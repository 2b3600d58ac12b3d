import Derived.Deep.SlicePairs
import Derived.Test.YtbkpiojejmhfcaaGreatDoorG17
import Derived.Test.YtbkpiojejmhfcaaGreatDoorG35
namespace Go.Proofs.YtbkpiojejmhfcaaGreatDoor
open Go.ChangeShapes Go.WideShapes Go.ChangeAt Go.RowKit Go.Joins Go.Deep Go.WideElems Go.Maps
theorem array5{α:Type}{cs:Array α}(h:cs.size=5):∃c0 c1 c2 c3 c4,cs= #[c0,c1,c2,c3,c4]:=by
 obtain⟨l⟩:=cs
 match l,h with
 | [c0,c1,c2,c3,c4],_=>exact⟨c0,c1,c2,c3,c4,rfl⟩
theorem open_agg5{H:Type}{enc:TypeId×Value→H}{P:Program}{w:World}{base:Nat}{spare:Nat→Bool}{held:Bool}{r:Reach}{b0:Nat}{t:TypeId}{f0 f1 f2 f3 f4:Field}{v:Value}{d:DataW H}{p:List MemPlace}(hs:P.underlying t=some (.struct #[f0,f1,f2,f3,f4]))(hone:oneCellFields P #[f0,f1,f2,f3,f4]=true)(hC:P.cellsOf t=5)
 (hv:Value.okWide P w r b0 t v)(h:DataW.Trod enc P w base spare held t v d p):
 ∃(v0 v1 v2 v3 v4:Value)(y0 y1 y2 y3 y4:DataW H×List MemPlace)(n:Nat),v= .agg #[v0,v1,v2,v3,v4]∧
  DataW.trod enc P w base spare held n f0.type [v0]=some y0∧DataW.trod enc P w base spare held n f1.type [v1]=some y1∧DataW.trod enc P w base spare held n f2.type [v2]=some y2∧DataW.trod enc P w base spare held n f3.type [v3]=some y3∧DataW.trod enc P w base spare held n f4.type [v4]=some y4:=by
 obtain⟨cs,rfl,hsz⟩:=okWide_struct hs hv
 obtain⟨c0,c1,c2,c3,c4,rfl⟩:=array5 (hsz.trans hC)
 obtain⟨fuel,hf⟩:=h
 obtain⟨xs,n,_,_,hl,hlen,hf⟩:=DataW.trod_struct hs hf
 obtain⟨o0,k0⟩:=hone_of hone 0 f0 rfl
 obtain⟨o1,k1⟩:=hone_of hone 1 f1 rfl
 obtain⟨o2,k2⟩:=hone_of hone 2 f2 rfl
 obtain⟨o3,k3⟩:=hone_of hone 3 f3 rfl
 obtain⟨o4,k4⟩:=hone_of hone 4 f4 rfl
 have h0:=hf 0 f0 rfl
 have h1:=hf 1 f1 rfl
 have h2:=hf 2 f2 rfl
 have h3:=hf 3 f3 rfl
 have h4:=hf 4 f4 rfl
 match xs,hlen with
 | [y0,y1,y2,y3,y4],_=>exact⟨c0,c1,c2,c3,c4,y0,y1,y2,y3,y4,n,rfl,by simpa [Value.cells,o0,k0]using h0,by simpa [Value.cells,o1,k1]using h1,by simpa [Value.cells,o2,k2]using h2,by simpa [Value.cells,o3,k3]using h3,by simpa [Value.cells,o4,k4]using h4⟩
theorem prCs_len:∀(l:List Pr),(prCs l).length=l.length*2
 | []=>rfl
 | a::t=>by
   have:=prCs_len t
   simp only [prCs,List.map_cons,List.flatten_cons,List.length_append,List.length_cons]at this⊢
   rw [this];simp [prC];omega
theorem open_prs{H:Type}{enc:TypeId×Value→H}{W:World}{fuel:Nat}{v:Value}{y:DataW H×List MemPlace}(hm:DataW.trod enc Tryz.prog W 0 (fun _=>true) true fuel 84 [v]=some y):
 ∃A c l,v= .slice A l.length c∧l.length≤maxLen∧PrR W A l:=by
 rcases Go.Deep.open_slice_pairs Tryz.underlying84 Tryz.underlying164 (by kernel_rfl) rfl rfl (by kernel_rfl) (by kernel_rfl) hm with⟨hcs,_⟩| ⟨a,len,cap,m',n,V0,V1,D0,D1,P0,P1,hcs,_,hl,hc,hmm,_,hi⟩
 ·simp only [List.cons.injEq,and_true]at hcs
  exact⟨none,0,[],hcs,by simp,PrR.nil W⟩
 ·simp only [List.cons.injEq,and_true]at hcs
  have hlm:len≤m':=by rw [hmm];simp;omega
  have each:∀i,i<len→∃it:Pr,W.cell? (a.add (i*2))=some (.string it.key)∧W.cell? (a.add (i*2+1))=some (.string it.text):=fun i hil=>by
   obtain⟨g0,g1,k0,k1⟩:=hi i (by omega)
   obtain⟨s,e0,_⟩:=DataW.trod_string Tryz.underlying9 k0
   obtain⟨x,e1,_⟩:=DataW.trod_string Tryz.underlying9 k1
   simp only [List.cons.injEq,and_true]at e0 e1
   exact⟨⟨s,x⟩,by rw [g0,e0],by rw [g1,e1]⟩
  obtain⟨l,hll,hle⟩:∃l:List Pr,l.length=len∧∀i(h:i<l.length),W.cell? (a.add (i*2))=some (.string l[i].key)∧W.cell? (a.add (i*2+1))=some (.string l[i].text):=by
   refine⟨(List.range len).pmap (fun i hi=>(each i hi).choose) (fun i hi=>List.mem_range.1 hi),by simp,fun i hil=> ?_⟩
   have hil':i<len:=by simpa using hil
   have:=(each i hil').choose_spec
   simpa using this
  have hsp:0<len→a=⟨a.block,a.off,none⟩:=fun h0=>by
   have h2:=World.cell?_spot (hle 0 (by omega)).1
   have h3:a.spot=none:=by simpa [Addr.add]using h2
   cases a
   simp only at h3
   subst h3
   rfl
  refine⟨some a,cap,l,by rw [hcs,hll],by omega,prCs_len l,fun h0=> ?_⟩
  have ha:=hsp (by omega)
  have hlt:a.block<W.heap.size:=by
   have:=(hle 0 (by omega)).1
   rw [Nat.zero_mul]at this
   exact World.block_lt_of_cell? W _ (by simpa [Addr.add]using this)
  refine⟨a.block,a.off,by rw [←ha],hlt,fun j hj=> ?_⟩
  have hj2:j/2<l.length:=by omega
  obtain⟨q0,q1⟩:=hle (j/2) hj2
  rw [ha,Addr.add_lit]at q0 q1
  have f0:=flat_get prC 2 (fun _=>rfl) l (j/2) 0 hj2 (by decide)
  have f1:=flat_get prC 2 (fun _=>rfl) l (j/2) 1 hj2 (by decide)
  unfold prCs
  rcases Nat.mod_two_eq_zero_or_one j with e| e
  ·have e2:j=j/2*2:=by omega
   have e3:((l.map prC).flatten)[j]? =some (.string l[j/2].key):=by
    have:((l.map prC).flatten)[j/2*2+0]? =some (.string l[j/2].key):=f0
    rwa [Nat.add_zero,←e2]at this
   rw [e3,←q0,←e2]
  ·have e2:j=j/2*2+1:=by omega
   have e3:((l.map prC).flatten)[j]? =some (.string l[j/2].text):=by
    have:((l.map prC).flatten)[j/2*2+1]? =some (.string l[j/2].text):=f1
    rwa [←e2]at this
   rw [e3,←q1,←e2]
set_option maxRecDepth 100000 in
theorem open_answer{H:Type}{enc:TypeId×Value→H}{W:World}{v:Value}{d:DataW H}{p:List MemPlace}{r:Reach}{b0:Nat}(hv:Value.okWide Tryz.prog W r b0 88 v)(h:DataW.Trod enc Tryz.prog W 0 (fun _=>true) true 88 v d p):
 ∃(x:An)(A:Option Addr)(c:Nat),v= .agg #[.string x.text,.slice A x.pairs.length c,.int .i64 x.n,.bool x.done,.int .i64 x.e]∧x.pairs.length≤maxLen∧PrR W A x.pairs:=by
 obtain⟨c0,c1,c2,c3,c4,y0,y1,y2,y3,y4,m,hv0,g0,g1,g2,g3,g4⟩:=open_agg5 Tryz.underlying88 (by kernel_rfl) (by kernel_rfl) hv h
 obtain⟨s,e0,_⟩:=DataW.trod_string Tryz.underlying9 g0
 obtain⟨A,c,l,e1,hl,hr⟩:=open_prs g1
 obtain⟨n,e2,_⟩:=DataW.trod_int Tryz.underlying3 g2
 obtain⟨b,e3,_⟩:=DataW.trod_bool Tryz.underlying4 g3
 obtain⟨k,e4,_⟩:=DataW.trod_int Tryz.underlying3 g4
 simp only [List.cons.injEq,and_true]at e0 e2 e3 e4
 exact⟨⟨s,l,n,b,k⟩,A,c,by rw [hv0,e0,e1,e2,e3,e4],hl,hr⟩
end Go.Proofs.YtbkpiojejmhfcaaGreatDoor
