import Derived.RangeFuncNested
import Derived.RangeFuncBound
import Derived.RangeFuncCalls
import Derived.RangeFuncLeaves
import Derived.Shelf.Abstract
import Derived.Shelf.RegionOpen
import Derived.WalkKit
import Derived.OwnWalkIn
import Derived.TacticsInMore
import Derived.LoopNIn
import Derived.LoopIn
import Derived.Test.YtjcppneoncpdbaaGreatDoorG22
set_option maxHeartbeats 32000000
set_option maxRecDepth 100000
open List renaming prefix_refl->zI
open Go.World renaming cell?_of_block->Bl
open Go.Lib renaming hid->Aa
namespace Go.Proofs.YtjcppneoncpdbaaGreatDoor
open Go.RowKit
def Lu(w:World)(b:Nat):Prop:=∃o,w.heap[b]? =some o/\o.isCells=true
theorem cells_of_cell{w:World}{a:Addr}{v:Value}(h:w.cell? a=some v):Lu w a.block:=by
 unfold World.cell? at h;cases ho:w.heap[a.block]? with
 | none=>simp [ho]at h
 | some o=>
   refine⟨o,ho,?_⟩;cases o with
   | cells=>rfl
   | _=>simp [ho]at h
theorem Ib{w:World}{b:Nat}{e:TypeId}{xs:List Value}(h:BI w b e xs):Lu w b:=⟨_,h,rfl⟩
theorem cells_of_row{w:World}{base n k:Nat}{e:TypeId}{v:Value}{xs:List Value}(h:w.ownsRow base e k v n xs){b:Nat}(hb:v.ownBlock=some b):Lu w b:=by
 rcases h.2 with⟨h1,_⟩| ⟨g,cap,cur,h1,_,h3,_⟩
 ·subst h1;cases hb
 ·subst h1;simp only [Value.ownBlock,Option.some.injEq]at hb;subst hb;exact⟨_,h3,rfl⟩
theorem EL.cells{len:DX}{w:World}{d p L:Nat}{s:St}{F:Nat->Prop}(h:EL len w d p L s F){b:Nat}(hb:F b):Lu w b:=by
 obtain⟨tb,hbl,m,cT,cH,own,hr,hF⟩:=h;obtain⟨_,_,_,g,hbk,hd,ho⟩:=hr.dev.rep;rcases(hF b).1 hb with h1| rfl| rfl| rfl
 ·rcases(ho b).1 h1 with rfl| rfl| ⟨i,hi,h2⟩
  ·obtain⟨st,hbx⟩:=hd.box;exact Ib hbx
  ·obtain⟨cur,hg,_⟩:=hd.blk;exact⟨_,hg,rfl⟩
  ·obtain⟨cur,_,_,_,hc⟩:=hd.blk;obtain⟨A,c,_,_,hch⟩:=hc i hi;rcases hch with⟨h3,_⟩| ⟨hh,h3,hA,hrow⟩
   ·rw [h2]at h3;cases h3
   ·rw [h2]at h3;injection h3 with h3
    subst h3;exact cells_of_row hrow (by rw [hA];rfl)
 ·exact Ib hr.box
 ·obtain⟨cur,hc,_⟩:=hr.tk;exact⟨_,hc,rfl⟩
 ·obtain⟨cur,hc,_⟩:=hr.hd;exact⟨_,hc,rfl⟩
def VL:List TypeId:=[105,102,107,131,23]
theorem EL.type{len:DX}{w:World}{d p L:Nat}{s:St}{F:Nat->Prop}(h:EL len w d p L s F){b:Nat}(hb:F b):∃cur e fz,w.heap[b]? =some (.cells cur e fz)/\e∈VL:=by
 obtain⟨tb,hbl,m,cT,cH,own,hr,hF⟩:=h;obtain⟨_,_,_,g,hbk,hd,ho⟩:=hr.dev.rep;rcases(hF b).1 hb with h1| rfl| rfl| rfl
 ·rcases(ho b).1 h1 with rfl| rfl| ⟨i,hi,h2⟩
  ·obtain⟨st,hbx⟩:=hd.box;exact⟨_,_,_,hbx,by simp [VL]⟩
  ·obtain⟨cur,hg,_⟩:=hd.blk;exact⟨_,_,_,hg,by simp [VL]⟩
  ·obtain⟨cur,_,_,_,hc⟩:=hd.blk;obtain⟨A,c,_,_,hch⟩:=hc i hi;rcases hch with⟨h3,_⟩| ⟨hh,h3,hA,hrow⟩
   ·rw [h2]at h3;cases h3
   ·rw [h2]at h3;injection h3 with h3
    subst h3;rcases hrow.2 with⟨h4,_⟩| ⟨g4,cap,Aph,h4,_,h5,_⟩
    ·rw [hA]at h4;cases h4
    ·rw [hA]at h4;simp only [Value.slice.injEq,Option.some.injEq,Addr.mk.injEq,and_true]at h4;exact⟨_,_,_,h4.1▸h5,by simp [VL]⟩
 ·exact⟨_,_,_,hr.box,by simp [VL]⟩
 ·obtain⟨cur,hc,_⟩:=hr.tk;exact⟨_,_,_,hc,by simp [VL]⟩
 ·obtain⟨cur,hc,_⟩:=hr.hd;exact⟨_,_,_,hc,by simp [VL]⟩
theorem EL.eY{len:DX}{w:World}{d p L:Nat}{s:St}{F:Nat->Prop}(h:EL len w d p L s F){b:Nat}{e:TypeId}{xs:List Value}(hb:BI w b e xs)(he:e∉VL):¬F b:=fun hf=>by
 obtain⟨cur,e',fz,h1,h2⟩:=h.type hf;rw [show w.heap[b]? =_ from hb]at h1;injection h1 with h1
 injection h1 with _ h1 _
 exact he (h1▸h2)
theorem Tabs.cells{w:World}(h:Tabs w):Lu w 0/\Lu w 1:=
 ⟨cells_of_cell (h.fours 0 (by decide)),cells_of_cell (h.di 0 (by decide))⟩
section
variable{w w':World}{base jb x d p L:Nat}{s:St}{stamp:UInt64}{vs:Value}{l:List Wr}{ps:List (UInt64×UInt64)}{over:Bool}{en:Int}{F:Nat->Prop}{v:Value}{row:Option Nat}
theorem Kt(hg:w.grownBy w' row):Touch (fun b=>row=some b) w w':=Touch.Ub hg (fun _ e=>e)
theorem ES.abide{m0:DX}(h:ES m0 w base jb x d p L s stamp vs l ps over en F v)(hg:w.grownBy w' row)(hr:∀r,row=some r->¬Lu w r):ES m0 w' base jb x d p L s stamp vs l ps over en F v:=by
 have t:=Kt hg;have no:∀b,Lu w b->¬row=some b:=fun b hc e=>hr b e hc
 refine⟨⟨h.ix.sys.keep t (fun b hb=>no b (h.ix.sys.cells hb)) (no _ h.ix.sys.tabs.cells.1) (no _ h.ix.sys.tabs.cells.2),h.ix.box.touch t (no _ (Ib h.ix.box)),h.ix.out⟩,h.box.touch t (no _ (Ib h.box)),GY h.row t (fun b hb=>no b (cells_of_row h.row hb)),?_,h.fj,h.bj,h.bx,h.bt,h.mj,h.mF⟩;obtain⟨A,c,e,hc,hrd,hG⟩:=h.set;refine⟨A,c,e,hc,?_,hG⟩;by_cases hn:0<l.length*3
 ·refine Rd.touch hrd t (fun a ea=>no _ ?_);obtain⟨b,off,e2,_,hcl⟩:=hrd.2 hn;rw [ea]at e2;injection e2 with e2
  subst e2;have h0:=hcl 0 hn;rw [List.getElem?_eq_getElem (by rw [LH];exact hn)]at h0;exact cells_of_cell h0
 ·exact⟨hrd.1,fun h=>absurd h hn⟩
end
end Go.Proofs.YtjcppneoncpdbaaGreatDoor
namespace Go.Proofs.YtjcppneoncpdbaaGreatDoor
open Go.RowKit Go.Shelf
attribute [local go_sem]Oper.semAt_some
abbrev Below'(m:Nat):={i:Nat//i<m}
def EZ(m:Nat):Nat->List (Below' m)
 | 0=>[]
 | k+1=>EZ m k++(if h:k<m then [⟨m-1-k,by omega⟩]else [])
theorem NZ(m k:Nat)(h:k<m):EZ m (k+1)=EZ m k++[⟨m-1-k,by omega⟩]:=by
 rw [EZ,dif_pos h]
theorem Nz(m:Nat):∀k,k<=m->(EZ m k).length=k
 | 0,_=>rfl
 | k+1,h=>by rw [NZ m k (by omega),List.length_append,Nz m k (by omega)];rfl
theorem SX(m:Nat):∀k n,k<=n->EZ m k<+:EZ m n
 | k,0,h=>by rw [show k=0 by omega];exact zI _
 | k,n+1,h=>by
   by_cases e:k=n+1
   ·rw [e];exact zI _
   ·rw [EZ];exact(SX m k n (by omega)).trans (List.prefix_append _ _)
def kE(rb Bn:Nat)(W W':World):Prop:=W'.heap[rb]? =W.heap[rb]?/\W'.heap[Bn]? =W.heap[Bn]?
def Yx(q:UInt64×UInt64):Value:= .agg #[.int .u64 (q.1.toNat:Int),.int .u64 (q.2.toNat:Int)]
theorem Aez(F:Fence)(n:Nat)(hf:F.fn 143)(hro:F.round=none)(hn:1<=n)(Bn rb c:Nat)(A:Option Addr)(ps:List (UInt64×UInt64))(hps:ps.length<=100000)(hA:0<ps.length->A=some ⟨rb,0,none⟩)(w:World)
 (hB:w.cell? ⟨Bn,0,none⟩=some (.slice A ps.length c))(hr:∀i(h:i<ps.length),w.cell? ⟨rb,i*2,none⟩=some (.int .u64 (ps[i].1.toNat:Int))/\w.cell? ⟨rb,i*2+1,none⟩=some (.int .u64 (ps[i].2.toNat:Int)))(hrl:rb<w.heap.size):
 SeqStopsK F n Tryz.prog 143 #[.pointer (some ⟨Bn,0,none⟩)] (fun x:Below' ps.length=> #[.int .i64 (x.1:Int),Yx (ps[x.1]'x.2)]) (kE rb Bn) (fun xs=>xs=EZ ps.length ps.length) (fun pre=>pre<+:EZ ps.length ps.length) ps.length w:=fun l J Jx W hW hJ hJx hY h0=>by
 have hBl:=World.block_lt_of_cell? w _ hB;have kb:W.heap[Bn]? =w.heap[Bn]? :=hW.block Bn hBl;have kr:W.heap[rb]? =w.heap[rb]? :=hW.block rb hrl;have q1:∀W':World,W'.heap[Bn]? =W.heap[Bn]?->W'.cell? ⟨Bn,0,none⟩=some (.slice A ps.length c):=fun W' e=>(Bl (w:=w) (e.trans kb)).trans hB
 have q2:∀W':World,W'.heap[rb]? =W.heap[rb]?->∀i(h:i<ps.length),W'.cell? ⟨rb,i*2,none⟩=some (.int .u64 (ps[i].1.toNat:Int))/\W'.cell? ⟨rb,i*2+1,none⟩=some (.int .u64 (ps[i].2.toNat:Int)):=fun W' e i h=>⟨(Bl (w:=w) (e.trans kr)).trans (hr i h).1,(Bl (w:=w) (e.trans kr)).trans (hr i h).2⟩
 have Q1:=Aa q1;have Q2:=Aa q2;have HY:=Aa hY;have z0:=q1 W rfl;have e1:IntKind.i64.wrap ((ps.length:Int) -1)=(ps.length:Int) -1:=IntWalk.i64_in _ (by omega);clear hB hr hY kb kr q1 q2 hW;refine callsIn_of_wp Tryz.func143 rfl hf ?_ hro;simp only [Tryz.ntmps143,List.size_toArray,List.length_cons,List.length_nil,Nat.reduceAdd,Nat.reduceSub,Array.replicate_succ,Array.replicate_zero,List.push_toArray,List.append_toArray,List.nil_append,List.cons_append];gi_wp2
 gi_loopw [3](fun p wr=>∃k,k<=ps.length/\p= .int .i64 ((ps.length:Int) -1- (k:Int))/\J (EZ ps.length k) wr/\wr.heap[rb]? =W.heap[rb]?/\wr.heap[Bn]? =W.heap[Bn]?)(fun p _=>(intOf p+1).toNat)
 case atStart=>exact⟨0,Nat.zero_le _,by simp,h0,rfl,rfl⟩
 case round=>
  obtain⟨k,hk,rfl,hJk,g1,g2⟩:=hrel;by_cases hlt:k<ps.length
  ·have hkl:k<ps.length:=hlt;obtain rfl:=hA (by omega);obtain⟨j,hj⟩:∃j,j=ps.length-1-k:=⟨_,rfl⟩;have hjl:j<ps.length:=by omega
   have hp:((ps.length:Int) -1- (k:Int))=(j:Int):=by omega
   rw [hp];have hd:=Aa (NZ ps.length k hkl);obtain⟨fn,tmps,assign,body,hy,hR⟩:=HY.out (EZ ps.length k) ⟨j,hjl⟩ wr hJk (by rw [Nz _ _ (by omega)];exact hkl);have z1:=Q1.out wr g2;obtain⟨z2,z3⟩:=Q2.out wr g1 j hjl;have hx1:(j:Int)<(ps.length:Int):=by omega
   have hx2:decide ((j:Int)<(ps.length:Int))=true:=decide_eq_true hx1;have hx3:decide ((0:Int)<=(j:Int))=true:=decide_eq_true (by omega);have e2:IntKind.i64.wrap ((j:Int) -1)=(j:Int) -1:=IntWalk.i64_in _ (by omega);unfold Yx at hy
   dsimp only at hy
   generalize ps[j]=pj at*;have HJ:=Aa hj;clear hj;gi_wp2;refine hR.mono ?_;rintro e W3(⟨rfl,hJ3,hk3⟩| ⟨rfl,hJx3⟩)
   ·have Yf:Hid (J (EZ ps.length (k+1)) W3):=Aa (by
    rw [hd.out];have:(⟨ps.length-1-k,by omega⟩:Below' ps.length)=⟨j,hjl⟩:=Subtype.ext HJ.out.symm;rw [this];exact hJ3)
    have KG:=Aa hk3;clear hJ3 hk3;gi_wp2;go_roundw
    case rel=>exact⟨k+1,by omega,by have:=HJ.out;congr 1;omega,Yf.out,KG.out.1.trans g1,KG.out.2.trans g2⟩
    case measure=>have:=HJ.out;simp [intOf]
   ·have Yf:Hid (Jx (EZ ps.length (k+1)) W3):=Aa (by
    rw [hd.out];have:(⟨ps.length-1-k,by omega⟩:Below' ps.length)=⟨j,hjl⟩:=Subtype.ext HJ.out.symm;rw [this];exact hJx3)
    clear hJx3;gi_wp2;refine bodyPost_ret (results_none rfl _ _ _) rfl ?_;exact⟨⟨_,rfl⟩,.inr ⟨EZ ps.length (k+1),SX _ _ _ (by omega),Yf.out⟩⟩
  ·have zV:k=ps.length:=by omega
   rw [show((ps.length:Int) -1- (k:Int))= -1 by omega];have HJk:Hid (J (EZ ps.length ps.length) wr):=Aa (zV▸hJk);clear hJk zV;gi_wp2;go_end0;exact⟨⟨_,rfl⟩,.inl ⟨EZ ps.length ps.length,rfl,HJk.out⟩⟩
end Go.Proofs.YtjcppneoncpdbaaGreatDoor
