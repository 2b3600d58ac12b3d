import Derived.RangeFuncNested
import Derived.RangeFuncBound
import Derived.Shelf.RegionOpen
import Derived.OwnWalkIn
import Derived.LoopNIn
import Derived.LoopIn
import Derived.Test.YtkimaejoeapmnaaGreatDoorH28
set_option linter.defProp false
set_option maxHeartbeats 32000000
set_option maxRecDepth 100000
open List renaming prefix_refl->Ae7
open Go.World renaming cell?_of_block->BA
open Go.Lib renaming hid->Aa
namespace Go.Proofs.YtkimaejoeapmnaaGreatDoor
open Go.RowKit
open Go.Proofs.Tryz
def MG(w:World)(b:Nat):Prop:=∃o,w.heap[b]? =some o/\o.isCells=true
def cells_of_cell{w:World}{a:Addr}{v:Value}(h:w.cell? a=some v):MG w a.block:=by
 unfold World.cell? at h;cases ho:w.heap[a.block]? with
 | none=>simp [ho]at h
 | some o=>
   refine⟨o,ho,?_⟩;cases o with
   | cells=>rfl
   | _=>simp [ho]at h
def I7{w:World}{b:Nat}{e:TypeId}{xs:List Value}(h:CS w b e xs):MG w b:=⟨_,h,rfl⟩
def cells_of_row{w:World}{base n k:Nat}{e:TypeId}{v:Value}{xs:List Value}(h:w.ownsRow base e k v n xs){b:Nat}(hb:v.ownBlock=some b):MG w b:=by
 rcases h.2 with⟨h1,_⟩| ⟨g,cap,cur,h1,_,h3,_⟩
 ·subst h1;cases hb
 ·subst h1;simp only [Value.ownBlock,Option.some.injEq]at hb;subst hb;exact⟨_,h3,rfl⟩
def Ew.cells{len:DY}{w:World}{d p L:Nat}{s:St}{F:Nat->Prop}(h:Ew len w d p L s F){b:Nat}(hb:F b):MG w b:=by
 obtain⟨tb,hbl,m,cT,cH,own,hr,hF⟩:=h;obtain⟨_,_,_,g,hbk,hd,ho⟩:=hr.dev.rep;rcases(hF b).1 hb with h1| rfl| rfl| rfl
 ·rcases(ho b).1 h1 with rfl| rfl| ⟨i,hi,h2⟩
  ·obtain⟨st,hbx⟩:=hd.box;exact I7 hbx
  ·obtain⟨cur,hg,_⟩:=hd.blk;exact⟨_,hg,rfl⟩
  ·obtain⟨cur,_,_,_,hc⟩:=hd.blk;obtain⟨A,c,_,_,hch⟩:=hc i hi;rcases hch with⟨h3,_⟩| ⟨hh,h3,hA,hrow⟩
   ·rw [h2]at h3;cases h3
   ·rw [h2]at h3;injection h3 with h3
    subst h3;exact cells_of_row hrow (by rw [hA];rfl)
 ·exact I7 hr.box
 ·obtain⟨cur,hc,_⟩:=hr.tk;exact⟨_,hc,rfl⟩
 ·obtain⟨cur,hc,_⟩:=hr.hd;exact⟨_,hc,rfl⟩
def XJ:List TypeId:=[78,82,204,127,28]
def Ew.type{len:DY}{w:World}{d p L:Nat}{s:St}{F:Nat->Prop}(h:Ew len w d p L s F){b:Nat}(hb:F b):∃cur e fz,w.heap[b]? =some (.cells cur e fz)/\e∈XJ:=by
 obtain⟨tb,hbl,m,cT,cH,own,hr,hF⟩:=h;obtain⟨_,_,_,g,hbk,hd,ho⟩:=hr.dev.rep;rcases(hF b).1 hb with h1| rfl| rfl| rfl
 ·rcases(ho b).1 h1 with rfl| rfl| ⟨i,hi,h2⟩
  ·obtain⟨st,hbx⟩:=hd.box;exact⟨_,_,_,hbx,by simp [XJ]⟩
  ·obtain⟨cur,hg,_⟩:=hd.blk;exact⟨_,_,_,hg,by simp [XJ]⟩
  ·obtain⟨cur,_,_,_,hc⟩:=hd.blk;obtain⟨A,c,_,_,hch⟩:=hc i hi;rcases hch with⟨h3,_⟩| ⟨hh,h3,hA,hrow⟩
   ·rw [h2]at h3;cases h3
   ·rw [h2]at h3;injection h3 with h3
    subst h3;rcases hrow.2 with⟨h4,_⟩| ⟨g4,cap,Axo,h4,_,h5,_⟩
    ·rw [hA]at h4;cases h4
    ·rw [hA]at h4;simp only [Value.slice.injEq,Option.some.injEq,Addr.mk.injEq,and_true]at h4;exact⟨_,_,_,h4.1▸h5,by simp [XJ]⟩
 ·exact⟨_,_,_,hr.box,by simp [XJ]⟩
 ·obtain⟨cur,hc,_⟩:=hr.tk;exact⟨_,_,_,hc,by simp [XJ]⟩
 ·obtain⟨cur,hc,_⟩:=hr.hd;exact⟨_,_,_,hc,by simp [XJ]⟩
def Ew.lq{len:DY}{w:World}{d p L:Nat}{s:St}{F:Nat->Prop}(h:Ew len w d p L s F){b:Nat}{e:TypeId}{xs:List Value}(hb:CS w b e xs)(he:e∉XJ):¬F b:=λhf=>by
 obtain⟨cur,e',fz,h1,h2⟩:=h.type hf;rw [show w.heap[b]? =_ from hb]at h1;injection h1 with h1
 injection h1 with _ h1 _
 exact he (h1▸h2)
def Tabs.cells{w:World}(h:Tabs w):MG w 0/\MG w 1:=
 ⟨cells_of_cell (h.fours 0 U),cells_of_cell (h.jQ 0 U)⟩
section
variable{w w':World}{base jb x d p L:Nat}{s:St}{stamp:UInt64}{vs:Value}{l:List Wr}{ps:List (UInt64×UInt64)}{over:Bool}{en:Int}{F:Nat->Prop}{v:Value}{row:Option Nat}
def KQ(hg:w.grownBy w' row):Touch (λb=>row=some b) w w':=Touch.Vr hg (λ_ e=>e)
def Fz.abide{m0:DY}(h:Fz m0 w base jb x d p L s stamp vs l ps over en F v)(hg:w.grownBy w' row)(hr:∀r,row=some r->¬MG w r):Fz m0 w' base jb x d p L s stamp vs l ps over en F v:=by
 have t:=KQ hg;have no:∀b,MG w b->¬row=some b:=λb hc e=>hr b e hc
 refine⟨⟨h.ix.sys.keep t (λb hb=>no b (h.ix.sys.cells hb)) (no _ h.ix.sys.tabs.cells.1) (no _ h.ix.sys.tabs.cells.2),h.ix.box.touch t (no _ (I7 h.ix.box)),h.ix.out⟩,h.box.touch t (no _ (I7 h.box)),Ie h.row t (λb hb=>no b (cells_of_row h.row hb)),?_,h.fj,h.bj,h.bx,h.bt,h.mj,h.mF⟩;obtain⟨A,c,e,hc,hrd,hG⟩:=h.set;refine⟨A,c,e,hc,?_,hG⟩;by_cases hn:0<l.length*3
 ·refine Rd.touch hrd t (λa ea=>no _ ?_);obtain⟨b,off,e2,_,hcl⟩:=hrd.2 hn;rw [ea]at e2;injection e2 with e2
  subst e2;have h0:=hcl 0 hn;rw [List.getElem?_eq_getElem (by rw [MO];exact hn)]at h0;exact cells_of_cell h0
 ·exact⟨hrd.1,λh=>absurd h hn⟩
end
end Go.Proofs.YtkimaejoeapmnaaGreatDoor
namespace Go.Proofs.YtkimaejoeapmnaaGreatDoor
open Go.Proofs.Tryz
open Go.RowKit Go.Shelf
attribute [local go_sem]Oper.semAt_some
abbrev Below'(m:Nat):={i:Nat//i<m}
def FP(m:Nat):Nat->List (Below' m)
 | 0=>[]
 | k+1=>FP m k++(if h:k<m then [⟨m-1-k,O⟩]else [])
def OE(m k:Nat)(h:k<m):FP m (k+1)=FP m k++[⟨m-1-k,O⟩]:=by
 rw [FP,dif_pos h]
def Og(m:Nat):∀k,k<=m->(FP m k).length=k
 | 0,_=>rfl
 | k+1,h=>by rw [OE m k O,List.length_append,Og m k O];rfl
def U4(m:Nat):∀k n,k<=n->FP m k<+:FP m n
 | k,0,h=>by rw [show k=0 by omega];exact Ae7 _
 | k,n+1,h=>by
   by_cases e:k=n+1
   ·rw [e];exact Ae7 _
   ·rw [FP];exact(U4 m k n O).trans (List.prefix_append _ _)
def qW(rb Bn:Nat)(W W':World):Prop:=W'.heap[rb]? =W.heap[rb]?/\W'.heap[Bn]? =W.heap[Bn]?
def aT(q:UInt64×UInt64):Value:= .agg #[.int .u64 (q.1.toNat:Int),.int .u64 (q.2.toNat:Int)]
def Akw(F:Fence)(n:Nat)(hf:F.fn 173)(hro:F.round=none)(hn:1<=n)(Bn rb c:Nat)(A:Option Addr)(ps:List (UInt64×UInt64))(hps:ps.length<=100000)(hA:0<ps.length->A=some (Φ rb))(w:World)
 (hB:w.cell? (Φ Bn)=some (.slice A ps.length c))(hr:∀i(h:i<ps.length),w.cell? (Δ rb (i*2))=some (.int .u64 (ps[i].1.toNat:Int))/\w.cell? (Δ rb (i*2+1))=some (.int .u64 (ps[i].2.toNat:Int)))(hrl:rb<w.heap.size):
 SeqStopsK F n prog 173 #[Az Bn] (λx:Below' ps.length=> #[.int .i64 (x.1:Int),aT (ps[x.1]'x.2)]) (qW rb Bn) (λxs=>xs=FP ps.length ps.length) (λpre=>pre<+:FP ps.length ps.length) ps.length w:=λl J Jx W hW hJ hJx hY h0=>by
 have hBl:=World.block_lt_of_cell? w _ hB;have kb:W.heap[Bn]? =w.heap[Bn]? :=hW.block Bn hBl;have kr:W.heap[rb]? =w.heap[rb]? :=hW.block rb hrl;have q1:∀W':World,W'.heap[Bn]? =W.heap[Bn]?->W'.cell? (Φ Bn)=some (.slice A ps.length c):=λW' e=>(BA (w:=w) (e.trans kb)).trans hB
 have q2:∀W':World,W'.heap[rb]? =W.heap[rb]?->∀i(h:i<ps.length),W'.cell? (Δ rb (i*2))=some (.int .u64 (ps[i].1.toNat:Int))/\W'.cell? (Δ rb (i*2+1))=some (.int .u64 (ps[i].2.toNat:Int)):=λW' e i h=>⟨(BA (w:=w) (e.trans kr)).trans (hr i h).1,(BA (w:=w) (e.trans kr)).trans (hr i h).2⟩
 have Q1:=Aa q1;have Q2:=Aa q2;have HY:=Aa hY;have z0:=q1 W rfl;have e1:IntKind.i64.wrap ((ps.length:Int) -1)=(ps.length:Int) -1:=IntWalk.i64_in _ O;clear hB hr hY kb kr q1 q2 hW;refine callsIn_of_wp func173 rfl hf ?_ hro;simp only [ntmps173,List.size_toArray,List.length_cons,List.length_nil,Nat.reduceAdd,Nat.reduceSub,Array.replicate_succ,Array.replicate_zero,List.push_toArray,List.append_toArray,List.nil_append,List.cons_append];gi_wp2
 gi_loopw [3](λp wr=>∃k,k<=ps.length/\p= .int .i64 ((ps.length:Int) -1- (k:Int))/\J (FP ps.length k) wr/\wr.heap[rb]? =W.heap[rb]?/\wr.heap[Bn]? =W.heap[Bn]?)(λp _=>(intOf p+1).toNat)
 case atStart=>exact⟨0,Nat.zero_le _,by simp,h0,rfl,rfl⟩
 case round=>
  obtain⟨k,hk,rfl,hJk,g1,g2⟩:=hrel;by_cases hlt:k<ps.length
  ·have hkl:k<ps.length:=hlt;obtain rfl:=hA O;obtain⟨j,hj⟩:∃j,j=ps.length-1-k:=⟨_,rfl⟩;have hjl:j<ps.length:=O
   have hp:((ps.length:Int) -1- (k:Int))=(j:Int):=O
   rw [hp];have hd:=Aa (OE ps.length k hkl);obtain⟨fn,tmps,assign,body,hy,hR⟩:=HY.out (FP ps.length k) ⟨j,hjl⟩ wr hJk (by rw [Og _ _ O];exact hkl);have z1:=Q1.out wr g2;obtain⟨z2,z3⟩:=Q2.out wr g1 j hjl;have hx1:(j:Int)<(ps.length:Int):=O
   have hx2:decide ((j:Int)<(ps.length:Int))=true:=decide_eq_true hx1;have hx3:decide ((0:Int)<=(j:Int))=true:=decide_eq_true O;have e2:IntKind.i64.wrap ((j:Int) -1)=(j:Int) -1:=IntWalk.i64_in _ O;unfold aT at hy
   dsimp only at hy
   generalize ps[j]=pj at*;have HJ:=Aa hj;clear hj;gi_wp2;refine hR.mono ?_;rintro e W3(⟨rfl,hJ3,hk3⟩| ⟨rfl,hJx3⟩)
   ·have aF:Hid (J (FP ps.length (k+1)) W3):=Aa (by
    rw [hd.out];have:(⟨ps.length-1-k,O⟩:Below' ps.length)=⟨j,hjl⟩:=Subtype.ext HJ.out.symm;rw [this];exact hJ3)
    have OC:=Aa hk3;clear hJ3 hk3;gi_wp2;go_roundw
    case rel=>exact⟨k+1,O,by have:=HJ.out;congr 1;omega,aF.out,OC.out.1.trans g1,OC.out.2.trans g2⟩
    case measure=>have:=HJ.out;simp [intOf]
   ·have aF:Hid (Jx (FP ps.length (k+1)) W3):=Aa (by
    rw [hd.out];have:(⟨ps.length-1-k,O⟩:Below' ps.length)=⟨j,hjl⟩:=Subtype.ext HJ.out.symm;rw [this];exact hJx3)
    clear hJx3;gi_wp2;refine bodyPost_ret (results_none rfl _ _ _) rfl ?_;exact⟨⟨_,rfl⟩,.inr ⟨FP ps.length (k+1),U4 _ _ _ O,aF.out⟩⟩
  ·have hkm:k=ps.length:=O
   rw [show((ps.length:Int) -1- (k:Int))= -1 by omega];have HJk:Hid (J (FP ps.length ps.length) wr):=Aa (hkm▸hJk);clear hJk hkm;gi_wp2;go_end0;exact⟨⟨_,rfl⟩,.inl ⟨FP ps.length ps.length,rfl,HJk.out⟩⟩
