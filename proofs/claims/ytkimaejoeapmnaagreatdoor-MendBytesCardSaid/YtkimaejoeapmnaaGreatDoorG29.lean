import Derived.RangeFuncNested
import Derived.RangeFuncBound
import Derived.Shelf.RegionOpen
import Derived.OwnWalkIn
import Derived.LoopNIn
import Derived.LoopIn
import Derived.Test.YtkimaejoeapmnaaGreatDoorG28
set_option maxHeartbeats 32000000
set_option maxRecDepth 100000
open List renaming prefix_refl->Adw
open Go.World renaming cell?_of_block->Bz
open Go.Lib renaming hid->Aa
namespace Go.Proofs.YtkimaejoeapmnaaGreatDoor
open Go.RowKit
def LJ(w:World)(b:Nat):Prop:=∃o,w.heap[b]? =some o/\o.isCells=true
theorem cells_of_cell{w:World}{a:Addr}{v:Value}(h:w.cell? a=some v):LJ w a.block:=by
 unfold World.cell? at h;cases ho:w.heap[a.block]? with
 | none=>simp [ho]at h
 | some o=>
   refine⟨o,ho,?_⟩;cases o with
   | cells=>rfl
   | _=>simp [ho]at h
theorem Ip{w:World}{b:Nat}{e:TypeId}{xs:List Value}(h:CG w b e xs):LJ w b:=⟨_,h,rfl⟩
theorem cells_of_row{w:World}{base n k:Nat}{e:TypeId}{v:Value}{xs:List Value}(h:w.ownsRow base e k v n xs){b:Nat}(hb:v.ownBlock=some b):LJ w b:=by
 rcases h.2 with⟨h1,_⟩| ⟨g,cap,cur,h1,_,h3,_⟩
 ·subst h1;cases hb
 ·subst h1;simp only [Value.ownBlock,Option.some.injEq]at hb;subst hb;exact⟨_,h3,rfl⟩
theorem Ej.cells{len:DW}{w:World}{d p L:Nat}{s:St}{F:Nat->Prop}(h:Ej len w d p L s F){b:Nat}(hb:F b):LJ w b:=by
 obtain⟨tb,hbl,m,cT,cH,own,hr,hF⟩:=h;obtain⟨_,_,_,g,hbk,hd,ho⟩:=hr.dev.rep;rcases(hF b).1 hb with h1| rfl| rfl| rfl
 ·rcases(ho b).1 h1 with rfl| rfl| ⟨i,hi,h2⟩
  ·obtain⟨st,hbx⟩:=hd.box;exact Ip hbx
  ·obtain⟨cur,hg,_⟩:=hd.blk;exact⟨_,hg,rfl⟩
  ·obtain⟨cur,_,_,_,hc⟩:=hd.blk;obtain⟨A,c,_,_,hch⟩:=hc i hi;rcases hch with⟨h3,_⟩| ⟨hh,h3,hA,hrow⟩
   ·rw [h2]at h3;cases h3
   ·rw [h2]at h3;injection h3 with h3
    subst h3;exact cells_of_row hrow (by rw [hA];rfl)
 ·exact Ip hr.box
 ·obtain⟨cur,hc,_⟩:=hr.tk;exact⟨_,hc,rfl⟩
 ·obtain⟨cur,hc,_⟩:=hr.hd;exact⟨_,hc,rfl⟩
def Xh:List TypeId:=[78,82,204,127,28]
theorem Ej.type{len:DW}{w:World}{d p L:Nat}{s:St}{F:Nat->Prop}(h:Ej len w d p L s F){b:Nat}(hb:F b):∃cur e fz,w.heap[b]? =some (.cells cur e fz)/\e∈Xh:=by
 obtain⟨tb,hbl,m,cT,cH,own,hr,hF⟩:=h;obtain⟨_,_,_,g,hbk,hd,ho⟩:=hr.dev.rep;rcases(hF b).1 hb with h1| rfl| rfl| rfl
 ·rcases(ho b).1 h1 with rfl| rfl| ⟨i,hi,h2⟩
  ·obtain⟨st,hbx⟩:=hd.box;exact⟨_,_,_,hbx,by simp [Xh]⟩
  ·obtain⟨cur,hg,_⟩:=hd.blk;exact⟨_,_,_,hg,by simp [Xh]⟩
  ·obtain⟨cur,_,_,_,hc⟩:=hd.blk;obtain⟨A,c,_,_,hch⟩:=hc i hi;rcases hch with⟨h3,_⟩| ⟨hh,h3,hA,hrow⟩
   ·rw [h2]at h3;cases h3
   ·rw [h2]at h3;injection h3 with h3
    subst h3;rcases hrow.2 with⟨h4,_⟩| ⟨g4,cap,Awi,h4,_,h5,_⟩
    ·rw [hA]at h4;cases h4
    ·rw [hA]at h4;simp only [Value.slice.injEq,Option.some.injEq,Addr.mk.injEq,and_true]at h4;exact⟨_,_,_,h4.1▸h5,by simp [Xh]⟩
 ·exact⟨_,_,_,hr.box,by simp [Xh]⟩
 ·obtain⟨cur,hc,_⟩:=hr.tk;exact⟨_,_,_,hc,by simp [Xh]⟩
 ·obtain⟨cur,hc,_⟩:=hr.hd;exact⟨_,_,_,hc,by simp [Xh]⟩
theorem Ej.jG{len:DW}{w:World}{d p L:Nat}{s:St}{F:Nat->Prop}(h:Ej len w d p L s F){b:Nat}{e:TypeId}{xs:List Value}(hb:CG w b e xs)(he:e∉Xh):¬F b:=fun hf=>by
 obtain⟨cur,e',fz,h1,h2⟩:=h.type hf;rw [show w.heap[b]? =_ from hb]at h1;injection h1 with h1
 injection h1 with _ h1 _
 exact he (h1▸h2)
theorem Tabs.cells{w:World}(h:Tabs w):LJ w 0/\LJ w 1:=
 ⟨cells_of_cell (h.fours 0 (by decide)),cells_of_cell (h.iI 0 (by decide))⟩
section
variable{w w':World}{base jb x d p L:Nat}{s:St}{stamp:UInt64}{vs:Value}{l:List Wr}{ps:List (UInt64×UInt64)}{over:Bool}{en:Int}{F:Nat->Prop}{v:Value}{row:Option Nat}
theorem Ky(hg:w.grownBy w' row):Touch (fun b=>row=some b) w w':=Touch.UF hg (fun _ e=>e)
theorem Fv.abide{m0:DW}(h:Fv m0 w base jb x d p L s stamp vs l ps over en F v)(hg:w.grownBy w' row)(hr:∀r,row=some r->¬LJ w r):Fv m0 w' base jb x d p L s stamp vs l ps over en F v:=by
 have t:=Ky hg;have no:∀b,LJ w b->¬row=some b:=fun b hc e=>hr b e hc
 refine⟨⟨h.ix.sys.keep t (fun b hb=>no b (h.ix.sys.cells hb)) (no _ h.ix.sys.tabs.cells.1) (no _ h.ix.sys.tabs.cells.2),h.ix.box.touch t (no _ (Ip h.ix.box)),h.ix.out⟩,h.box.touch t (no _ (Ip h.box)),H6 h.row t (fun b hb=>no b (cells_of_row h.row hb)),?_,h.fj,h.bj,h.bx,h.bt,h.mj,h.mF⟩;obtain⟨A,c,e,hc,hrd,hG⟩:=h.set;refine⟨A,c,e,hc,?_,hG⟩;by_cases hn:0<l.length*3
 ·refine Rd.touch hrd t (fun a ea=>no _ ?_);obtain⟨b,off,e2,_,hcl⟩:=hrd.2 hn;rw [ea]at e2;injection e2 with e2
  subst e2;have h0:=hcl 0 hn;rw [List.getElem?_eq_getElem (by rw [LX];exact hn)]at h0;exact cells_of_cell h0
 ·exact⟨hrd.1,fun h=>absurd h hn⟩
end
end Go.Proofs.YtkimaejoeapmnaaGreatDoor
namespace Go.Proofs.YtkimaejoeapmnaaGreatDoor
open Go.RowKit Go.Shelf
attribute [local go_sem]Oper.semAt_some
abbrev Below'(m:Nat):={i:Nat//i<m}
def Gj(m:Nat):Nat->List (Below' m)
 | 0=>[]
 | k+1=>Gj m k++(if h:k<m then [⟨m-1-k,by omega⟩]else [])
theorem Ro(m k:Nat)(h:k<m):Gj m (k+1)=Gj m k++[⟨m-1-k,by omega⟩]:=by
 rw [Gj,dif_pos h]
theorem NJ(m:Nat):∀k,k<=m->(Gj m k).length=k
 | 0,_=>rfl
 | k+1,h=>by rw [Ro m k (by omega),List.length_append,NJ m k (by omega)];rfl
theorem Ua(m:Nat):∀k n,k<=n->Gj m k<+:Gj m n
 | k,0,h=>by rw [show k=0 by omega];exact Adw _
 | k,n+1,h=>by
   by_cases e:k=n+1
   ·rw [e];exact Adw _
   ·rw [Gj];exact(Ua m k n (by omega)).trans (List.prefix_append _ _)
def oQ(rb Bn:Nat)(W W':World):Prop:=W'.heap[rb]? =W.heap[rb]?/\W'.heap[Bn]? =W.heap[Bn]?
def ZG(q:UInt64×UInt64):Value:= .agg #[.int .u64 (q.1.toNat:Int),.int .u64 (q.2.toNat:Int)]
theorem Ajg(F:Fence)(n:Nat)(hf:F.fn 173)(hro:F.round=none)(hn:1<=n)(Bn rb c:Nat)(A:Option Addr)(ps:List (UInt64×UInt64))(hps:ps.length<=100000)(hA:0<ps.length->A=some ⟨rb,0,none⟩)(w:World)
 (hB:w.cell? ⟨Bn,0,none⟩=some (.slice A ps.length c))(hr:∀i(h:i<ps.length),w.cell? ⟨rb,i*2,none⟩=some (.int .u64 (ps[i].1.toNat:Int))/\w.cell? ⟨rb,i*2+1,none⟩=some (.int .u64 (ps[i].2.toNat:Int)))(hrl:rb<w.heap.size):
 SeqStopsK F n Tryz.prog 173 #[Aw Bn] (fun x:Below' ps.length=> #[.int .i64 (x.1:Int),ZG (ps[x.1]'x.2)]) (oQ rb Bn) (fun xs=>xs=Gj ps.length ps.length) (fun pre=>pre<+:Gj ps.length ps.length) ps.length w:=fun l J Jx W hW hJ hJx hY h0=>by
 have hBl:=World.block_lt_of_cell? w _ hB;have kb:W.heap[Bn]? =w.heap[Bn]? :=hW.block Bn hBl;have kr:W.heap[rb]? =w.heap[rb]? :=hW.block rb hrl;have q1:∀W':World,W'.heap[Bn]? =W.heap[Bn]?->W'.cell? ⟨Bn,0,none⟩=some (.slice A ps.length c):=fun W' e=>(Bz (w:=w) (e.trans kb)).trans hB
 have q2:∀W':World,W'.heap[rb]? =W.heap[rb]?->∀i(h:i<ps.length),W'.cell? ⟨rb,i*2,none⟩=some (.int .u64 (ps[i].1.toNat:Int))/\W'.cell? ⟨rb,i*2+1,none⟩=some (.int .u64 (ps[i].2.toNat:Int)):=fun W' e i h=>⟨(Bz (w:=w) (e.trans kr)).trans (hr i h).1,(Bz (w:=w) (e.trans kr)).trans (hr i h).2⟩
 have Q1:=Aa q1;have Q2:=Aa q2;have HY:=Aa hY;have z0:=q1 W rfl;have e1:IntKind.i64.wrap ((ps.length:Int) -1)=(ps.length:Int) -1:=IntWalk.i64_in _ (by omega);clear hB hr hY kb kr q1 q2 hW;refine callsIn_of_wp Tryz.func173 rfl hf ?_ hro;simp only [Tryz.ntmps173,List.size_toArray,List.length_cons,List.length_nil,Nat.reduceAdd,Nat.reduceSub,Array.replicate_succ,Array.replicate_zero,List.push_toArray,List.append_toArray,List.nil_append,List.cons_append];gi_wp2
 gi_loopw [3](fun p wr=>∃k,k<=ps.length/\p= .int .i64 ((ps.length:Int) -1- (k:Int))/\J (Gj ps.length k) wr/\wr.heap[rb]? =W.heap[rb]?/\wr.heap[Bn]? =W.heap[Bn]?)(fun p _=>(intOf p+1).toNat)
 case atStart=>exact⟨0,Nat.zero_le _,by simp,h0,rfl,rfl⟩
 case round=>
  obtain⟨k,hk,rfl,hJk,g1,g2⟩:=hrel;by_cases hlt:k<ps.length
  ·have hkl:k<ps.length:=hlt;obtain rfl:=hA (by omega);obtain⟨j,hj⟩:∃j,j=ps.length-1-k:=⟨_,rfl⟩;have hjl:j<ps.length:=by omega
   have hp:((ps.length:Int) -1- (k:Int))=(j:Int):=by omega
   rw [hp];have hd:=Aa (Ro ps.length k hkl);obtain⟨fn,tmps,assign,body,hy,hR⟩:=HY.out (Gj ps.length k) ⟨j,hjl⟩ wr hJk (by rw [NJ _ _ (by omega)];exact hkl);have z1:=Q1.out wr g2;obtain⟨z2,z3⟩:=Q2.out wr g1 j hjl;have hx1:(j:Int)<(ps.length:Int):=by omega
   have hx2:decide ((j:Int)<(ps.length:Int))=true:=decide_eq_true hx1;have hx3:decide ((0:Int)<=(j:Int))=true:=decide_eq_true (by omega);have e2:IntKind.i64.wrap ((j:Int) -1)=(j:Int) -1:=IntWalk.i64_in _ (by omega);unfold ZG at hy
   dsimp only at hy
   generalize ps[j]=pj at*;have HJ:=Aa hj;clear hj;gi_wp2;refine hR.mono ?_;rintro e W3(⟨rfl,hJ3,hk3⟩| ⟨rfl,hJx3⟩)
   ·have Z4:Hid (J (Gj ps.length (k+1)) W3):=Aa (by
    rw [hd.out];have:(⟨ps.length-1-k,by omega⟩:Below' ps.length)=⟨j,hjl⟩:=Subtype.ext HJ.out.symm;rw [this];exact hJ3)
    have Oi:=Aa hk3;clear hJ3 hk3;gi_wp2;go_roundw
    case rel=>exact⟨k+1,by omega,by have:=HJ.out;congr 1;omega,Z4.out,Oi.out.1.trans g1,Oi.out.2.trans g2⟩
    case measure=>have:=HJ.out;simp [intOf]
   ·have Z4:Hid (Jx (Gj ps.length (k+1)) W3):=Aa (by
    rw [hd.out];have:(⟨ps.length-1-k,by omega⟩:Below' ps.length)=⟨j,hjl⟩:=Subtype.ext HJ.out.symm;rw [this];exact hJx3)
    clear hJx3;gi_wp2;refine bodyPost_ret (results_none rfl _ _ _) rfl ?_;exact⟨⟨_,rfl⟩,.inr ⟨Gj ps.length (k+1),Ua _ _ _ (by omega),Z4.out⟩⟩
  ·have hkm:k=ps.length:=by omega
   rw [show((ps.length:Int) -1- (k:Int))= -1 by omega];have HJk:Hid (J (Gj ps.length ps.length) wr):=Aa (hkm▸hJk);clear hJk hkm;gi_wp2;go_end0;exact⟨⟨_,rfl⟩,.inl ⟨Gj ps.length ps.length,rfl,HJk.out⟩⟩
