import Derived.RangeFuncBound
import Derived.RangeFuncCalls
import Derived.RangeFuncLeaves
import Derived.Shelf.Abstract
import Derived.Shelf.RegionOpen
import Derived.WalkKit
import Derived.OwnWalkIn
import Derived.TacticsInMore
import Derived.LoopNIn
import Derived.LoopIn
import Derived.Test.YtjcppneoncpdbaaGreatDoorG21
set_option maxHeartbeats 32000000
set_option maxRecDepth 100000
open List renaming prefix_refl->xh
open Go.Lib renaming hid->Aa
namespace Go.Proofs.YtjcppneoncpdbaaGreatDoor
open Go.RowKit Go.Shelf
attribute [local go_sem]Oper.semAt_some
abbrev Below'(m:Nat):={i:Nat//i<m}
def E8(m:Nat):Nat->List (Below' m)
 | 0=>[]
 | k+1=>E8 m k++(if h:k<m then [⟨m-1-k,by omega⟩]else [])
theorem Nh(m k:Nat)(h:k<m):E8 m (k+1)=E8 m k++[⟨m-1-k,by omega⟩]:=by
 rw [E8,dif_pos h]
theorem MJ(m:Nat):∀k,k<=m->(E8 m k).length=k
 | 0,_=>rfl
 | k+1,h=>by rw [Nh m k (by omega),List.length_append,MJ m k (by omega)];rfl
theorem RP(m:Nat):∀k n,k<=n->E8 m k<+:E8 m n
 | k,0,h=>by rw [show k=0 by omega];exact xh _
 | k,n+1,h=>by
   by_cases e:k=n+1
   ·rw [e];exact xh _
   ·rw [E8];exact(RP m k n (by omega)).trans (List.prefix_append _ _)
def iZ(rb Bn:Nat)(W W':World):Prop:=W'.heap[rb]? =W.heap[rb]?/\W'.heap[Bn]? =W.heap[Bn]?
def XC(q:UInt64×UInt64):Value:= .agg #[.int .u64 (q.1.toNat:Int),.int .u64 (q.2.toNat:Int)]
theorem Acs(F:Fence)(n:Nat)(hf:F.fn 143)(hro:F.round=none)(hn:1<=n)(Bn rb c:Nat)(A:Option Addr)(ps:List (UInt64×UInt64))(hps:ps.length<=100000)(hA:0<ps.length->A=some ⟨rb,0,none⟩)(w:World)
 (hB:w.cell? ⟨Bn,0,none⟩=some (.slice A ps.length c))(hr:∀i(h:i<ps.length),w.cell? ⟨rb,i*2,none⟩=some (.int .u64 (ps[i].1.toNat:Int))/\w.cell? ⟨rb,i*2+1,none⟩=some (.int .u64 (ps[i].2.toNat:Int)))(hrl:rb<w.heap.size):
 SeqStopsK F n Tryz.prog 143 #[.pointer (some ⟨Bn,0,none⟩)] (fun x:Below' ps.length=> #[.int .i64 (x.1:Int),XC (ps[x.1]'x.2)]) (iZ rb Bn) (fun xs=>xs=E8 ps.length ps.length) (fun pre=>pre<+:E8 ps.length ps.length) ps.length w:=fun l J Jx W hW hJ hJx hY h0=>by
 have hBl:=World.block_lt_of_cell? w _ hB;have kb:W.heap[Bn]? =w.heap[Bn]? :=hW.block Bn hBl;have kr:W.heap[rb]? =w.heap[rb]? :=hW.block rb hrl;have q1:∀W':World,W'.heap[Bn]? =W.heap[Bn]?->W'.cell? ⟨Bn,0,none⟩=some (.slice A ps.length c):=fun W' e=>(World.cell?_of_block (w:=w) (e.trans kb)).trans hB
 have q2:∀W':World,W'.heap[rb]? =W.heap[rb]?->∀i(h:i<ps.length),W'.cell? ⟨rb,i*2,none⟩=some (.int .u64 (ps[i].1.toNat:Int))/\W'.cell? ⟨rb,i*2+1,none⟩=some (.int .u64 (ps[i].2.toNat:Int)):=fun W' e i h=>⟨(World.cell?_of_block (w:=w) (e.trans kr)).trans (hr i h).1,(World.cell?_of_block (w:=w) (e.trans kr)).trans (hr i h).2⟩
 have Q1:=Aa q1;have Q2:=Aa q2;have HY:=Aa hY;have z0:=q1 W rfl;have e1:IntKind.i64.wrap ((ps.length:Int) -1)=(ps.length:Int) -1:=IntWalk.i64_in _ (by omega);clear hB hr hY kb kr q1 q2 hW;refine callsIn_of_wp Tryz.func143 rfl hf ?_ hro;simp only [Tryz.ntmps143,List.size_toArray,List.length_cons,List.length_nil,Nat.reduceAdd,Nat.reduceSub,Array.replicate_succ,Array.replicate_zero,List.push_toArray,List.append_toArray,List.nil_append,List.cons_append];gi_wp2
 gi_loopw [3](fun p wr=>∃k,k<=ps.length/\p= .int .i64 ((ps.length:Int) -1- (k:Int))/\J (E8 ps.length k) wr/\wr.heap[rb]? =W.heap[rb]?/\wr.heap[Bn]? =W.heap[Bn]?)(fun p _=>(intOf p+1).toNat)
 case atStart=>exact⟨0,Nat.zero_le _,by simp,h0,rfl,rfl⟩
 case round=>
  obtain⟨k,hk,rfl,hJk,g1,g2⟩:=hrel;by_cases hlt:k<ps.length
  ·have hkl:k<ps.length:=hlt;obtain rfl:=hA (by omega);obtain⟨j,hj⟩:∃j,j=ps.length-1-k:=⟨_,rfl⟩;have hjl:j<ps.length:=by omega
   have hp:((ps.length:Int) -1- (k:Int))=(j:Int):=by omega
   rw [hp];have hd:=Aa (Nh ps.length k hkl);obtain⟨fn,tmps,assign,body,hy,hR⟩:=HY.out (E8 ps.length k) ⟨j,hjl⟩ wr hJk (by rw [MJ _ _ (by omega)];exact hkl);have z1:=Q1.out wr g2;obtain⟨z2,z3⟩:=Q2.out wr g1 j hjl;have hx1:(j:Int)<(ps.length:Int):=by omega
   have hx2:decide ((j:Int)<(ps.length:Int))=true:=decide_eq_true hx1;have hx3:decide ((0:Int)<=(j:Int))=true:=decide_eq_true (by omega);have e2:IntKind.i64.wrap ((j:Int) -1)=(j:Int) -1:=IntWalk.i64_in _ (by omega);unfold XC at hy
   dsimp only at hy
   generalize ps[j]=pj at*;have HJ:=Aa hj;clear hj;gi_wp2;refine hR.mono ?_;rintro e W3(⟨rfl,hJ3,hk3⟩| ⟨rfl,hJx3⟩)
   ·have aX:Hid (J (E8 ps.length (k+1)) W3):=Aa (by
    rw [hd.out];have:(⟨ps.length-1-k,by omega⟩:Below' ps.length)=⟨j,hjl⟩:=Subtype.ext HJ.out.symm;rw [this];exact hJ3)
    have LP:=Aa hk3;clear hJ3 hk3;gi_wp2;go_roundw
    case rel=>exact⟨k+1,by omega,by have:=HJ.out;congr 1;omega,aX.out,LP.out.1.trans g1,LP.out.2.trans g2⟩
    case measure=>have:=HJ.out;simp [intOf]
   ·have aX:Hid (Jx (E8 ps.length (k+1)) W3):=Aa (by
    rw [hd.out];have:(⟨ps.length-1-k,by omega⟩:Below' ps.length)=⟨j,hjl⟩:=Subtype.ext HJ.out.symm;rw [this];exact hJx3)
    clear hJx3;gi_wp2;refine bodyPost_ret (results_none rfl _ _ _) rfl ?_;exact⟨⟨_,rfl⟩,.inr ⟨E8 ps.length (k+1),RP _ _ _ (by omega),aX.out⟩⟩
  ·have hkm:k=ps.length:=by omega
   rw [show((ps.length:Int) -1- (k:Int))= -1 by omega];have HJk:Hid (J (E8 ps.length ps.length) wr):=Aa (hkm▸hJk);clear hJk hkm;gi_wp2;go_end0;exact⟨⟨_,rfl⟩,.inl ⟨E8 ps.length ps.length,rfl,HJk.out⟩⟩
end Go.Proofs.YtjcppneoncpdbaaGreatDoor
