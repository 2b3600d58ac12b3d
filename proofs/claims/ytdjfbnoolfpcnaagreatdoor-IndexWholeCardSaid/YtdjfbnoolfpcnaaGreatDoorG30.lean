import Derived.RangeFuncNested
import Derived.RangeFuncBound
import Derived.RangeFuncCalls
import Derived.RangeFuncLeaves
import Derived.Shelf.Abstract
import Derived.Shelf.RegionOpen
import Derived.WalkKit
import Derived.OwnWalkIn
import Derived.TacticsInMore
import Derived.LoopNIn
import Derived.LoopIn
import Derived.Test.YtdjfbnoolfpcnaaGreatDoorG05
namespace Go.Proofs.YtdjfbnoolfpcnaaGreatDoor
open Go.RowKit Go.Shelf
theorem alloc_was(w:World)(o:Obj){r:Nat}(h:r<w.heap.size):(w.alloc o).heap[r]? =w.heap[r]? :=by
 show(w.heap.push o)[r]? =_;rw [Array.getElem?_push_lt h,Array.getElem?_eq_getElem h]
attribute [local go_sem]Oper.semAt_some
abbrev WfC:={c:Nat×UInt64//∃t,t<8∧c.1=8*t}
theorem wf_list:∀(l:List (Nat×UInt64)),(∀c∈l,∃t,t<8∧c.1=8*t)→∃cs:List WfC,cs.map (·.1)=l
 | [],_=>⟨[],rfl⟩
 | c::l,h=>by
   obtain⟨cs,e⟩:=wf_list l (fun x hx=>h x (List.mem_cons_of_mem _ hx));exact⟨⟨c,h c (List.mem_cons_self ..)⟩::cs,by rw [List.map_cons,e]⟩
def KeepsB(rb B1 B2:Nat)(q:Addr)(W W':World):Prop:=W'.heap[rb]? =W.heap[rb]?∧W'.heap[B1]? =W.heap[B1]?∧W'.heap[B2]? =W.heap[B2]?∧W'.cell? q=W.cell? q
set_option maxHeartbeats 2000000 in
theorem chg_in(F:Fence)(n:Nat)(hf:F.fn 96)(hro:F.round=none)(hn:1≤n)(B1 B2 g o rb c k:Nat)(A:Option Addr)(cs:List WfC)(hcs:cs.length≤1000000)(hk:k≤cs.length)(hA:0<cs.length→A=some ⟨rb,0,none⟩)(w:World)
 (hB1:w.cell? ⟨B1,0,none⟩=some (.pointer (some ⟨g,o,none⟩)))(hB2:w.cell? ⟨B2,0,none⟩=some (.int .i64 (k:Int)))(hL:w.cell? ⟨g,o+64,none⟩=some (.slice A cs.length c))
 (hr:∀i(h:i<cs.length),w.cell? ⟨rb,i*2,none⟩=some (.int .i64 (cs[i].1.1:Nat))∧w.cell? ⟨rb,i*2+1,none⟩=some (.int .u64 (cs[i].1.2.toNat:Int)))(hrl:rb<w.heap.size):
 SeqStopsK F n Tryz.prog 96 #[.pointer (some ⟨B1,0,none⟩),.pointer (some ⟨B2,0,none⟩)] (fun x:WfC=> #[.agg #[.int .i64 (x.1.1:Nat),.int .u64 (x.1.2.toNat:Int)]]) (KeepsB rb B1 B2 ⟨g,o+64,none⟩)
  (fun xs=>xs=cs.reverse.take (cs.length-k)) (fun _=>True) cs.length w:=fun l J Jx W hW hJ hJx hY h0=>by
 have l1:=World.block_lt_of_cell? w _ hB1;have l2:=World.block_lt_of_cell? w _ hB2;have l3:=World.block_lt_of_cell? w _ hL;have k1:W.heap[B1]? =w.heap[B1]? :=hW.block B1 l1;have k2:W.heap[B2]? =w.heap[B2]? :=hW.block B2 l2;have k3:W.cell? ⟨g,o+64,none⟩=w.cell? ⟨g,o+64,none⟩:=hW.cell (p:=⟨g,o+64,none⟩) l3;have kr:W.heap[rb]? =w.heap[rb]? :=hW.block rb hrl;have Q:Hid (∀W':World,KeepsB rb B1 B2 ⟨g,o+64,none⟩ W W'→W'.cell? ⟨B1,0,none⟩=some (.pointer (some ⟨g,o,none⟩))∧W'.cell? ⟨B2,0,none⟩=some (.int .i64 (k:Int))∧W'.cell? ⟨g,o+64,none⟩=some (.slice A cs.length c)):=
  Lib.hid (fun W' h=>⟨(World.cell?_of_block (w:=w) (h.2.1.trans k1)).trans hB1,(World.cell?_of_block (w:=w) (h.2.2.1.trans k2)).trans hB2,(h.2.2.2.trans k3).trans hL⟩)
 have Q2:Hid (∀W':World,KeepsB rb B1 B2 ⟨g,o+64,none⟩ W W'→∀i(h:i<cs.length),W'.cell? ⟨rb,i*2,none⟩=some (.int .i64 (cs[i].1.1:Nat))∧W'.cell? ⟨rb,i*2+1,none⟩=some (.int .u64 (cs[i].1.2.toNat:Int))):=
  Lib.hid (fun W' e i h=>⟨(World.cell?_of_block (w:=w) (e.1.trans kr)).trans (hr i h).1,(World.cell?_of_block (w:=w) (e.1.trans kr)).trans (hr i h).2⟩)
 have HY:=Lib.hid hY;obtain⟨z1,z2,z3⟩:=Q.out W ⟨rfl,rfl,rfl,rfl⟩;obtain⟨N,hN⟩:∃N,N=cs.length:=⟨_,rfl⟩;have HN:=Lib.hid hN;rw [←hN]at z3;have e1:IntKind.i64.wrap ((N:Int) -1)=(N:Int) -1:=IntWalk.i64_in _ (by omega);clear hB1 hB2 hL hr hY k1 k2 k3 kr hW hN l1 l2 l3 hrl;refine callsIn_of_wp Tryz.func96 rfl hf ?_ hro;simp only [Tryz.ntmps96,List.size_toArray,List.length_cons,List.length_nil,Nat.reduceAdd,Nat.reduceSub,Array.replicate_succ,Array.replicate_zero,List.push_toArray,List.append_toArray,List.nil_append,List.cons_append];gi_wp2
 gi_loopw [4](fun p wr=>∃t,t≤cs.length-k∧p= .int .i64 ((N:Int) -1- (t:Int))∧J (cs.reverse.take t) wr∧KeepsB rb B1 B2 ⟨g,o+64,none⟩ W wr)(fun p _=>(intOf p+1).toNat)
 case atStart=>exact⟨0,Nat.zero_le _,by simp,h0,rfl,rfl,rfl,rfl⟩
 case round=>
  obtain⟨t,ht,rfl,hJt,hkp⟩:=hrel;obtain⟨z1,z2,z3⟩:=Q.out wr hkp;rw [←HN.out]at z3;by_cases hlt:t<cs.length-k
  ·obtain rfl:=hA (by omega);obtain⟨j,hj⟩:∃j,j=cs.length-1-t:=⟨_,rfl⟩;have hjl:j<cs.length:=by omega
   have hp:((N:Int) -1- (t:Int))=(j:Int):=by rw [HN.out];omega
   rw [hp];have hnx:cs.reverse.take (t+1)=cs.reverse.take t++[cs[j]]:=by
    have hlr:t<cs.reverse.length:=by rw [List.length_reverse];omega
    rw [List.take_succ_eq_append_getElem hlr];congr 2;rw [List.getElem_reverse];congr 1;omega
   have HNx:=Lib.hid hnx;obtain⟨fn,tmps,assign,body,hy,hR⟩:=HY.out (cs.reverse.take t) cs[j] wr hJt (by rw [List.length_take,List.length_reverse];omega);obtain⟨z4,z5⟩:=Q2.out wr hkp j hjl;have hx1:(j:Int)<(N:Int):=by rw [HN.out];omega
   have hx2:decide ((j:Int)<(N:Int))=true:=decide_eq_true hx1;have hx3:decide ((k:Int)≤(j:Int))=true:=decide_eq_true (by omega);have hx4:decide (k≤j)=true:=decide_eq_true (by omega);have hx5:decide (j<N)=true:=decide_eq_true (by have:=HN.out;omega);have e2:IntKind.i64.wrap ((j:Int) -1)=(j:Int) -1:=IntWalk.i64_in _ (by omega);rw [←hnx]at hR;generalize cs[j]=cj at*;have HJ:=Lib.hid hj;have HKp:=Lib.hid hkp;clear hj hnx hJt hkp;gi_wp2;refine hR.mono ?_;rintro e W3(⟨rfl,hJ3,hk3⟩| ⟨rfl,hJx3⟩)
   ·have HJ3:=Lib.hid hJ3;have HK3:=Lib.hid hk3;clear hJ3 hk3;gi_wp2;go_roundw
    case rel=>exact⟨t+1,by omega,by have:=HJ.out;have:=HN.out;congr 1;omega,HJ3.out,HK3.out.1.trans HKp.out.1,HK3.out.2.1.trans HKp.out.2.1,HK3.out.2.2.1.trans HKp.out.2.2.1,HK3.out.2.2.2.trans HKp.out.2.2.2⟩
    case measure=>have:=HJ.out;simp [intOf]
   ·have HJ3:=Lib.hid hJx3;clear hJx3;gi_wp2;refine bodyPost_ret (results_none rfl _ _ _) rfl ?_;exact⟨⟨_,rfl⟩,.inr ⟨cs.reverse.take (t+1),trivial,HJ3.out⟩⟩
  ·have hkm:t=cs.length-k:=by omega
   obtain⟨q,hq⟩:∃q:Int,q=(N:Int) -1- (t:Int):=⟨_,rfl⟩;rw [←hq];have hx3:decide ((k:Int)≤q)=false:=decide_eq_false (by rw [hq,HN.out];omega);have HJk:Hid (J (cs.reverse.take (cs.length-k)) wr):=Lib.hid (hkm▸hJt);clear hJt hkm hq hkp;gi_wp2;go_end0;exact⟨⟨_,rfl⟩,.inl ⟨_,rfl,HJk.out⟩⟩
theorem back_any(P:Option Addr)(k:Int)(w:World):Calls Tryz.prog 56 #[.pointer P,.int .i64 k] w fun e w'=>e= .returned (.func (.func 96) #[] #[.pointer (some ⟨w.heap.size,0,none⟩),.pointer (some ⟨w.heap.size+1,0,none⟩)])∧w'=(w.alloc (.cells #[.pointer P] 97)).alloc (.cells #[.int .i64 k] 3):=by
 go_enter Tryz.func56,Tryz.ntmps56
 go_wp2_with fail
 refine bodyPost_ret (v:= .func (.func 96) #[] #[.pointer (some ⟨w.heap.size,0,none⟩),.pointer (some ⟨w.heap.size+1,0,none⟩)]) (by simp [results,Tryz.results56,go_sem]) rfl ?_;exact⟨rfl,rfl⟩
theorem blk_isCells{w:World}{b:Nat}{e:TypeId}{xs:List Value}(h:Blk w b e xs):∃o,w.heap[b]? =some o∧o.isCells=true:=⟨_,h,rfl⟩
theorem DevRep.isCells{w:World}{d L:Nat}{ws:Nat→UInt64}{m:Mode}{mark:Nat→Nat}{g:Nat}{hb:Nat→Option Nat}(h:DevRep w d L ws m mark g hb):∀b,devOwn d L g hb b→∃o,w.heap[b]? =some o∧o.isCells=true:=fun b hb'=>by
 rcases hb' with rfl| rfl| ⟨i,hi,h2⟩
 ·obtain⟨st,hbx⟩:=h.box;exact⟨_,hbx,rfl⟩
 ·obtain⟨cur,hg,_⟩:=h.blk;exact⟨_,hg,rfl⟩
 ·obtain⟨cur,_,_,_,hc⟩:=h.blk;obtain⟨A,c,_,_,hch⟩:=hc i hi;rcases hch with⟨h3,_⟩| ⟨hh,h3,hA,hrow⟩
  ·rw [h2]at h3;cases h3
  ·rw [h2]at h3;injection h3 with h3
   subst h3;rcases hrow.2 with⟨h1,_⟩| ⟨g',cap,cur',h1,_,h4,_⟩
   ·rw [hA]at h1;cases h1
   ·rw [hA]at h1;simp only [Value.slice.injEq,Option.some.injEq,Addr.mk.injEq,and_true,true_and]at h1;rw [h1.1];exact⟨_,h4,rfl⟩
set_option maxHeartbeats 8000000 in
theorem line_crash{w:World}{d L:Nat}{ws:Nat→UInt64}{m:Mode}{mark:Nat→Nat}{g:Nat}{hb:Nat→Option Nat}(h:DevRep w d L ws m mark g hb)(i k:Nat)(hi:i<L)(_:L≤1024)(hk:k≤m i)(hlen:m i≤1000000)(hwf:∀c∈m.chg i,∃t,t<8∧c.1=8*t):
 Calls Tryz.prog 33 #[.pointer (some ⟨g,66*i,none⟩),.int .i64 (k:Int)] w fun e w'=>(∃v,e= .returned v)∧∃W1,DevRep W1 d L (undoW i ((m.chg i).drop k) ws) m mark g hb∧Touch (devOwn d L g hb) w W1∧
  Below w.heap.size ((W1.setCell ⟨g,66*i+64,none⟩ (.slice none 0 0)).setCell ⟨g,66*i+65,none⟩ (.int .i64 0)) w':=by
 obtain⟨cs,hcs⟩:=wf_list _ hwf;have hcl:cs.length=m i:=by rw [←List.length_map (f:=(·.1)),hcs];rfl
 refine(callsIn_wide (n:=3)).1 ?_;refine callsIn_of_wp_marks Tryz.func33 rfl trivial ?_ rfl;simp only [Tryz.ntmps33,List.size_toArray,List.length_cons,List.length_nil,Nat.reduceAdd,Nat.reduceSub,Array.replicate_succ,Array.replicate_zero,List.push_toArray,List.append_toArray,List.nil_append,List.cons_append]
 gi_wp2_with(refine⟨trivial,?_⟩;gi_at_call 56;refine(callsIn_wide.2 (back_any _ _ _)).mono ?_;rintro e w'⟨rfl,rfl⟩)
 obtain⟨W3,hW3⟩:∃W3,W3=((w.alloc (.cells #[.pointer (some ⟨g,66*i,none⟩)] 97)).alloc (.cells #[.pointer (some ⟨g,66*i,none⟩)] 97)).alloc (.cells #[.int .i64 (k:Int)] 3):=⟨_,rfl⟩;rw [←hW3];have hb3:Below w.heap.size w W3:=hW3▸(((Below.refl _ w).alloc (Nat.le_refl _) _).alloc (by simp) _).alloc (by simp;omega) _;have B0:Blk W3 w.heap.size 97 [.pointer (some ⟨g,66*i,none⟩)]:=by rw [hW3];exact(alloc_was _ _ (by simp;omega)).trans ((alloc_was _ _ (by simp)).trans (heap_alloc_new _ _))
 have p1:W3.cell? ⟨w.heap.size+1,0,none⟩=some (.pointer (some ⟨g,66*i,none⟩)):=by rw [hW3];go_simp
 have p2:W3.cell? ⟨w.heap.size+1+1,0,none⟩=some (.int .i64 (k:Int)):=by rw [hW3];go_simp
 have hs3:W3.heap.size=w.heap.size+3:=by rw [hW3];simp
 have H3:=h.below hb3;have hlt:∀b,devOwn d L g hb b→b<w.heap.size:=h.lt;have hgl:=h.glt;obtain⟨cur,hg,hsz, -,h2⟩:=H3.blk;obtain⟨A,c,e1, -,hch⟩:=h2 i hi;have p3:W3.cell? ⟨g,66*i+64,none⟩=some (.slice A cs.length c):=by rw [cell_of_row W3 g _ cur _ (0,0) hg,hcl];exact e1
 obtain⟨rb,hrb,hrA,hrbg,hrc⟩:∃rb,rb<W3.heap.size∧(0<cs.length→A=some ⟨rb,0,none⟩)∧rb≠g∧∀q(h:q<cs.length),W3.cell? ⟨rb,q*2,none⟩=some (.int .i64 (cs[q].1.1:Nat))∧W3.cell? ⟨rb,q*2+1,none⟩=some (.int .u64 (cs[q].1.2.toNat:Int)):=by
  rcases hch with⟨_,h4,_⟩| ⟨hh,h3,hA,hrow⟩
  ·have h0:cs.length=0:=by rw [hcl];unfold Mode.len;rw [h4];rfl
   exact⟨w.heap.size,by omega,fun h=>by omega,by omega,fun q h=>by omega⟩
  ·have hbd:=h.bd i hi hh h3;rcases hrow.2 with⟨h1,_⟩| ⟨g',cap,cur',h1,_,h4,_,_,hcs',ht⟩
   ·rw [hA]at h1;cases h1
   ·rw [hA]at h1;simp only [Value.slice.injEq,Option.some.injEq,Addr.mk.injEq,and_true,true_and]at h1;obtain⟨rfl,_⟩:=h1;refine⟨hh,(Array.getElem?_eq_some_iff.1 h4).1,fun _=>hA,hbd.1,fun q hq=> ?_⟩;have key:∀(l:List WfC)(q:Nat)(hq:q<l.length),(chV (l.map (·.1)))[q*2]? =some (.int .i64 (l[q].1.1:Nat))∧(chV (l.map (·.1)))[q*2+1]? =some (.int .u64 (l[q].1.2.toNat:Int)):=by
     intro l;induction l with
     | nil=>intro q hq;simp at hq
     | cons x l ih=>
       intro q hq;cases q with
       | zero=>exact⟨rfl,rfl⟩
       | succ q=>
         have:=ih q (by simpa using hq);rw [List.map_cons,chV,show(q+1)*2=q*2+1+1 by omega,show q*2+1+1+1=(q*2+1)+1+1 by omega];simpa using this
    have hk2:=key cs q hq;rw [hcs]at hk2;have hct:∀j,j<m i*2→cur'[j]? =(chV (m.chg i))[j]? :=fun j hj=>by
     rw [←ht,List.getElem?_take,if_pos (by have:(m.chg i).length=m i:=rfl;omega),Array.getElem?_toList]
    exact⟨(cell_of_row W3 hh _ cur' _ (0,0) h4).trans ((hct _ (by omega)).trans hk2.1),(cell_of_row W3 hh _ cur' _ (0,0) h4).trans ((hct _ (by omega)).trans hk2.2)⟩
 have HI:Hid (∀(pre:List WfC)X Y(row:Option Nat),(DevRep X d L (undoW i (pre.reverse.map (·.1)) ws) m mark g hb∧Touch (devOwn d L g hb) W3 X)∧Blk X w.heap.size 97 [.pointer (some ⟨g,66*i,none⟩)]→X.grownBy Y row→(∀r,row=some r→W3.heap.size≤r∧∃o:Obj,X.heap[r]? =some o∧o.isCells=false)→
  (DevRep Y d L (undoW i (pre.reverse.map (·.1)) ws) m mark g hb∧Touch (devOwn d L g hb) W3 Y)∧Blk Y w.heap.size 97 [.pointer (some ⟨g,66*i,none⟩)]):=Lib.hid (fun pre X Y row⟨⟨hD,hT⟩,hB⟩hg hr=>by
  have hno:∀b,(∃o,X.heap[b]? =some o∧o.isCells=true)→row≠some b:=fun b⟨o,h1,h2⟩e=>by
   obtain⟨_,o',h3,h4⟩:=hr b e;rw [h1]at h3;injection h3 with h3
   rw [h3,h4]at h2;cases h2
  have hbl:∀b,b<X.heap.size→row≠some b→Y.heap[b]? =X.heap[b]? :=fun b hb hne=>hg.block b hb (fun e=>hne e.symm)
  exact⟨⟨hD.keep (fun b hb' hl=>hbl b hl (hno b (hD.isCells b hb'))),hT.trans (Touch.of_grown (F:=fun b=>row=some b) hg (fun k e=>e)) (fun b e=> .inr (hr b e).1)⟩,(hbl _ hB.lt (hno _ (blk_isCells hB))).trans hB⟩)
 have HCs:=Lib.hid hcs;have HH:=Lib.hid h;have HB3:=Lib.hid hb3;have HB0:=Lib.hid B0;refine wpIn_rangeFunc_ownH rfl (by decide) (gf:=96) (lb:= #[.pointer (some ⟨w.heap.size+1,0,none⟩),.pointer (some ⟨w.heap.size+1+1,0,none⟩)]) rfl trivial (enters_of Tryz.func96 (by kernel_rfl) rfl)
  (encs:=fun x:WfC=> #[.agg #[.int .i64 (x.1.1:Nat),.int .u64 (x.1.2.toNat:Int)]]) (Kp:=KeepsB rb (w.heap.size+1) (w.heap.size+1+1) ⟨g,66*i+64,none⟩) (S:=fun xs=>xs=cs.reverse.take (cs.length-k)) (Sp:=fun _=>True) (N:=cs.length) (w0:=W3)
  (chg_in Fence.wide 2 trivial rfl (by decide) _ _ g (66*i) rb c k A cs (by omega) (by omega) hrA W3 p1 p2 p3 hrc hrb) (fun h1 h2=>⟨h2.1.trans h1.1,h2.2.1.trans h1.2.1,h2.2.2.1.trans h1.2.2.1,h2.2.2.2.trans h1.2.2.2⟩)
  (fun W q o o' hk ho h1 _=>⟨World.putObj_heap_other (by omega),World.putObj_heap_other (by omega),World.putObj_heap_other (by omega),World.cell?_of_block (w:=W) (World.putObj_heap_other (show g≠q by omega))⟩) (Below.refl _ _) (fun _=>rfl)
  (fun pre W=>(DevRep W d L (undoW i (pre.reverse.map (·.1)) ws) m mark g hb∧Touch (devOwn d L g hb) W3 W)∧Blk W w.heap.size 97 [.pointer (some ⟨g,66*i,none⟩)])
  (fun _ _ _=>False) (fun pre X Y row h1 h2 h3=>HI.out pre X Y row h1 h2 h3) (fun _ _ _ _ _ h _ _=>h) ⟨⟨by simpa [undoW]using H3,Touch.refl _ _⟩,B0⟩
  (fun x a' W=>∃Bx,W3.heap.size≤Bx∧Blk W Bx 140 [.int .i64 (x.1.1:Nat),.int .u64 (x.1.2.toNat:Int)]∧a'={tmps:= #[.pointer (some ⟨g,66*i,none⟩),.int .i64 (k:Int),.pointer (some ⟨w.heap.size,0,none⟩),undef,.pointer (some ⟨Bx,0,none⟩),.pointer (some ⟨g,66*i,none⟩),.int .i64 (k:Int),.func (.func 96) #[] #[.pointer (some ⟨w.heap.size+1,0,none⟩),.pointer (some ⟨w.heap.size+1+1,0,none⟩)],.agg #[.int .i64 (x.1.1:Nat),.int .u64 (x.1.2.toNat:Int)],undef,undef,undef,undef,undef,undef,undef,undef,undef,undef,undef,undef],defers:=[]})
  ?hAx ?assign ?body ?done ?stop
 case hAx=>
  intro x a';rintro u X Y row⟨Bx,h1,h2,h3⟩hg hr;refine⟨Bx,h1,(hg.block _ h2.lt (fun e=> ?_)).trans h2,h3⟩;obtain⟨_,o',h4,h5⟩:=hr Bx e.symm;obtain⟨o,h6,h7⟩:=blk_isCells h2;rw [h6]at h4;injection h4 with h4
  rw [h4,h5]at h7;cases h7
 case assign=>
  rintro l0 pre x W K⟨⟨hD,hT⟩,hB⟩hK;have hsz:=hT.size;have HK:=Lib.hid hK;have HD:=Lib.hid hD;have HT:=Lib.hid hT;have HB:=Lib.hid hB;clear hK hD hT hB h2 hch e1 hg p1 p2 p3 hrc;gi_wp2;have hbW:∀o,Below W.heap.size W (W.alloc o):=fun o=>(Below.refl _ _).alloc (Nat.le_refl _) _
  exact HK.out _ _ ((KeepsOthers.alloc _ _).from _) ⟨alloc_was _ _ (by omega),alloc_was _ _ (by omega),alloc_was _ _ (by omega),World.cell?_of_block (w:=W) (alloc_was _ _ (show g<W.heap.size by omega))⟩
   ⟨⟨HD.out.below (hbW _),HT.out.trans (Touch.of_below (F:=devOwn d L g hb) (hbW _)) (fun b h=> .inl h)⟩,HB.out.below (hbW _) HB.out.lt⟩ ⟨W.heap.size,hsz,heap_alloc_new _ _,rfl⟩
 case body=>
  rintro l0 pre x a' W hl0⟨r,hr0⟩⟨⟨hD,hT⟩,hB⟩⟨Bx,hBx1,hBx,rfl⟩hlen;obtain⟨t,ht8,hat⟩:=x.2;have hsz:=hT.size;have HX:Hid (undoW i ((pre++[x]).reverse.map (·.1)) ws=fun q=>if q=8*i+t then x.1.2 else undoW i (pre.reverse.map (·.1)) ws q):=Lib.hid (by
   rw [List.reverse_append,List.map_append];show undoW i (x.1::pre.reverse.map (·.1)) ws=_;funext q;show(if q=8*i+x.1.1/8 then x.1.2 else undoW i (pre.reverse.map (·.1)) ws q)=_;rw [show x.1.1/8=t by omega])
  obtain⟨a,ha⟩:∃a,a=x.1.1:=⟨_,rfl⟩;obtain⟨u,hu⟩:∃u,u=x.1.2:=⟨_,rfl⟩;rw [←ha]at hat;rw [←ha,←hu]at hBx;rw [←hu]at HX;rw [←ha,←hu];clear ha hu;obtain⟨wsx,hwsx⟩:∃wsx,wsx=undoW i (pre.reverse.map (·.1)) ws:=⟨_,rfl⟩;rw [←hwsx]at hD HX;clear hwsx;obtain⟨curW,hgW,hszW, -, -⟩:=hD.blk;have HSet:=set_line g (66*i) t (lineW wsx i) u W (lineW_length _ _) (hD.line i hi) (fun j _=>by simp [World.frozen?,hgW]) ht8;rw [←hat]at HSet;have HSet:=Lib.hid HSet;have x0:=hBx.cell 0;have x1:=hBx.cell 1;have y0:=hB.cell 0;simp only [List.getElem?_cons_zero,List.getElem?_cons_succ]at x0 x1 y0;have HD:=Lib.hid hD;have HT:=Lib.hid hT;have HB:=Lib.hid hB;have HGW:=Lib.hid hgW;have hd:1≤3-1-1:=by decide
  clear hD hT hB hBx hat h2 hch e1 hg p1 p2 p3 hrc hgW
  gi_wp2_with(refine⟨trivial,?_⟩;gi_at_call 57;refine(CallsIn.inRound l0 (callsIn_wide.2 HSet.out)).mono ?_;rintro e w5⟨rfl,w4,hb4,rfl⟩)
  have hb4l:((leBytes ((lineW wsx i).set t u)).map bv).length=64:=by rw [List.length_map,leBytes_length,List.length_set,lineW_length]
  have hg4:w4.heap[g]? =some (.cells curW 101 (0,0)):=(hb4.block g (by have:=HT.out.size;omega)).trans HGW.out;obtain⟨cur',c1,c2,c3⟩:=heap_setCells_at g _ _ ((leBytes ((lineW wsx i).set t u)).map bv) (66*i) w4 curW hg4 (by rw [hb4l,hszW];omega);have hP:=(HD.out.below hb4).put (i:=i) (k:=t) hi ht8 u;have tg:Touch (fun b=>b=g) W (w4.setCells g (66*i) ((leBytes ((lineW wsx i).set t u)).map bv)):=(Touch.of_below (F:=fun b=>b=g) hb4).setCells (.inl rfl);refine⟨⟨tg.size,fun q o _ hk ho=> ?_⟩,⟨tg.block _ (by omega) hrbg,tg.block _ (by omega) (by omega),tg.block _ (by omega) (by omega),?_⟩,⟨⟨by rw [HX.out];exact hP,HT.out.trans tg (fun b e=> .inl (.inr (.inl e)))⟩,HB.out.touch tg (by omega)⟩⟩
  ·have hql:=(Array.getElem?_eq_some_iff.1 hk).1;rw [tg.block q hql (fun e=>by
    subst e;rw [HGW.out]at hk;injection hk with hk
    rw [←hk]at ho;cases ho)]
   exact hk
  ·rw [cell_of_row _ g _ cur' _ (0,0) c1,c3,hb4l,if_neg (by omega),cell_of_row W g _ curW _ (0,0) HGW.out]
 case stop=>
  rintro D c pre W _ _ h;exact h.elim
 case done=>
  rintro D xs W hDl rfl⟨⟨hD,hT⟩,hB⟩hK;have hwd:((cs.reverse.take (cs.length-k)).reverse.map (·.1))=(m.chg i).drop k:=by
   rw [List.take_reverse,List.reverse_reverse,show cs.length- (cs.length-k)=k by omega,List.map_drop,HCs.out]
  rw [hwd]at hD;obtain⟨curW,hgW,hszW, -,h2W⟩:=hD.blk;obtain⟨AW,cW,e1W,e2W, -⟩:=h2W i hi;have z0:=hB.cell 0;simp only [List.getElem?_cons_zero]at z0;have z1:W.cell? ⟨g,66*i+64,none⟩=some (.slice AW (m i) cW):=by rw [cell_of_row W g _ curW _ (0,0) hgW];exact e1W
  have z2:W.cell? ⟨g,66*i+65,none⟩=some (.int .i64 (mark i:Int)):=by rw [cell_of_row W g _ curW _ (0,0) hgW];exact e2W
  have f1:W.frozen? ⟨g,66*i+64,none⟩=false:=by simp [World.frozen?,hgW]
  have f2:W.frozen? ⟨g,66*i+65,none⟩=false:=by simp [World.frozen?,hgW]
  have HD:=Lib.hid hD;have HT:=Lib.hid ((Touch.of_below (F:=devOwn d L g hb) HB3.out).trans hT (fun b h=> .inl h));have hsz:=hT.size;clear hD hT hB h2 hch e1 hg p1 p2 p3 hrc hgW h2W e1W e2W hwd;gi_wp2;refine wpIn_wide.2 ?_;go_region;have hK2:=(KeepsOthers.setCell (W.setCell ⟨g,66*i+64,none⟩ (.slice none 0 0)) ⟨g,66*i+65,none⟩ (.int .i64 0)).same D _ ((KeepsOthers.setCell W ⟨g,66*i+64,none⟩ (.slice none 0 0)).same D _ hK rfl) rfl;refine⟨by simp,.inl ⟨_,_,rfl,run_takeDeferred hK2,?_⟩⟩;refine⟨_,results_none rfl _ _ _,⟨_,rfl⟩,W,HD.out,HT.out,?_⟩;refine((Below.refl _ _).drew).grown (grownBy_putObj' _ D _) (by simp;omega) (fun k e=>by cases e;omega)
theorem line_crashU{w:World}{d L:Nat}{ws:Nat→UInt64}{m:Mode}{mark:Nat→Nat}{g:Nat}{hb:Nat→Option Nat}(h:DevRep w d L ws m mark g hb)(i k:Nat)(hi:i<L)(hL:L≤1024)(hk:k≤m i)(hlen:m i≤1000000)(hwf:∀c∈m.chg i,∃t,t<8∧c.1=8*t):
 Calls Tryz.prog 33 #[.pointer (some ⟨g,66*i,none⟩),.int .i64 (k:Int)] w fun e w'=>(∃v,e= .returned v)∧DevRep w' d L (undoW i ((m.chg i).drop k) ws) (m.wipe i) (fun q=>if q=i then 0 else mark q) g (fun q=>if q=i then none else hb q)∧Touch (devOwn d L g hb) w w':=by
 have hlt:=h.lt;refine(line_crash h i k hi hL hk hlen hwf).mono ?_;rintro e w'⟨he,W1,hD,hT,hB⟩;have h1:=hD.clear hi (Below.refl _ _) none;have tX:Touch (devOwn d L g hb) w ((W1.setCell ⟨g,66*i+64,none⟩ (.slice none 0 0)).setCell ⟨g,66*i+65,none⟩ (.int .i64 0)):=(hT.setCell (p:=⟨g,66*i+64,none⟩) (.inl (.inr (.inl rfl))) _).setCell (p:=⟨g,66*i+65,none⟩) (.inl (.inr (.inl rfl))) _;refine⟨he,h1.keep (fun b hb' _=>hB.block b ?_),⟨hB.os.trans tX.os,hB.tape.trans tX.tape,hB.output.trans tX.output,Nat.le_trans tX.size ?_,fun b hb' hn=>(hB.block b hb').trans (tX.block b hb' hn)⟩⟩
 ·refine hlt b ?_;rcases hb' with h| h| ⟨j,hj,h⟩
  ·exact .inl h
  ·exact .inr (.inl h)
  ·refine .inr (.inr ⟨j,hj,?_⟩);simp only at h;split at h
   ·cases h
   ·exact h
 ·have:=hB.size;simpa [World.setCell]using this
end Go.Proofs.YtdjfbnoolfpcnaaGreatDoor
