import Derived.RangeFuncNested
import Derived.RangeFuncBound
import Derived.Shelf.RegionOpen
import Derived.OwnWalkIn
import Derived.LoopNIn
import Derived.LoopIn
import Derived.Test.YtkimaejoeapmnaaGreatDoorG17
set_option maxHeartbeats 32000000
set_option maxRecDepth 100000
open List renaming mem_cons_of_mem->BO,mem_cons_self->Bq,map_cons->BU,size_toArray->Xz,length_cons->BJ,length_nil->Dt,push_toArray->Ads,append_toArray->yg,nil_append->Fz,cons_append->CJ,length_reverse->yh,length_map->BH,getElem?_cons_zero->Aj,map_drop->WG,drop_nil->Akm,set_cons_zero->Am
open Go.World renaming block_lt_of_cell?->Dz,cell?_of_block->Bz,putObj_heap_other->Ie,frozen?->GG
open Go.Lib renaming hid->Aa
open Nat renaming reduceAdd->Ali,reduceSub->Alj,zero_le->BK,le_refl->Ad
open Array renaming replicate_succ->rO,replicate_zero->rP,getElem?_eq_some_iff->AB
open UInt64 renaming ofNat->AA
namespace Go.Proofs.YtkimaejoeapmnaaGreatDoor
open Go.RowKit Go.Shelf
theorem Ns(w:World)(o:Obj){r:Nat}(h:r<w.heap.size):(w.alloc o).heap[r]? =w.heap[r]? :=by
 show(w.heap.push o)[r]? =_;rw [Array.getElem?_push_lt h,Array.getElem?_eq_getElem h]
attribute [local go_sem]Oper.semAt_some
abbrev WfC:={c:Nat×UInt64//∃t,t<8/\c.1=8*t}
theorem zT:∀(l:List (Nat×UInt64)),(∀c∈l,∃t,t<8/\c.1=8*t)->∃cs:List WfC,cs.map (·.1)=l
 | [],_=>⟨[],rfl⟩
 | c::l,h=>by
   obtain⟨cs,e⟩:=zT l (fun x hx=>h x (BO _ hx));exact⟨⟨c,h c (Bq ..)⟩::cs,by rw [BU,e]⟩
def ZV(rb B1 B2:Nat)(q:Addr)(W W':World):Prop:=W'.heap[rb]? =W.heap[rb]?/\W'.heap[B1]? =W.heap[B1]?/\W'.heap[B2]? =W.heap[B2]?/\W'.cell? q=W.cell? q
theorem Anr(F:Fence)(n:Nat)(hf:F.fn 152)(hro:F.round=none)(hn:1<=n)(B1 B2 g o rb c k:Nat)(A:Option Addr)(cs:List WfC)(hcs:cs.length<=1000000)(hk:k<=cs.length)(hA:0<cs.length->A=some ⟨rb,0,none⟩)(w:World)
 (hB1:w.cell? ⟨B1,0,none⟩=some (.pointer (some ⟨g,o,none⟩)))(hB2:w.cell? ⟨B2,0,none⟩=some (.int .i64 (k:Int)))(hL:w.cell? ⟨g,o+64,none⟩=some (.slice A cs.length c))
 (hr:∀i(h:i<cs.length),w.cell? ⟨rb,i*2,none⟩=some (.int .i64 (cs[i].1.1:Nat))/\w.cell? ⟨rb,i*2+1,none⟩=some (.int .u64 (cs[i].1.2.toNat:Int)))(hrl:rb<w.heap.size):
 SeqStopsK F n Tryz.prog 152 #[Aw B1,Aw B2] (fun x:WfC=> #[.agg #[.int .i64 (x.1.1:Nat),.int .u64 (x.1.2.toNat:Int)]]) (ZV rb B1 B2 ⟨g,o+64,none⟩)
  (fun xs=>xs=cs.reverse.take (cs.length-k)) (fun _=>True) cs.length w:=fun l J Jx W hW hJ hJx hY h0=>by
 have l1:=Dz w _ hB1;have l2:=Dz w _ hB2;have l3:=Dz w _ hL;have k1:W.heap[B1]? =w.heap[B1]? :=hW.block B1 l1;have k2:W.heap[B2]? =w.heap[B2]? :=hW.block B2 l2;have k3:W.cell? ⟨g,o+64,none⟩=w.cell? ⟨g,o+64,none⟩:=hW.cell (p:=⟨g,o+64,none⟩) l3;have kr:W.heap[rb]? =w.heap[rb]? :=hW.block rb hrl;have Q:Hid (∀W':World,ZV rb B1 B2 ⟨g,o+64,none⟩ W W'->W'.cell? ⟨B1,0,none⟩=some (.pointer (some ⟨g,o,none⟩))/\W'.cell? ⟨B2,0,none⟩=some (.int .i64 (k:Int))/\W'.cell? ⟨g,o+64,none⟩=some (.slice A cs.length c)):=
  Aa (fun W' h=>⟨(Bz (w:=w) (h.2.1.trans k1)).trans hB1,(Bz (w:=w) (h.2.2.1.trans k2)).trans hB2,(h.2.2.2.trans k3).trans hL⟩)
 have Q2:Hid (∀W':World,ZV rb B1 B2 ⟨g,o+64,none⟩ W W'->∀i(h:i<cs.length),W'.cell? ⟨rb,i*2,none⟩=some (.int .i64 (cs[i].1.1:Nat))/\W'.cell? ⟨rb,i*2+1,none⟩=some (.int .u64 (cs[i].1.2.toNat:Int))):=
  Aa (fun W' e i h=>⟨(Bz (w:=w) (e.1.trans kr)).trans (hr i h).1,(Bz (w:=w) (e.1.trans kr)).trans (hr i h).2⟩)
 have HY:=Aa hY;obtain⟨z1,z2,z3⟩:=Q.out W ⟨rfl,rfl,rfl,rfl⟩;obtain⟨N,hN⟩:∃N,N=cs.length:=⟨_,rfl⟩;have HN:=Aa hN;rw [<-hN]at z3;have e1:IntKind.i64.wrap ((N:Int) -1)=(N:Int) -1:=IntWalk.i64_in _ (by omega);clear hB1 hB2 hL hr hY k1 k2 k3 kr hW hN l1 l2 l3 hrl;refine callsIn_of_wp Tryz.func152 rfl hf ?_ hro;simp only [Tryz.ntmps152,Xz,BJ,Dt,Ali,Alj,rO,rP,Ads,yg,Fz,CJ];gi_wp2
 gi_loopw [4](fun p wr=>∃t,t<=cs.length-k/\p= .int .i64 ((N:Int) -1- (t:Int))/\J (cs.reverse.take t) wr/\ZV rb B1 B2 ⟨g,o+64,none⟩ W wr)(fun p _=>(intOf p+1).toNat)
 case atStart=>exact⟨0,BK _,by simp,h0,rfl,rfl,rfl,rfl⟩
 case round=>
  obtain⟨t,ht,rfl,hJt,hkp⟩:=hrel;obtain⟨z1,z2,z3⟩:=Q.out wr hkp;rw [<-HN.out]at z3;by_cases hlt:t<cs.length-k
  ·obtain rfl:=hA (by omega);obtain⟨j,hj⟩:∃j,j=cs.length-1-t:=⟨_,rfl⟩;have hjl:j<cs.length:=by omega
   have hp:((N:Int) -1- (t:Int))=(j:Int):=by rw [HN.out];omega
   rw [hp];have hnx:cs.reverse.take (t+1)=cs.reverse.take t++[cs[j]]:=by
    have hlr:t<cs.reverse.length:=by rw [yh];omega
    rw [List.take_succ_eq_append_getElem hlr];congr 2;rw [List.getElem_reverse];congr 1;omega
   have ay:=Aa hnx;obtain⟨fn,tmps,assign,body,hy,hR⟩:=HY.out (cs.reverse.take t) cs[j] wr hJt (by rw [List.length_take,yh];omega);obtain⟨z4,z5⟩:=Q2.out wr hkp j hjl;have hx1:(j:Int)<(N:Int):=by rw [HN.out];omega
   have hx2:decide ((j:Int)<(N:Int))=true:=decide_eq_true hx1;have hx3:decide ((k:Int)<=(j:Int))=true:=decide_eq_true (by omega);have hx4:decide (k<=j)=true:=decide_eq_true (by omega);have hx5:decide (j<N)=true:=decide_eq_true (by have:=HN.out;omega);have e2:IntKind.i64.wrap ((j:Int) -1)=(j:Int) -1:=IntWalk.i64_in _ (by omega);rw [<-hnx]at hR;generalize cs[j]=cj at*;have HJ:=Aa hj;have kS:=Aa hkp;clear hj hnx hJt hkp;gi_wp2;refine hR.mono ?_;rintro e W3(⟨rfl,hJ3,hk3⟩| ⟨rfl,hJx3⟩)
   ·have Z4:=Aa hJ3;have Oi:=Aa hk3;clear hJ3 hk3;gi_wp2;go_roundw
    case rel=>exact⟨t+1,by omega,by have:=HJ.out;have:=HN.out;congr 1;omega,Z4.out,Oi.out.1.trans kS.out.1,Oi.out.2.1.trans kS.out.2.1,Oi.out.2.2.1.trans kS.out.2.2.1,Oi.out.2.2.2.trans kS.out.2.2.2⟩
    case measure=>have:=HJ.out;simp [intOf]
   ·have Z4:=Aa hJx3;clear hJx3;gi_wp2;refine bodyPost_ret (results_none rfl _ _ _) rfl ?_;exact⟨⟨_,rfl⟩,.inr ⟨cs.reverse.take (t+1),trivial,Z4.out⟩⟩
  ·have hkm:t=cs.length-k:=by omega
   obtain⟨q,hq⟩:∃q:Int,q=(N:Int) -1- (t:Int):=⟨_,rfl⟩;rw [<-hq];have hx3:decide ((k:Int)<=q)=false:=decide_eq_false (by rw [hq,HN.out];omega);have HJk:Hid (J (cs.reverse.take (cs.length-k)) wr):=Aa (hkm▸hJt);clear hJt hkm hq hkp;gi_wp2;go_end0;exact⟨⟨_,rfl⟩,.inl ⟨_,rfl,HJk.out⟩⟩
theorem Agx(P:Option Addr)(k:Int)(w:World):Calls Tryz.prog 106 #[.pointer P,.int .i64 k] w fun e w'=>e= .returned (.func (.func 152) #[] #[Aw w.heap.size,Aw (w.heap.size+1)])/\w'=(w.alloc (.cells #[.pointer P] 151)).alloc (.cells #[.int .i64 k] 3):=by
 go_enter Tryz.func106,Tryz.ntmps106
 go_wp2_with fail
 refine bodyPost_ret (v:= .func (.func 152) #[] #[Aw w.heap.size,Aw (w.heap.size+1)]) (by simp [results,Tryz.results106,go_sem]) rfl ?_;exact⟨rfl,rfl⟩
theorem Xp{w:World}{b:Nat}{e:TypeId}{xs:List Value}(h:CG w b e xs):∃o,w.heap[b]? =some o/\o.isCells=true:=⟨_,h,rfl⟩
theorem BG.isCells{w:World}{d L:Nat}{ws:Nat->UInt64}{m:Mode}{mark:Nat->Nat}{g:Nat}{hb:Nat->Option Nat}(h:BG w d L ws m mark g hb):∀b,Df d L g hb b->∃o,w.heap[b]? =some o/\o.isCells=true:=fun b hb'=>by
 rcases hb' with rfl| rfl| ⟨i,hi,h2⟩
 ·obtain⟨st,hbx⟩:=h.box;exact⟨_,hbx,rfl⟩
 ·obtain⟨cur,hg,_⟩:=h.blk;exact⟨_,hg,rfl⟩
 ·obtain⟨cur,_,_,_,hc⟩:=h.blk;obtain⟨A,c,_,_,hch⟩:=hc i hi;rcases hch with⟨h3,_⟩| ⟨hh,h3,hA,hrow⟩
  ·rw [h2]at h3;cases h3
  ·rw [h2]at h3;injection h3 with h3
   subst h3;rcases hrow.2 with⟨h1,_⟩| ⟨g',cap,cur',h1,_,h4,_⟩
   ·rw [hA]at h1;cases h1
   ·rw [hA]at h1;simp only [Value.slice.injEq,Option.some.injEq,Addr.mk.injEq,and_true,true_and]at h1;rw [h1.1];exact⟨_,h4,rfl⟩
theorem xE{w:World}{d L:Nat}{ws:Nat->UInt64}{m:Mode}{mark:Nat->Nat}{g:Nat}{hb:Nat->Option Nat}(h:BG w d L ws m mark g hb)(i k:Nat)(hi:i<L)(_:L<=1024)(hk:k<=m i)(hlen:m i<=1000000)(hwf:∀c∈m.MJ i,∃t,t<8/\c.1=8*t):
 Calls Tryz.prog 65 #[.pointer (some ⟨g,66*i,none⟩),.int .i64 (k:Int)] w fun e w'=>(∃v,e= .returned v)/\∃W1,BG W1 d L (IV i ((m.MJ i).drop k) ws) m mark g hb/\Touch (Df d L g hb) w W1/\
  Below w.heap.size ((W1.setCell ⟨g,66*i+64,none⟩ (.slice none 0 0)).setCell ⟨g,66*i+65,none⟩ (.int .i64 0)) w':=by
 obtain⟨cs,hcs⟩:=zT _ hwf;have hcl:cs.length=m i:=by rw [<-BH (f:=(·.1)),hcs];rfl
 refine(callsIn_wide (n:=3)).1 ?_;refine callsIn_of_wp_marks Tryz.func65 rfl trivial ?_ rfl;simp only [Tryz.ntmps65,Xz,BJ,Dt,Ali,Alj,rO,rP,Ads,yg,Fz,CJ]
 gi_wp2_with(refine⟨trivial,?_⟩;gi_at_call 106;refine(callsIn_wide.2 (Agx _ _ _)).mono ?_;rintro e w'⟨rfl,rfl⟩)
 obtain⟨W3,hW3⟩:∃W3,W3=((w.alloc (.cells #[.pointer (some ⟨g,66*i,none⟩)] 151)).alloc (.cells #[.pointer (some ⟨g,66*i,none⟩)] 151)).alloc (.cells #[.int .i64 (k:Int)] 3):=⟨_,rfl⟩;rw [<-hW3];have hb3:Below w.heap.size w W3:=hW3▸(((Below.refl _ w).alloc (Ad _) _).alloc (by simp) _).alloc (by simp;omega) _;have B0:CG W3 w.heap.size 151 [.pointer (some ⟨g,66*i,none⟩)]:=by rw [hW3];exact(Ns _ _ (by simp;omega)).trans ((Ns _ _ (by simp)).trans (heap_alloc_new _ _))
 have p1:W3.cell? ⟨w.heap.size+1,0,none⟩=some (.pointer (some ⟨g,66*i,none⟩)):=by rw [hW3];go_simp
 have p2:W3.cell? ⟨w.heap.size+1+1,0,none⟩=some (.int .i64 (k:Int)):=by rw [hW3];go_simp
 have hs3:W3.heap.size=w.heap.size+3:=by rw [hW3];simp
 have H3:=h.below hb3;have hlt:∀b,Df d L g hb b->b<w.heap.size:=h.lt;have hgl:=h.mi;obtain⟨cur,hg,hsz, -,h2⟩:=H3.blk;obtain⟨A,c,e1, -,hch⟩:=h2 i hi;have p3:W3.cell? ⟨g,66*i+64,none⟩=some (.slice A cs.length c):=by rw [cell_of_row W3 g _ cur _ (0,0) hg,hcl];exact e1
 obtain⟨rb,hrb,hrA,Au7,hrc⟩:∃rb,rb<W3.heap.size/\(0<cs.length->A=some ⟨rb,0,none⟩)/\rb≠g/\∀q(h:q<cs.length),W3.cell? ⟨rb,q*2,none⟩=some (.int .i64 (cs[q].1.1:Nat))/\W3.cell? ⟨rb,q*2+1,none⟩=some (.int .u64 (cs[q].1.2.toNat:Int)):=by
  rcases hch with⟨_,h4,_⟩| ⟨hh,h3,hA,hrow⟩
  ·have h0:cs.length=0:=by rw [hcl];unfold Mode.len;rw [h4];rfl
   exact⟨w.heap.size,by omega,fun h=>by omega,by omega,fun q h=>by omega⟩
  ·have hbd:=h.bd i hi hh h3;rcases hrow.2 with⟨h1,_⟩| ⟨g',cap,cur',h1,_,h4,_,_,hcs',ht⟩
   ·rw [hA]at h1;cases h1
   ·rw [hA]at h1;simp only [Value.slice.injEq,Option.some.injEq,Addr.mk.injEq,and_true,true_and]at h1;obtain⟨rfl,_⟩:=h1;refine⟨hh,(AB.1 h4).1,fun _=>hA,hbd.1,fun q hq=> ?_⟩;have key:∀(l:List WfC)(q:Nat)(hq:q<l.length),(chV (l.map (·.1)))[q*2]? =some (.int .i64 (l[q].1.1:Nat))/\(chV (l.map (·.1)))[q*2+1]? =some (.int .u64 (l[q].1.2.toNat:Int)):=by
     intro l;induction l with
     | nil=>intro q hq;simp at hq
     | cons x l ih=>
       intro q hq;cases q with
       | zero=>exact⟨rfl,rfl⟩
       | succ q=>
         have:=ih q (by simpa using hq);rw [BU,chV,show(q+1)*2=q*2+1+1 by omega,show q*2+1+1+1=(q*2+1)+1+1 by omega];simpa using this
    have hk2:=key cs q hq;rw [hcs]at hk2;have hct:∀j,j<m i*2->cur'[j]? =(chV (m.MJ i))[j]? :=fun j hj=>by
     rw [<-ht,List.getElem?_take,if_pos (by have:(m.MJ i).length=m i:=rfl;omega),Array.getElem?_toList]
    exact⟨(cell_of_row W3 hh _ cur' _ (0,0) h4).trans ((hct _ (by omega)).trans hk2.1),(cell_of_row W3 hh _ cur' _ (0,0) h4).trans ((hct _ (by omega)).trans hk2.2)⟩
 have HI:Hid (∀(pre:List WfC)X Y(row:Option Nat),(BG X d L (IV i (pre.reverse.map (·.1)) ws) m mark g hb/\Touch (Df d L g hb) W3 X)/\CG X w.heap.size 151 [.pointer (some ⟨g,66*i,none⟩)]->X.grownBy Y row->(∀r,row=some r->W3.heap.size<=r/\∃o:Obj,X.heap[r]? =some o/\o.isCells=false)->
  (BG Y d L (IV i (pre.reverse.map (·.1)) ws) m mark g hb/\Touch (Df d L g hb) W3 Y)/\CG Y w.heap.size 151 [.pointer (some ⟨g,66*i,none⟩)]):=Aa (fun pre X Y row⟨⟨hD,hT⟩,hB⟩hg hr=>by
  have hno:∀b,(∃o,X.heap[b]? =some o/\o.isCells=true)->row≠some b:=fun b⟨o,h1,h2⟩e=>by
   obtain⟨_,o',h3,h4⟩:=hr b e;rw [h1]at h3;injection h3 with h3
   rw [h3,h4]at h2;cases h2
  have hbl:∀b,b<X.heap.size->row≠some b->Y.heap[b]? =X.heap[b]? :=fun b hb hne=>hg.block b hb (fun e=>hne e.symm)
  exact⟨⟨hD.keep (fun b hb' hl=>hbl b hl (hno b (hD.isCells b hb'))),hT.trans (Touch.UF (F:=fun b=>row=some b) hg (fun k e=>e)) (fun b e=> .inr (hr b e).1)⟩,(hbl _ hB.lt (hno _ (Xp hB))).trans hB⟩)
 have HCs:=Aa hcs;have HH:=Aa h;have HB3:=Aa hb3;have HB0:=Aa B0;refine wpIn_rangeFunc_ownH rfl (by decide) (gf:=152) (lb:= #[Aw (w.heap.size+1),Aw (w.heap.size+1+1)]) rfl trivial (enters_of Tryz.func152 (by kernel_rfl) rfl)
  (encs:=fun x:WfC=> #[.agg #[.int .i64 (x.1.1:Nat),.int .u64 (x.1.2.toNat:Int)]]) (Kp:=ZV rb (w.heap.size+1) (w.heap.size+1+1) ⟨g,66*i+64,none⟩) (S:=fun xs=>xs=cs.reverse.take (cs.length-k)) (Sp:=fun _=>True) (N:=cs.length) (w0:=W3)
  (Anr Fence.wide 2 trivial rfl (by decide) _ _ g (66*i) rb c k A cs (by omega) (by omega) hrA W3 p1 p2 p3 hrc hrb) (fun h1 h2=>⟨h2.1.trans h1.1,h2.2.1.trans h1.2.1,h2.2.2.1.trans h1.2.2.1,h2.2.2.2.trans h1.2.2.2⟩)
  (fun W q o o' hk ho h1 _=>⟨Ie (by omega),Ie (by omega),Ie (by omega),Bz (w:=W) (Ie (show g≠q by omega))⟩) (Below.refl _ _) (fun _=>rfl)
  (fun pre W=>(BG W d L (IV i (pre.reverse.map (·.1)) ws) m mark g hb/\Touch (Df d L g hb) W3 W)/\CG W w.heap.size 151 [.pointer (some ⟨g,66*i,none⟩)])
  (fun _ _ _=>False) (fun pre X Y row h1 h2 h3=>HI.out pre X Y row h1 h2 h3) (fun _ _ _ _ _ h _ _=>h) ⟨⟨by simpa [IV]using H3,Touch.refl _ _⟩,B0⟩
  (fun x a' W=>∃Bx,W3.heap.size<=Bx/\CG W Bx 204 [.int .i64 (x.1.1:Nat),.int .u64 (x.1.2.toNat:Int)]/\a'={tmps:= #[.pointer (some ⟨g,66*i,none⟩),.int .i64 (k:Int),Aw w.heap.size,undef,Aw Bx,.pointer (some ⟨g,66*i,none⟩),.int .i64 (k:Int),.func (.func 152) #[] #[Aw (w.heap.size+1),Aw (w.heap.size+1+1)],.agg #[.int .i64 (x.1.1:Nat),.int .u64 (x.1.2.toNat:Int)],undef,undef,undef,undef,undef,undef,undef,undef,undef,undef,undef,undef],defers:=[]})
  ?hAx ?assign ?body ?done ?stop
 case hAx=>
  intro x a';rintro u X Y row⟨Bx,h1,h2,h3⟩hg hr;refine⟨Bx,h1,(hg.block _ h2.lt (fun e=> ?_)).trans h2,h3⟩;obtain⟨_,o',h4,h5⟩:=hr Bx e.symm;obtain⟨o,h6,h7⟩:=Xp h2;rw [h6]at h4;injection h4 with h4
  rw [h4,h5]at h7;cases h7
 case assign=>
  rintro l0 pre x W K⟨⟨hD,hT⟩,hB⟩hK;have hsz:=hT.size;have HK:=Aa hK;have HD:=Aa hD;have HT:=Aa hT;have HB:=Aa hB;clear hK hD hT hB h2 hch e1 hg p1 p2 p3 hrc;gi_wp2;have hbW:∀o,Below W.heap.size W (W.alloc o):=fun o=>(Below.refl _ _).alloc (Ad _) _
  exact HK.out _ _ ((KeepsOthers.alloc _ _).from _) ⟨Ns _ _ (by omega),Ns _ _ (by omega),Ns _ _ (by omega),Bz (w:=W) (Ns _ _ (show g<W.heap.size by omega))⟩
   ⟨⟨HD.out.below (hbW _),HT.out.trans (Touch.of_below (F:=Df d L g hb) (hbW _)) (fun b h=> .inl h)⟩,HB.out.below (hbW _) HB.out.lt⟩ ⟨W.heap.size,hsz,heap_alloc_new _ _,rfl⟩
 case body=>
  rintro l0 pre x a' W hl0⟨r,hr0⟩⟨⟨hD,hT⟩,hB⟩⟨Bx,hBx1,hBx,rfl⟩hlen;obtain⟨t,ht8,hat⟩:=x.2;have hsz:=hT.size;have HX:Hid (IV i ((pre++[x]).reverse.map (·.1)) ws=fun q=>if q=8*i+t then x.1.2 else IV i (pre.reverse.map (·.1)) ws q):=Aa (by
   rw [List.reverse_append,List.map_append];show IV i (x.1::pre.reverse.map (·.1)) ws=_;funext q;show(if q=8*i+x.1.1/8 then x.1.2 else IV i (pre.reverse.map (·.1)) ws q)=_;rw [show x.1.1/8=t by omega])
  obtain⟨a,ha⟩:∃a,a=x.1.1:=⟨_,rfl⟩;obtain⟨u,hu⟩:∃u,u=x.1.2:=⟨_,rfl⟩;rw [<-ha]at hat;rw [<-ha,<-hu]at hBx;rw [<-hu]at HX;rw [<-ha,<-hu];clear ha hu;obtain⟨wsx,Ar8⟩:∃wsx,wsx=IV i (pre.reverse.map (·.1)) ws:=⟨_,rfl⟩;rw [<-Ar8]at hD HX;clear Ar8;obtain⟨Ac6,hgW,hszW, -, -⟩:=hD.blk;have Abd:=mg g (66*i) t (En wsx i) u W (GV _ _) (hD.line i hi) (fun j _=>by simp [GG,hgW]) ht8;rw [<-hat]at Abd;have Abd:=Aa Abd;have x0:=hBx.cell 0;have x1:=hBx.cell 1;have y0:=hB.cell 0;simp only [Aj,List.getElem?_cons_succ]at x0 x1 y0;have HD:=Aa hD;have HT:=Aa hT;have HB:=Aa hB;have HGW:=Aa hgW;have hd:1<=3-1-1:=by decide
  clear hD hT hB hBx hat h2 hch e1 hg p1 p2 p3 hrc hgW
  gi_wp2_with(refine⟨trivial,?_⟩;gi_at_call 107;refine(CallsIn.inRound l0 (callsIn_wide.2 Abd.out)).mono ?_;rintro e w5⟨rfl,w4,hb4,rfl⟩)
  have Ar9:((leBytes ((En wsx i).set t u)).map bv).length=64:=by rw [BH,leBytes_length,List.length_set,GV]
  have hg4:w4.heap[g]? =some (.cells Ac6 82 (0,0)):=(hb4.block g (by have:=HT.out.size;omega)).trans HGW.out;obtain⟨cur',c1,c2,c3⟩:=DY g _ _ ((leBytes ((En wsx i).set t u)).map bv) (66*i) w4 Ac6 hg4 (by rw [Ar9,hszW];omega);have hP:=(HD.out.below hb4).put (i:=i) (k:=t) hi ht8 u;have tg:Touch (fun b=>b=g) W (w4.setCells g (66*i) ((leBytes ((En wsx i).set t u)).map bv)):=(Touch.of_below (F:=fun b=>b=g) hb4).setCells (.inl rfl);refine⟨⟨tg.size,fun q o _ hk ho=> ?_⟩,⟨tg.block _ (by omega) Au7,tg.block _ (by omega) (by omega),tg.block _ (by omega) (by omega),?_⟩,⟨⟨by rw [HX.out];exact hP,HT.out.trans tg (fun b e=> .inl (.inr (.inl e)))⟩,HB.out.touch tg (by omega)⟩⟩
  ·have hql:=(AB.1 hk).1;rw [tg.block q hql (fun e=>by
    subst e;rw [HGW.out]at hk;injection hk with hk
    rw [<-hk]at ho;cases ho)]
   exact hk
  ·rw [cell_of_row _ g _ cur' _ (0,0) c1,c3,Ar9,if_neg (by omega),cell_of_row W g _ Ac6 _ (0,0) HGW.out]
 case stop=>
  rintro D c pre W _ _ h;exact h.elim
 case done=>
  rintro D xs W hDl rfl⟨⟨hD,hT⟩,hB⟩hK;have hwd:((cs.reverse.take (cs.length-k)).reverse.map (·.1))=(m.MJ i).drop k:=by
   rw [List.take_reverse,List.reverse_reverse,show cs.length- (cs.length-k)=k by omega,WG,HCs.out]
  rw [hwd]at hD;obtain⟨Ac6,hgW,hszW, -,h2W⟩:=hD.blk;obtain⟨AW,cW,e1W,e2W, -⟩:=h2W i hi;have z0:=hB.p1;have z1:W.cell? ⟨g,66*i+64,none⟩=some (.slice AW (m i) cW):=by rw [cell_of_row W g _ Ac6 _ (0,0) hgW];exact e1W
  have z2:W.cell? ⟨g,66*i+65,none⟩=some (.int .i64 (mark i:Int)):=by rw [cell_of_row W g _ Ac6 _ (0,0) hgW];exact e2W
  have f1:W.frozen? ⟨g,66*i+64,none⟩=false:=by simp [GG,hgW]
  have f2:W.frozen? ⟨g,66*i+65,none⟩=false:=by simp [GG,hgW]
  have HD:=Aa hD;have HT:=Aa ((Touch.of_below (F:=Df d L g hb) HB3.out).trans hT (fun b h=> .inl h));have hsz:=hT.size;clear hD hT hB h2 hch e1 hg p1 p2 p3 hrc hgW h2W e1W e2W hwd;gi_wp2;refine wpIn_wide.2 ?_;go_region;have hK2:=(KeepsOthers.setCell (W.setCell ⟨g,66*i+64,none⟩ (.slice none 0 0)) ⟨g,66*i+65,none⟩ (.int .i64 0)).same D _ ((KeepsOthers.setCell W ⟨g,66*i+64,none⟩ (.slice none 0 0)).same D _ hK rfl) rfl;refine⟨by simp,.inl ⟨_,_,rfl,run_takeDeferred hK2,?_⟩⟩;refine⟨_,results_none rfl _ _ _,⟨_,rfl⟩,W,HD.out,HT.out,?_⟩;refine((Below.refl _ _).drew).grown (grownBy_putObj' _ D _) (by simp;omega) (fun k e=>by cases e;omega)
theorem qL{w:World}{d L:Nat}{ws:Nat->UInt64}{m:Mode}{mark:Nat->Nat}{g:Nat}{hb:Nat->Option Nat}(h:BG w d L ws m mark g hb)(i k:Nat)(hi:i<L)(hL:L<=1024)(hk:k<=m i)(hlen:m i<=1000000)(hwf:∀c∈m.MJ i,∃t,t<8/\c.1=8*t):
 Calls Tryz.prog 65 #[.pointer (some ⟨g,66*i,none⟩),.int .i64 (k:Int)] w fun e w'=>(∃v,e= .returned v)/\BG w' d L (IV i ((m.MJ i).drop k) ws) (m.wipe i) (fun q=>if q=i then 0 else mark q) g (fun q=>if q=i then none else hb q)/\Touch (Df d L g hb) w w':=by
 have hlt:=h.lt;refine(xE h i k hi hL hk hlen hwf).mono ?_;rintro e w'⟨he,W1,hD,hT,hB⟩;have h1:=hD.clear hi (Below.refl _ _) none;have tX:Touch (Df d L g hb) w ((W1.setCell ⟨g,66*i+64,none⟩ (.slice none 0 0)).setCell ⟨g,66*i+65,none⟩ (.int .i64 0)):=(hT.setCell (p:=⟨g,66*i+64,none⟩) (.inl (.inr (.inl rfl))) _).setCell (p:=⟨g,66*i+65,none⟩) (.inl (.inr (.inl rfl))) _;refine⟨he,h1.keep (fun b hb' _=>hB.block b ?_),⟨hB.os.trans tX.os,hB.tape.trans tX.tape,hB.output.trans tX.output,Nat.le_trans tX.size ?_,fun b hb' hn=>(hB.block b hb').trans (tX.block b hb' hn)⟩⟩
 ·refine hlt b ?_;rcases hb' with h| h| ⟨j,hj,h⟩
  ·exact .inl h
  ·exact .inr (.inl h)
  ·refine .inr (.inr ⟨j,hj,?_⟩);simp only at h;split at h
   ·cases h
   ·exact h
 ·have:=hB.size;simpa [World.setCell]using this
end Go.Proofs.YtkimaejoeapmnaaGreatDoor
namespace Go.Proofs.YtkimaejoeapmnaaGreatDoor
open Go.RowKit
section
variable{w w':World}{d L:Nat}{ws:Nat->UInt64}{m:Mode}{mark:Nat->Nat}{g:Nat}{hb:Nat->Option Nat}
theorem BG.Ak6(h:BG w d L ws m mark g hb)(t:Touch (fun b=>b=d) w w')(lf:Int)(h1: -1<=lf)(h2:lf<=1000000000){st:Int}(hB:CG w' d 78 [.slice (some ⟨g,0,none⟩) L L,.bool (decide (lf=0)),.int .i64 lf,.int .i64 st]):BG w' d L ws ⟨m.MJ,lf⟩ mark g hb:=by
 have hk:∀b,b<w.heap.size->b≠d->w'.heap[b]? =w.heap[b]? :=fun b hl hb'=>t.block b hl hb'
 obtain⟨cur,hg,hs,h3,h4⟩:=h.blk;exact⟨⟨st,hB⟩,⟨h1,h2⟩,h.gd,⟨cur,(hk g h.mi h.gd).trans hg,hs,h3,fun i hi=>by
  obtain⟨A,c,e1,e2,hc⟩:=h4 i hi;exact⟨A,c,e1,e2,hc.keep (fun b hb' hl=>hk b hl (h.bd i hi b hb').2)⟩⟩,h.bd,h.inj,h.mrk⟩
theorem Agy(hL0:0<L)(hL:L<=1024)(hu:m.lf≠0)(h:BG w d L ws m mark g hb)(n:Nat)(hn:n<=1000000000):
 Calls Tryz.prog 24 #[Aw d,.int .i64 (n:Int)] w fun e w'=>(∃v,e= .returned v)/\BG w' d L ws ⟨m.MJ,n⟩ mark g hb/\Touch (Df d L g hb) w w':=by
 obtain⟨st,hbx⟩:=h.box;rw [decide_eq_false hu]at hbx;obtain⟨y0,y1,y2,y3,f0,f1,f2,f3⟩:=C9 hbx;have HS:=Aa (N8 d L g (.bool false) (.int .i64 m.lf) (.int .i64 st) w hL hbx);have t0:(((L*64:Nat):Int)==0)=false:=by rw [beq_eq_false_iff_ne];omega
 have H:=Aa h;have KEY:Hid (∀x:Int,x=(n:Int)->BG ((w.setCell ⟨d,2,none⟩ (.int .i64 x)).setCell ⟨d,1,none⟩ (.bool (x==0))) d L ws ⟨m.MJ,n⟩ mark g hb/\Touch (Df d L g hb) w ((w.setCell ⟨d,2,none⟩ (.int .i64 x)).setCell ⟨d,1,none⟩ (.bool (x==0)))):=Aa (fun x hx=>by
  subst hx;have t:Touch (fun b=>b=d) w ((w.setCell ⟨d,2,none⟩ (.int .i64 (n:Int))).setCell ⟨d,1,none⟩ (.bool ((n:Int)==0))):=((Touch.refl (fun b=>b=d) w).setCell (p:=⟨d,2,none⟩) (.inl rfl) _).setCell (p:=⟨d,1,none⟩) (.inl rfl) _;exact⟨H.out.Ak6 t n (by omega) (by omega) (st:=st) ((hbx.AZ 2 (.int .i64 (n:Int))).AZ 1 (.bool ((n:Int)==0))),t.mono (fun b e=> .inl e)⟩)
 have hmx:(if(n:Int)<0 then(0:Int)else(n:Int))=(n:Int):=if_neg (by omega);have hm2:decide ((n:Int)<0)=false:=decide_eq_false (by omega);generalize L*64=sz at HS t0;clear h hbx;go_enter Tryz.func24,Tryz.ntmps24
 go_wp2_with fail
 refine HS.out.mono ?_;rintro e w'⟨rfl,rfl⟩;clear HS
 go_wp2_with fail
 go_end0;exact⟨⟨_,rfl⟩,KEY.out _ (by first| rfl| simp)⟩
def bJ(k:Nat)(m:Mode):Mode:=⟨fun i=>if i<k then []else m.MJ i, -1⟩
def xG(k:Nat)(mark:Nat->Nat)(i:Nat):Nat:=if i<k then 0 else mark i
def qM(k:Nat)(hb:Nat->Option Nat)(i:Nat):Option Nat:=if i<k then none else hb i
def ku(k:Nat)(m:Mode)(pick:Nat->Nat)(ws:Nat->UInt64)(q:Nat):UInt64:=if q/8<k then Oa m pick ws q else ws q
theorem fQ{i:Nat}:∀{l:List (Nat×UInt64)}{ws:Nat->UInt64}{q:Nat},(∀c∈l,∃t,t<8/\c.1=8*t)->q/8≠i->IV i l ws q=ws q
 | [],_,_,_,_=>rfl
 | c::l,ws,q,h,hq=>by
   obtain⟨t,t1,t2⟩:=h c (Bq ..);unfold IV;rw [if_neg (by omega),fQ (fun x hx=>h x (BO _ hx)) hq]
theorem ZW{i:Nat}:∀{l:List (Nat×UInt64)}{ws ws':Nat->UInt64}{q:Nat},ws q=ws' q->IV i l ws q=IV i l ws' q
 | [],_,_,_,h=>h
 | c::l,ws,ws',q,h=>by
   unfold IV;rw [ZW h]
theorem Agz{k:Nat}{m:Mode}{pick:Nat->Nat}{ws:Nat->UInt64}(hwf:∀i,∀c∈m.MJ i,∃t,t<8/\c.1=8*t)(a:Nat):
 IV k ((m.MJ k).drop a) (ku k m pick ws)=ku (k+1) m (fun i=>if i=k then a else pick i) ws:=by
 funext q;unfold ku;by_cases h1:q/8=k
 ·rw [if_pos (by omega)];unfold Oa;rw [h1];simp only [if_true];exact ZW (by rw [if_neg (by omega)])
 ·rw [fQ (fun c hc=>hwf k c (List.mem_of_mem_drop hc)) h1];by_cases h2:q/8<k
  ·rw [if_pos h2,if_pos (by omega)];unfold Oa;simp only [if_neg h1]
  ·rw [if_neg h2,if_neg (by omega)]
theorem Ac7(hL0:0<L)(hL:L<=1024)(h:BG w d L ws m mark g hb)(hlen:∀i,m i<=1000000)(hwf:∀i,∀c∈m.MJ i,∃t,t<8/\c.1=8*t)(A:Option Addr)(n c:Nat)(l:List UInt8)(hn:n<=1000000000)
 (hA:(∀i,m i=0)\/(n<=c/\Bs w A n l/\∀a,A=some a->¬Df d L g hb a.block)):
 Calls Tryz.prog 25 #[Aw d,.slice A n c] w fun e w'=>(∃v,e= .returned v)/\
  ∃pick hb',(∀i,pick i<=m i)/\BG w' d L (ku L m pick ws) (bJ L m) (xG L mark) g hb'/\(∀i h,hb' i=some h->hb i=some h)/\Touch (Df d L g hb) w w':=by
 obtain⟨st,hbx⟩:=h.box;obtain⟨y0,y1,y2,y3,f0,f1,f2,f3⟩:=C9 hbx;have HS:=Aa (N8 d L g _ _ _ w hL hbx);have hlt:=h.lt;have H:=Aa h;have HBx:=Aa hbx;have HWf:=Aa hwf;have HLen:=Aa hlen;have HA:=Aa hA;obtain⟨W2,hW2⟩:∃W2,W2=(w.setCell ⟨d,1,none⟩ (.bool false)).setCell ⟨d,2,none⟩ (.int .i64 (-1)):=⟨_,rfl⟩;have t2:Touch (fun b=>b=d) w W2:=hW2▸((Touch.refl (fun b=>b=d) w).setCell (p:=⟨d,1,none⟩) (.inl rfl) _).setCell (p:=⟨d,2,none⟩) (.inl rfl) _;have hbx2:CG W2 d 78 [.slice (some ⟨g,0,none⟩) L L,.bool false,.int .i64 (-1),.int .i64 st]:=hW2▸(hbx.AZ 1 (.bool false)).AZ 2 (.int .i64 (-1));have h2:=h.Ak6 t2 (-1) (by omega) (by omega) (st:=st) (by rw [show decide ((-1:Int)=0)=false by decide];exact hbx2);have HA2:Hid ((∀i,m i=0)\/(n<=c/\Bs W2 A n l)):=Aa (hA.imp id (fun⟨h1,h3,h4⟩=>⟨h1,h3.touch t2 (fun a ea e=>h4 a ea (.inl e))⟩));have H2:=Aa h2;have HT2:=Aa (t2.mono (G:=Df d L g hb) (fun b e=> .inl e));have HW2:=Aa hW2;clear h hbx hwf hlen hA h2 t2 hW2 hbx2;go_enter Tryz.func25,Tryz.ntmps25
 go_wp2_with fail
 refine HS.out.mono ?_;rintro e w'⟨rfl,rfl⟩;have hz:((L:Int)*64==0)=false:=by rw [beq_eq_false_iff_ne];omega
 clear HS
 go_wp2_with fail
 rw [<-HW2.out];clear y0 y1 y2 y3 f0 f1 f2 f3
 go_loopw [1,22](fun q i wr=>∃(k:Nat)(pick:Nat->Nat)(A':Option Addr)(n' c':Nat)(l':List UInt8),k<=L/\q= .slice A' n' c'/\i= .int .i64 k/\n'<=1000000000/\((∀i,m i=0)\/(n'<=c'/\Bs wr A' n' l'/\∀a,A'=some a->∃a0,A=some a0/\a0.block=a.block))/\(∀i,pick i<=m i)/\
  BG wr d L (ku k m pick ws) (bJ k m) (xG k mark) g (qM k hb)/\Touch (Df d L g hb) w wr)(fun _ i _=>L- (intOf i).toNat)
 case atStart=>exact⟨0,fun _=>0,A,n,c,l,BK _,rfl,rfl,hn,HA2.out.imp id (fun⟨a,b⟩=>⟨a,b,fun a ea=>⟨a,ea,rfl⟩⟩),fun _=>BK _,H2.out,HT2.out⟩
 case round=>
  obtain⟨k,pick,A',n',c',l',hk,rfl,rfl,hn',hA',hp,hr,ht⟩:=hrel;obtain⟨st2,hbx2⟩:=hr.box;obtain⟨y0,y1,y2,y3,f0,f1,f2,f3⟩:=C9 hbx2;have HT:=Aa ht;have HR:=Aa hr;have HP:=Aa hp;have HA':=Aa hA';by_cases hlt2:k<L
  ·obtain⟨cur,hg,hs,h1,h2⟩:=hr.blk;obtain⟨Ak,ck,e1,e2,hc⟩:=h2 k hlt2;have hmk:(bJ k m).len k=m k:=by unfold bJ Mode.len;simp only;rw [if_neg (by omega)]
   have hmc:(bJ k m).MJ k=m.MJ k:=if_neg (by omega);rw [hmk]at e1;have z1:wr.cell? ⟨g,k*66+64,none⟩=some (.slice Ak (m k) ck):=by rw [cell_of_row wr g _ cur _ (0,0) hg,show k*66+64=66*k+64 by omega];exact e1
   obtain⟨hx1,hx2,hx5⟩:=aJ hlt2;have hwk:=lh k (by omega);have hmb:=HLen.out k;have HC:Hid (∀(wq:World)(a:Nat),wq=wr->a<=m k->Calls Tryz.prog 65 #[.pointer (some ⟨g,66*k,none⟩),.int .i64 (a:Int)] wq fun e w'=>(∃v,e= .returned v)/\
    BG w' d L (ku (k+1) m (fun i=>if i=k then a else pick i) ws) (bJ (k+1) m) (xG (k+1) mark) g (qM (k+1) hb)/\Touch (Df d L g hb) w w'/\((∀i,m i=0)\/∀(B:Option Addr)(x:Nat)(lx:List UInt8),Bs wr B x lx->(∀a,B=some a->∃a0,A=some a0/\a0.block=a.block)->Bs w' B x lx)):=Aa (fun wq a hq ha=>by
    subst hq;refine(qL HR.out k a hlt2 hL (by rw [hmk];exact ha) (by rw [hmk];exact hmb) (by rw [hmc];exact HWf.out k)).mono ?_;rintro e w'⟨he,hD,hT⟩;have e1:IV k (((bJ k m).MJ k).drop a) (ku k m pick ws)=ku (k+1) m (fun i=>if i=k then a else pick i) ws:=by rw [hmc];exact Agz HWf.out a
    have e2:(bJ k m).wipe k=bJ (k+1) m:=by
     unfold bJ Mode.wipe;simp only;congr 1;funext i;by_cases hi:i=k
     ·rw [if_pos hi,if_pos (by omega)]
     ·rw [if_neg hi];simp only [show(i<k+1)=(i<k)by apply propext;omega]
    have e3:(fun q=>if q=k then 0 else xG k mark q)=xG (k+1) mark:=by
     funext i;unfold xG;by_cases hi:i=k
     ·rw [if_pos hi,if_pos (by omega)]
     ·rw [if_neg hi];simp only [show(i<k+1)=(i<k)by apply propext;omega]
    have e4:(fun q=>if q=k then none else qM k hb q)=qM (k+1) hb:=by
     funext i;unfold qM;by_cases hi:i=k
     ·rw [if_pos hi,if_pos (by omega)]
     ·rw [if_neg hi];simp only [show(i<k+1)=(i<k)by apply propext;omega]
    rw [e1,e2,e3,e4]at hD;have hown:∀b,Df d L g (qM k hb) b->Df d L g hb b:=fun b hb'=>by
     rcases hb' with h| h| ⟨i,hi,h⟩
     ·exact .inl h
     ·exact .inr (.inl h)
     ·refine .inr (.inr ⟨i,hi,?_⟩);unfold qM at h;split at h
      ·cases h
      ·exact h
    have hT':=hT.mono hown;refine⟨he,hD,HT.out.trans hT' (fun b h=> .inl h),HA.out.imp id (fun⟨_,_,h4⟩B x lx hB hBA=>Rd.touch hB hT' (fun a ea ho=> ?_))⟩;obtain⟨a0,h0,h0b⟩:=hBA a ea;exact h4 a0 h0 (by rw [h0b];exact ho))
   clear hr hp ht hA' hg hs h1 h2 e1 e2 hc hbx2;obtain⟨N,hN⟩:∃N,N=m k:=⟨_,rfl⟩;rw [<-hN]at z1 HC;have HN:=Aa hN;clear hN hmk hmc;have hP2:Hid (∀a,a<=N->∀i,(fun i=>if i=k then a else pick i) i<=m i):=Aa (fun a ha i=>by
    show(if i=k then a else pick i)<=m i;split
    ·rename_i e;rw [e,<-HN.out];exact ha
    ·exact HP.out i)
   have hNb:N<=1000000:=by rw [HN.out];exact hmb
   have hw1:=lh N (by omega);by_cases hN0:N=0
   ·have t1:decide ((1:Int)<(N:Int)+1)=false:=decide_eq_false (by omega);have t2:decide (0<N)=false:=decide_eq_false (by omega);clear hN0
    go_wp2_with fail
    rw [show k*66=66*k by omega];refine(HC.out _ 0 rfl (BK _)).mono ?_;rintro e w4⟨⟨v,rfl⟩,hD4,hT4,hB4⟩;have HD4:=Aa hD4;have HT4:=Aa hT4;have HB4:=Aa hB4;clear hD4 hT4 hB4 z1 y0 y1 y2 y3 f0 f1 f2 f3
    go_wp2_with fail
    go_roundw
    case rel=>exact⟨k+1,_,A',n',c',l',by omega,rfl,by go_num,hn',HB4.out.elim .inl (fun hb=>HA'.out.imp id (fun⟨h1,h2,h3⟩=>⟨h1,hb _ _ _ h2 h3,h3⟩)),hP2.out 0 (BK _),HD4.out,HT4.out⟩
    case measure=>simp [intOf];omega
   ·have t1:decide ((1:Int)<(N:Int)+1)=true:=decide_eq_true (by omega);have t2:decide (0<N)=true:=decide_eq_true (by omega);by_cases hn0:n'=0
    ·have t3:decide ((0:Int)<(n':Int))=false:=decide_eq_false (by omega);have t4:decide (0<n')=false:=decide_eq_false (by omega);clear hN0 hn0
     go_wp2_with fail
     rw [show k*66=66*k by omega];refine(HC.out _ 0 rfl (BK _)).mono ?_;rintro e w4⟨⟨v,rfl⟩,hD4,hT4,hB4⟩;have HD4:=Aa hD4;have HT4:=Aa hT4;have HB4:=Aa hB4;clear hD4 hT4 hB4 z1 y0 y1 y2 y3 f0 f1 f2 f3
     go_wp2_with fail
     go_roundw
     case rel=>exact⟨k+1,_,A',n',c',l',by omega,rfl,by go_num,hn',HB4.out.elim .inl (fun hb=>HA'.out.imp id (fun⟨h1,h2,h3⟩=>⟨h1,hb _ _ _ h2 h3,h3⟩)),hP2.out 0 (BK _),HD4.out,HT4.out⟩
     case measure=>simp [intOf];omega
    ·obtain⟨hnc,hBl,hsub⟩:=HA'.out.resolve_left (fun h=>by have:=h k;have:=HN.out;omega);obtain⟨hl0,b,off,rfl,hbl,hc0⟩:=hBl.at (show 0<n' by omega);obtain⟨x,hx⟩:∃x,x=l'[0]:=⟨_,rfl⟩;rw [<-hx,Nat.add_zero]at hc0;have hxl:=x.toNat_lt;have t3:decide ((0:Int)<(n':Int))=true:=decide_eq_true (by omega);have t4:decide (0<n')=true:=decide_eq_true (by omega);have t5:(0:Int)<(n':Int):=by omega
     have t6:0<n':=by omega
     have hsl:=fun W=>lq Tryz.Gi (some ⟨b,off,none⟩) n' c' .i64 1 (by omega) W
     rw [show((1:Nat):Int)=1 from rfl]at hsl;have HBt:Hid (Bs wr (Uy (some ⟨b,off,none⟩) c' 1) (n'-1) (l'.drop 1)):=Aa (by
      have h1:=Rd.sub hBl (lo:=1) (hi:=n') (by omega) (Ad _) hnc;have hll:l'.length=n':=hBl.len;rw [List.take_of_length_le (by simp [hll])]at h1;rw [<-WG]at h1;exact h1)
     have HSb:Hid (∀a,Uy (some (⟨b,off,none⟩:Addr)) c' 1=some a->∃a0,A=some a0/\a0.block=a.block):=Aa (fun a ea=>by
      obtain⟨a0,h0,h1⟩:=hsub _ rfl;refine⟨a0,h0,h1.trans ?_⟩;unfold Uy at ea;split at ea
      ·injection ea with ea;rw [<-ea]
      ·simp only [Option.map_some,Option.some.injEq]at ea;rw [<-ea,Addr.add_lit])
     have hrm:((x.toNat:Int)%((N:Int)+1))=((x.toNat%(N+1):Nat):Int):=by rw [Int.natCast_emod];rfl
     have hne:((N:Int)+1==0)=false:=by rw [beq_eq_false_iff_ne];omega
     have HRm:=Aa hrm;clear hN0 hn0 hBl hsub hx hrm
     go_wp2_with fail
     rw [show k*66=66*k by omega,HRm.out];have hmod:x.toNat%(N+1)<=N:=by have:=Nat.mod_lt x.toNat (show 0<N+1 by omega);omega
     refine(HC.out _ (x.toNat%(N+1)) rfl hmod).mono ?_;rintro e w4⟨⟨v,rfl⟩,hD4,hT4,hB4⟩;have HD4:=Aa hD4;have HT4:=Aa hT4;have HB4:=Aa hB4;have HP4:=Aa (hP2.out _ hmod);clear hD4 hT4 hB4 z1 y0 y1 y2 y3 f0 f1 f2 f3 hsl hmod
     go_wp2_with fail
     go_roundw
     case rel=>exact⟨k+1,_,_,n'-1,c'-1,_,by omega,rfl,by go_num,by omega,HB4.out.elim .inl (fun hb=> .inr ⟨by omega,hb _ _ _ HBt.out HSb.out,HSb.out⟩),HP4.out,HD4.out,HT4.out⟩
     case measure=>simp [intOf];omega
  ·have hkn:k=L:=by omega
   subst hkn;clear hr hp ht hA' hbx2
   go_wp2_with fail
   go_end0;refine⟨⟨_,rfl⟩,pick,_,HP.out,HR.out,fun i h hi=> ?_,HT.out⟩;unfold qM at hi;split at hi
   ·cases hi
   ·exact hi
end
theorem BG.congr {w : World} {d L : Nat} {ws ws' : Nat -> UInt64} {m m' : Mode} {mark mark' : Nat -> Nat} {g : Nat} {hb : Nat -> Option Nat} (h : BG w d L ws m mark g hb) (h1 : ∀ q, q < 8 * L -> ws' q = ws q) (h2 : ∀ i, i < L -> m'.MJ i = m.MJ i) (h3 : m'.lf = m.lf) (h4 : ∀ i, i < L -> mark' i = mark i) : BG w d L ws' m' mark' g hb := by
  obtain ⟨cur, hg, hs, a, b⟩ := h.blk
  have hl : ∀ i, i < L -> m' i = m i := fun i hi => by show (m'.MJ i).length = (m.MJ i).length; rw [h2 i hi]
  refine ⟨by rw [h3]; exact h.box, by rw [h3]; exact h.lfr, h.gd, ⟨cur, hg, hs, fun i hi k hk => ?_, fun i hi => ?_⟩, h.bd, h.inj, fun i hi => by rw [h4 i hi, hl i hi]; exact h.mrk i hi⟩
  · have e : En ws' i = En ws i := by
      apply List.ext_getElem
      · simp [En]
      · intro t t1 t2
        have : t < 8 := by simpa [En] using t1
        rw [Jg, Jg, h1 _ (by omega)]
    rw [e]; exact a i hi k hk
  · obtain ⟨A, c, e1, e2, hc⟩ := b i hi
    exact ⟨A, c, by rw [hl i hi]; exact e1, by rw [h4 i hi]; exact e2, by rw [h2 i hi]; exact hc⟩
section
variable{w:World}{d p L:Nat}{s:St}{F:Nat->Prop}
def DW.may(m:DW)(ws ws':Nat->UInt64):Prop:=match m with
 | .up _=>ws'=ws
 | .down P=>P ws'
theorem xH{m:DW}(hm:(∃lf,m= .up (MU lf))\/∃P,m= .down P)(h:Ej m w d p L s F)(A:Option Addr)(n c:Nat)(l:List UInt8)(hn:n<=1000000000)(hA:n<=c/\Bs w A n l/\∀a,A=some a->¬F a.block):
 Calls Tryz.prog 25 #[Aw d,.slice A n c] w fun e w'=>(∃v,e= .returned v)/\
  ∃ws' own,m.may s.ws ws'/\Dev w' d L ws' M0 (fun _=>0) own/\(∀b,own b->F b)/\Touch F w w'/\Tabs w'/\¬own 0/\¬own 1:=by
 obtain⟨tb,hbl,n',cT,cH,own,hr,hF⟩:=h;have q1:¬own 0:=fun h=>hr.g1 (.inl h)
 have q2:¬own 1:=fun h=>hr.g2 (.inl h)
 have key:∀(md:Mode)(ws:Nat->UInt64)(mark:Nat->Nat),Dev w d L ws md mark own->(∀i,md i<=1000000)->(∀i,∀c∈md.MJ i,∃t,t<8/\c.1=8*t)->(∀pick:Nat->Nat,(∀i,pick i<=md i)->m.may s.ws (Oa md pick ws))->
  Calls Tryz.prog 25 #[Aw d,.slice A n c] w fun e w'=>(∃v,e= .returned v)/\
   ∃ws' own,m.may s.ws ws'/\Dev w' d L ws' M0 (fun _=>0) own/\(∀b,own b->F b)/\Touch F w w'/\Tabs w'/\¬own 0/\¬own 1:=fun md ws mark hd hlen hwf hP=>by
  obtain⟨g,hbk,hd,ho⟩:=hd;refine(Ac7 hr.L0 hr.L1 hd hlen hwf A n c l hn (.inr ⟨hA.1,hA.2.1,fun a ea h=>hA.2.2 a ea ((hF _).2 (.inl ((ho _).2 h)))⟩)).mono ?_;rintro e w1⟨he,pick,hb',hp,h1,h2,h3⟩;have hsub:∀b,Df d L g hb' b->own b:=fun b hb=>(ho b).2 (by
   rcases hb with h| h| ⟨i,hi,h⟩
   ·exact .inl h
   ·exact .inr (.inl h)
   ·exact .inr (.inr ⟨i,hi,h2 i b h⟩))
  have ht:Touch own w w1:=h3.mono (fun b hb=>(ho b).2 hb);have h4:BG w1 d L (Oa md pick ws) M0 (fun _=>0) g hb':=h1.congr (fun q hq=>by unfold ku;rw [if_pos (by omega)]) (fun i hi=>by show []=(if i<L then []else md.MJ i);rw [if_pos hi]) rfl (fun i hi=>by unfold xG;rw [if_pos hi]);exact⟨he,_,Df d L g hb',hP pick hp,⟨g,hb',h4,fun _=>Iff.rfl⟩,fun b hb=>(hF b).2 (.inl (hsub b hb)),ht.mono (fun b hb=>(hF b).2 (.inl hb)),hr.tabs.keep (ht.block _ hr.tabs.lt.1 q1) (ht.block _ hr.tabs.lt.2 q2),fun h=>q1 (hsub _ h),fun h=>q2 (hsub _ h)⟩
 have XI:=hr.dev;rcases hm with⟨lf,rfl⟩| ⟨P,rfl⟩
 ·exact key (MU lf) s.ws _ XI.1 (fun _=>BK _) (fun _ _ h=>nomatch h) (fun pick _=>by
  show Oa (MU lf) pick s.ws=s.ws;funext q;unfold Oa;rw [show(MU lf).MJ (q/8)=[]from rfl,Akm];rfl)
 ·obtain⟨md,ws,mark,_,h2,h3,h4,h5⟩:=XI;exact key md ws mark h2 h3 h4 h5
theorem Ag0{lf:Int}(h:Ej (.up (MU lf)) w d p L s F)(n:Nat)(hn:n<=1000000000):
 Calls Tryz.prog 24 #[Aw d,.int .i64 (n:Int)] w fun e w'=>(∃v,e= .returned v)/\
  ∃m' F',Ej m' w' d p L s F'/\AO F F' w w'/\((n≠0/\m'= .up (MU n))\/(n=0/\m'= .down (fun ws'=>ws'=s.ws))):=by
 obtain⟨tb,hb,n',cT,cH,own,h,hF⟩:=h;obtain⟨⟨g,hb0,hr,ho⟩,hu⟩:=h.dev;refine(Agy h.L0 h.L1 hu hr n hn).mono ?_;rintro e w'⟨he,hD,hT⟩;refine⟨he,?_⟩;have hv:Dv w d L g hb0 s.ws (MU n) (fun _=>0) w':=⟨hb0,fun b h=> .inl h,hD,hT⟩;by_cases hz:n=0
 ·obtain⟨F',hs,hm⟩:=h.cut (P:=fun ws'=>ws'=s.ws) hF ho hv (by show((n:Nat):Int)=0;omega) (fun _=>BK _) (fun _ _ h=>nomatch h) (fun pick _=>by
  funext q;unfold Oa;rw [show(MU n).MJ (q/8)=[]from rfl,Akm];rfl) s.ws
  exact⟨_,F',hs,hm,.inr ⟨hz,rfl⟩⟩
 ·obtain⟨F',hs,hm⟩:=h.wrote hF ho hv (by show((n:Nat):Int)≠0;omega);exact⟨_,F',hs,hm,.inl ⟨hz,rfl⟩⟩
end
def Ac8(s:St)(off:Int):St:=match Hz s off with
 | some (i,a)=>{s with hd:=s.hd.set i (AA (Eb (hdN s i) a).1)}
 | none=>s
theorem Aj5{m:DW}{d p L:Nat}{s:St}{F:Nat->Prop}(b0 b1 b2:Nat)(off er:Int)(W:World)(u:FrameMode)(h:W.cell? ⟨b0,0,none⟩=some (.int .i64 er))(he:er≠0)(h1:W.cell? ⟨b1,0,none⟩=some (Aw p))(h2:W.cell? ⟨b2,0,none⟩=some (.int .i64 off))
 (hs:Ej m W d p L s F)(ho: -9223372036854775808<=off/\off<=9223372036854775807){i a:Nat}(hf:Hz s off=some (i,a))(hb1:(Eb (hdN s i) a).2=true):
 CallsD Tryz.prog 172 #[Aw b0,Aw b1,Aw b2] u W fun e u' w'=>u'=u/\(e= .returned (.tuple #[])/\Ej m w' d p L (Ac8 s off) F/\AO F F W w'):=by
 have HV:Hid (Ac8 s off={s with hd:=s.hd.set i (AA (Eb (hdN s i) a).1)}):=Aa (by unfold Ac8;rw [hf]);have HD:=Aa (dJ hs off ho hf hb1);have t1:(er==0)=false:=by rw [beq_eq_false_iff_ne];exact he
 clear hs hf hb1 he
 go_enter_d Tryz.func172,Tryz.ntmps172
 go_wp2_with fail
 refine HD.out.mono ?_;rintro e w1⟨rfl,k1,k2⟩
 go_wp2_with fail
 go_end0;exact⟨rfl,by rw [HV.out];exact k1,k2⟩
section
variable{w w':World}{d p L:Nat}{s:St}{F:Nat->Prop}
theorem qN{lf:Int}(h:Ej (.up (MU lf)) w d p L s F)(hlf:0<lf/\lf<=9)(r:Rc)(hr:r.text.size<=4294967296)(hR:Eg r=true){off:Nat}{s1:St}(hres:CQ s 1=some (off,s1))(hTk:(IP {s1 with ws:=BQ s1.ws (off/8) (Dk r)} off).2=0):
 Calls Tryz.prog 141 #[Aw d,Aw p,yP r] w fun e w'=>e= .returned (.tuple #[.int .u64 0,.int .i64 12])/\∃F',Ej (.down (Half s1.ws (BQ s1.ws (off/8) (Dk r)))) w' d p L (Ac8 {s1 with ws:=BQ s1.ws (off/8) (Dk r)} off) F'/\AO F F' w w':=by
 have Ag1:∃i a,Hz {s1 with ws:=BQ s1.ws (off/8) (Dk r)} off=some (i,a)/\(Eb (hdN s1 i) a).2=true:=by
  unfold IP at hTk;cases hf:Hz {s1 with ws:=BQ s1.ws (off/8) (Dk r)} off with
  | none=>rw [hf]at hTk;simp at hTk
  | some ia=>
    obtain⟨i,a⟩:=ia;rw [hf]at hTk;refine⟨i,a,rfl,?_⟩;cases hh:EK (hdN s1 i) a with
    | false=>
      have:EK (hdN {s1 with ws:=BQ s1.ws (off/8) (Dk r)} i) a=false:=hh;simp [this]at hTk
    | true=>
      unfold Eb;rw [hh];simp only [Bool.not_true,Bool.false_eq_true,if_false];split<;>rfl
 have Au8:=Aa Ag1;have hmf:∀(fn:Fn)(first cap:Array Value)(w:World),(Instr.makeFunc fn first cap).run Tryz.prog w= .ok (.func fn first cap) w:=fun _ _ _ _=>rfl
 obtain⟨W0,hW0⟩:∃W0,W0=((w.alloc (.cells #[Aw p] 26)).alloc (.cells #[.int .u64 (r.stamp.toNat:Int),.int .u64 (r.next.toNat:Int),.bool r.gone,.string r.text] 109)).alloc (.cells #[.int .i64 0] 31):=⟨_,rfl⟩;have hb0:Below w.heap.size w W0:=by
  rw [hW0];exact(((Below.refl _ _).alloc (Ad _) _).alloc (by simp) _).alloc (by simp;omega) _
 have hs0:W0.heap.size=w.heap.size+3:=by rw [hW0];simp
 have P0:CG W0 w.heap.size 26 [Aw p]:=by
  rw [hW0];exact(Ns _ _ (by simp;omega)).trans ((Ns _ _ (by simp)).trans (heap_alloc_new _ _))
 have P1:CG W0 (w.heap.size+1) 109 [.int .u64 (r.stamp.toNat:Int),.int .u64 (r.next.toNat:Int),.bool r.gone,.string r.text]:=by
  rw [hW0];have:=heap_alloc_new (w.alloc (.cells #[Aw p] 26)) (.cells #[.int .u64 (r.stamp.toNat:Int),.int .u64 (r.next.toNat:Int),.bool r.gone,.string r.text] 109);rw [show(w.alloc (.cells #[Aw p] 26)).heap.size=w.heap.size+1 by simp]at this;exact(Ns _ _ (by simp)).trans this
 have P2:CG W0 (w.heap.size+1+1) 31 [.int .i64 0]:=by
  rw [hW0];have:=heap_alloc_new ((w.alloc (.cells #[Aw p] 26)).alloc (.cells #[.int .u64 (r.stamp.toNat:Int),.int .u64 (r.next.toNat:Int),.bool r.gone,.string r.text] 109)) (.cells #[.int .i64 0] 31);rw [show((w.alloc (.cells #[Aw p] 26)).alloc (.cells #[.int .u64 (r.stamp.toNat:Int),.int .u64 (r.next.toNat:Int),.bool r.gone,.string r.text] 109)).heap.size=w.heap.size+1+1 by simp]at this;exact this
 obtain⟨b1,wu⟩:∃b,b=w.heap.size+1:=⟨_,rfl⟩;obtain⟨b2,wz⟩:∃b,b=w.heap.size+1+1:=⟨_,rfl⟩;rw [<-wz]at P2;rw [<-wu]at P1;have c0:=P0.cell 0;have c2:=P2.cell 0;have f2:=P2.frozen 0;obtain⟨y0,y1,y2,y3,_,_,_,_⟩:=C9 P1;simp only [Aj]at c0 c2;have HX:=Aa h;have HB0:=Aa hb0;have HN:=Aa (VL (h.below hb0));have HE:=Aa (VJ r W0 hr);have zf:=Aa P0;have uj:=Aa P1;have HP2:=Aa P2;have HW0:=Aa hW0;have HS0:=Aa hs0;have HD1:=Aa wu;have HD2:=Aa wz;have hlts:w.heap.size<b1/\b1<b2/\b2<W0.heap.size:=by omega
 have LG:=Aa h.lt;unfold yP at HE⊢;clear h hb0 hs0 P0 P1 P2 hW0 Ag1
 go_enter_defers Tryz.func141,Tryz.ntmps141
 go_wp2_with fail
 rw [<-HW0.out,<-HD2.out,<-HD1.out];refine HN.out.mono ?_;rintro e w1⟨rfl,rfl⟩;clear HN wu wz
 go_wp2_with fail
 refine HE.out.mono ?_;rintro e w1⟨hb1,hp1⟩;have HB1:=Aa (HB0.out.trans (hb1.mono HB0.out.size));have Atx:=Aa hb1;have P0:=zf.out.below hb1 zf.out.lt;have P1:=uj.out.below hb1 uj.out.lt;have P2:=HP2.out.below hb1 HP2.out.lt;replace c0:=P0.cell 0;replace c2:=P2.cell 0;replace f2:=P2.frozen 0;simp only [Aj]at c0 c2;have hs1:=hb1.size;clear HE hb1 y0 y1 y2 y3;simp only [hR]at hp1;simp only [if_true]at hp1;obtain⟨g1,rfl,ho1⟩:=hp1;have HO1:=Aa ho1;have HRs:=Aa (MW (HX.out.below HB1.out) 1 (by decide) (by decide));have HR:=Aa hR;have zf:=Aa P0;have HP2:=Aa P2;have hv:resV s 1= .tuple #[.int .i64 (off:Int),.int .i64 0]:=by unfold resV;rw [hres]
 have hss:O5 s 1=s1:=by unfold O5;rw [hres]
 rw [hv,hss]at HRs;obtain⟨_,_,ok,FT⟩:=HX.out.pos;obtain⟨o,ho,hoL⟩:=TW ok FT (.inl rfl) hres;have HO:=Aa ho;have At4:off+64<=64*L/\L<=1024:=⟨by simp only [Be]at hoL;omega,HX.out.pos.2.1⟩;clear hv hss hres hR ho1 P0 P1 P2 ok FT ho hoL hTk
 go_wp2_with fail
 refine HRs.out.mono ?_;rintro e w2⟨rfl,hs2,hm2⟩;have hnF:¬F b2:=fun hf=>by have:=LG.out b2 hf;omega
 have wB:¬F w.heap.size:=fun hf=>by have:=LG.out _ hf;omega
 have hlt2:=hm2.touch.size;obtain⟨W3,hW3⟩:∃W3,W3=w2.alloc (.cells #[.int .i64 (off:Int)] 3):=⟨_,rfl⟩;obtain⟨b3,hb3⟩:∃b,b=w2.heap.size:=⟨_,rfl⟩;have hba:Below w2.heap.size w2 W3:=by rw [hW3];exact(Below.refl _ _).alloc (Ad _) _
 have P2:=(HP2.out.touch hm2.touch hnF).below hba (HP2.out.touch hm2.touch hnF).lt;have P0:=(zf.out.touch hm2.touch wB).below hba (zf.out.touch hm2.touch wB).lt;have P3:CG W3 b3 3 [.int .i64 (off:Int)]:=by rw [hW3,hb3];exact heap_alloc_new _ _
 have hw3:Ws W3 (some ⟨g1,0,none⟩) 8 (Dk r):=by
  have h1:=(CB HO1.out).2;have h2:∀a,some (⟨g1,0,none⟩:Addr)=some a->¬F a.block:=fun a ha hf=>by
   obtain⟨g',e',hg',_⟩:=Kr HO1.out (by decide);injection e' with e'
   injection e' with e'
   injection ha with ha
   subst ha;have:=LG.out _ hf;have:=HB0.out.size;show False;simp only at*;omega
  exact Ws.below (Rd.touch h1 hm2.touch h2) hba
 have hgw:0<w.heap.size/\1<w.heap.size:=HX.out.tabs.lt;have hs3:=hs2.below hba;have Aqy:b2<b3:=by omega
 have HPA:=Aa (fun(W:World)(h:Ej (.up (MU lf)) W d p L s1 F)(hw:Ws W (some ⟨g1,0,none⟩) 8 (Dk r))=>mY h o 8 8 (some ⟨g1,0,none⟩) (Dk r) (by have:=HO.out;omega) (by decide) hw);have c0:=P0.cell 0;have c2:=P2.cell 0;have f2:=P2.frozen 0;have c3:=P3.cell 0;simp only [Aj]at c0 c2 c3;rw [hW3]at c0 c2 f2 c3;rw [hb3]at c3;have hs4:=hs3.MZ 0 (.int .i64 0) hnF (b:=b2) (by omega) (by omega);have hw4:Ws (W3.setCell ⟨b2,0,none⟩ (.int .i64 0)) (some ⟨g1,0,none⟩) 8 (Dk r):=by
  refine Rd.touch hw3 ((Touch.refl (fun k=>k=b2) W3).setCell (p:=⟨b2,0,none⟩) (.inl rfl) _) (fun a ha e=> ?_);obtain⟨g',e',hg',_⟩:=Kr HO1.out (by decide);injection e' with e'
  injection e' with e'
  injection ha with ha
  subst ha;simp only at e;omega
 have PR:=HPA.out _ hs4 hw4;have eo:o=off/8:=by have:=HO.out;omega
 rw [show((8*o:Nat):Int)=(off:Int)by have:=HO.out;omega,eo]at PR;have PR:=Aa PR;have P24:=P2.AZ 0 (.int .i64 0);have P04:=P0.far (show w.heap.size≠b2 by omega) 0 (.int .i64 0);have P34:=P3.far (show b3≠b2 by omega) 0 (.int .i64 0);simp only [Am]at P24;have hm4:AO F F w (W3.setCell ⟨b2,0,none⟩ (.int .i64 0)):=((AO.of_below (F:=F) HB1.out).trans (hm2.below hba)).set (p:=⟨b2,0,none⟩) (.inr (by show _<=b2;omega)) _;have e3:=P34.p1;rw [hW3,hb3]at e3;have Ai7:=P34.lt;have Abv:=P24.lt;obtain⟨W4,Vs⟩:∃W4,W4=W3.setCell ⟨b2,0,none⟩ (.int .i64 0):=⟨_,rfl⟩;rw [<-Vs]at PR P24 P04 P34 hm4 Ai7 Abv;have HM4:=Aa hm4;have Amn:=Aa P24;have Amo:=Aa P04;have Amq:=Aa P34;have aA:=Aa Vs;have HW3:=Aa hW3;have HB3:=Aa hb3;have Ai8:¬F b3:=fun hf=>by have:=LG.out _ hf;omega
 clear eo hs4 hw4 P24 P04 P34 hm4 Vs hw3 hs3 hs2 hm2 P0 P2 P3 hba HPA hlt2 hW3 hb3
 go_wp2_with fail
 rw [<-HW3.out,<-aA.out,<-HB3.out];refine PR.out.mono ?_;rintro e w5⟨c,rfl,m5,F5,hs5,QH,hout,hcut⟩;obtain rfl:c=12:=hcut hlf.1 (by omega);obtain⟨_,_,rfl⟩:(12:Int)=12/\0<lf/\m5= .down (Half s1.ws (BQ s1.ws (off/8) (Dk r))):=by
  rcases hout with⟨h1,_⟩| ⟨h1,_⟩| h1
  ·omega
  ·omega
  ·exact h1
 have P2:=Amn.out.touch QH.touch hnF;have P0:=Amo.out.touch QH.touch wB;have P3:=Amq.out.touch QH.touch Ai8;have h5F:∀b,b<W4.heap.size->¬F b->¬F5 b:=fun b hb hn hf=>(QH.own b hf).elim hn (fun h=>by omega)
 have hn5:=h5F b2 Abv hnF;have hw5:=QH.touch.size;have c0:=P0.cell 0;have c2:=P2.cell 0;have f2:=P2.frozen 0;have c3:=P3.cell 0;have P26:=P2.AZ 0 (.int .i64 12);have P28:=P26.AZ 0 (.int .i64 12);have d2:=P26.cell 0;have g2:=P26.frozen 0;have z2:=P28.cell 0;simp only [Aj,Am]at c0 c2 c3 d2 z2;have hs8:=(hs5.MZ 0 (.int .i64 12) hn5 (by omega) (by omega)).MZ 0 (.int .i64 12) hn5 (by omega) (by omega);have HS8:=Aa hs8;have oq:=Aa ((((HM4.out.trans QH).set (p:=⟨b2,0,none⟩) (.inr (by show _<=b2;omega)) (.int .i64 12))).set (p:=⟨b2,0,none⟩) (.inr (by show _<=b2;omega)) (.int .i64 12));have x0:=((P0.far (show w.heap.size≠b2 by omega) 0 (.int .i64 12)).far (show w.heap.size≠b2 by omega) 0 (.int .i64 12)).cell 0;have x3:=((P3.far (show b3≠b2 by omega) 0 (.int .i64 12)).far (show b3≠b2 by omega) 0 (.int .i64 12)).cell 0;simp only [Aj]at x0 x3;have Au9:=P28.lt;have HZ:=Aa (And.intro z2 (And.intro x0 x3));have V8:off<=65536:=by omega
 clear hs5 QH hout hcut P0 P2 P3 P26 P28 hs8 h5F PR z2 x0 x3
 go_wp2_with fail
 go_region
 all_goals(go_wp2_with fail)
 all_goals(obtain⟨i,a,hf,hdr⟩:=Au8.out)
 all_goals(refine leaves_cons (f:=172) (args:= #[Aw b2,Aw w.heap.size,Aw b3]) (by simp) (by simp [go_sem]) ?_)
 all_goals(refine(Aj5 b2 w.heap.size b3 (off:Int) 12 (World.drew ((w5.setCell ⟨b2,0,none⟩ (.int .i64 12)).setCell ⟨b2,0,none⟩ (.int .i64 12))) .returning (by exact HZ.out.1) (by decide) (by exact HZ.out.2.1) (by exact HZ.out.2.2) (HS8.out.below ((Dr.drew _).below _)) (by omega) hf hdr).mono ?_)
 all_goals(rintro e u' w''⟨rfl,rfl,hs',hm'⟩)
 all_goals(have m':=(AO.of_below ((Dr.drew ((w5.setCell ⟨b2,0,none⟩ (.int .i64 12)).setCell ⟨b2,0,none⟩ (.int .i64 12))).below _)).trans hm')
 all_goals(have z':w''.cell? ⟨b2,0,none⟩=some (.int .i64 12):=(Bz (m'.touch.block b2 Au9 hn5)).trans HZ.out.1)
 all_goals(refine⟨.tuple #[.int .u64 0,.int .i64 12],by simp [results,Tryz.results141,go_sem,z'],rfl,F5,hs',oq.out.trans m'⟩)
end
