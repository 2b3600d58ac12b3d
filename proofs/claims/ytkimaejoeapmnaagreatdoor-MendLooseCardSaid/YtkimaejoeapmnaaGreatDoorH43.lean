import Derived.RangeFuncNested
import Derived.RangeFuncBound
import Derived.Shelf.RegionOpen
import Derived.OwnWalkIn
import Derived.LoopNIn
import Derived.LoopIn
import Derived.Test.YtkimaejoeapmnaaGreatDoorH17
set_option linter.defProp false
set_option maxHeartbeats 32000000
set_option maxRecDepth 100000
open List renaming mem_cons_of_mem->BH,mem_cons_self->Bh,map_cons->Cb,size_toArray->Yf,length_cons->BB,length_nil->Du,push_toArray->Ae3,append_toArray->zG,nil_append->EM,cons_append->Cj,length_reverse->Io,length_map->BJ,getElem?_cons_zero->Am,map_drop->Xu,drop_nil->Al8,set_cons_zero->Aj
open Go.World renaming block_lt_of_cell?->D6,cell?_of_block->BA,putObj_heap_other->Ij,frozen?->GL
open Go.Lib renaming hid->Aa
open Nat renaming reduceAdd->Am3,reduceSub->Am4,zero_le->BU,le_refl->Ad
open Array renaming replicate_succ->uG,replicate_zero->uH,getElem?_eq_some_iff->AB
open UInt64 renaming ofNat->Aw
namespace Go.Proofs.YtkimaejoeapmnaaGreatDoor
open Go.Proofs.Tryz
open Go.RowKit Go.Shelf
def NQ(w:World)(o:Obj){r:Nat}(h:r<w.heap.size):(w.alloc o).heap[r]? =w.heap[r]? :=by
 show(w.heap.push o)[r]? =_;rw [Array.getElem?_push_lt h,Array.getElem?_eq_getElem h]
attribute [local go_sem]Oper.semAt_some
abbrev WfC:={c:Nat×UInt64//∃t,t<8/\c.1=8*t}
def Aba:∀(l:List (Nat×UInt64)),(∀c∈l,∃t,t<8/\c.1=8*t)->∃cs:List WfC,cs.map (·.1)=l
 | [],_=>⟨[],rfl⟩
 | c::l,h=>by
   obtain⟨cs,e⟩:=Aba l (λx hx=>h x (BH _ hx));exact⟨⟨c,h c (Bh ..)⟩::cs,by rw [Cb,e]⟩
def bH(rb B1 B2:Nat)(q:Addr)(W W':World):Prop:=W'.heap[rb]? =W.heap[rb]?/\W'.heap[B1]? =W.heap[B1]?/\W'.heap[B2]? =W.heap[B2]?/\W'.cell? q=W.cell? q
def Apd(F:Fence)(n:Nat)(hf:F.fn 152)(hro:F.round=none)(hn:1<=n)(B1 B2 g o rb c k:Nat)(A:Option Addr)(cs:List WfC)(hcs:cs.length<=1000000)(hk:k<=cs.length)(hA:0<cs.length->A=some (Φ rb))(w:World)
 (hB1:w.cell? (Φ B1)=some (.pointer (some (Δ g o))))(hB2:w.cell? (Φ B2)=some (.int .i64 (k:Int)))(hL:w.cell? (Δ g (o+64))=some (.slice A cs.length c))
 (hr:∀i(h:i<cs.length),w.cell? (Δ rb (i*2))=some (.int .i64 (cs[i].1.1:Nat))/\w.cell? (Δ rb (i*2+1))=some (.int .u64 (cs[i].1.2.toNat:Int)))(hrl:rb<w.heap.size):
 SeqStopsK F n prog 152 #[Az B1,Az B2] (λx:WfC=> #[.agg #[.int .i64 (x.1.1:Nat),.int .u64 (x.1.2.toNat:Int)]]) (bH rb B1 B2 (Δ g (o+64)))
  (λxs=>xs=cs.reverse.take (cs.length-k)) (λ_=>True) cs.length w:=λl J Jx W hW hJ hJx hY h0=>by
 have l1:=D6 w _ hB1;have l2:=D6 w _ hB2;have l3:=D6 w _ hL;have k1:W.heap[B1]? =w.heap[B1]? :=hW.block B1 l1;have k2:W.heap[B2]? =w.heap[B2]? :=hW.block B2 l2;have k3:W.cell? (Δ g (o+64))=w.cell? (Δ g (o+64)):=hW.cell (p:=Δ g (o+64)) l3;have kr:W.heap[rb]? =w.heap[rb]? :=hW.block rb hrl;have Q:Hid (∀W':World,bH rb B1 B2 (Δ g (o+64)) W W'->W'.cell? (Φ B1)=some (.pointer (some (Δ g o)))/\W'.cell? (Φ B2)=some (.int .i64 (k:Int))/\W'.cell? (Δ g (o+64))=some (.slice A cs.length c)):=
  Aa (λW' h=>⟨(BA (w:=w) (h.2.1.trans k1)).trans hB1,(BA (w:=w) (h.2.2.1.trans k2)).trans hB2,(h.2.2.2.trans k3).trans hL⟩)
 have Q2:Hid (∀W':World,bH rb B1 B2 (Δ g (o+64)) W W'->∀i(h:i<cs.length),W'.cell? (Δ rb (i*2))=some (.int .i64 (cs[i].1.1:Nat))/\W'.cell? (Δ rb (i*2+1))=some (.int .u64 (cs[i].1.2.toNat:Int))):=
  Aa (λW' e i h=>⟨(BA (w:=w) (e.1.trans kr)).trans (hr i h).1,(BA (w:=w) (e.1.trans kr)).trans (hr i h).2⟩)
 have HY:=Aa hY;obtain⟨z1,z2,z3⟩:=Q.out W ⟨rfl,rfl,rfl,rfl⟩;obtain⟨N,hN⟩:∃N,N=cs.length:=⟨_,rfl⟩;have HN:=Aa hN;rw [<-hN]at z3;have e1:IntKind.i64.wrap ((N:Int) -1)=(N:Int) -1:=IntWalk.i64_in _ O;clear hB1 hB2 hL hr hY k1 k2 k3 kr hW hN l1 l2 l3 hrl;refine callsIn_of_wp func152 rfl hf ?_ hro;simp only [ntmps152,Yf,BB,Du,Am3,Am4,uG,uH,Ae3,zG,EM,Cj];gi_wp2
 gi_loopw [4](λp wr=>∃t,t<=cs.length-k/\p= .int .i64 ((N:Int) -1- (t:Int))/\J (cs.reverse.take t) wr/\bH rb B1 B2 (Δ g (o+64)) W wr)(λp _=>(intOf p+1).toNat)
 case atStart=>exact⟨0,BU _,by simp,h0,rfl,rfl,rfl,rfl⟩
 case round=>
  obtain⟨t,ht,rfl,hJt,hkp⟩:=hrel;obtain⟨z1,z2,z3⟩:=Q.out wr hkp;rw [<-HN.out]at z3;by_cases hlt:t<cs.length-k
  ·obtain rfl:=hA O;obtain⟨j,hj⟩:∃j,j=cs.length-1-t:=⟨_,rfl⟩;have hjl:j<cs.length:=O
   have hp:((N:Int) -1- (t:Int))=(j:Int):=by rw [HN.out];omega
   rw [hp];have hnx:cs.reverse.take (t+1)=cs.reverse.take t++[cs[j]]:=by
    have hlr:t<cs.reverse.length:=by rw [Io];omega
    rw [List.take_succ_eq_append_getElem hlr];congr 2;rw [List.getElem_reverse];congr 1;omega
   have cu:=Aa hnx;obtain⟨fn,tmps,assign,body,hy,hR⟩:=HY.out (cs.reverse.take t) cs[j] wr hJt (by rw [List.length_take,Io];omega);obtain⟨z4,z5⟩:=Q2.out wr hkp j hjl;have hx1:(j:Int)<(N:Int):=by rw [HN.out];omega
   have hx2:decide ((j:Int)<(N:Int))=true:=decide_eq_true hx1;have hx3:decide ((k:Int)<=(j:Int))=true:=decide_eq_true O;have hx4:decide (k<=j)=true:=decide_eq_true O;have hx5:decide (j<N)=true:=decide_eq_true (Ω HN.out);have e2:IntKind.i64.wrap ((j:Int) -1)=(j:Int) -1:=IntWalk.i64_in _ O;rw [<-hnx]at hR;generalize cs[j]=cj at*;have HJ:=Aa hj;have nG:=Aa hkp;clear hj hnx hJt hkp;gi_wp2;refine hR.mono ?_;rintro e W3(⟨rfl,hJ3,hk3⟩| ⟨rfl,hJx3⟩)
   ·have aF:=Aa hJ3;have OC:=Aa hk3;clear hJ3 hk3;gi_wp2;go_roundw
    case rel=>exact⟨t+1,O,by have:=HJ.out;have:=HN.out;congr 1;omega,aF.out,OC.out.1.trans nG.out.1,OC.out.2.1.trans nG.out.2.1,OC.out.2.2.1.trans nG.out.2.2.1,OC.out.2.2.2.trans nG.out.2.2.2⟩
    case measure=>have:=HJ.out;simp [intOf]
   ·have aF:=Aa hJx3;clear hJx3;gi_wp2;refine bodyPost_ret (results_none rfl _ _ _) rfl ?_;exact⟨⟨_,rfl⟩,.inr ⟨cs.reverse.take (t+1),trivial,aF.out⟩⟩
  ·have hkm:t=cs.length-k:=O
   obtain⟨q,hq⟩:∃q:Int,q=(N:Int) -1- (t:Int):=⟨_,rfl⟩;rw [<-hq];have hx3:decide ((k:Int)<=q)=false:=decide_eq_false (by rw [hq,HN.out];omega);have HJk:Hid (J (cs.reverse.take (cs.length-k)) wr):=Aa (hkm▸hJt);clear hJt hkm hq hkp;gi_wp2;go_end0;exact⟨⟨_,rfl⟩,.inl ⟨_,rfl,HJk.out⟩⟩
def Aib(P:Option Addr)(k:Int)(w:World):Calls prog 106 #[.pointer P,.int .i64 k] w λe w'=>e= .returned (.func (.func 152) #[] #[Az w.heap.size,Az (w.heap.size+1)])/\w'=(w.alloc (.cells #[.pointer P] 151)).alloc (.cells #[.int .i64 k] 3):=by
 go_enter func106,ntmps106
 go_wp2_with fail
 refine bodyPost_ret (v:= .func (.func 152) #[] #[Az w.heap.size,Az (w.heap.size+1)]) (by simp [results,results106,go_sem]) rfl ?_;exact⟨rfl,rfl⟩
def XU{w:World}{b:Nat}{e:TypeId}{xs:List Value}(h:CS w b e xs):∃o,w.heap[b]? =some o/\o.isCells=true:=⟨_,h,rfl⟩
def BK.isCells{w:World}{d L:Nat}{ws:Nat->UInt64}{m:Mode}{mark:Nat->Nat}{g:Nat}{hb:Nat->Option Nat}(h:BK w d L ws m mark g hb):∀b,Dh d L g hb b->∃o,w.heap[b]? =some o/\o.isCells=true:=λb hb'=>by
 rcases hb' with rfl| rfl| ⟨i,hi,h2⟩
 ·obtain⟨st,hbx⟩:=h.box;exact⟨_,hbx,rfl⟩
 ·obtain⟨cur,hg,_⟩:=h.blk;exact⟨_,hg,rfl⟩
 ·obtain⟨cur,_,_,_,hc⟩:=h.blk;obtain⟨A,c,_,_,hch⟩:=hc i hi;rcases hch with⟨h3,_⟩| ⟨hh,h3,hA,hrow⟩
  ·rw [h2]at h3;cases h3
  ·rw [h2]at h3;injection h3 with h3
   subst h3;rcases hrow.2 with⟨h1,_⟩| ⟨g',cap,cur',h1,_,h4,_⟩
   ·rw [hA]at h1;cases h1
   ·rw [hA]at h1;simp only [Value.slice.injEq,Option.some.injEq,Addr.mk.injEq,and_true,true_and]at h1;rw [h1.1];exact⟨_,h4,rfl⟩
def zf{w:World}{d L:Nat}{ws:Nat->UInt64}{m:Mode}{mark:Nat->Nat}{g:Nat}{hb:Nat->Option Nat}(h:BK w d L ws m mark g hb)(i k:Nat)(hi:i<L)(_:L<=1024)(hk:k<=m i)(hlen:m i<=1000000)(hwf:∀c∈m.Nk i,∃t,t<8/\c.1=8*t):
 Calls prog 65 #[.pointer (some (Δ g (66*i))),.int .i64 (k:Int)] w λe w'=>(∃v,e= .returned v)/\∃W1,BK W1 d L (Jh i ((m.Nk i).drop k) ws) m mark g hb/\Touch (Dh d L g hb) w W1/\
  Below w.heap.size ((W1.setCell (Δ g (66*i+64)) (.slice none 0 0)).setCell (Δ g (66*i+65)) (.int .i64 0)) w':=by
 obtain⟨cs,hcs⟩:=Aba _ hwf;have hcl:cs.length=m i:=by rw [<-BJ (f:=(·.1)),hcs];rfl
 refine(callsIn_wide (n:=3)).1 ?_;refine callsIn_of_wp_marks func65 rfl trivial ?_ rfl;simp only [ntmps65,Yf,BB,Du,Am3,Am4,uG,uH,Ae3,zG,EM,Cj]
 gi_wp2_with(refine⟨trivial,?_⟩;gi_at_call 106;refine(callsIn_wide.2 (Aib _ _ _)).mono ?_;rintro e w'⟨rfl,rfl⟩)
 obtain⟨W3,hW3⟩:∃W3,W3=((w.alloc (.cells #[.pointer (some (Δ g (66*i)))] 151)).alloc (.cells #[.pointer (some (Δ g (66*i)))] 151)).alloc (.cells #[.int .i64 (k:Int)] 3):=⟨_,rfl⟩;rw [<-hW3];have hb3:η w W3:=hW3▸(((Below.refl _ w).alloc (Ad _) _).alloc Θ _).alloc (by simp;omega) _;have B0:CS W3 w.heap.size 151 [.pointer (some (Δ g (66*i)))]:=by rw [hW3];exact(NQ _ _ (by simp;omega)).trans ((NQ _ _ Θ).trans (heap_alloc_new _ _))
 have p1:W3.cell? (Φ (w.heap.size+1))=some (.pointer (some (Δ g (66*i)))):=by rw [hW3];go_simp
 have p2:W3.cell? (Φ (w.heap.size+1+1))=some (.int .i64 (k:Int)):=by rw [hW3];go_simp
 have hs3:W3.heap.size=w.heap.size+3:=by rw [hW3];simp
 have H3:=h.below hb3;have hlt:∀b,Dh d L g hb b->b<w.heap.size:=h.lt;have hgl:=h.oQ;obtain⟨cur,hg,hsz, -,h2⟩:=H3.blk;obtain⟨A,c,e1, -,hch⟩:=h2 i hi;have p3:W3.cell? (Δ g (66*i+64))=some (.slice A cs.length c):=by rw [cell_of_row W3 g _ cur _ (0,0) hg,hcl];exact e1
 obtain⟨rb,hrb,hrA,Awj,hrc⟩:∃rb,rb<W3.heap.size/\(0<cs.length->A=some (Φ rb))/\rb≠g/\∀q(h:q<cs.length),W3.cell? (Δ rb (q*2))=some (.int .i64 (cs[q].1.1:Nat))/\W3.cell? (Δ rb (q*2+1))=some (.int .u64 (cs[q].1.2.toNat:Int)):=by
  rcases hch with⟨_,h4,_⟩| ⟨hh,h3,hA,hrow⟩
  ·have h0:cs.length=0:=by rw [hcl];unfold Mode.len;rw [h4];rfl
   exact⟨w.heap.size,O,λh=>O,O,λq h=>O⟩
  ·have hbd:=h.bd i hi hh h3;rcases hrow.2 with⟨h1,_⟩| ⟨g',cap,cur',h1,_,h4,_,_,hcs',ht⟩
   ·rw [hA]at h1;cases h1
   ·rw [hA]at h1;simp only [Value.slice.injEq,Option.some.injEq,Addr.mk.injEq,and_true,true_and]at h1;obtain⟨rfl,_⟩:=h1;refine⟨hh,(AB.1 h4).1,λ_=>hA,hbd.1,λq hq=> ?_⟩;have key:∀(l:List WfC)(q:Nat)(hq:q<l.length),(chV (l.map (·.1)))[q*2]? =some (.int .i64 (l[q].1.1:Nat))/\(chV (l.map (·.1)))[q*2+1]? =some (.int .u64 (l[q].1.2.toNat:Int)):=by
     intro l;induction l with
     | nil=>intro q hq;simp at hq
     | cons x l ih=>
       intro q hq;cases q with
       | zero=>exact⟨rfl,rfl⟩
       | succ q=>
         have:=ih q (by simpa using hq);rw [Cb,chV,show(q+1)*2=q*2+1+1 by omega,show q*2+1+1+1=(q*2+1)+1+1 by omega];simpa using this
    have hk2:=key cs q hq;rw [hcs]at hk2;have hct:∀j,j<m i*2->cur'[j]? =(chV (m.Nk i))[j]? :=λj hj=>by
     rw [<-ht,List.getElem?_take,if_pos (by have:(m.Nk i).length=m i:=rfl;omega),Array.getElem?_toList]
    exact⟨(cell_of_row W3 hh _ cur' _ (0,0) h4).trans ((hct _ O).trans hk2.1),(cell_of_row W3 hh _ cur' _ (0,0) h4).trans ((hct _ O).trans hk2.2)⟩
 have HI:Hid (∀(pre:List WfC)X Y(row:Option Nat),(BK X d L (Jh i (pre.reverse.map (·.1)) ws) m mark g hb/\Touch (Dh d L g hb) W3 X)/\CS X w.heap.size 151 [.pointer (some (Δ g (66*i)))]->X.grownBy Y row->(∀r,row=some r->W3.heap.size<=r/\∃o:Obj,X.heap[r]? =some o/\o.isCells=false)->
  (BK Y d L (Jh i (pre.reverse.map (·.1)) ws) m mark g hb/\Touch (Dh d L g hb) W3 Y)/\CS Y w.heap.size 151 [.pointer (some (Δ g (66*i)))]):=Aa (λpre X Y row⟨⟨hD,hT⟩,hB⟩hg hr=>by
  have hno:∀b,(∃o,X.heap[b]? =some o/\o.isCells=true)->row≠some b:=λb⟨o,h1,h2⟩e=>by
   obtain⟨_,o',h3,h4⟩:=hr b e;rw [h1]at h3;injection h3 with h3
   rw [h3,h4]at h2;cases h2
  have hbl:∀b,b<X.heap.size->row≠some b->Y.heap[b]? =X.heap[b]? :=λb hb hne=>hg.block b hb (λe=>hne e.symm)
  exact⟨⟨hD.keep (λb hb' hl=>hbl b hl (hno b (hD.isCells b hb'))),hT.trans (Touch.Vr (F:=λb=>row=some b) hg (λk e=>e)) (λb e=> .inr (hr b e).1)⟩,(hbl _ hB.lt (hno _ (XU hB))).trans hB⟩)
 have HCs:=Aa hcs;have HH:=Aa h;have HB3:=Aa hb3;have HB0:=Aa B0;refine wpIn_rangeFunc_ownH rfl U (gf:=152) (lb:= #[Az (w.heap.size+1),Az (w.heap.size+1+1)]) rfl trivial (enters_of func152 Γ rfl)
  (encs:=λx:WfC=> #[.agg #[.int .i64 (x.1.1:Nat),.int .u64 (x.1.2.toNat:Int)]]) (Kp:=bH rb (w.heap.size+1) (w.heap.size+1+1) (Δ g (66*i+64))) (S:=λxs=>xs=cs.reverse.take (cs.length-k)) (Sp:=λ_=>True) (N:=cs.length) (w0:=W3)
  (Apd Fence.wide 2 trivial rfl U _ _ g (66*i) rb c k A cs O O hrA W3 p1 p2 p3 hrc hrb) (λh1 h2=>⟨h2.1.trans h1.1,h2.2.1.trans h1.2.1,h2.2.2.1.trans h1.2.2.1,h2.2.2.2.trans h1.2.2.2⟩)
  (λW q o o' hk ho h1 _=>⟨Ij O,Ij O,Ij O,BA (w:=W) (Ij (show g≠q by omega))⟩) (Below.refl _ _) (λ_=>rfl)
  (λpre W=>(BK W d L (Jh i (pre.reverse.map (·.1)) ws) m mark g hb/\Touch (Dh d L g hb) W3 W)/\CS W w.heap.size 151 [.pointer (some (Δ g (66*i)))])
  (λ_ _ _=>False) (λpre X Y row h1 h2 h3=>HI.out pre X Y row h1 h2 h3) (λ_ _ _ _ _ h _ _=>h) ⟨⟨by simpa [Jh]using H3,Touch.refl _ _⟩,B0⟩
  (λx a' W=>∃Bx,W3.heap.size<=Bx/\CS W Bx 204 [.int .i64 (x.1.1:Nat),.int .u64 (x.1.2.toNat:Int)]/\a'={tmps:= #[.pointer (some (Δ g (66*i))),.int .i64 (k:Int),Az w.heap.size,undef,Az Bx,.pointer (some (Δ g (66*i))),.int .i64 (k:Int),.func (.func 152) #[] #[Az (w.heap.size+1),Az (w.heap.size+1+1)],.agg #[.int .i64 (x.1.1:Nat),.int .u64 (x.1.2.toNat:Int)],undef,undef,undef,undef,undef,undef,undef,undef,undef,undef,undef,undef],defers:=[]})
  ?hAx ?assign ?body ?done ?stop
 case hAx=>
  intro x a';rintro u X Y row⟨Bx,h1,h2,h3⟩hg hr;refine⟨Bx,h1,(hg.block _ h2.lt (λe=> ?_)).trans h2,h3⟩;obtain⟨_,o',h4,h5⟩:=hr Bx e.symm;obtain⟨o,h6,h7⟩:=XU h2;rw [h6]at h4;injection h4 with h4
  rw [h4,h5]at h7;cases h7
 case assign=>
  rintro l0 pre x W K⟨⟨hD,hT⟩,hB⟩hK;have hsz:=hT.size;have HK:=Aa hK;have HD:=Aa hD;have HT:=Aa hT;have HB:=Aa hB;clear hK hD hT hB h2 hch e1 hg p1 p2 p3 hrc;gi_wp2;have hbW:∀o,η W (W.alloc o):=λo=>(Below.refl _ _).alloc (Ad _) _
  exact HK.out _ _ ((KeepsOthers.alloc _ _).from _) ⟨NQ _ _ O,NQ _ _ O,NQ _ _ O,BA (w:=W) (NQ _ _ (show g<W.heap.size by omega))⟩
   ⟨⟨HD.out.below (hbW _),HT.out.trans (Touch.of_below (F:=Dh d L g hb) (hbW _)) (λb h=> .inl h)⟩,HB.out.ξ (hbW _)⟩ ⟨W.heap.size,hsz,heap_alloc_new _ _,rfl⟩
 case body=>
  rintro l0 pre x a' W hl0⟨r,hr0⟩⟨⟨hD,hT⟩,hB⟩⟨Bx,hBx1,hBx,rfl⟩hlen;obtain⟨t,ht8,hat⟩:=x.2;have hsz:=hT.size;have HX:Hid (Jh i ((pre++[x]).reverse.map (·.1)) ws=λq=>if q=8*i+t then x.1.2 else Jh i (pre.reverse.map (·.1)) ws q):=Aa (by
   rw [List.reverse_append,List.map_append];show Jh i (x.1::pre.reverse.map (·.1)) ws=_;funext q;show(if q=8*i+x.1.1/8 then x.1.2 else Jh i (pre.reverse.map (·.1)) ws q)=_;rw [show x.1.1/8=t by omega])
  obtain⟨a,ha⟩:∃a,a=x.1.1:=⟨_,rfl⟩;obtain⟨u,hu⟩:∃u,u=x.1.2:=⟨_,rfl⟩;rw [<-ha]at hat;rw [<-ha,<-hu]at hBx;rw [<-hu]at HX;rw [<-ha,<-hu];clear ha hu;obtain⟨wsx,Ats⟩:∃wsx,wsx=Jh i (pre.reverse.map (·.1)) ws:=⟨_,rfl⟩;rw [<-Ats]at hD HX;clear Ats;obtain⟨Aei,hgW,hszW, -, -⟩:=hD.blk;have Acj:=oP g (66*i) t (EN wsx i) u W (GZ _ _) (hD.line i hi) (λj _=>by simp [GL,hgW]) ht8;rw [<-hat]at Acj;have Acj:=Aa Acj;have x0:=hBx.cell 0;have x1:=hBx.cell 1;have y0:=hB.cell 0;simp only [Am,List.getElem?_cons_succ]at x0 x1 y0;have HD:=Aa hD;have HT:=Aa hT;have HB:=Aa hB;have HGW:=Aa hgW;have hd:1<=3-1-1:=by decide
  clear hD hT hB hBx hat h2 hch e1 hg p1 p2 p3 hrc hgW
  gi_wp2_with(refine⟨trivial,?_⟩;gi_at_call 107;refine(CallsIn.inRound l0 (callsIn_wide.2 Acj.out)).mono ?_;rintro e w5⟨rfl,w4,hb4,rfl⟩)
  have Att:((leBytes ((EN wsx i).set t u)).map bv).length=64:=by rw [BJ,leBytes_length,List.length_set,GZ]
  have hg4:w4.heap[g]? =some (.cells Aei 82 (0,0)):=(hb4.block g (Ω HT.out.size)).trans HGW.out;obtain⟨cur',c1,c2,c3⟩:=Ed g _ _ ((leBytes ((EN wsx i).set t u)).map bv) (66*i) w4 Aei hg4 (by rw [Att,hszW];omega);have hP:=(HD.out.below hb4).put (i:=i) (k:=t) hi ht8 u;have tg:Touch (λb=>b=g) W (w4.setCells g (66*i) ((leBytes ((EN wsx i).set t u)).map bv)):=(Touch.of_below (F:=λb=>b=g) hb4).setCells (.inl rfl);refine⟨⟨tg.size,λq o _ hk ho=> ?_⟩,⟨tg.block _ O Awj,tg.block _ O O,tg.block _ O O,?_⟩,⟨⟨by rw [HX.out];exact hP,HT.out.trans tg (λb e=> .inl (.inr (.inl e)))⟩,HB.out.touch tg O⟩⟩
  ·have hql:=(AB.1 hk).1;rw [tg.block q hql (λe=>by
    subst e;rw [HGW.out]at hk;injection hk with hk
    rw [<-hk]at ho;cases ho)]
   exact hk
  ·rw [cell_of_row _ g _ cur' _ (0,0) c1,c3,Att,if_neg O,cell_of_row W g _ Aei _ (0,0) HGW.out]
 case stop=>
  rintro D c pre W _ _ h;exact h.elim
 case done=>
  rintro D xs W hDl rfl⟨⟨hD,hT⟩,hB⟩hK;have hwd:((cs.reverse.take (cs.length-k)).reverse.map (·.1))=(m.Nk i).drop k:=by
   rw [List.take_reverse,List.reverse_reverse,show cs.length- (cs.length-k)=k by omega,Xu,HCs.out]
  rw [hwd]at hD;obtain⟨Aei,hgW,hszW, -,h2W⟩:=hD.blk;obtain⟨AW,cW,e1W,e2W, -⟩:=h2W i hi;have z0:=hB.p1;have z1:W.cell? (Δ g (66*i+64))=some (.slice AW (m i) cW):=by rw [cell_of_row W g _ Aei _ (0,0) hgW];exact e1W
  have z2:W.cell? (Δ g (66*i+65))=some (.int .i64 (mark i:Int)):=by rw [cell_of_row W g _ Aei _ (0,0) hgW];exact e2W
  have f1:W.frozen? (Δ g (66*i+64))=false:=by simp [GL,hgW]
  have f2:W.frozen? (Δ g (66*i+65))=false:=by simp [GL,hgW]
  have HD:=Aa hD;have HT:=Aa ((Touch.of_below (F:=Dh d L g hb) HB3.out).trans hT (λb h=> .inl h));have hsz:=hT.size;clear hD hT hB h2 hch e1 hg p1 p2 p3 hrc hgW h2W e1W e2W hwd;gi_wp2;refine wpIn_wide.2 ?_;go_region;have hK2:=(KeepsOthers.setCell (W.setCell (Δ g (66*i+64)) (.slice none 0 0)) (Δ g (66*i+65)) (.int .i64 0)).same D _ ((KeepsOthers.setCell W (Δ g (66*i+64)) (.slice none 0 0)).same D _ hK rfl) rfl;refine⟨by simp,.inl ⟨_,_,rfl,run_takeDeferred hK2,?_⟩⟩;refine⟨_,results_none rfl _ _ _,⟨_,rfl⟩,W,HD.out,HT.out,?_⟩;refine((Below.refl _ _).drew).grown (grownBy_putObj' _ D _) (by simp;omega) (λk e=>by cases e;omega)
def tK{w:World}{d L:Nat}{ws:Nat->UInt64}{m:Mode}{mark:Nat->Nat}{g:Nat}{hb:Nat->Option Nat}(h:BK w d L ws m mark g hb)(i k:Nat)(hi:i<L)(hL:L<=1024)(hk:k<=m i)(hlen:m i<=1000000)(hwf:∀c∈m.Nk i,∃t,t<8/\c.1=8*t):
 Calls prog 65 #[.pointer (some (Δ g (66*i))),.int .i64 (k:Int)] w λe w'=>(∃v,e= .returned v)/\BK w' d L (Jh i ((m.Nk i).drop k) ws) (m.wipe i) (λq=>if q=i then 0 else mark q) g (λq=>if q=i then none else hb q)/\Touch (Dh d L g hb) w w':=by
 have hlt:=h.lt;refine(zf h i k hi hL hk hlen hwf).mono ?_;rintro e w'⟨he,W1,hD,hT,hB⟩;have h1:=hD.clear hi (Below.refl _ _) none;have tX:Touch (Dh d L g hb) w ((W1.setCell (Δ g (66*i+64)) (.slice none 0 0)).setCell (Δ g (66*i+65)) (.int .i64 0)):=(hT.setCell (p:=Δ g (66*i+64)) (.inl (.inr (.inl rfl))) _).setCell (p:=Δ g (66*i+65)) (.inl (.inr (.inl rfl))) _;refine⟨he,h1.keep (λb hb' _=>hB.block b ?_),⟨hB.os.trans tX.os,hB.tape.trans tX.tape,hB.output.trans tX.output,Nat.le_trans tX.size ?_,λb hb' hn=>(hB.block b hb').trans (tX.block b hb' hn)⟩⟩
 ·refine hlt b ?_;rcases hb' with h| h| ⟨j,hj,h⟩
  ·exact .inl h
  ·exact .inr (.inl h)
  ·refine .inr (.inr ⟨j,hj,?_⟩);simp only at h;split at h
   ·cases h
   ·exact h
 ·have:=hB.size;simpa [World.setCell]using this
end Go.Proofs.YtkimaejoeapmnaaGreatDoor
namespace Go.Proofs.YtkimaejoeapmnaaGreatDoor
open Go.Proofs.Tryz
open Go.RowKit
section
variable{w w':World}{d L:Nat}{ws:Nat->UInt64}{m:Mode}{mark:Nat->Nat}{g:Nat}{hb:Nat->Option Nat}
def BK.Amu(h:BK w d L ws m mark g hb)(t:Touch (λb=>b=d) w w')(lf:Int)(h1: -1<=lf)(h2:lf<=1000000000){st:Int}(hB:CS w' d 78 [.slice (some (Φ g)) L L,.bool (decide (lf=0)),.int .i64 lf,.int .i64 st]):BK w' d L ws ⟨m.Nk,lf⟩ mark g hb:=by
 have hk:∀b,b<w.heap.size->b≠d->w'.heap[b]? =w.heap[b]? :=λb hl hb'=>t.block b hl hb'
 obtain⟨cur,hg,hs,h3,h4⟩:=h.blk;exact⟨⟨st,hB⟩,⟨h1,h2⟩,h.gd,⟨cur,(hk g h.oQ h.gd).trans hg,hs,h3,λi hi=>by
  obtain⟨A,c,e1,e2,hc⟩:=h4 i hi;exact⟨A,c,e1,e2,hc.keep (λb hb' hl=>hk b hl (h.bd i hi b hb').2)⟩⟩,h.bd,h.inj,h.mrk⟩
def Aic(hL0:0<L)(hL:L<=1024)(hu:m.lf≠0)(h:BK w d L ws m mark g hb)(n:Nat)(hn:n<=1000000000):
 Calls prog 24 #[Az d,.int .i64 (n:Int)] w λe w'=>(∃v,e= .returned v)/\BK w' d L ws ⟨m.Nk,n⟩ mark g hb/\Touch (Dh d L g hb) w w':=by
 obtain⟨st,hbx⟩:=h.box;rw [decide_eq_false hu]at hbx;obtain⟨y0,y1,y2,y3,f0,f1,f2,f3⟩:=CG hbx;have HS:=Aa (NW d L g (.bool false) (.int .i64 m.lf) (.int .i64 st) w hL hbx);have t0:(((L*64:Nat):Int)==0)=false:=by rw [beq_eq_false_iff_ne];omega
 have H:=Aa h;have KEY:Hid (∀x:Int,x=(n:Int)->BK ((w.setCell (Δ d 2) (.int .i64 x)).setCell (Δ d 1) (.bool (x==0))) d L ws ⟨m.Nk,n⟩ mark g hb/\Touch (Dh d L g hb) w ((w.setCell (Δ d 2) (.int .i64 x)).setCell (Δ d 1) (.bool (x==0)))):=Aa (λx hx=>by
  subst hx;have t:Touch (λb=>b=d) w ((w.setCell (Δ d 2) (.int .i64 (n:Int))).setCell (Δ d 1) (.bool ((n:Int)==0))):=((Touch.refl (λb=>b=d) w).setCell (p:=Δ d 2) (.inl rfl) _).setCell (p:=Δ d 1) (.inl rfl) _;exact⟨H.out.Amu t n O O (st:=st) ((hbx.AZ 2 (.int .i64 (n:Int))).AZ 1 (.bool ((n:Int)==0))),t.mono (λb e=> .inl e)⟩)
 have hmx:(if(n:Int)<0 then(0:Int)else(n:Int))=(n:Int):=if_neg O;have hm2:decide ((n:Int)<0)=false:=decide_eq_false O;generalize L*64=sz at HS t0;clear h hbx;go_enter func24,ntmps24
 go_wp2_with fail
 refine HS.out.mono ?_;rintro e w'⟨rfl,rfl⟩;clear HS
 go_wp2_with fail
 go_end0;exact⟨⟨_,rfl⟩,KEY.out _ (by first| rfl| simp)⟩
def eu(k:Nat)(m:Mode):Mode:=⟨λi=>if i<k then []else m.Nk i, -1⟩
def zg(k:Nat)(mark:Nat->Nat)(i:Nat):Nat:=if i<k then 0 else mark i
def tN(k:Nat)(hb:Nat->Option Nat)(i:Nat):Option Nat:=if i<k then none else hb i
def mf(k:Nat)(m:Mode)(pick:Nat->Nat)(ws:Nat->UInt64)(q:Nat):UInt64:=if q/8<k then O7 m pick ws q else ws q
def iY{i:Nat}:∀{l:List (Nat×UInt64)}{ws:Nat->UInt64}{q:Nat},(∀c∈l,∃t,t<8/\c.1=8*t)->q/8≠i->Jh i l ws q=ws q
 | [],_,_,_,_=>rfl
 | c::l,ws,q,h,hq=>by
   obtain⟨t,t1,t2⟩:=h c (Bh ..);unfold Jh;rw [if_neg O,iY (λx hx=>h x (BH _ hx)) hq]
def bI{i:Nat}:∀{l:List (Nat×UInt64)}{ws ws':Nat->UInt64}{q:Nat},ws q=ws' q->Jh i l ws q=Jh i l ws' q
 | [],_,_,_,h=>h
 | c::l,ws,ws',q,h=>by
   unfold Jh;rw [bI h]
def Aid{k:Nat}{m:Mode}{pick:Nat->Nat}{ws:Nat->UInt64}(hwf:∀i,∀c∈m.Nk i,∃t,t<8/\c.1=8*t)(a:Nat):
 Jh k ((m.Nk k).drop a) (mf k m pick ws)=mf (k+1) m (λi=>if i=k then a else pick i) ws:=by
 funext q;unfold mf;by_cases h1:q/8=k
 ·rw [if_pos O];unfold O7;rw [h1];simp only [if_true];exact bI (by rw [if_neg O])
 ·rw [iY (λc hc=>hwf k c (List.mem_of_mem_drop hc)) h1];by_cases h2:q/8<k
  ·rw [if_pos h2,if_pos O];unfold O7;simp only [if_neg h1]
  ·rw [if_neg h2,if_neg O]
def Aej(hL0:0<L)(hL:L<=1024)(h:BK w d L ws m mark g hb)(hlen:∀i,m i<=1000000)(hwf:∀i,∀c∈m.Nk i,∃t,t<8/\c.1=8*t)(A:Option Addr)(n c:Nat)(l:List UInt8)(hn:n<=1000000000)
 (hA:(∀i,m i=0)\/(n<=c/\Bs w A n l/\∀a,A=some a->¬Dh d L g hb a.block)):
 Calls prog 25 #[Az d,.slice A n c] w λe w'=>(∃v,e= .returned v)/\
  ∃pick hb',(∀i,pick i<=m i)/\BK w' d L (mf L m pick ws) (eu L m) (zg L mark) g hb'/\(∀i h,hb' i=some h->hb i=some h)/\Touch (Dh d L g hb) w w':=by
 obtain⟨st,hbx⟩:=h.box;obtain⟨y0,y1,y2,y3,f0,f1,f2,f3⟩:=CG hbx;have HS:=Aa (NW d L g _ _ _ w hL hbx);have hlt:=h.lt;have H:=Aa h;have HBx:=Aa hbx;have HWf:=Aa hwf;have HLen:=Aa hlen;have HA:=Aa hA;obtain⟨W2,hW2⟩:∃W2,W2=(w.setCell (Δ d 1) (.bool false)).setCell (Δ d 2) (.int .i64 (-1)):=⟨_,rfl⟩;have t2:Touch (λb=>b=d) w W2:=hW2▸((Touch.refl (λb=>b=d) w).setCell (p:=Δ d 1) (.inl rfl) _).setCell (p:=Δ d 2) (.inl rfl) _;have hbx2:CS W2 d 78 [.slice (some (Φ g)) L L,.bool false,.int .i64 (-1),.int .i64 st]:=hW2▸(hbx.AZ 1 (.bool false)).AZ 2 (.int .i64 (-1));have h2:=h.Amu t2 (-1) O O (st:=st) (by rw [show decide ((-1:Int)=0)=false by decide];exact hbx2);have HA2:Hid ((∀i,m i=0)\/(n<=c/\Bs W2 A n l)):=Aa (hA.imp id (λ⟨h1,h3,h4⟩=>⟨h1,h3.touch t2 (λa ea e=>h4 a ea (.inl e))⟩));have H2:=Aa h2;have HT2:=Aa (t2.mono (G:=Dh d L g hb) (λb e=> .inl e));have HW2:=Aa hW2;clear h hbx hwf hlen hA h2 t2 hW2 hbx2;go_enter func25,ntmps25
 go_wp2_with fail
 refine HS.out.mono ?_;rintro e w'⟨rfl,rfl⟩;have hz:((L:Int)*64==0)=false:=by rw [beq_eq_false_iff_ne];omega
 clear HS
 go_wp2_with fail
 rw [<-HW2.out];clear y0 y1 y2 y3 f0 f1 f2 f3
 go_loopw [1,22](λq i wr=>∃(k:Nat)(pick:Nat->Nat)(A':Option Addr)(n' c':Nat)(l':List UInt8),k<=L/\q= .slice A' n' c'/\i= .int .i64 k/\n'<=1000000000/\((∀i,m i=0)\/(n'<=c'/\Bs wr A' n' l'/\∀a,A'=some a->∃a0,A=some a0/\a0.block=a.block))/\(∀i,pick i<=m i)/\
  BK wr d L (mf k m pick ws) (eu k m) (zg k mark) g (tN k hb)/\Touch (Dh d L g hb) w wr)(λ_ i _=>L- (intOf i).toNat)
 case atStart=>exact⟨0,λ_=>0,A,n,c,l,BU _,rfl,rfl,hn,HA2.out.imp id (λ⟨a,b⟩=>⟨a,b,λa ea=>⟨a,ea,rfl⟩⟩),λ_=>BU _,H2.out,HT2.out⟩
 case round=>
  obtain⟨k,pick,A',n',c',l',hk,rfl,rfl,hn',hA',hp,hr,ht⟩:=hrel;obtain⟨st2,hbx2⟩:=hr.box;obtain⟨y0,y1,y2,y3,f0,f1,f2,f3⟩:=CG hbx2;have HT:=Aa ht;have HR:=Aa hr;have HP:=Aa hp;have HA':=Aa hA';by_cases hlt2:k<L
  ·obtain⟨cur,hg,hs,h1,h2⟩:=hr.blk;obtain⟨Ak,ck,e1,e2,hc⟩:=h2 k hlt2;have hmk:(eu k m).len k=m k:=by unfold eu Mode.len;simp only;rw [if_neg O]
   have hmc:(eu k m).Nk k=m.Nk k:=if_neg O;rw [hmk]at e1;have z1:wr.cell? (Δ g (k*66+64))=some (.slice Ak (m k) ck):=by rw [cell_of_row wr g _ cur _ (0,0) hg,show k*66+64=66*k+64 by omega];exact e1
   obtain⟨hx1,hx2,hx5⟩:=Yg hlt2;have hwk:=eX k O;have hmb:=HLen.out k;have HC:Hid (∀(wq:World)(a:Nat),wq=wr->a<=m k->Calls prog 65 #[.pointer (some (Δ g (66*k))),.int .i64 (a:Int)] wq λe w'=>(∃v,e= .returned v)/\
    BK w' d L (mf (k+1) m (λi=>if i=k then a else pick i) ws) (eu (k+1) m) (zg (k+1) mark) g (tN (k+1) hb)/\Touch (Dh d L g hb) w w'/\((∀i,m i=0)\/∀(B:Option Addr)(x:Nat)(lx:List UInt8),Bs wr B x lx->(∀a,B=some a->∃a0,A=some a0/\a0.block=a.block)->Bs w' B x lx)):=Aa (λwq a hq ha=>by
    subst hq;refine(tK HR.out k a hlt2 hL (by rw [hmk];exact ha) (by rw [hmk];exact hmb) (by rw [hmc];exact HWf.out k)).mono ?_;rintro e w'⟨he,hD,hT⟩;have e1:Jh k (((eu k m).Nk k).drop a) (mf k m pick ws)=mf (k+1) m (λi=>if i=k then a else pick i) ws:=by rw [hmc];exact Aid HWf.out a
    have e2:(eu k m).wipe k=eu (k+1) m:=by
     unfold eu Mode.wipe;simp only;congr 1;funext i;by_cases hi:i=k
     ·rw [if_pos hi,if_pos O]
     ·rw [if_neg hi];simp only [show(i<k+1)=(i<k)by apply propext;omega]
    have e3:(λq=>if q=k then 0 else zg k mark q)=zg (k+1) mark:=by
     funext i;unfold zg;by_cases hi:i=k
     ·rw [if_pos hi,if_pos O]
     ·rw [if_neg hi];simp only [show(i<k+1)=(i<k)by apply propext;omega]
    have e4:(λq=>if q=k then none else tN k hb q)=tN (k+1) hb:=by
     funext i;unfold tN;by_cases hi:i=k
     ·rw [if_pos hi,if_pos O]
     ·rw [if_neg hi];simp only [show(i<k+1)=(i<k)by apply propext;omega]
    rw [e1,e2,e3,e4]at hD;have hown:∀b,Dh d L g (tN k hb) b->Dh d L g hb b:=λb hb'=>by
     rcases hb' with h| h| ⟨i,hi,h⟩
     ·exact .inl h
     ·exact .inr (.inl h)
     ·refine .inr (.inr ⟨i,hi,?_⟩);unfold tN at h;split at h
      ·cases h
      ·exact h
    have hT':=hT.mono hown;refine⟨he,hD,HT.out.trans hT' (λb h=> .inl h),HA.out.imp id (λ⟨_,_,h4⟩B x lx hB hBA=>Rd.touch hB hT' (λa ea ho=> ?_))⟩;obtain⟨a0,h0,h0b⟩:=hBA a ea;exact h4 a0 h0 (by rw [h0b];exact ho))
   clear hr hp ht hA' hg hs h1 h2 e1 e2 hc hbx2;obtain⟨N,hN⟩:∃N,N=m k:=⟨_,rfl⟩;rw [<-hN]at z1 HC;have HN:=Aa hN;clear hN hmk hmc;have hP2:Hid (∀a,a<=N->∀i,(λi=>if i=k then a else pick i) i<=m i):=Aa (λa ha i=>by
    show(if i=k then a else pick i)<=m i;split
    ·rename_i e;rw [e,<-HN.out];exact ha
    ·exact HP.out i)
   have hNb:N<=1000000:=by rw [HN.out];exact hmb
   have hw1:=eX N O;by_cases hN0:N=0
   ·have t1:decide ((1:Int)<(N:Int)+1)=false:=decide_eq_false O;have t2:decide (0<N)=false:=decide_eq_false O;clear hN0
    go_wp2_with fail
    rw [show k*66=66*k by omega];refine(HC.out _ 0 rfl (BU _)).mono ?_;rintro e w4⟨⟨v,rfl⟩,hD4,hT4,hB4⟩;have HD4:=Aa hD4;have HT4:=Aa hT4;have HB4:=Aa hB4;clear hD4 hT4 hB4 z1 y0 y1 y2 y3 f0 f1 f2 f3
    go_wp2_with fail
    go_roundw
    case rel=>exact⟨k+1,_,A',n',c',l',O,rfl,by go_num,hn',HB4.out.elim .inl (λhb=>HA'.out.imp id (λ⟨h1,h2,h3⟩=>⟨h1,hb _ _ _ h2 h3,h3⟩)),hP2.out 0 (BU _),HD4.out,HT4.out⟩
    case measure=>simp [intOf];omega
   ·have t1:decide ((1:Int)<(N:Int)+1)=true:=decide_eq_true O;have t2:decide (0<N)=true:=decide_eq_true O;by_cases hn0:n'=0
    ·have t3:decide ((0:Int)<(n':Int))=false:=decide_eq_false O;have t4:decide (0<n')=false:=decide_eq_false O;clear hN0 hn0
     go_wp2_with fail
     rw [show k*66=66*k by omega];refine(HC.out _ 0 rfl (BU _)).mono ?_;rintro e w4⟨⟨v,rfl⟩,hD4,hT4,hB4⟩;have HD4:=Aa hD4;have HT4:=Aa hT4;have HB4:=Aa hB4;clear hD4 hT4 hB4 z1 y0 y1 y2 y3 f0 f1 f2 f3
     go_wp2_with fail
     go_roundw
     case rel=>exact⟨k+1,_,A',n',c',l',O,rfl,by go_num,hn',HB4.out.elim .inl (λhb=>HA'.out.imp id (λ⟨h1,h2,h3⟩=>⟨h1,hb _ _ _ h2 h3,h3⟩)),hP2.out 0 (BU _),HD4.out,HT4.out⟩
     case measure=>simp [intOf];omega
    ·obtain⟨hnc,hBl,hsub⟩:=HA'.out.resolve_left (λh=>Ψ (h k) HN.out);obtain⟨hl0,b,off,rfl,hbl,hc0⟩:=hBl.at (show 0<n' by omega);obtain⟨x,hx⟩:∃x,x=l'[0]:=⟨_,rfl⟩;rw [<-hx,Nat.add_zero]at hc0;have hxl:=x.toNat_lt;have t3:decide ((0:Int)<(n':Int))=true:=decide_eq_true O;have t4:decide (0<n')=true:=decide_eq_true O;have t5:(0:Int)<(n':Int):=O
     have t6:0<n':=O
     have hsl:=λW=>nS Tryz.Gq (some (Δ b off)) n' c' .i64 1 O W
     rw [show((1:Nat):Int)=1 from rfl]at hsl;have HBt:Hid (Bs wr (UX (some (Δ b off)) c' 1) (n'-1) (l'.drop 1)):=Aa (by
      have h1:=Rd.sub hBl (lo:=1) (hi:=n') O (Ad _) hnc;have hll:l'.length=n':=hBl.len;rw [List.take_of_length_le (by simp [hll])]at h1;rw [<-Xu]at h1;exact h1)
     have HSb:Hid (∀a,UX (some ((Δ b off):Addr)) c' 1=some a->∃a0,A=some a0/\a0.block=a.block):=Aa (λa ea=>by
      obtain⟨a0,h0,h1⟩:=hsub _ rfl;refine⟨a0,h0,h1.trans ?_⟩;unfold UX at ea;split at ea
      ·injection ea with ea;rw [<-ea]
      ·simp only [Option.map_some,Option.some.injEq]at ea;rw [<-ea,Addr.add_lit])
     have hrm:((x.toNat:Int)%((N:Int)+1))=((x.toNat%(N+1):Nat):Int):=by rw [Int.natCast_emod];rfl
     have hne:((N:Int)+1==0)=false:=by rw [beq_eq_false_iff_ne];omega
     have HRm:=Aa hrm;clear hN0 hn0 hBl hsub hx hrm
     go_wp2_with fail
     rw [show k*66=66*k by omega,HRm.out];have hmod:x.toNat%(N+1)<=N:=Ω (Nat.mod_lt x.toNat (show 0<N+1 by omega))
     refine(HC.out _ (x.toNat%(N+1)) rfl hmod).mono ?_;rintro e w4⟨⟨v,rfl⟩,hD4,hT4,hB4⟩;have HD4:=Aa hD4;have HT4:=Aa hT4;have HB4:=Aa hB4;have HP4:=Aa (hP2.out _ hmod);clear hD4 hT4 hB4 z1 y0 y1 y2 y3 f0 f1 f2 f3 hsl hmod
     go_wp2_with fail
     go_roundw
     case rel=>exact⟨k+1,_,_,n'-1,c'-1,_,O,rfl,by go_num,O,HB4.out.elim .inl (λhb=> .inr ⟨O,hb _ _ _ HBt.out HSb.out,HSb.out⟩),HP4.out,HD4.out,HT4.out⟩
     case measure=>simp [intOf];omega
  ·have hkn:k=L:=O
   subst hkn;clear hr hp ht hA' hbx2
   go_wp2_with fail
   go_end0;refine⟨⟨_,rfl⟩,pick,_,HP.out,HR.out,λi h hi=> ?_,HT.out⟩;unfold tN at hi;split at hi
   ·cases hi
   ·exact hi
end
def BK.congr {w : World} {d L : Nat} {ws ws' : Nat -> UInt64} {m m' : Mode} {mark mark' : Nat -> Nat} {g : Nat} {hb : Nat -> Option Nat} (h : BK w d L ws m mark g hb) (h1 : ∀ q, q < 8 * L -> ws' q = ws q) (h2 : ∀ i, i < L -> m'.Nk i = m.Nk i) (h3 : m'.lf = m.lf) (h4 : ∀ i, i < L -> mark' i = mark i) : BK w d L ws' m' mark' g hb := by
  obtain ⟨cur, hg, hs, a, b⟩ := h.blk
  have hl : ∀ i, i < L -> m' i = m i := λi hi => by show (m'.Nk i).length = (m.Nk i).length; rw [h2 i hi]
  refine ⟨by rw [h3]; exact h.box, by rw [h3]; exact h.lfr, h.gd, ⟨cur, hg, hs, λi hi k hk => ?_, λi hi => ?_⟩, h.bd, h.inj, λi hi => by rw [h4 i hi, hl i hi]; exact h.mrk i hi⟩
  · have e : EN ws' i = EN ws i := by
      apply List.ext_getElem
      · simp [EN]
      · intro t t1 t2
        have : t < 8 := by simpa [EN] using t1
        rw [Jr, Jr, h1 _ O]
    rw [e]; exact a i hi k hk
  · obtain ⟨A, c, e1, e2, hc⟩ := b i hi
    exact ⟨A, c, by rw [hl i hi]; exact e1, by rw [h4 i hi]; exact e2, by rw [h2 i hi]; exact hc⟩
section
variable{w:World}{d p L:Nat}{s:St}{F:Nat->Prop}
def DY.may(m:DY)(ws ws':Nat->UInt64):Prop:=match m with
 | .up _=>ws'=ws
 | .down P=>P ws'
def zh{m:DY}(hm:(∃lf,m= .up (MU lf))\/∃P,m= .down P)(h:Ew m w d p L s F)(A:Option Addr)(n c:Nat)(l:List UInt8)(hn:n<=1000000000)(hA:n<=c/\Bs w A n l/\∀a,A=some a->¬F a.block):
 Calls prog 25 #[Az d,.slice A n c] w λe w'=>(∃v,e= .returned v)/\
  ∃ws' own,m.may s.ws ws'/\Dev w' d L ws' M0 (λ_=>0) own/\(∀b,own b->F b)/\Touch F w w'/\Tabs w'/\¬own 0/\¬own 1:=by
 obtain⟨tb,hbl,n',cT,cH,own,hr,hF⟩:=h;have q1:¬own 0:=λh=>hr.g1 (.inl h)
 have q2:¬own 1:=λh=>hr.g2 (.inl h)
 have key:∀(md:Mode)(ws:Nat->UInt64)(mark:Nat->Nat),Dev w d L ws md mark own->(∀i,md i<=1000000)->(∀i,∀c∈md.Nk i,∃t,t<8/\c.1=8*t)->(∀pick:Nat->Nat,(∀i,pick i<=md i)->m.may s.ws (O7 md pick ws))->
  Calls prog 25 #[Az d,.slice A n c] w λe w'=>(∃v,e= .returned v)/\
   ∃ws' own,m.may s.ws ws'/\Dev w' d L ws' M0 (λ_=>0) own/\(∀b,own b->F b)/\Touch F w w'/\Tabs w'/\¬own 0/\¬own 1:=λmd ws mark hd hlen hwf hP=>by
  obtain⟨g,hbk,hd,ho⟩:=hd;refine(Aej hr.L0 hr.L1 hd hlen hwf A n c l hn (.inr ⟨hA.1,hA.2.1,λa ea h=>hA.2.2 a ea ((hF _).2 (.inl ((ho _).2 h)))⟩)).mono ?_;rintro e w1⟨he,pick,hb',hp,h1,h2,h3⟩;have hsub:∀b,Dh d L g hb' b->own b:=λb hb=>(ho b).2 (by
   rcases hb with h| h| ⟨i,hi,h⟩
   ·exact .inl h
   ·exact .inr (.inl h)
   ·exact .inr (.inr ⟨i,hi,h2 i b h⟩))
  have ht:Touch own w w1:=h3.mono (λb hb=>(ho b).2 hb);have h4:BK w1 d L (O7 md pick ws) M0 (λ_=>0) g hb':=h1.congr (λq hq=>by unfold mf;rw [if_pos O]) (λi hi=>by show []=(if i<L then []else md.Nk i);rw [if_pos hi]) rfl (λi hi=>by unfold zg;rw [if_pos hi]);exact⟨he,_,Dh d L g hb',hP pick hp,⟨g,hb',h4,λ_=>Iff.rfl⟩,λb hb=>(hF b).2 (.inl (hsub b hb)),ht.mono (λb hb=>(hF b).2 (.inl hb)),hr.tabs.keep (ht.block _ hr.tabs.lt.1 q1) (ht.block _ hr.tabs.lt.2 q2),λh=>q1 (hsub _ h),λh=>q2 (hsub _ h)⟩
 have Yx:=hr.dev;rcases hm with⟨lf,rfl⟩| ⟨P,rfl⟩
 ·exact key (MU lf) s.ws _ Yx.1 (λ_=>BU _) (λ_ _ h=>nomatch h) (λpick _=>by
  show O7 (MU lf) pick s.ws=s.ws;funext q;unfold O7;rw [show(MU lf).Nk (q/8)=[]from rfl,Al8];rfl)
 ·obtain⟨md,ws,mark,_,h2,h3,h4,h5⟩:=Yx;exact key md ws mark h2 h3 h4 h5
def Aie{lf:Int}(h:Ew (.up (MU lf)) w d p L s F)(n:Nat)(hn:n<=1000000000):
 Calls prog 24 #[Az d,.int .i64 (n:Int)] w λe w'=>(∃v,e= .returned v)/\
  ∃m' F',Ew m' w' d p L s F'/\AP F F' w w'/\((n≠0/\m'= .up (MU n))\/(n=0/\m'= .down (λws'=>ws'=s.ws))):=by
 obtain⟨tb,hb,n',cT,cH,own,h,hF⟩:=h;obtain⟨⟨g,hb0,hr,ho⟩,hu⟩:=h.dev;refine(Aic h.L0 h.L1 hu hr n hn).mono ?_;rintro e w'⟨he,hD,hT⟩;refine⟨he,?_⟩;have hv:Dv w d L g hb0 s.ws (MU n) (λ_=>0) w':=⟨hb0,λb h=> .inl h,hD,hT⟩;by_cases hz:n=0
 ·obtain⟨F',hs,hm⟩:=h.cut (P:=λws'=>ws'=s.ws) hF ho hv (by show((n:Nat):Int)=0;omega) (λ_=>BU _) (λ_ _ h=>nomatch h) (λpick _=>by
  funext q;unfold O7;rw [show(MU n).Nk (q/8)=[]from rfl,Al8];rfl) s.ws
  exact⟨_,F',hs,hm,.inr ⟨hz,rfl⟩⟩
 ·obtain⟨F',hs,hm⟩:=h.wrote hF ho hv (by show((n:Nat):Int)≠0;omega);exact⟨_,F',hs,hm,.inl ⟨hz,rfl⟩⟩
end
def Aek(s:St)(off:Int):St:=match Ia s off with
 | some (i,a)=>{s with hd:=s.hd.set i (Aw (Eh (hdN s i) a).1)}
 | none=>s
def Alk{m:DY}{d p L:Nat}{s:St}{F:Nat->Prop}(b0 b1 b2:Nat)(off er:Int)(W:World)(u:FrameMode)(h:W.cell? (Φ b0)=some (.int .i64 er))(he:er≠0)(h1:W.cell? (Φ b1)=some (Az p))(h2:W.cell? (Φ b2)=some (.int .i64 off))
 (hs:Ew m W d p L s F)(ho: -9223372036854775808<=off/\off<=9223372036854775807){i a:Nat}(hf:Ia s off=some (i,a))(hb1:(Eh (hdN s i) a).2=true):
 CallsD prog 172 #[Az b0,Az b1,Az b2] u W λe u' w'=>u'=u/\(e= .returned (.tuple #[])/\Ew m w' d p L (Aek s off) F/\AP F F W w'):=by
 have HV:Hid (Aek s off={s with hd:=s.hd.set i (Aw (Eh (hdN s i) a).1)}):=Aa (by unfold Aek;rw [hf]);have HD:=Aa (gq hs off ho hf hb1);have t1:(er==0)=false:=by rw [beq_eq_false_iff_ne];exact he
 clear hs hf hb1 he
 go_enter_d func172,ntmps172
 go_wp2_with fail
 refine HD.out.mono ?_;rintro e w1⟨rfl,k1,k2⟩
 go_wp2_with fail
 go_end0;exact⟨rfl,by rw [HV.out];exact k1,k2⟩
section
variable{w w':World}{d p L:Nat}{s:St}{F:Nat->Prop}
def tV{lf:Int}(h:Ew (.up (MU lf)) w d p L s F)(hlf:0<lf/\lf<=9)(r:Rc)(hr:r.text.size<=4294967296)(hR:Eb r=true){off:Nat}{s1:St}(hres:CO s 1=some (off,s1))(hTk:(Ib {s1 with ws:=BO s1.ws (off/8) (Dj r)} off).2=0):
 Calls prog 141 #[Az d,Az p,rcV r] w λe w'=>e= .returned (.tuple #[.int .u64 0,.int .i64 12])/\∃F',Ew (.down (Half s1.ws (BO s1.ws (off/8) (Dj r)))) w' d p L (Aek {s1 with ws:=BO s1.ws (off/8) (Dj r)} off) F'/\AP F F' w w':=by
 have Aif:∃i a,Ia {s1 with ws:=BO s1.ws (off/8) (Dj r)} off=some (i,a)/\(Eh (hdN s1 i) a).2=true:=by
  unfold Ib at hTk;cases hf:Ia {s1 with ws:=BO s1.ws (off/8) (Dj r)} off with
  | none=>rw [hf]at hTk;simp at hTk
  | some ia=>
    obtain⟨i,a⟩:=ia;rw [hf]at hTk;refine⟨i,a,rfl,?_⟩;cases hh:EP (hdN s1 i) a with
    | false=>
      have:EP (hdN {s1 with ws:=BO s1.ws (off/8) (Dj r)} i) a=false:=hh;simp [this]at hTk
    | true=>
      unfold Eh;rw [hh];simp only [Bool.not_true,Bool.false_eq_true,if_false];split<;>rfl
 have Awk:=Aa Aif;have hmf:∀(fn:Fn)(first cap:Array Value)(w:World),(Instr.makeFunc fn first cap).run prog w= .ok (.func fn first cap) w:=λ_ _ _ _=>rfl
 obtain⟨W0,hW0⟩:∃W0,W0=((w.alloc (.cells #[Az p] 26)).alloc (.cells #[.int .u64 (r.stamp.toNat:Int),.int .u64 (r.next.toNat:Int),.bool r.gone,.string r.text] 109)).alloc (.cells #[.int .i64 0] 31):=⟨_,rfl⟩;have hb0:η w W0:=by
  rw [hW0];exact(((Below.refl _ _).alloc (Ad _) _).alloc Θ _).alloc (by simp;omega) _
 have hs0:W0.heap.size=w.heap.size+3:=by rw [hW0];simp
 have P0:CS W0 w.heap.size 26 [Az p]:=by
  rw [hW0];exact(χ _ _ (by simp;omega)).trans ((χ _ _ Θ).trans (heap_alloc_new _ _))
 have P1:CS W0 (w.heap.size+1) 109 [.int .u64 (r.stamp.toNat:Int),.int .u64 (r.next.toNat:Int),.bool r.gone,.string r.text]:=by
  rw [hW0];have:=heap_alloc_new (w.alloc (.cells #[Az p] 26)) (.cells #[.int .u64 (r.stamp.toNat:Int),.int .u64 (r.next.toNat:Int),.bool r.gone,.string r.text] 109);rw [show(w.alloc (.cells #[Az p] 26)).heap.size=w.heap.size+1 by simp]at this;exact(χ _ _ Θ).trans this
 have P2:CS W0 (w.heap.size+1+1) 31 [.int .i64 0]:=by
  rw [hW0];have:=heap_alloc_new ((w.alloc (.cells #[Az p] 26)).alloc (.cells #[.int .u64 (r.stamp.toNat:Int),.int .u64 (r.next.toNat:Int),.bool r.gone,.string r.text] 109)) (.cells #[.int .i64 0] 31);rw [show((w.alloc (.cells #[Az p] 26)).alloc (.cells #[.int .u64 (r.stamp.toNat:Int),.int .u64 (r.next.toNat:Int),.bool r.gone,.string r.text] 109)).heap.size=w.heap.size+1+1 by simp]at this;exact this
 obtain⟨b1,xX⟩:∃b,b=w.heap.size+1:=⟨_,rfl⟩;obtain⟨b2,xY⟩:∃b,b=w.heap.size+1+1:=⟨_,rfl⟩;rw [<-xY]at P2;rw [<-xX]at P1;have c0:=P0.cell 0;have c2:=P2.cell 0;have f2:=P2.frozen 0;obtain⟨y0,y1,y2,y3,_,_,_,_⟩:=CG P1;simp only [Am]at c0 c2;have HX:=Aa h;have HB0:=Aa hb0;have HN:=Aa (WJ (h.below hb0));have HE:=Aa (WH r W0 hr);have HP0:=Aa P0;have vV:=Aa P1;have HP2:=Aa P2;have HW0:=Aa hW0;have HS0:=Aa hs0;have HD1:=Aa xX;have HD2:=Aa xY;have hlts:w.heap.size<b1/\b1<b2/\b2<W0.heap.size:=O
 have MC:=Aa h.lt;unfold rcV at HE⊢;clear h hb0 hs0 P0 P1 P2 hW0 Aif
 go_enter_defers func141,ntmps141
 go_wp2_with fail
 rw [<-HW0.out,<-HD2.out,<-HD1.out];refine HN.out.mono ?_;rintro e w1⟨rfl,rfl⟩;clear HN xX xY
 go_wp2_with fail
 refine HE.out.mono ?_;rintro e w1⟨hb1,hp1⟩;have HB1:=Aa (τ HB0.out hb1);have Ava:=Aa hb1;have P0:=HP0.out.ξ hb1;have P1:=vV.out.ξ hb1;have P2:=HP2.out.ξ hb1;replace c0:=P0.cell 0;replace c2:=P2.cell 0;replace f2:=P2.frozen 0;simp only [Am]at c0 c2;have hs1:=hb1.size;clear HE hb1 y0 y1 y2 y3;simp only [hR]at hp1;simp only [if_true]at hp1;obtain⟨g1,rfl,ho1⟩:=hp1;have HO1:=Aa ho1;have HRs:=Aa (NC (HX.out.below HB1.out) 1 U U);have HR:=Aa hR;have HP0:=Aa P0;have HP2:=Aa P2;have hv:resV s 1= .tuple #[.int .i64 (off:Int),.int .i64 0]:=by unfold resV;rw [hres]
 have hss:OV s 1=s1:=by unfold OV;rw [hres]
 rw [hv,hss]at HRs;obtain⟨_,_,ok,FZ⟩:=HX.out.pos;obtain⟨o,ho,hoL⟩:=U0 ok FZ (.inl rfl) hres;have HO:=Aa ho;have Avf:off+64<=64*L/\L<=1024:=⟨by simp only [Bf]at hoL;omega,HX.out.pos.2.1⟩;clear hv hss hres hR ho1 P0 P1 P2 ok FZ ho hoL hTk
 go_wp2_with fail
 refine HRs.out.mono ?_;rintro e w2⟨rfl,hs2,hm2⟩;have hnF:¬F b2:=λhf=>Ω (MC.out b2 hf)
 have xZ:¬F w.heap.size:=λhf=>Ω (MC.out _ hf)
 have hlt2:=hm2.touch.size;obtain⟨W3,hW3⟩:∃W3,W3=w2.alloc (.cells #[.int .i64 (off:Int)] 3):=⟨_,rfl⟩;obtain⟨b3,hb3⟩:∃b,b=w2.heap.size:=⟨_,rfl⟩;have hba:η w2 W3:=by rw [hW3];exact(Below.refl _ _).alloc (Ad _) _
 have P2:=(HP2.out.touch hm2.touch hnF).below hba (HP2.out.touch hm2.touch hnF).lt;have P0:=(HP0.out.touch hm2.touch xZ).below hba (HP0.out.touch hm2.touch xZ).lt;have P3:CS W3 b3 3 [.int .i64 (off:Int)]:=by rw [hW3,hb3];exact heap_alloc_new _ _
 have hw3:Ws W3 (some (Φ g1)) 8 (Dj r):=by
  have h1:=(CP HO1.out).2;have h2:∀a,some ((Φ g1):Addr)=some a->¬F a.block:=λa ha hf=>by
   obtain⟨g',e',hg',_⟩:=KL HO1.out U;injection e' with e'
   injection e' with e'
   injection ha with ha
   subst ha;have:=MC.out _ hf;have:=HB0.out.size;show False;simp only at*;omega
  exact Ws.below (Rd.touch h1 hm2.touch h2) hba
 have hgw:0<w.heap.size/\1<w.heap.size:=HX.out.tabs.lt;have hs3:=hs2.below hba;have Asm:b2<b3:=O
 have HPA:=Aa (λ(W:World)(h:Ew (.up (MU lf)) W d p L s1 F)(hw:Ws W (some (Φ g1)) 8 (Dj r))=>pG h o 8 8 (some (Φ g1)) (Dj r) (Ω HO.out) U hw);have c0:=P0.cell 0;have c2:=P2.cell 0;have f2:=P2.frozen 0;have c3:=P3.cell 0;simp only [Am]at c0 c2 c3;rw [hW3]at c0 c2 f2 c3;rw [hb3]at c3;have hs4:=hs3.NF 0 (.int .i64 0) hnF (b:=b2) O O;have hw4:Ws (W3.setCell (Φ b2) (.int .i64 0)) (some (Φ g1)) 8 (Dj r):=by
  refine Rd.touch hw3 ((Touch.refl (λk=>k=b2) W3).setCell (p:=Φ b2) (.inl rfl) _) (λa ha e=> ?_);obtain⟨g',e',hg',_⟩:=KL HO1.out U;injection e' with e'
  injection e' with e'
  injection ha with ha
  subst ha;simp only at e;omega
 have Qi:=HPA.out _ hs4 hw4;have eo:o=off/8:=Ω HO.out
 rw [show((8*o:Nat):Int)=(off:Int)by have:=HO.out;omega,eo]at Qi;have Qi:=Aa Qi;have P24:=P2.AZ 0 (.int .i64 0);have P04:=P0.far (show w.heap.size≠b2 by omega) 0 (.int .i64 0);have P34:=P3.far (show b3≠b2 by omega) 0 (.int .i64 0);simp only [Aj]at P24;have hm4:AP F F w (W3.setCell (Φ b2) (.int .i64 0)):=((AP.of_below (F:=F) HB1.out).trans (hm2.below hba)).set (p:=Φ b2) (.inr (by show _<=b2;omega)) _;have e3:=P34.p1;rw [hW3,hb3]at e3;have Akn:=P34.lt;have Ac2:=P24.lt;obtain⟨W4,VV⟩:∃W4,W4=W3.setCell (Φ b2) (.int .i64 0):=⟨_,rfl⟩;rw [<-VV]at Qi P24 P04 P34 hm4 Akn Ac2;have HM4:=Aa hm4;have An9:=Aa P24;have Aoa:=Aa P04;have Aob:=Aa P34;have YE:=Aa VV;have HW3:=Aa hW3;have HB3:=Aa hb3;have Ako:¬F b3:=λhf=>Ω (MC.out _ hf)
 clear eo hs4 hw4 P24 P04 P34 hm4 VV hw3 hs3 hs2 hm2 P0 P2 P3 hba HPA hlt2 hW3 hb3
 go_wp2_with fail
 rw [<-HW3.out,<-YE.out,<-HB3.out];refine Qi.out.mono ?_;rintro e w5⟨c,rfl,m5,F5,hs5,Qw,hout,hcut⟩;obtain rfl:c=12:=hcut hlf.1 O;obtain⟨_,_,rfl⟩:(12:Int)=12/\0<lf/\m5= .down (Half s1.ws (BO s1.ws (off/8) (Dj r))):=by
  rcases hout with⟨h1,_⟩| ⟨h1,_⟩| h1
  ·omega
  ·omega
  ·exact h1
 have P2:=An9.out.touch Qw.touch hnF;have P0:=Aoa.out.touch Qw.touch xZ;have P3:=Aob.out.touch Qw.touch Ako;have h5F:∀b,b<W4.heap.size->¬F b->¬F5 b:=λb hb hn hf=>(Qw.own b hf).elim hn (λh=>O)
 have hn5:=h5F b2 Ac2 hnF;have hw5:=Qw.touch.size;have c0:=P0.cell 0;have c2:=P2.cell 0;have f2:=P2.frozen 0;have c3:=P3.cell 0;have P26:=P2.AZ 0 (.int .i64 12);have P28:=P26.AZ 0 (.int .i64 12);have d2:=P26.cell 0;have g2:=P26.frozen 0;have z2:=P28.cell 0;simp only [Am,Aj]at c0 c2 c3 d2 z2;have hs8:=(hs5.NF 0 (.int .i64 12) hn5 O O).NF 0 (.int .i64 12) hn5 O O;have HS8:=Aa hs8;have qC:=Aa ((((HM4.out.trans Qw).set (p:=Φ b2) (.inr (by show _<=b2;omega)) (.int .i64 12))).set (p:=Φ b2) (.inr (by show _<=b2;omega)) (.int .i64 12));have x0:=((P0.far (show w.heap.size≠b2 by omega) 0 (.int .i64 12)).far (show w.heap.size≠b2 by omega) 0 (.int .i64 12)).cell 0;have x3:=((P3.far (show b3≠b2 by omega) 0 (.int .i64 12)).far (show b3≠b2 by omega) 0 (.int .i64 12)).cell 0;simp only [Am]at x0 x3;have Awl:=P28.lt;have HZ:=Aa (And.intro z2 (And.intro x0 x3));have UM:off<=65536:=O
 clear hs5 Qw hout hcut P0 P2 P3 P26 P28 hs8 h5F Qi z2 x0 x3
 go_wp2_with fail
 go_region
 all_goals(go_wp2_with fail)
 all_goals(obtain⟨i,a,hf,hdr⟩:=Awk.out)
 all_goals(refine leaves_cons (f:=172) (args:= #[Az b2,Az w.heap.size,Az b3]) Θ (by simp [go_sem]) ?_)
 all_goals(refine(Alk b2 w.heap.size b3 (off:Int) 12 (World.drew ((w5.setCell (Φ b2) (.int .i64 12)).setCell (Φ b2) (.int .i64 12))) .returning (by exact HZ.out.1) U (by exact HZ.out.2.1) (by exact HZ.out.2.2) (HS8.out.below ((Dr.drew _).below _)) O hf hdr).mono ?_)
 all_goals(rintro e u' w''⟨rfl,rfl,hs',hm'⟩)
 all_goals(have m':=(AP.of_below ((Dr.drew ((w5.setCell (Φ b2) (.int .i64 12)).setCell (Φ b2) (.int .i64 12))).below _)).trans hm')
 all_goals(have z':w''.cell? (Φ b2)=some (.int .i64 12):=(BA (m'.touch.block b2 Awl hn5)).trans HZ.out.1)
 all_goals(refine⟨.tuple #[.int .u64 0,.int .i64 12],by simp [results,results141,go_sem,z'],rfl,F5,hs',qC.out.trans m'⟩)
end
