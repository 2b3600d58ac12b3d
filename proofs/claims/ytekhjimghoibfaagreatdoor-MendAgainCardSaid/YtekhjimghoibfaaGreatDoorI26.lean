import Derived.Test.YtekhjimghoibfaaGreatDoorI24
set_option linter.defProp false
set_option maxHeartbeats 32000000
set_option maxRecDepth 100000
open List renaming mem_cons_of_mem->BO,mem_cons_self->BA,map_cons->Ci,size_toArray->Ae8,length_cons->BD,length_nil->Dp,push_toArray->Ae9,append_toArray->zL,nil_append->EX,cons_append->Cj,length_reverse->O9,length_map->BX,getElem?_cons_zero->Ag,getElem?_cons_succ->AB,map_drop->Xl,drop_nil->Amc
open Go.World renaming block_lt_of_cell?->D8,cell?_of_block->Bh,putObj_heap_other->Ip,frozen?->GM
open Go.Lib renaming hid->Aa
open Nat renaming reduceAdd->Ana,reduceSub->Anb,zero_le->BB,le_refl->Ad
open Array renaming replicate_succ->uD,replicate_zero->uF,getElem?_eq_some_iff->AA
open UInt64 renaming toNat_inj->DK
namespace Go.Proofs.YtekhjimghoibfaaGreatDoor
open Go.Proofs.Tryz
section
open Go.RowKit Go.Shelf
def Oh(w:World)(o:Obj){r:Nat}(h:r<w.heap.size):(w.alloc o).heap[r]?=w.heap[r]?:=by
 show(w.heap.push o)[r]?=_;rw[Array.getElem?_push_lt h,Array.getElem?_eq_getElem h]
attribute [local go_sem]Oper.semAt_some
abbrev WfC:={c:Nat×UInt64//∃a,a<8/\c.1=8*a}
def Aa6:∀(l:List (Nat×UInt64)),(∀a∈l,∃c,c<8/\a.1=8*c)->∃b:List WfC,b.map (·.1)=l
 |[],_=>⟨[],rfl⟩
 |a::l,h=>by
  obtain⟨b,d⟩:=Aa6 l (λx e=>h x (BO _ e));exact⟨⟨a,h a (BA ..)⟩::b,by rw[Ci,d]⟩
def bu(e c d:Nat)(q:Addr)(a b:World):Prop:=b.heap[e]?=a.heap[e]?/\b.heap[c]?=a.heap[c]?/\b.heap[d]?=a.heap[d]?/\b.cell? q=a.cell? q
def Apb(F:Fence)(n:Nat)(ar:F.fn 89)(aB:F.round=none)(bc:1<=n)(i l g o f c k:Nat)(A:Option Addr)(a:List WfC)(a9:a.length<=1000000)(ba:k<=a.length)(aq:0<a.length->A=some (Φ f))(w:World)
 (G:w.cell? (Φ i)=some (.pointer (some (Δ g o))))(H:w.cell? (Φ l)=some (.int .i64 (k:Int)))(I:w.cell? (Δ g (o+64))=some (.slice A a.length c))
 (M:∀d(h:d<a.length),w.cell? (Δ f (d*2))=some (.int .i64 (a[d].1.1:Nat))/\w.cell? (Δ f (d*2+1))=some (.int .u64 (a[d].1.2.toNat:Int)))(aa:f<w.heap.size):
 SeqStopsK F n prog 89 #[Az i,Az l] (λx:WfC=> #[.agg #[.int .i64 (x.1.1:Nat),.int .u64 (x.1.2.toNat:Int)]]) (bu f i l (Δ g (o+64)))
  (λaG=>aG=a.reverse.take (a.length-k)) (λ_=>True) a.length w:=λbj R aM s v a7 a8 W ap=>by
 have af:=D8 w _ G;have ah:=D8 w _ H;have al:=D8 w _ I;have ab:s.heap[i]?=w.heap[i]?:=v.block i af;have ac:s.heap[l]?=w.heap[l]?:=v.block l ah;have ad:s.cell? (Δ g (o+64))=w.cell? (Δ g (o+64)):=v.cell (p:=Δ g (o+64)) al;have N:s.heap[f]?=w.heap[f]?:=v.block f aa;have S:Hid (∀m:World,bu f i l (Δ g (o+64)) s m->m.cell? (Φ i)=some (.pointer (some (Δ g o)))/\m.cell? (Φ l)=some (.int .i64 (k:Int))/\m.cell? (Δ g (o+64))=some (.slice A a.length c)):=
  Aa (λm h=>⟨(Bh (w:=w) (h.2.1.trans ab)).trans G,(Bh (w:=w) (h.2.2.1.trans ac)).trans H,(h.2.2.2.trans ad).trans I⟩)
 have ao:Hid (∀m:World,bu f i l (Δ g (o+64)) s m->∀d(h:d<a.length),m.cell? (Δ f (d*2))=some (.int .i64 (a[d].1.1:Nat))/\m.cell? (Δ f (d*2+1))=some (.int .u64 (a[d].1.2.toNat:Int))):=
  Aa (λm E d h=>⟨(Bh (w:=w) (E.1.trans N)).trans (M d h).1,(Bh (w:=w) (E.1.trans N)).trans (M d h).2⟩)
 have an:=Aa W;obtain⟨aH,aL,P⟩:=S.out s ⟨rfl,rfl,rfl,rfl⟩;obtain⟨r,J⟩:=ε a.length;have u:=Aa J;rw[<-J]at P;have a3:IntKind.i64.wrap ((r:Int) -1)=(r:Int) -1:=IntWalk.i64_in _ O;clear G H I M W ab ac ad N v J af ah al aa;refine callsIn_of_wp func89 rfl ar ?_ aB;simp only[ntmps89,Ae8,BD,Dp,Ana,Anb,uD,uF,Ae9,zL,EX,Cj];gi_wp2
 gi_loopw [4](λp wr=>∃b,b<=a.length-k/\p=.int .i64 ((r:Int) -1-(b:Int))/\R (a.reverse.take b) wr/\bu f i l (Δ g (o+64)) s wr)(λp _=>(intOf p+1).toNat)
 case atStart=>exact⟨0,BB _,by simp,ap,rfl,rfl,rfl,rfl⟩
 case round=>
  obtain⟨b,bd,rfl,B,y⟩:=hrel;obtain⟨aH,aL,P⟩:=S.out wr y;rw[<-u.out]at P;by_cases bb:b<a.length-k
  ·obtain rfl:=aq O;obtain⟨e,X⟩:=ε (a.length-1-b);have av:e<a.length:=O;have az:((r:Int) -1-(b:Int))=(e:Int):=by rw[u.out];omega
   rw[az];have K:a.reverse.take (b+1)=a.reverse.take b++[a[e]]:=by
    have aw:b<a.reverse.length:=by rw[O9];omega
    rw[List.take_succ_eq_append_getElem aw];congr 2;rw[List.getElem_reverse];congr 1;omega
   have a6:=Aa K;obtain⟨a5,bk,a0,a1,bi,V⟩:=an.out (a.reverse.take b) a[e] wr B (by rw[List.length_take,O9];omega);obtain⟨bl,bm⟩:=ao.out wr y e av;have aD:(e:Int)<(r:Int):=by rw[u.out];omega
   have be:decide ((e:Int)<(r:Int))=true:=decide_eq_true aD;have aE:decide ((k:Int)<=(e:Int))=true:=decide_eq_true O;have bg:decide (k<=e)=true:=decide_eq_true O;have bh:decide (e<r)=true:=decide_eq_true (Ω u.out);have a4:IntKind.i64.wrap ((e:Int) -1)=(e:Int) -1:=IntWalk.i64_in _ O;rw[<-K]at V;generalize a[e]=a2 at*;have Q:=Aa X;have C:=Aa y;clear X K B y;gi_wp2;refine V.mono ?_;rintro E aR(⟨rfl,T,Y⟩|⟨rfl,U⟩)
   ·have D:=Aa T;have z:=Aa Y;clear T Y;gi_wp2;go_roundw
    case rel=>exact⟨b+1,O,by have:=Q.out;have:=u.out;congr 1;omega,D.out,z.out.1.trans C.out.1,z.out.2.1.trans C.out.2.1,z.out.2.2.1.trans C.out.2.2.1,z.out.2.2.2.trans C.out.2.2.2⟩
    case measure=>have:=Q.out;simp[intOf]
   ·have D:=Aa U;clear U;gi_wp2;refine bodyPost_ret (results_none rfl _ _ _) rfl ?_;exact⟨⟨_,rfl⟩,.inr ⟨a.reverse.take (b+1),trivial,D.out⟩⟩
  ·have Z:b=a.length-k:=O;obtain⟨q,L⟩:∃q:Int,q=(r:Int) -1-(b:Int):=⟨_,rfl⟩;rw[<-L];have aE:decide ((k:Int)<=q)=false:=decide_eq_false (by rw[L,u.out];omega);have am:Hid (R (a.reverse.take (a.length-k)) wr):=Aa (Z▸B);clear B Z L y;gi_wp2;go_end0;exact⟨⟨_,rfl⟩,.inl ⟨_,rfl,am.out⟩⟩
def Aib(P:Option Addr)(k:Int)(w:World):Calls prog 51 #[.pointer P,.int .i64 k] w λa w'=>a=.returned (.func (.func 89) #[] #[Az w.heap.size,Az (w.heap.size+1)])/\w'=(w.alloc (.cells #[.pointer P] 77)).alloc (.cells #[.int .i64 k] 3):=by
 go_enter func51,ntmps51
 go_wp2_with fail
 refine bodyPost_ret (v:=.func (.func 89) #[] #[Az w.heap.size,Az (w.heap.size+1)]) (by simp[results,results51,go_sem]) rfl ?_;exact⟨rfl,rfl⟩
def XO{w:World}{b:Nat}{e:TypeId}{xs:List Value}(h:CQ w b e xs):∃a,w.heap[b]?=some a/\a.isCells=true:=⟨_,h,rfl⟩
def Cb.isCells{w:World}{d L:Nat}{ws:Nat->UInt64}{m:Mode}{mark:Nat->Nat}{g:Nat}{hb:Nat->Option Nat}(h:Cb w d L ws m mark g hb):∀e,Dq d L g hb e->∃l,w.heap[e]?=some l/\l.isCells=true:=λe o=>by
 rcases o with rfl|rfl|⟨i,u,f⟩
 ·obtain⟨st,p⟩:=h.box;exact⟨_,p,rfl⟩
 ·obtain⟨cur,s,_⟩:=h.blk;exact⟨_,s,rfl⟩
 ·obtain⟨cur,_,_,_,q⟩:=h.blk;obtain⟨A,c,_,_,r⟩:=q i u;rcases r with⟨a,_⟩|⟨B,a,k,v⟩
  ·rw[f]at a;cases a
  ·rw[f]at a;injection a with a
   subst a;rcases v.2 with⟨b,_⟩|⟨z,x,y,b,_,n,_⟩
   ·rw[k]at b;cases b
   ·rw[k]at b;simp only[Value.slice.injEq,Option.some.injEq,Addr.mk.injEq,and_true,true_and]at b;rw[b.1];exact⟨_,n,rfl⟩
def yX{w:World}{d L:Nat}{ws:Nat->UInt64}{m:Mode}{mark:Nat->Nat}{g:Nat}{hb:Nat->Option Nat}(h:Cb w d L ws m mark g hb)(i k:Nat)(hi:i<L)(_:L<=1024)(G:k<=m i)(b2:m i<=1000000)(b9:∀V∈m.NC i,∃B,B<8/\V.1=8*B):
 Calls prog 25 #[.pointer (some (Δ g (66*i))),.int .i64 (k:Int)] w λe w'=>(∃cc,e=.returned cc)/\∃aH,Cb aH d L (Jn i ((m.NC i).drop k) ws) m mark g hb/\Touch (Dq d L g hb) w aH/\
  Below w.heap.size ((aH.setCell (Δ g (66*i+64)) (.slice none 0 0)).setCell (Δ g (66*i+65)) (.int .i64 0)) w':=by
 obtain⟨r,a2⟩:=Aa6 _ b9;have bi:r.length=m i:=by rw[<-BX (f:=(·.1)),a2];rfl
 refine(callsIn_wide (n:=3)).1 ?_;refine callsIn_of_wp_marks func25 rfl trivial ?_ rfl;simp only[ntmps25,Ae8,BD,Dp,Ana,Anb,uD,uF,Ae9,zL,EX,Cj]
 gi_wp2_with(refine⟨trivial,?_⟩;gi_at_call 51;refine(callsIn_wide.2 (Aib _ _ _)).mono ?_;rintro e w'⟨rfl,rfl⟩)
 obtain⟨c,P⟩:=ε (((w.alloc (.cells #[.pointer (some (Δ g (66*i)))] 77)).alloc (.cells #[.pointer (some (Δ g (66*i)))] 77)).alloc (.cells #[.int .i64 (k:Int)] 3));rw[<-P];have bg:η w c:=P▸(((Below.refl _ w).alloc (Ad _) _).alloc Θ _).alloc (by simp;omega) _;have a8:CQ c w.heap.size 77 [.pointer (some (Δ g (66*i)))]:=by rw[P];exact(Oh _ _ (by simp;omega)).trans ((Oh _ _ Θ).trans (heap_alloc_new _ _))
 have aq:c.cell? (Φ (w.heap.size+1))=some (.pointer (some (Δ g (66*i)))):=by rw[P];go_simp
 have ar:c.cell? (Φ (w.heap.size+1+1))=some (.int .i64 (k:Int)):=by rw[P];go_simp
 have cy:c.heap.size=w.heap.size+3:=by rw[P];simp
 have a9:=h.below bg;have cw:∀a,Dq d L g hb a->a<w.heap.size:=h.lt;have cs:=h.uK;obtain⟨bO,D,an,-,p⟩:=a9.blk;obtain⟨aB,V,aa,-,af⟩:=p i hi;have av:c.cell? (Δ g (66*i+64))=some (.slice aB r.length V):=by rw[cell_of_row c g _ bO _ (0,0) D,bi];exact aa
 obtain⟨H,b6,b5,bt,am⟩:∃H,H<c.heap.size/\(0<r.length->aB=some (Φ H))/\H≠g/\∀q(h:q<r.length),c.cell? (Δ H (q*2))=some (.int .i64 (r[q].1.1:Nat))/\c.cell? (Δ H (q*2+1))=some (.int .u64 (r[q].1.2.toNat:Int)):=by
  rcases af with⟨_,y,_⟩|⟨ah,A,aM,b7⟩
  ·have cn:r.length=0:=by rw[bi];unfold Mode.len;rw[y];rfl
   exact⟨w.heap.size,O,λh=>O,O,λq h=>O⟩
  ·have bX:=h.bd i hi ah A;rcases b7.2 with⟨o,_⟩|⟨cm,cl,W,o,_,y,_,_,cq,b8⟩
   ·rw[aM]at o;cases o
   ·rw[aM]at o;simp only[Value.slice.injEq,Option.some.injEq,Addr.mk.injEq,and_true,true_and]at o;obtain⟨rfl,_⟩:=o;refine⟨ah,(AA.1 y).1,λ_=>aM,bX.1,λq Q=>?_⟩;have cb:∀(l:List WfC)(q:Nat)(Q:q<l.length),(chV (l.map (·.1)))[q*2]?=some (.int .i64 (l[q].1.1:Nat))/\(chV (l.map (·.1)))[q*2+1]?=some (.int .u64 (l[q].1.2.toNat:Int)):=by
     intro l;induction l with
     |nil=>intro q Q;simp at Q
     |cons x l ca=>
      intro q Q;cases q with
      |zero=>exact⟨rfl,rfl⟩
      |succ q=>
       have:=ca q (by simpa using Q);rw[Ci,chV,show(q+1)*2=q*2+1+1 by omega,show q*2+1+1+1=(q*2+1)+1+1 by omega];simpa using this
    have a3:=cb r q Q;rw[a2]at a3;have bj:∀Y,Y<m i*2->W[Y]?=(chV (m.NC i))[Y]?:=λY ct=>by
     rw[<-b8,List.getElem?_take,if_pos (by have:(m.NC i).length=m i:=rfl;omega),Array.getElem?_toList]
    exact⟨(cell_of_row c ah _ W _ (0,0) y).trans ((bj _ O).trans a3.1),(cell_of_row c ah _ W _ (0,0) y).trans ((bj _ O).trans a3.2)⟩
 have bA:Hid (∀(pre:List WfC)X C(row:Option Nat),(Cb X d L (Jn i (pre.reverse.map (·.1)) ws) m mark g hb/\Touch (Dq d L g hb) c X)/\CQ X w.heap.size 77 [.pointer (some (Δ g (66*i)))]->X.grownBy C row->(∀aw,row=some aw->c.heap.size<=aw/\∃z:Obj,X.heap[aw]?=some z/\z.isCells=false)->
  (Cb C d L (Jn i (pre.reverse.map (·.1)) ws) m mark g hb/\Touch (Dq d L g hb) c C)/\CQ C w.heap.size 77 [.pointer (some (Δ g (66*i)))]):=Aa (λpre X C row⟨⟨s,v⟩,u⟩D al=>by
  have bk:∀a,(∃z,X.heap[a]?=some z/\z.isCells=true)->row≠some a:=λa⟨z,o,p⟩e=>by
   obtain⟨_,bq,A,y⟩:=al a e;rw[o]at A;injection A with A
   rw[A,y]at p;cases p
  have bh:∀a,a<X.heap.size->row≠some a->C.heap[a]?=X.heap[a]?:=λa hb b3=>D.block a hb (λe=>b3 e.symm)
  exact⟨⟨s.keep (λa bW b1=>bh a b1 (bk a (s.isCells a bW))),v.trans (Touch.Va (F:=λa=>row=some a) D (λk e=>e)) (λa e=>.inr (al a e).1)⟩,(bh _ u.lt (bk _ (XO u))).trans u⟩)
 have bx:=Aa a2;have ch:=Aa h;have bw:=Aa bg;have cg:=Aa a8;refine wpIn_rangeFunc_ownH rfl U (gf:=89) (lb:= #[Az (w.heap.size+1),Az (w.heap.size+1+1)]) rfl trivial (enters_of func89 Γ rfl)
  (encs:=λx:WfC=> #[.agg #[.int .i64 (x.1.1:Nat),.int .u64 (x.1.2.toNat:Int)]]) (Kp:=bu H (w.heap.size+1) (w.heap.size+1+1) (Δ g (66*i+64))) (S:=λbr=>br=r.reverse.take (r.length-k)) (Sp:=λ_=>True) (N:=r.length) (w0:=c)
  (Apb Fence.wide 2 trivial rfl U _ _ g (66*i) H V k aB r O O b5 c aq ar av am b6) (λo p=>⟨p.1.trans o.1,p.2.1.trans o.2.1,p.2.2.1.trans o.2.2.1,p.2.2.2.trans o.2.2.2⟩)
  (λb q z bq G a4 o _=>⟨Ip O,Ip O,Ip O,Bh (w:=b) (Ip (show g≠q by omega))⟩) (Below.refl _ _) (λ_=>rfl)
  (λpre b=>(Cb b d L (Jn i (pre.reverse.map (·.1)) ws) m mark g hb/\Touch (Dq d L g hb) c b)/\CQ b w.heap.size 77 [.pointer (some (Δ g (66*i)))])
  (λ_ _ _=>False) (λpre X C row o p A=>bA.out pre X C row o p A) (λ_ _ _ _ _ h _ _=>h) ⟨⟨by simpa[Jn]using a9,Touch.refl _ _⟩,a8⟩
  (λx aL b=>∃I,c.heap.size<=I/\CQ b I 137 [.int .i64 (x.1.1:Nat),.int .u64 (x.1.2.toNat:Int)]/\aL={tmps:= #[.pointer (some (Δ g (66*i))),.int .i64 (k:Int),Az w.heap.size,undef,Az I,.pointer (some (Δ g (66*i))),.int .i64 (k:Int),.func (.func 89) #[] #[Az (w.heap.size+1),Az (w.heap.size+1+1)],.agg #[.int .i64 (x.1.1:Nat),.int .u64 (x.1.2.toNat:Int)],undef,undef,undef,undef,undef,undef,undef,undef,undef,undef,undef,undef],defers:=[]})
  ?hAx ?assign ?body ?done ?stop
 case hAx=>
  intro x aL;rintro R X C row⟨I,o,p,A⟩D al;refine⟨I,o,(D.block _ p.lt (λe=>?_)).trans p,A⟩;obtain⟨_,bq,y,bR⟩:=al I e.symm;obtain⟨z,bS,be⟩:=XO p;rw[bS]at y;injection y with y
  rw[y,bR]at be;cases be
 case assign=>
  rintro bp pre x b ci⟨⟨s,v⟩,u⟩ac;have an:=v.size;have bB:=Aa ac;have T:=Aa s;have M:=Aa v;have aD:=Aa u;clear ac s v u p af aa D aq ar av am;gi_wp2;have a1:∀z,η b (b.alloc z):=λz=>(Below.refl _ _).alloc (Ad _) _
  exact bB.out _ _ ((KeepsOthers.alloc _ _).from _) ⟨Oh _ _ O,Oh _ _ O,Oh _ _ O,Bh (w:=b) (Oh _ _ (show g<b.heap.size by omega))⟩
   ⟨⟨T.out.below (a1 _),M.out.trans (Touch.of_below (F:=Dq d L g hb) (a1 _)) (λa h=>.inl h)⟩,aD.out.ξ (a1 _)⟩ ⟨b.heap.size,an,heap_alloc_new _ _,rfl⟩
 case body=>
  rintro bp pre x aL b cv⟨aw,cx⟩⟨⟨s,v⟩,u⟩⟨I,co,ab,rfl⟩b2;obtain⟨B,bm,aR⟩:=x.2;have an:=v.size;have aG:Hid (Jn i ((pre++[x]).reverse.map (·.1)) ws=λq=>if q=8*i+B then x.1.2 else Jn i (pre.reverse.map (·.1)) ws q):=Aa (by
   rw[List.reverse_append,List.map_append];show Jn i (x.1::pre.reverse.map (·.1)) ws=_;funext q;show(if q=8*i+x.1.1/8 then x.1.2 else Jn i (pre.reverse.map (·.1)) ws q)=_;rw[show x.1.1/8=B by omega])
  obtain⟨cj,ad⟩:=ε x.1.1;obtain⟨R,ao⟩:=ε x.1.2;rw[<-ad]at aR;rw[<-ad,<-ao]at ab;rw[<-ao]at aG;rw[<-ad,<-ao];clear ad ao;obtain⟨az,a6⟩:=ε (Jn i (pre.reverse.map (·.1)) ws);rw[<-a6]at s aG;clear a6;obtain⟨K,E,bl,-,-⟩:=s.blk;have ap:=oJ g (66*i) B (FP az i) R b (J3 _ _) (s.line i hi) (λY _=>by simp[GM,E]) bm;rw[<-aR]at ap;have ap:=Aa ap;have cd:=ab.cell 0;have ce:=ab.cell 1;have cf:=u.cell 0;simp only[Ag,AB]at cd ce cf;have T:=Aa s;have M:=Aa v;have aD:=Aa u;have aE:=Aa E;have cr:1<=3-1-1:=by decide
  clear s v u ab aR p af aa D aq ar av am E
  gi_wp2_with(refine⟨trivial,?_⟩;gi_at_call 52;refine(CallsIn.inRound bp (callsIn_wide.2 ap.out)).mono ?_;rintro e cz⟨rfl,a5,a0,rfl⟩)
  have a7:((leBytes ((FP az i).set B R)).map bv).length=64:=by rw[BX,leBytes_length,List.length_set,J3]
  have b0:a5.heap[g]?=some (.cells K 81 (0,0)):=(a0.block g (Ω M.out.size)).trans aE.out;obtain⟨W,bE,ck,bL⟩:=EE g _ _ ((leBytes ((FP az i).set B R)).map bv) (66*i) a5 K b0 (by rw[a7,bl];omega);have bV:=(T.out.below a0).put (i:=i) (k:=B) hi bm R;have J:Touch (λa=>a=g) b (a5.setCells g (66*i) ((leBytes ((FP az i).set B R)).map bv)):=(Touch.of_below (F:=λa=>a=g) a0).setCells (.inl rfl);refine⟨⟨J.size,λq z _ G a4=>?_⟩,⟨J.block _ O bt,J.block _ O O,J.block _ O O,?_⟩,⟨⟨by rw[aG.out];exact bV,M.out.trans J (λa e=>.inl (.inr (.inl e)))⟩,aD.out.touch J O⟩⟩
  ·have b4:=(AA.1 G).1;rw[J.block q b4 (λe=>by
    subst e;rw[aE.out]at G;injection G with G
    rw[<-G]at a4;cases a4)]
   exact G
  ·rw[cell_of_row _ g _ W _ (0,0) bE,bL,a7,if_neg O,cell_of_row b g _ K _ (0,0) aE.out]
 case stop=>
  rintro Z V pre b _ _ h;exact h.elim
 case done=>
  rintro Z br b cp rfl⟨⟨s,v⟩,u⟩ac;have bo:((r.reverse.take (r.length-k)).reverse.map (·.1))=(m.NC i).drop k:=by
   rw[List.take_reverse,List.reverse_reverse,show r.length-(r.length-k)=k by omega,Xl,bx.out]
  rw[bo]at s;obtain⟨K,E,bl,-,bc⟩:=s.blk;obtain⟨bs,bN,ba,bb,-⟩:=bc i hi;have cA:=u.p1;have cB:b.cell? (Δ g (66*i+64))=some (.slice bs (m i) bN):=by rw[cell_of_row b g _ K _ (0,0) E];exact ba
  have cC:b.cell? (Δ g (66*i+65))=some (.int .i64 (mark i:Int)):=by rw[cell_of_row b g _ K _ (0,0) E];exact bb
  have f1:b.frozen? (Δ g (66*i+64))=false:=by simp[GM,E]
  have f2:b.frozen? (Δ g (66*i+65))=false:=by simp[GM,E]
  have T:=Aa s;have M:=Aa ((Touch.of_below (F:=Dq d L g hb) bw.out).trans v (λa h=>.inl h));have an:=v.size;clear s v u p af aa D aq ar av am E bc ba bb bo;gi_wp2;refine wpIn_wide.2 ?_;go_region;have bT:=(KeepsOthers.setCell (b.setCell (Δ g (66*i+64)) (.slice none 0 0)) (Δ g (66*i+65)) (.int .i64 0)).same Z _ ((KeepsOthers.setCell b (Δ g (66*i+64)) (.slice none 0 0)).same Z _ ac rfl) rfl;refine⟨by simp,.inl ⟨_,_,rfl,run_takeDeferred bT,?_⟩⟩;refine⟨_,results_none rfl _ _ _,⟨_,rfl⟩,b,T.out,M.out,?_⟩;refine((Below.refl _ _).drew).grown (grownBy_putObj' _ Z _) (by simp;omega) (λk e=>by cases e;omega)
def sS{w:World}{d L:Nat}{ws:Nat->UInt64}{m:Mode}{mark:Nat->Nat}{g:Nat}{hb:Nat->Option Nat}(h:Cb w d L ws m mark g hb)(i k:Nat)(hi:i<L)(u:L<=1024)(z:k<=m i)(A:m i<=1000000)(D:∀o∈m.NC i,∃l,l<8/\o.1=8*l):
 Calls prog 25 #[.pointer (some (Δ g (66*i))),.int .i64 (k:Int)] w λf w'=>(∃F,f=.returned F)/\Cb w' d L (Jn i ((m.NC i).drop k) ws) (m.wipe i) (λq=>if q=i then 0 else mark q) g (λq=>if q=i then none else hb q)/\Touch (Dq d L g hb) w w':=by
 have B:=h.lt;refine(yX h i k hi u z A D).mono ?_;rintro f w'⟨x,n,s,v,a⟩;have r:=s.clear hi (Below.refl _ _) none;have c:Touch (Dq d L g hb) w ((n.setCell (Δ g (66*i+64)) (.slice none 0 0)).setCell (Δ g (66*i+65)) (.int .i64 0)):=(v.setCell (p:=Δ g (66*i+64)) (.inl (.inr (.inl rfl))) _).setCell (p:=Δ g (66*i+65)) (.inl (.inr (.inl rfl))) _;refine⟨x,r.keep (λb e _=>a.block b ?_),⟨a.os.trans c.os,a.tape.trans c.tape,a.output.trans c.output,Nat.le_trans c.size ?_,λb e C=>(a.block b e).trans (c.block b e C)⟩⟩
 ·refine B b ?_;rcases e with h|h|⟨E,y,h⟩
  ·exact .inl h
  ·exact .inr (.inl h)
  ·refine .inr (.inr ⟨E,y,?_⟩);simp only at h;split at h
   ·cases h
   ·exact h
 ·have:=a.size;simpa[World.setCell]using this
end
section
open Go.RowKit
section
variable{w w':World}{d L:Nat}{ws:Nat->UInt64}{m:Mode}{mark:Nat->Nat}{g:Nat}{hb:Nat->Option Nat}
def Cb.Amy(h:Cb w d L ws m mark g hb)(v:Touch (λa=>a=d) w w')(lf:Int)(h1: -1<=lf)(h2:lf<=1000000000){st:Int}(q:CQ w' d 70 [.slice (some (Φ g)) L L,.bool (decide (lf=0)),.int .i64 lf,.int .i64 st]):Cb w' d L ws ⟨m.NC,lf⟩ mark g hb:=by
 have k:∀a,a<w.heap.size->a≠d->w'.heap[a]?=w.heap[a]?:=λa e b=>v.block a e b
 obtain⟨cur,s,u,o,p⟩:=h.blk;exact⟨⟨st,q⟩,⟨h1,h2⟩,h.gd,⟨cur,(k g h.uK h.gd).trans s,u,o,λi f=>by
  obtain⟨A,c,l,n,r⟩:=p i f;exact⟨A,c,l,n,r.keep (λa b e=>k a e (h.bd i f a b).2)⟩⟩,h.bd,h.inj,h.mrk⟩
def Aic(u:0<L)(o:L<=1024)(q:m.lf≠0)(h:Cb w d L ws m mark g hb)(n:Nat)(z:n<=1000000000):
 Calls prog 7 #[Az d,.int .i64 (n:Int)] w λc w'=>(∃s,c=.returned s)/\Cb w' d L ws ⟨m.NC,n⟩ mark g hb/\Touch (Dq d L g hb) w w':=by
 obtain⟨f,a⟩:=h.box;rw[decide_eq_false q]at a;obtain⟨B,C,D,E,f0,f1,f2,f3⟩:=CO a;have e:=Aa (Ot d L g (.bool false) (.int .i64 m.lf) (.int .i64 f) w o a);have t0:(((L*64:Nat):Int)==0)=false:=ζ O;have k:=Aa h;have l:Hid (∀x:Int,x=(n:Int)->Cb ((w.setCell (Δ d 2) (.int .i64 x)).setCell (Δ d 1) (.bool (x==0))) d L ws ⟨m.NC,n⟩ mark g hb/\Touch (Dq d L g hb) w ((w.setCell (Δ d 2) (.int .i64 x)).setCell (Δ d 1) (.bool (x==0)))):=Aa (λx r=>by
  subst r;have i:Touch (λb=>b=d) w ((w.setCell (Δ d 2) (.int .i64 (n:Int))).setCell (Δ d 1) (.bool ((n:Int)==0))):=((Touch.refl (λb=>b=d) w).setCell (p:=Δ d 2) (.inl rfl) _).setCell (p:=Δ d 1) (.inl rfl) _;exact⟨k.out.Amy i n O O (st:=f) ((a.AZ 2 (.int .i64 (n:Int))).AZ 1 (.bool ((n:Int)==0))),i.mono (λb c=>.inl c)⟩)
 have y:(if(n:Int)<0 then(0:Int)else(n:Int))=(n:Int):=if_neg O;have v:decide ((n:Int)<0)=false:=decide_eq_false O;generalize L*64=A at e t0;clear h a;go_enter func7,ntmps7
 go_wp2_with fail
 refine e.out.mono ?_;rintro c w'⟨rfl,rfl⟩;clear e
 go_wp2_with fail
 go_end0;exact⟨⟨_,rfl⟩,l.out _ (by first|rfl|simp)⟩
def dZ(k:Nat)(m:Mode):Mode:=⟨λa=>if a<k then[]else m.NC a,-1⟩
def yY(k:Nat)(mark:Nat->Nat)(i:Nat):Nat:=if i<k then 0 else mark i
def sU(k:Nat)(hb:Nat->Option Nat)(i:Nat):Option Nat:=if i<k then none else hb i
def lX(k:Nat)(m:Mode)(a:Nat->Nat)(ws:Nat->UInt64)(q:Nat):UInt64:=if q/8<k then PI m a ws q else ws q
def iY{i:Nat}:∀{l:List (Nat×UInt64)}{ws:Nat->UInt64}{q:Nat},(∀a∈l,∃b,b<8/\a.1=8*b)->q/8≠i->Jn i l ws q=ws q
 |[],_,_,_,_=>rfl
 |a::l,ws,q,h,c=>by
  obtain⟨b,t1,t2⟩:=h a (BA ..);unfold Jn;rw[if_neg O,iY (λx d=>h x (BO _ d)) c]
def bz{i:Nat}:∀{l:List (Nat×UInt64)}{ws ws':Nat->UInt64}{q:Nat},ws q=ws' q->Jn i l ws q=Jn i l ws' q
 |[],_,_,_,h=>h
 |a::l,ws,ws',q,h=>by
  unfold Jn;rw[bz h]
def Aid{k:Nat}{m:Mode}{f:Nat->Nat}{ws:Nat->UInt64}(l:∀b,∀c∈m.NC b,∃g,g<8/\c.1=8*g)(a:Nat):
 Jn k ((m.NC k).drop a) (lX k m f ws)=lX (k+1) m (λb=>if b=k then a else f b) ws:=by
 funext q;unfold lX;by_cases d:q/8=k
 ·rw[if_pos O];unfold PI;rw[d];simp only[if_true];exact bz (by rw[if_neg O])
 ·rw[iY (λc i=>l k c (List.mem_of_mem_drop i)) d];by_cases e:q/8<k
  ·rw[if_pos e,if_pos O];unfold PI;simp only[if_neg d]
  ·rw[if_neg e,if_neg O]
def Aee(cc:0<L)(a7:L<=1024)(h:Cb w d L ws m mark g hb)(ba:∀e,m e<=1000000)(bi:∀e,∀c∈m.NC e,∃bl,bl<8/\c.1=8*bl)(A:Option Addr)(n c:Nat)(l:List UInt8)(b4:n<=1000000000)
 (ap:(∀e,m e=0)\/(n<=c/\Bs w A n l/\∀a,A=some a->¬Dq d L g hb a.block)):
 Calls prog 9 #[Az d,.slice A n c] w λr w'=>(∃M,r=.returned M)/\
  ∃y ab,(∀e,y e<=m e)/\Cb w' d L (lX L m y ws) (dZ L m) (yY L mark) g ab/\(∀e h,ab e=some h->hb e=some h)/\Touch (Dq d L g hb) w w':=by
 obtain⟨bk,S⟩:=h.box;obtain⟨U,V,W,X,f0,f1,f2,f3⟩:=CO S;have a2:=Aa (Ot d L g _ _ _ w a7 S);have ch:=h.lt;have ca:=Aa h;have cb:=Aa S;have a5:=Aa bi;have bt:=Aa ba;have bq:=Aa ap;obtain⟨al,aa⟩:=ε ((w.setCell (Δ d 1) (.bool false)).setCell (Δ d 2) (.int .i64 (-1)));have t2:Touch (λk=>k=d) w al:=aa▸((Touch.refl (λk=>k=d) w).setCell (p:=Δ d 1) (.inl rfl) _).setCell (p:=Δ d 2) (.inl rfl) _;have K:CQ al d 70 [.slice (some (Φ g)) L L,.bool false,.int .i64 (-1),.int .i64 bk]:=aa▸(S.AZ 1 (.bool false)).AZ 2 (.int .i64 (-1));have C:=h.Amy t2 (-1) O O (st:=bk) (by rw[show decide ((-1:Int)=0)=false by decide];exact K);have br:Hid ((∀e,m e=0)\/(n<=c/\Bs al A n l)):=Aa (ap.imp id (λ⟨u,H,ao⟩=>⟨u,H.touch t2 (λa s r=>ao a s (.inl r))⟩));have bp:=Aa C;have bA:=Aa (t2.mono (G:=Dq d L g hb) (λk r=>.inl r));have bB:=Aa aa;clear h S bi ba ap C t2 aa K;go_enter func9,ntmps9
 go_wp2_with fail
 refine a2.out.mono ?_;rintro r w'⟨rfl,rfl⟩;have cp:((L:Int)*64==0)=false:=ζ O;clear a2
 go_wp2_with fail
 rw[<-bB.out];clear U V W X f0 f1 f2 f3
 go_loopw [1,22](λq e wr=>∃(b:Nat)(y:Nat->Nat)(J:Option Addr)(f z:Nat)(I:List UInt8),b<=L/\q=.slice J f z/\e=.int .i64 b/\f<=1000000000/\((∀e,m e=0)\/(f<=z/\Bs wr J f I/\∀a,J=some a->∃v,A=some v/\v.block=a.block))/\(∀e,y e<=m e)/\
  Cb wr d L (lX b m y ws) (dZ b m) (yY b mark) g (sU b hb)/\Touch (Dq d L g hb) w wr)(λ_ e _=>L-(intOf e).toNat)
 case atStart=>exact⟨0,λ_=>0,A,n,c,l,BB _,rfl,rfl,b4,br.out.imp id (λ⟨a,k⟩=>⟨a,k,λa s=>⟨a,s,rfl⟩⟩),λ_=>BB _,bp.out,bA.out⟩
 case round=>
  obtain⟨b,y,J,f,z,I,cf,rfl,rfl,bc,aq,aG,T,aH⟩:=hrel;obtain⟨cq,K⟩:=T.box;obtain⟨U,V,W,X,f0,f1,f2,f3⟩:=CO K;have a4:=Aa aH;have a1:=Aa T;have a0:=Aa aG;have af:=Aa aq;by_cases aB:b<L
  ·obtain⟨bN,a9,b9,u,C⟩:=T.blk;obtain⟨bo,bL,R,am,bX⟩:=C b aB;have ac:(dZ b m).len b=m b:=by unfold dZ Mode.len;simp only;rw[if_neg O]
   have aD:(dZ b m).NC b=m.NC b:=if_neg O;rw[ac]at R;have ad:wr.cell? (Δ g (b*66+64))=some (.slice bo (m b) bL):=by rw[cell_of_row wr g _ bN _ (0,0) a9,show b*66+64=66*b+64 by omega];exact R
   obtain⟨cl,cm,cn⟩:=YB aB;have ck:=jh b O;have bb:=bt.out b;have Y:Hid (∀(aR:World)(a:Nat),aR=wr->a<=m b->Calls prog 25 #[.pointer (some (Δ g (66*b))),.int .i64 (a:Int)] aR λr w'=>(∃M,r=.returned M)/\
    Cb w' d L (lX (b+1) m (λe=>if e=b then a else y e) ws) (dZ (b+1) m) (yY (b+1) mark) g (sU (b+1) hb)/\Touch (Dq d L g hb) w w'/\((∀e,m e=0)\/∀(B:Option Addr)(x:Nat)(aL:List UInt8),Bs wr B x aL->(∀a,B=some a->∃v,A=some v/\v.block=a.block)->Bs w' B x aL)):=Aa (λaR a b8 az=>by
    subst b8;refine(sS a1.out b a aB a7 (by rw[ac];exact az) (by rw[ac];exact bb) (by rw[aD];exact a5.out b)).mono ?_;rintro r w'⟨b1,a6,bW⟩;have R:Jn b (((dZ b m).NC b).drop a) (lX b m y ws)=lX (b+1) m (λe=>if e=b then a else y e) ws:=by rw[aD];exact Aid a5.out a
    have am:(dZ b m).wipe b=dZ (b+1) m:=by
     unfold dZ Mode.wipe;simp only;congr 1;funext e;by_cases o:e=b
     ·rw[if_pos o,if_pos O]
     ·rw[if_neg o];simp only[show(e<b+1)=(e<b)by apply propext;omega]
    have bO:(λq=>if q=b then 0 else yY b mark q)=yY (b+1) mark:=by
     funext e;unfold yY;by_cases o:e=b
     ·rw[if_pos o,if_pos O]
     ·rw[if_neg o];simp only[show(e<b+1)=(e<b)by apply propext;omega]
    have bR:(λq=>if q=b then none else sU b hb q)=sU (b+1) hb:=by
     funext e;unfold sU;by_cases o:e=b
     ·rw[if_pos o,if_pos O]
     ·rw[if_neg o];simp only[show(e<b+1)=(e<b)by apply propext;omega]
    rw[R,am,bO,bR]at a6;have b7:∀k,Dq d L g (sU b hb) k->Dq d L g hb k:=λk ab=>by
     rcases ab with h|h|⟨e,o,h⟩
     ·exact .inl h
     ·exact .inr (.inl h)
     ·refine .inr (.inr ⟨e,o,?_⟩);unfold sU at h;split at h
      ·cases h
      ·exact h
    have a8:=bW.mono b7;refine⟨b1,a6,a4.out.trans a8 (λk h=>.inl h),bq.out.imp id (λ⟨_,_,ao⟩B x aL bT bV=>Rd.touch bT a8 (λa s b6=>?_))⟩;obtain⟨v,an,bS⟩:=bV a s;exact ao v an (by rw[bS];exact b6))
   clear T aG aH aq a9 b9 u C R am bX K;obtain⟨i,ar⟩:=ε (m b);rw[<-ar]at ad Y;have ah:=Aa ar;clear ar ac aD;have aw:Hid (∀a,a<=i->∀e,(λe=>if e=b then a else y e) e<=m e):=Aa (λa az e=>by
    show(if e=b then a else y e)<=m e;split
    ·rename_i r;rw[r,<-ah.out];exact az
    ·exact a0.out e)
   have cd:i<=1000000:=by rw[ah.out];exact bb
   have cj:=jh i O;by_cases av:i=0
   ·have t1:decide ((1:Int)<(i:Int)+1)=false:=decide_eq_false O;have t2:decide (0<i)=false:=decide_eq_false O;clear av
    go_wp2_with fail
    rw[show b*66=66*b by omega];refine(Y.out _ 0 rfl (BB _)).mono ?_;rintro r bm⟨⟨M,rfl⟩,E,F,D⟩;have P:=Aa E;have Q:=Aa F;have N:=Aa D;clear E F D ad U V W X f0 f1 f2 f3
    go_wp2_with fail
    go_roundw
    case rel=>exact⟨b+1,_,J,f,z,I,O,rfl,by go_num,bc,N.out.elim .inl (λhb=>af.out.imp id (λ⟨u,C,H⟩=>⟨u,hb _ _ _ C H,H⟩)),aw.out 0 (BB _),P.out,Q.out⟩
    case measure=>simp[intOf];omega
   ·have t1:decide ((1:Int)<(i:Int)+1)=true:=decide_eq_true O;have t2:decide (0<i)=true:=decide_eq_true O;by_cases bd:f=0
    ·have t3:decide ((0:Int)<(f:Int))=false:=decide_eq_false O;have t4:decide (0<f)=false:=decide_eq_false O;clear av bd
     go_wp2_with fail
     rw[show b*66=66*b by omega];refine(Y.out _ 0 rfl (BB _)).mono ?_;rintro r bm⟨⟨M,rfl⟩,E,F,D⟩;have P:=Aa E;have Q:=Aa F;have N:=Aa D;clear E F D ad U V W X f0 f1 f2 f3
     go_wp2_with fail
     go_roundw
     case rel=>exact⟨b+1,_,J,f,z,I,O,rfl,by go_num,bc,N.out.elim .inl (λhb=>af.out.imp id (λ⟨u,C,H⟩=>⟨u,hb _ _ _ C H,H⟩)),aw.out 0 (BB _),P.out,Q.out⟩
     case measure=>simp[intOf];omega
    ·obtain⟨b5,Z,bh⟩:=af.out.resolve_left (λh=>Ψ (h b) ah.out);obtain⟨cg,k,aM,rfl,ce,b0⟩:=Z.at (show 0<f by omega);obtain⟨x,bj⟩:=ε (I[0]);rw[<-bj,Nat.add_zero]at b0;have co:=x.toNat_lt;have t3:decide ((0:Int)<(f:Int))=true:=decide_eq_true O;have t4:decide (0<f)=true:=decide_eq_true O;have t5:(0:Int)<(f:Int):=O;have t6:0<f:=O;have bg:=λbE=>nJ Tryz.Ia (some (Δ k aM)) f z .i64 1 O bE
     rw[show((1:Nat):Int)=1 from rfl]at bg;have bs:Hid (Bs wr (UH (some (Δ k aM)) z 1) (f-1) (I.drop 1)):=Aa (by
      have u:=Rd.sub Z (lo:=1) (hi:=f) O (Ad _) b5;have b3:I.length=f:=Z.len;rw[List.take_of_length_le (by simp[b3])]at u;rw[<-Xl]at u;exact u)
     have a3:Hid (∀a,UH (some ((Δ k aM):Addr)) z 1=some a->∃v,A=some v/\v.block=a.block):=Aa (λa s=>by
      obtain⟨v,an,u⟩:=bh _ rfl;refine⟨v,an,u.trans ?_⟩;unfold UH at s;split at s
      ·injection s with s;rw[<-s]
      ·simp only[Option.map_some,Option.some.injEq]at s;rw[<-s,Addr.add_lit])
     have be:((x.toNat:Int)%((i:Int)+1))=((x.toNat%(i+1):Nat):Int):=by rw[Int.natCast_emod];rfl
     have ci:((i:Int)+1==0)=false:=ζ O;have bx:=Aa be;clear av bd Z bh bj be
     go_wp2_with fail
     rw[show b*66=66*b by omega,bx.out];have aE:x.toNat%(i+1)<=i:=Ω (Nat.mod_lt x.toNat (show 0<i+1 by omega));refine(Y.out _ (x.toNat%(i+1)) rfl aE).mono ?_;rintro r bm⟨⟨M,rfl⟩,E,F,D⟩;have P:=Aa E;have Q:=Aa F;have N:=Aa D;have bw:=Aa (aw.out _ aE);clear E F D ad U V W X f0 f1 f2 f3 bg aE
     go_wp2_with fail
     go_roundw
     case rel=>exact⟨b+1,_,_,f-1,z-1,_,O,rfl,by go_num,O,N.out.elim .inl (λhb=>.inr ⟨O,hb _ _ _ bs.out a3.out,a3.out⟩),bw.out,P.out,Q.out⟩
     case measure=>simp[intOf];omega
  ·have b2:b=L:=O;subst b2;clear T aG aH aq K
   go_wp2_with fail
   go_end0;refine⟨⟨_,rfl⟩,y,_,a0.out,a1.out,λe h o=>?_,a4.out⟩;unfold sU at o;split at o
   ·cases o
   ·exact o
end
def Cb.congr{w:World}{d L:Nat}{ws ws':Nat->UInt64}{m b:Mode}{mark f:Nat->Nat}{g:Nat}{hb:Nat->Option Nat}(h:Cb w d L ws m mark g hb)(h1:∀q,q<8*L->ws' q=ws q)(h2:∀i,i<L->b.NC i=m.NC i)(h3:b.lf=m.lf)(h4:∀i,i<L->f i=mark i):Cb w d L ws' b f g hb:=by
 obtain⟨cur,u,x,l,n⟩:=h.blk;have e:∀i,i<L->b i=m i:=λi a=>by show(b.NC i).length=(m.NC i).length;rw[h2 i a]
 refine⟨by rw[h3];exact h.box,by rw[h3];exact h.lfr,h.gd,⟨cur,u,x,λi a k v=>?_,λi a=>?_⟩,h.bd,h.inj,λi a=>by rw[h4 i a,e i a];exact h.mrk i a⟩
 ·have o:FP ws' i=FP ws i:=by
   apply List.ext_getElem
   ·simp[FP]
   ·intro y t1 t2;have:y<8:=by simpa[FP]using t1
    rw[KE,KE,h1 _ O]
  rw[o];exact l i a k v
 ·obtain⟨A,c,p,r,s⟩:=n i a;exact⟨A,c,by rw[e i a];exact p,by rw[h4 i a];exact r,by rw[h2 i a];exact s⟩
section
variable{w:World}{d p L:Nat}{s:St}{F:Nat->Prop}
def Ef.may(m:Ef)(ws ws':Nat->UInt64):Prop:=match m with
 | .up _=>ws'=ws
 | .down P=>P ws'
def bC{m:Ef}(X:(∃k,m=.up (MU k))\/∃P,m=.down P)(h:Ej m w d p L s F)(A:Option Addr)(n c:Nat)(l:List UInt8)(Y:n<=1000000000)(B:n<=c/\Bs w A n l/\∀r,A=some r->¬F r.block):
 Calls prog 9 #[Az d,.slice A n c] w λu w'=>(∃H,u=.returned H)/\
  ∃o own,m.may s.ws o/\Dev w' d L o M0 (λ_=>0) own/\(∀a,own a->F a)/\Touch F w w'/\Tabs w'/\¬own 0/\¬own 1:=by
 obtain⟨am,af,al,ac,ab,own,e,hF⟩:=h;have K:¬own 0:=λh=>e.g1 (.inl h)
 have M:¬own 1:=λh=>e.g2 (.inl h)
 have J:∀(md:Mode)(ws:Nat->UInt64)(mark:Nat->Nat),Dev w d L ws md mark own->(∀b,md b<=1000000)->(∀b,∀c∈md.NC b,∃N,N<8/\c.1=8*N)->(∀f:Nat->Nat,(∀b,f b<=md b)->m.may s.ws (PI md f ws))->
  Calls prog 9 #[Az d,.slice A n c] w λu w'=>(∃H,u=.returned H)/\
   ∃o own,m.may s.ws o/\Dev w' d L o M0 (λ_=>0) own/\(∀a,own a->F a)/\Touch F w w'/\Tabs w'/\¬own 0/\¬own 1:=λmd ws mark C W aa U=>by
  obtain⟨g,ad,C,D⟩:=C;refine(Aee e.L0 e.L1 C W aa A n c l Y (.inr ⟨B.1,B.2.1,λr R h=>B.2.2 r R ((hF _).2 (.inl ((D _).2 h)))⟩)).mono ?_;rintro u Q⟨V,f,v,Z,S,x,y⟩;have E:∀a,Dq d L g v a->own a:=λa hb=>(D a).2 (by
   rcases hb with h|h|⟨b,i,h⟩
   ·exact .inl h
   ·exact .inr (.inl h)
   ·exact .inr (.inr ⟨b,i,x b a h⟩))
  have G:Touch own w Q:=y.mono (λa hb=>(D a).2 hb);have z:Cb Q d L (PI md f ws) M0 (λ_=>0) g v:=S.congr (λq ah=>by unfold lX;rw[if_pos O]) (λb i=>by show[]=(if b<L then[]else md.NC b);rw[if_pos i]) rfl (λb i=>by unfold yY;rw[if_pos i]);exact⟨V,_,Dq d L g v,U f Z,⟨g,v,z,λ_=>Iff.rfl⟩,λa hb=>(hF a).2 (.inl (E a hb)),G.mono (λa hb=>(hF a).2 (.inl hb)),e.tabs.keep (G.block _ e.tabs.lt.1 K) (G.block _ e.tabs.lt.2 M),λh=>K (E _ h),λh=>M (E _ h)⟩
 have I:=e.dev;rcases X with⟨k,rfl⟩|⟨P,rfl⟩
 ·exact J (MU k) s.ws _ I.1 (λ_=>BB _) (λ_ _ h=>nomatch h) (λf _=>by
   show PI (MU k) f s.ws=s.ws;funext q;unfold PI;rw[show(MU k).NC (q/8)=[]from rfl,Amc];rfl)
 ·obtain⟨md,ws,mark,_,x,y,z,T⟩:=I;exact J md ws mark x y z T
def sV{lf:Int}(h:Ej (.up (MU lf)) w d p L s F)(n:Nat)(x:n<=1000000000):
 Calls prog 7 #[Az d,.int .i64 (n:Int)] w λi w'=>(∃A,i=.returned A)/\
  ∃e a,Ej e w' d p L s a/\AP F a w w'/\((n≠0/\e=.up (MU n))\/(n=0/\e=.down (λf=>f=s.ws))):=by
 obtain⟨H,hb,E,D,C,own,h,hF⟩:=h;obtain⟨⟨g,k,y,l⟩,z⟩:=h.dev;refine(Aic h.L0 h.L1 z y n x).mono ?_;rintro i w'⟨v,r,u⟩;refine⟨v,?_⟩;have m:Dv w d L g k s.ws (MU n) (λ_=>0) w':=⟨k,λB h=>.inl h,r,u⟩;by_cases o:n=0
 ·obtain⟨a,c,b⟩:=h.cut (P:=λf=>f=s.ws) hF l m (by show((n:Nat):Int)=0;omega) (λ_=>BB _) (λ_ _ h=>nomatch h) (λG _=>by
   funext q;unfold PI;rw[show(MU n).NC (q/8)=[]from rfl,Amc];rfl) s.ws
  exact⟨_,a,c,b,.inr ⟨o,rfl⟩⟩
 ·obtain⟨a,c,b⟩:=h.wrote hF l m (by show((n:Nat):Int)≠0;omega);exact⟨_,a,c,b,.inl ⟨o,rfl⟩⟩
end
def Aif(s:St)(off:Int):St:=match Hf s off with
 |some (a,b)=>{s with hd:=s.hd.set a (UInt64.ofNat (Ee (hdN s a) b).1)}
 |none=>s
section
variable{w w':World}{d p L:Nat}{s:St}{F:Nat->Prop}
def sZ{lf:Int}(h:Ej (.up (MU lf)) w d p L s F)(x:0<lf/\lf<=9)(r:Rc)(o:r.text.size<=4294967296)(m:DN r=true){off:Nat}{s1:St}(u:CP s 1=some (off,s1))(e:(GV {s1 with ws:=BK s1.ws (off/8) (CW r)} off).2=0):
 Calls prog 82 #[Az d,Az p,rcV r] w λc w'=>c=.returned (.tuple #[.int .u64 0,.int .i64 12])/\∃g,Ej (.down (Half s1.ws (BK s1.ws (off/8) (CW r)))) w' d p L (Aif {s1 with ws:=BK s1.ws (off/8) (CW r)} off) g/\AP F g w w':=by
 have k:∃b a,Hf {s1 with ws:=BK s1.ws (off/8) (CW r)} off=some (b,a)/\(Ee (hdN s1 b) a).2=true:=by
  unfold GV at e;cases f:Hf {s1 with ws:=BK s1.ws (off/8) (CW r)} off with
  |none=>rw[f]at e;simp at e
  |some v=>
   obtain⟨b,a⟩:=v;rw[f]at e;refine⟨b,a,rfl,?_⟩;cases i:EH (hdN s1 b) a with
   |false=>
    have:EH (hdN {s1 with ws:=BK s1.ws (off/8) (CW r)} b) a=false:=i;simp[this]at e
   |true=>
    unfold Ee;rw[i];simp only[Bool.not_true,Bool.false_eq_true,if_false];split<;>rfl
 obtain⟨b,a,f,n⟩:=k;have c:I9 ⟨.up lf,s⟩ r=(⟨.down (Half s1.ws (BK s1.ws (off/8) (CW r))),Aif {s1 with ws:=BK s1.ws (off/8) (CW r)} off⟩,0,12):=by
  unfold I9;rw[if_neg (by rw[m];exact λc=>nomatch c)];simp only[u];have l:¬(lf<0\/((JF (off/8) 8:Nat):Int)<=lf):=by unfold JF;omega
  unfold Lj;simp only[if_neg l];rw[if_neg U];unfold Eh Aif;simp only[f];rw[if_pos (show(Ee (hdN {s1 with ws:=BK s1.ws (off/8) (CW r)} b) a).2=true from n)]
 have:=WG (q:=⟨.up lf,s⟩) h r o;unfold Vu at this;rw[c]at this;exact this
end
section
variable{X:Nat->Prop}{L:Nat}{s:St}{j:List Kv}
end
section
variable{w:World}{x d p L:Nat}{s:St}{F:Nat->Prop}{j:List Kv}{P:(Nat->UInt64)->Prop}
def Aef(h:IU (.down P) w x d p L s F):Calls prog 109 #[Az x] w λc w'=>c=.returned (.tuple #[.int .u64 0,.int .i64 12])/\η w w':=by
 have y:=h.box.p1;obtain⟨k,l,b,_⟩:=h.L0;obtain⟨u,hb,r,q,o,own,f,hF⟩:=h.sys;obtain⟨g,m,n,e⟩:=Qo.blk f.dev;have a:=Af9 d L g 9 1 m n w k l e (Ξ b.fits b.KT b.BQ) U;rw[show((8*9:Nat):Int)=72 from rfl,show((1:Nat):Int)=1 from rfl]at a;have a:=Aa a;clear h b f hF e;go_enter func109,ntmps109
 go_wp2_with fail
 refine a.out.mono ?_;rintro c v⟨rfl,hb⟩;have i:=Aa hb;clear hb a
 go_wp2_with fail
 go_ret2;exact⟨rfl,i.out⟩
def SB(h:IU (.down P) w x d p L s F)(key:ByteArray)(v:key.size<=1000):Calls prog 97 #[Az x,.string key] w λa w'=>a=.returned (.tuple #[.slice none 0 0,.slice none 0 0,.int .i64 12])/\η w w':=by
 have c:=Aa (Afn key w O);have e:=Aa (λ(l:World)(m:η w l)=>Aef (h.below m));clear h;go_enter func97,ntmps97
 go_wp2_with fail
 refine c.out.mono ?_;rintro a o⟨y,rfl,i,f⟩;obtain⟨q,r,rfl,u,n⟩:=CS i;have b:=Aa f;clear c i n f
 go_wp2_with fail
 refine(e.out o b.out).mono ?_;rintro a z⟨rfl,g⟩;have k:=Aa (τ b.out g);clear g e
 go_wp2_with fail
 refine bodyPost_ret (v:=.tuple #[.slice none 0 0,.slice none 0 0,.int .i64 12]) (by simp[results,results97,go_sem]) rfl ?_;exact⟨rfl,k.out⟩
end
section
variable{w:World}{x d p L:Nat}{s:St}{F:Nat->Prop}{P:(Nat->UInt64)->Prop}{q:Ms}
def Atr(h:Yj w x d p L q F)(key:ByteArray)(l:key.size<=16):Calls prog 81 #[Az x,.string key] w (GetPost (getD q key.data.toList) w):=by
 obtain⟨i,s⟩:=q;cases i with
 |up g=>exact WM (len:=MU g) h key O
 |down P=>
  have h:IU (.down P) w x d p L s F:=h;have a:=Aa (Ih h key O);have b:=Aa (SB h key O);rw[if_neg (show¬16<key.size by omega)]at a;show Calls _ _ _ _ (GetPost (0,12) w);clear h;go_enter func81,ntmps81
  go_wp2_with fail
  refine a.out.mono ?_;rintro f k⟨rfl,rfl⟩;clear a
  go_wp2_with fail
  refine b.out.mono ?_;rintro f k⟨rfl,c⟩;have e:=Aa c;clear c b
  go_wp2_with fail
  go_ret2;exact⟨rfl,e.out⟩
def Amz(h:Yj w x d p L q F)(key:ByteArray)(n:key.size<=16)(a:UInt64)(i:a≠0):Calls prog 60 #[Az x,.string key,.int .u64 (a.toNat:Int)] w (KY (TF q key.data.toList a) x d p L F w):=by
 obtain⟨l,s⟩:=q;cases l with
 |up o=>exact ai h key O a
 |down P=>
  have h:IU (.down P) w x d p L s F:=h;have b:=Aa (Ih h key O);have e:=Aa (SB h key O);have k:=Aa h;rw[if_neg (show¬16<key.size by omega)]at b;have t1:((a.toNat:Int)==0)=false:=by
   rw[beq_eq_false_iff_ne];intro f;exact i (DK.1 (by simp;omega))
  show Calls _ _ _ _ (KY (⟨.down P,s⟩,12) x d p L F w);clear h i;go_enter func60,ntmps60
  go_wp2_with fail
  refine b.out.mono ?_;rintro f m⟨rfl,rfl⟩;clear b
  go_wp2_with fail
  refine e.out.mono ?_;rintro f m⟨rfl,g⟩;have c:=Aa g;clear g e
  go_wp2_with fail
  go_ret;exact⟨rfl,F,k.out.below c.out,AP.of_below c.out⟩
def Ats(h:Yj w x d p L q F)(key:ByteArray)(l:key.size<=16):Calls prog 59 #[Az x,.string key] w (RQ (sD q key.data.toList) x d p L F w):=by
 obtain⟨i,s⟩:=q;cases i with
 |up m=>exact sH h key O
 |down P=>
  have h:IU (.down P) w x d p L s F:=h;have a:=Aa (Ih h key O);have c:=Aa (SB h key O);have f:=Aa h;rw[if_neg (show¬16<key.size by omega)]at a;show Calls _ _ _ _ (RQ (⟨.down P,s⟩,0,12) x d p L F w);clear h;go_enter func59,ntmps59
  go_wp2_with fail
  refine a.out.mono ?_;rintro g k⟨rfl,rfl⟩;clear a
  go_wp2_with fail
  refine c.out.mono ?_;rintro g k⟨rfl,e⟩;have b:=Aa e;clear e c
  go_wp2_with fail
  go_ret2;exact⟨rfl,F,f.out.below b.out,AP.of_below b.out⟩
end
def Alm{w:World}{x d p L:Nat}{q:Ms}{F:Nat->Prop}(h:Yj w x d p L q F){s:Nat}{stamp:UInt64}{vs y:Value}{u:Int}(m:Pv w s x d p stamp vs y false u F)(key:ByteArray)(o:key.size<=16)(v:UInt64):
 Calls prog 84 #[Az s,.string key,.int .u64 (v.toNat:Int)] w λe w'=>e=.returned (.int .i64 (KI q key.data.toList v).2)/\∃n,Yj w' x d p L (KI q key.data.toList v).1 n/\AP F n w w':=by
 have r:=m.box.cell 2;unfold Es at r;simp only[Ag,AB]at r;by_cases a:v=0
 ·have b:=Aa (Ats h key o);have c:Hid (KI q key.data.toList v=((sD q key.data.toList).1,(sD q key.data.toList).2.2)):=Aa (by unfold KI;rw[if_pos a]);subst a;rw[show((0:UInt64).toNat:Int)=0 from rfl];clear h m;go_enter func84,ntmps84
  go_wp2_with fail
  refine b.out.mono ?_;rintro e z⟨rfl,i,g,f⟩;have l:=Aa g;have k:=Aa f;clear b g f
  go_wp2_with fail
  go_ret;exact⟨by rw[c.out];rfl,i,by rw[c.out];exact l.out,k.out⟩
 ·have b:=Aa (Amz h key o v a);have c:Hid (KI q key.data.toList v=TF q key.data.toList v):=Aa (by unfold KI;rw[if_neg a]);have t1:((v.toNat:Int)==0)=false:=ζ λe=>a (DK.1 (by simp;omega))
  have t2:(v.toNat==0)=false:=ζ λe=>a (DK.1 (by simp;omega))
  clear h m a;unfold KY at b;go_enter func84,ntmps84
  go_wp2_with fail
  refine b.out.mono ?_;rintro e z⟨rfl,i,g,f⟩;have l:=Aa g;have k:=Aa f;clear b g f
  go_wp2_with fail
  go_ret;exact⟨by rw[c.out];rfl,i,by rw[c.out];exact l.out,k.out⟩
