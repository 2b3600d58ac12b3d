import Derived.Deep.RegionHeldLaw
import Derived.RangeFuncNested
import Derived.RangeFuncBound
import Derived.Shelf.RegionOpen
import Derived.OwnWalkIn
import Derived.LoopNIn
import Derived.LoopIn
import Derived.Test.YtekhjimghoibfaaGreatDoorI17
set_option linter.defProp false
set_option maxHeartbeats 32000000
set_option maxRecDepth 100000
open Go.Value renaming ownBlock->Ba
open Go.Lib renaming hid->Aa
open List renaming getElem?_cons_zero->Ag,getElem?_cons_succ->AB,getElem?_eq_getElem->Ae,prefix_refl->Afd,length_cons->BD,length_nil->Dp,mem_cons->Ea,mem_map->BM,map_cons->Ci,getElem?_set->L9,eq_nil_of_length_eq_zero->Dk,all_eq_true->Ew,getElem_of_mem->Cm,getElem?_take->Dj,getElem?_drop->D7,getElem?_append_right->Eg,getD->UB,getElem_mem->BH,getElem_cons_succ->Am,getElem?_append_left->DU,length_take->Em
open Go.World renaming cell?_of_block->Bh
open Nat renaming le_refl->Ad,mul_comm->Hq,testBit_two_pow_mul->nG,testBit_two_pow_sub_one->di,lt_pow_two_of_testBit->jg,testBit_and->Ajb,lt_or_ge->Ir,testBit_lt_two_pow->uB,lt_of_lt_of_le->BI,pow_le_pow_right->FK,testBit_or->Lm,zero_testBit->JJ,zero_add->DX,eq_of_testBit_eq->zH,lt_trans->Ax2,min_eq_left->NG,add_sub_cancel->VM
open UInt64 renaming toNat_ofNat_of_lt'->GY,size->KA
open Option renaming getD_some->P9
namespace Go.Proofs.YtekhjimghoibfaaGreatDoor
open Go.Proofs.Tryz
section
open Go.RowKit
section
variable{w w':World}{x d p L:Nat}{s:St}{F:Nat->Prop}
def Tryz.Aks:JE prog 124 128 (.agg #[.int .u64 0,.int .u64 0]) 2 16:=⟨underlying124,by kernel_rfl,rfl⟩
end
def Aav(q:UInt64×UInt64):List Value:=[.int .u64 (q.1.toNat:Int),.int .u64 (q.2.toNat:Int)]
def WO(l:List (UInt64×UInt64)):List Value:=(l.map Aav).flatten
def yt(l:List (UInt64×UInt64))(a:UInt64×UInt64):WO (l++[a])=WO l++Aav a:=by simp[WO]
structure EZ(m:Ef)(w:World)(base jb x d p L:Nat)(s:St)(stamp:UInt64)(vs:Value)(l:List Wr)(ps:List (UInt64×UInt64))(over:Bool)(en:Int)(F:Nat->Prop)(v:Value):Prop where
 ix:IU m w x d p L s F
 box:CQ w jb 126 (Es x d p stamp vs v over en)
 row:w.ownsRow base 128 2 v ps.length (WO ps)
 set:H7 w (λb=>F b\/b=jb\/v.ownBlock=some b) vs l
 fj:¬F jb
 bj:base<=jb
 bx:x<base
 bt:0<base/\1<base
 mj:v.ownBlock≠some jb
 mF:∀b,v.ownBlock=some b->¬F b
abbrev Asw:=EZ (.up M0)
def JG(F:Nat->Prop)(jb:Nat)(v:Value)(b:Nat):Prop:=F b\/b=jb\/v.ownBlock=some b
section
variable{m0:Ef}{w w':World}{base jb x d p L:Nat}{s:St}{stamp:UInt64}{vs:Value}{l:List Wr}{ps:List (UInt64×UInt64)}{over:Bool}{en:Int}{F:Nat->Prop}{v:Value}
def EZ.xj(h:EZ m0 w base jb x d p L s stamp vs l ps over en F v):x≠jb:=Ψ h.bj h.bx
def EZ.gj(h:EZ m0 w base jb x d p L s stamp vs l ps over en F v):0≠jb/\1≠jb:=Ψ h.bj h.bt
def EZ.mlt(h:EZ m0 w base jb x d p L s stamp vs l ps over en F v):∀b,v.ownBlock=some b->base<=b/\b<w.heap.size:=by
 intro b c;rcases h.row.2 with⟨a,_⟩|⟨k,i,j,a,e,g,_⟩
 ·subst a;simp[Ba]at c
 ·subst a;simp only[Ba,Option.some.injEq]at c;subst c;exact⟨e,(Array.getElem?_eq_some_iff.1 g).1⟩
def EZ.mx(h:EZ m0 w base jb x d p L s stamp vs l ps over en F v):v.ownBlock≠some x:=λa=>Ψ ((h.mlt x a).1) h.bx
def EZ.below(h:EZ m0 w base jb x d p L s stamp vs l ps over en F v)(k:η w w'):EZ m0 w' base jb x d p L s stamp vs l ps over en F v:=
 ⟨h.ix.below k,h.box.ξ k,Fg h.row (Kept.of_below (r:=some jb) k) (.inl (λa=>h.mj a.symm)),h.set.below k,h.fj,h.bj,h.bx,h.bt,h.mj,h.mF⟩
def EZ.b(h:EZ m0 w base jb x d p L s stamp vs l ps over en F v):Pv w jb x d p stamp vs v over en F:=⟨h.box,h.fj⟩
def EZ.move(h:EZ m0 w base jb x d p L s stamp vs l ps over en F v){m1:Ef}{s':St}{c:Nat->Prop}(k:IU m1 w' x d p L s' c)(m:AP F c w w'):EZ m1 w' base jb x d p L s' stamp vs l ps over en c v/\AP (JG F jb v) (JG c jb v) w w':=by
 have n:=h.box.lt;have i:AP (JG F jb v) (JG c jb v) w w':=⟨m.touch.mono (λb a=>.inl a),λb a=>by
  rcases a with g|g
  ·exact(m.own b g).imp .inl id
  ·exact .inl (.inr g)⟩
 exact⟨⟨k,h.box.touch m.touch h.fj,Ie h.row m.touch h.mF,h.set.moved i,λe=>(m.own _ e).elim h.fj (λj=>O),h.bj,h.bx,h.bt,h.mj,λb a e=>(m.own _ e).elim (h.mF b a) (λj=>Ω ((h.mlt b a).2))⟩,i⟩
def EZ.app(h:EZ m0 w base jb x d p L s stamp vs l ps over en F v)(q:UInt64×UInt64){g c:Nat}{i:World}
 (C:i.ownsRow base 128 2 (.slice (some (Φ g)) (ps.length+1) c) (ps.length+1) (WO ps++Aav q))(k:Below base w i)(n:Kept w i v.ownBlock)(m:v.ownBlock=some g\/w.heap.size<=g):
 EZ m0 (i.setCell (Δ jb 5) (.slice (some (Φ g)) (ps.length+1) c)) base jb x d p L s stamp vs l (ps++[q]) over en F (.slice (some (Φ g)) (ps.length+1) c)/\
  AP (JG F jb v) (JG F jb (.slice (some (Φ g)) (ps.length+1) c)) w (i.setCell (Δ jb 5) (.slice (some (Φ g)) (ps.length+1) c)):=by
 have B:=h.box.lt;have u:g≠jb:=by
  rintro rfl;rcases m with a|a
  ·exact h.mj a
  ·omega
 have A:¬F g:=by
  intro t;rcases m with a|a
  ·exact h.mF g a t
  ·have:=h.ix.sys.lt g t;omega
 have t1:Touch (λb=>v.ownBlock=some b) w i:=⟨k.os,k.tape,k.output,n.1,λb e o=>n.2 b e (λa=>o a.symm)⟩;have t2:Touch (λb=>b=jb\/v.ownBlock=some b) w (i.setCell (Δ jb 5) (.slice (some (Φ g)) (ps.length+1) c)):=(t1.mono (λb=>.inr)).setCell (p:=Δ jb 5) (.inl (.inl rfl)) _;have y:∀{b:Nat},b<base->¬(b=jb\/v.ownBlock=some b):=by
  intro b e a;rcases a with rfl|a
  ·have:=h.bj;omega
  ·have:=(h.mlt b a).1;omega
 have r:AP (JG F jb v) (JG F jb (.slice (some (Φ g)) (ps.length+1) c)) w (i.setCell (Δ jb 5) (.slice (some (Φ g)) (ps.length+1) c)):=⟨t2.mono (λb e=>.inr e),λb e=>by
  rcases e with j|j|j
  ·exact .inl (.inl j)
  ·exact .inl (.inr (.inl j))
  ·simp only[Ba,Option.some.injEq]at j;rcases m with a|a
   ·exact .inl (.inr (.inr (j▸a)))
   ·exact .inr (j▸a)⟩
 have D:Ej m0 (i.setCell (Δ jb 5) (.slice (some (Φ g)) (ps.length+1) c)) d p L s F:=h.ix.sys.keep t2 (λb e o=>o.elim (λa=>h.fj (a▸e)) (λa=>h.mF b a e)) (y h.bt.1) (y h.bt.2);have z:CQ i jb 126 (Es x d p stamp vs v over en):=(n.2 jb B (λa=>h.mj a.symm)).trans h.box;refine⟨⟨⟨D,h.ix.box.touch t2 (λa=>a.elim h.xj h.mx),h.ix.out⟩,z.AZ 5 _,?_,h.set.moved r,h.fj,h.bj,h.bx,h.bt,by simp[Ba,u],?_⟩,r⟩
 ·have:=Fg C (Kept.AZ i jb 5 (.slice (some (Φ g)) (ps.length+1) c)) (.inl (by simp[Ba,Ne.symm u]));rw[yt];simpa using this
 ·intro b e;simp only[Ba,Option.some.injEq]at e;exact e▸A
def qO{m1:Ef}(h:EZ m0 w base jb x d p L s stamp vs l ps false en F v)(B:ps.length<l.length)(bL:l.length<=100000){s2:St}{pv pl:UInt64}
 (aa:∀a,η w a->Calls prog 48 #[Az jb,VR l[ps.length]] a λi ac=>i=.returned (.tuple #[.agg #[.int .u64 (pv.toNat:Int),.int .u64 (pl.toNat:Int)],.int .i64 0])/\
  ∃n,IU m1 ac x d p L s2 n/\Pv ac jb x d p stamp vs v false en n/\AP F n a ac):
 Calls prog 24 #[Az jb] w λi w'=>i=.returned (.tuple #[.bool false,.int .i64 0])/\
  ∃n aG,EZ m1 w' base jb x d p L s2 stamp vs l (ps++[(pv,pl)]) false en n aG/\AP (JG F jb v) (JG n jb aG) w w':=by
 have ah:=Aa (kT jb _ h.box);have ab:=h.box.cell 6;have H:=h.box.cell 5;have G:=h.box.cell 4;have a1:=Aa h;obtain⟨aM,bd,D,bo,_⟩:=DR h.row;obtain⟨ad,aw⟩:=ε (l[ps.length]);obtain⟨A,J,bc,C,bm,X,bs,K,M,N⟩:=h.set.at ps.length B;rw[<-aw]at K M N aa;obtain⟨j,Y⟩:=ε ps.length;obtain⟨bA,aq⟩:=ε l.length;rw[<-aq]at C bL B;rw[<-Y]at D K M N B bo;unfold Es at G H ab;simp only[Ag,AB]at G H ab;rw[C]at G;rw[D]at H;obtain⟨bX,b0,b1⟩:=YB B;have a9:Hid (∀a,η w a->a.cell? (Δ jb 4)=some (.slice (some (Δ A J)) bA bc)/\a.cell? (Δ jb 5)=some (.slice aM j bd)/\a.cell? (Δ A (J+j*3))=some (.string ad.key)/\a.cell? (Δ A (J+j*3+1))=some (.string ad.text)/\a.cell? (Δ A (J+j*3+2))=some (.bool ad.gone)):=Aa (λa z=>
  ⟨by rw[(h.box.ξ z).cell 4,<-C];rfl,by rw[(h.box.ξ z).cell 5,<-D];rfl,(Bh (w:=w) (z.block _ X)).trans K,(Bh (w:=w) (z.block _ X)).trans M,(Bh (w:=w) (z.block _ X)).trans N⟩)
 have R:=Aa aa;unfold VR at R;have bW:=h.box.lt;have Q:Hid (¬F w.heap.size):=Aa (λbp=>absurd (h.ix.sys.lt _ bp) O);have aE:Hid (0≠w.heap.size/\1≠w.heap.size):=Aa (Ω h.ix.sys.tabs.lt);have a6:Hid (x≠w.heap.size):=Aa (Ω h.ix.box.lt);have af:=Aa Y;clear h aa bm bs Y aq aw C D;go_enter func24,ntmps24
 go_wp2_with fail
 refine ah.out.mono ?_;rintro i b4⟨rfl,rfl⟩
 go_wp2_with fail
 go_region
 all_goals(go_wp2_with fail)
 all_goals(
  go_region_with(go_at_call 48;refine(R.out _ (by first|exact((Dr.drew w).trans (Dr.drew _)).below _|exact(((Dr.drew w).trans (Dr.drew _)).below _).alloc (Ad _) _|exact((((Dr.drew w).below _).alloc (Ad _) _).drew))).mono ?_;rintro i g⟨rfl,k,q,am,o⟩;try(have r:CQ g w.heap.size 128 [.int .u64 0,.int .u64 0]:=(o.touch.block w.heap.size Θ Q.out).trans (heap_alloc_new _ _);have aH:=r.cell 0;have aL:=r.cell 1;have ba:=r.frozen 0;have bb:=r.frozen 1;simp only[Ag,AB]at aH aL)))
 all_goals(
  first
  |(have y:η w _:=((Dr.drew w).trans (Dr.drew _)).below w.heap.size
    have t:AP F k w g:=(AP.of_below y).trans o;obtain⟨b,e⟩:=ε (g.alloc (.cells #[.int .u64 (pv.toNat:Int),.int .u64 (pl.toNat:Int)] 128));rw[<-e];have W:η g b:=e▸(Below.refl _ _).alloc (Ad _) _;have m:CQ b g.heap.size 128 [.int .u64 (pv.toNat:Int),.int .u64 (pl.toNat:Int)]:=e▸heap_alloc_new _ _;have T:=q.below W;have S:AP F k w b:=t.below W;obtain⟨be,u⟩:=ε g.heap.size;rw[<-u]at m⊢;clear y t e W u q am o)
  |(have y:η w _:=(((Below.refl w.heap.size w).alloc (Ad _) (.cells #[.int .u64 0,.int .u64 0] 128)).drew).drew
    have t:AP F k w g:=(AP.of_below y).trans o;obtain⟨b,e⟩:=ε ((g.setCell (Φ w.heap.size) (.int .u64 (pv.toNat:Int))).setCell (Δ w.heap.size 1) (.int .u64 (pl.toNat:Int)));rw[<-e];have t6:Touch (λj=>j=w.heap.size) g b:=e▸((Touch.refl (λj=>j=w.heap.size) g).setCell (p:=Φ w.heap.size) (.inl rfl) _).setCell (p:=Δ w.heap.size 1) (.inl rfl) _;have m:CQ b w.heap.size 128 [.int .u64 (pv.toNat:Int),.int .u64 (pl.toNat:Int)]:=by rw[e];exact(r.AZ 0 (.int .u64 (pv.toNat:Int))).AZ 1 (.int .u64 (pl.toNat:Int))
    have ar:¬k w.heap.size:=λbg=>(o.own _ bg).elim Q.out (λbt=>absurd bt Θ)
    have T:IU m1 b x d p L s2 k:=⟨q.sys.keep t6 (λbO bk i=>ar (i▸bk)) aE.out.1 aE.out.2,q.box.touch t6 a6.out,q.out⟩;have S:AP F k w b:=by rw[e];exact(t.set (p:=Φ w.heap.size) (.inr (Ad _)) _).set (p:=Δ w.heap.size 1) (.inr (Ad _)) _
    obtain⟨be,u⟩:=ε w.heap.size;rw[<-u]at m⊢;clear y t e t6 ar u q am o r aH aL ba bb))
 all_goals(
  obtain⟨c,an⟩:=a1.out.move T S;have aB:=m.cell 0;have aD:=m.cell 1;have I:=c.box.cell 5;have bw:=c.box.frozen 5;have a8:v.ownBlock≠some jb:=c.mj;obtain⟨bN,bR,E,_,_⟩:=DR c.row;have Z:=c.row;have bl:base<=b.heap.size:=Nat.le_of_lt (Nat.lt_of_le_of_lt c.bj c.box.lt);unfold Es at I;simp only[Ag,AB]at aB aD I;rw[<-af.out]at E Z;rw[E]at I;have aR:=Aa c;have a3:=Aa an;have bx:=Aa Z;have a5:=Aa E;have bq:=c.box.lt;have bV:=m.lt;have a7:=Aa c.box;clear T S m G H ab K M N R a9 ah Q c an Z E
  go_wp2_with fail)
 all_goals(
  go_region_law(refine NK rfl (.tmp 53) (.tmp 55) 124 rfl Tryz.Aks b base v j (WO ps) [.int .u64 (pv.toNat:Int),.int .u64 (pl.toNat:Int)] a5.out.symm bx.out rfl rfl rfl rfl b.heap.size 1 rfl rfl rfl U (by intro b3 av;simp at av;rcases av with rfl|rfl<;>rfl) O U bl ?_;intro bT bS bB ao al V ap;have P:CQ bB jb 126 (Es x d p stamp vs v false en):=(V.2 jb bq (λi=>a8 i.symm)).trans a7.out;have az:=P.cell 5;have b2:=P.frozen 5;unfold Es at az;simp only[Ag,AB]at az))
 all_goals(
  have a4:=Aa ao;have bE:=Aa al;have a2:=Aa V;have a0:=Aa ap;clear aB aD I bw ao al V ap P
  go_wp2_with fail
  go_ret2;have br:=af.out;subst br;obtain⟨bh,bi⟩:=aR.out.app (pv,pl) a4.out bE.out a2.out a0.out;exact⟨rfl,k,_,bh,a3.out.trans bi⟩)
end
def MR(w:World)(b:Nat):Prop:=∃a,w.heap[b]?=some a/\a.isCells=true
def cells_of_cell{w:World}{a:Addr}{v:Value}(h:w.cell? a=some v):MR w a.block:=by
 unfold World.cell? at h;cases b:w.heap[a.block]? with
 |none=>simp[b]at h
 |some c=>
  refine⟨c,b,?_⟩;cases c with
  |cells=>rfl
  |_=>simp[b]at h
def IB{w:World}{b:Nat}{e:TypeId}{xs:List Value}(h:CQ w b e xs):MR w b:=⟨_,h,rfl⟩
def cells_of_row{w:World}{base n k:Nat}{e:TypeId}{v:Value}{xs:List Value}(h:w.ownsRow base e k v n xs){b:Nat}(c:v.ownBlock=some b):MR w b:=by
 rcases h.2 with⟨a,_⟩|⟨j,g,i,a,_,d,_⟩
 ·subst a;cases c
 ·subst a;simp only[Ba,Option.some.injEq]at c;subst c;exact⟨_,d,rfl⟩
def Ej.cells{len:Ef}{w:World}{d p L:Nat}{s:St}{F:Nat->Prop}(h:Ej len w d p L s F){b:Nat}(m:F b):MR w b:=by
 obtain⟨I,D,G,A,z,own,e,hF⟩:=h;obtain⟨_,_,_,B,C,i,t⟩:=e.dev.rep;rcases(hF b).1 m with k|rfl|rfl|rfl
 ·rcases(t b).1 k with rfl|rfl|⟨v,r,j⟩
  ·obtain⟨H,n⟩:=i.box;exact IB n
  ·obtain⟨g,q,_⟩:=i.blk;exact⟨_,q,rfl⟩
  ·obtain⟨g,_,_,_,c⟩:=i.blk;obtain⟨x,y,_,_,o⟩:=c v r;rcases o with⟨a,_⟩|⟨E,a,l,u⟩
   ·rw[j]at a;cases a
   ·rw[j]at a;injection a with a
    subst a;exact cells_of_row u (by rw[l];rfl)
 ·exact IB e.box
 ·obtain⟨g,c,_⟩:=e.tk;exact⟨_,c,rfl⟩
 ·obtain⟨g,c,_⟩:=e.hd;exact⟨_,c,rfl⟩
def XD:List TypeId:=[70,81,137,111,43]
def Ej.type{len:Ef}{w:World}{d p L:Nat}{s:St}{F:Nat->Prop}(h:Ej len w d p L s F){b:Nat}(r:F b):∃e k n,w.heap[b]?=some (.cells e k n)/\k∈XD:=by
 obtain⟨Q,M,O,G,E,own,i,hF⟩:=h;obtain⟨_,_,_,I,K,j,y⟩:=i.dev.rep;rcases(hF b).1 r with o|rfl|rfl|rfl
 ·rcases(y b).1 o with rfl|rfl|⟨A,x,l⟩
  ·obtain⟨P,t⟩:=j.box;exact⟨_,_,_,t,by simp[XD]⟩
  ·obtain⟨e,v,_⟩:=j.blk;exact⟨_,_,_,v,by simp[XD]⟩
  ·obtain⟨e,_,_,_,g⟩:=j.blk;obtain⟨B,D,_,_,u⟩:=g A x;rcases u with⟨a,_⟩|⟨N,a,m,z⟩
   ·rw[l]at a;cases a
   ·rw[l]at a;injection a with a
    subst a;rcases z.2 with⟨c,_⟩|⟨J,H,C,c,_,q,_⟩
    ·rw[m]at c;cases c
    ·rw[m]at c;simp only[Value.slice.injEq,Option.some.injEq,Addr.mk.injEq,and_true]at c;exact⟨_,_,_,c.1▸q,by simp[XD]⟩
 ·exact⟨_,_,_,i.box,by simp[XD]⟩
 ·obtain⟨e,g,_⟩:=i.tk;exact⟨_,_,_,g,by simp[XD]⟩
 ·obtain⟨e,g,_⟩:=i.hd;exact⟨_,_,_,g,by simp[XD]⟩
def Ej.kW{len:Ef}{w:World}{d p L:Nat}{s:St}{F:Nat->Prop}(h:Ej len w d p L s F){b:Nat}{e:TypeId}{xs:List Value}(g:CQ w b e xs)(i:e∉XD):¬F b:=λj=>by
 obtain⟨k,l,m,a,c⟩:=h.type j;rw[show w.heap[b]?=_ from g]at a;injection a with a
 injection a with _ a _
 exact i (a▸c)
def Tabs.cells{w:World}(h:Tabs w):MR w 0/\MR w 1:=
 ⟨cells_of_cell (h.fours 0 U),cells_of_cell (h.jR 0 U)⟩
section
variable{w w':World}{base jb x d p L:Nat}{s:St}{stamp:UInt64}{vs:Value}{l:List Wr}{ps:List (UInt64×UInt64)}{over:Bool}{en:Int}{F:Nat->Prop}{v:Value}{row:Option Nat}
def KZ(c:w.grownBy w' row):Touch (λa=>row=some a) w w':=Touch.Va c (λ_ b=>b)
def EZ.abide{m0:Ef}(h:EZ m0 w base jb x d p L s stamp vs l ps over en F v)(z:w.grownBy w' row)(A:∀o,row=some o->¬MR w o):EZ m0 w' base jb x d p L s stamp vs l ps over en F v:=by
 have c:=KZ z;have a:∀b,MR w b->¬row=some b:=λb k i=>A b i k
 refine⟨⟨h.ix.sys.keep c (λb j=>a b (h.ix.sys.cells j)) (a _ h.ix.sys.tabs.cells.1) (a _ h.ix.sys.tabs.cells.2),h.ix.box.touch c (a _ (IB h.ix.box)),h.ix.out⟩,h.box.touch c (a _ (IB h.box)),Ie h.row c (λb j=>a b (cells_of_row h.row j)),?_,h.fj,h.bj,h.bx,h.bt,h.mj,h.mF⟩;obtain⟨q,r,i,k,m,u⟩:=h.set;refine⟨q,r,i,k,?_,u⟩;by_cases g:0<l.length*3
 ·refine Rd.touch m c (λB t=>a _ ?_);obtain⟨b,C,e,_,y⟩:=m.2 g;rw[t]at e;injection e with e
  subst e;have n:=y 0 g;rw[Ae (by rw[Nc];exact g)]at n;exact cells_of_cell n
 ·exact⟨m.1,λh=>absurd h g⟩
end
end
section
open Go.RowKit Go.Shelf
attribute [local go_sem]Oper.semAt_some
abbrev Below'(m:Nat):={i:Nat//i<m}
def Ec(m:Nat):Nat->List (Below' m)
 |0=>[]
 |a+1=>Ec m a++(if h:a<m then[⟨m-1-a,O⟩]else[])
def RS(m k:Nat)(h:k<m):Ec m (k+1)=Ec m k++[⟨m-1-k,O⟩]:=by
 rw[Ec,dif_pos h]
def aj(m:Nat):∀a,a<=m->(Ec m a).length=a
 |0,_=>rfl
 |a+1,h=>by rw[RS m a O,List.length_append,aj m a O];rfl
def ak(m:Nat):∀a b,a<=b->Ec m a<+:Ec m b
 |a,0,h=>by rw[show a=0 by omega];exact Afd _
 |a,b+1,h=>by
  by_cases c:a=b+1
  ·rw[c];exact Afd _
  ·rw[Ec];exact(ak m a b O).trans (List.prefix_append _ _)
def qP(d a:Nat)(b c:World):Prop:=c.heap[d]?=b.heap[d]?/\c.heap[a]?=b.heap[a]?
def au(q:UInt64×UInt64):Value:=.agg #[.int .u64 (q.1.toNat:Int),.int .u64 (q.2.toNat:Int)]
def Akt(F:Fence)(n:Nat)(ab:F.fn 131)(ah:F.round=none)(aD:1<=n)(g d c:Nat)(A:Option Addr)(ps:List (UInt64×UInt64))(aE:ps.length<=100000)(Y:0<ps.length->A=some (Φ d))(w:World)
 (s:w.cell? (Φ g)=some (.slice A ps.length c))(v:∀b(h:b<ps.length),w.cell? (Δ d (b*2))=some (.int .u64 (ps[b].1.toNat:Int))/\w.cell? (Δ d (b*2+1))=some (.int .u64 (ps[b].2.toNat:Int)))(af:d<w.heap.size):
 SeqStopsK F n prog 131 #[Az g] (λx:Below' ps.length=> #[.int .i64 (x.1:Int),au (ps[x.1]'x.2)]) (qP d g) (λan=>an=Ec ps.length ps.length) (λam=>am<+:Ec ps.length ps.length) ps.length w:=λl q U j u aw az I X=>by
 have Z:=World.block_lt_of_cell? w _ s;have Q:j.heap[g]?=w.heap[g]?:=u.block g Z;have y:j.heap[d]?=w.heap[d]?:=u.block d af;have z:∀i:World,i.heap[g]?=j.heap[g]?->i.cell? (Φ g)=some (.slice A ps.length c):=λi k=>(Bh (w:=w) (k.trans Q)).trans s
 have R:∀i:World,i.heap[d]?=j.heap[d]?->∀b(h:b<ps.length),i.cell? (Δ d (b*2))=some (.int .u64 (ps[b].1.toNat:Int))/\i.cell? (Δ d (b*2+1))=some (.int .u64 (ps[b].2.toNat:Int)):=λi k b h=>⟨(Bh (w:=w) (k.trans y)).trans (v b h).1,(Bh (w:=w) (k.trans y)).trans (v b h).2⟩
 have V:=Aa z;have W:=Aa R;have T:=Aa I;have aR:=z j rfl;have aq:IntKind.i64.wrap ((ps.length:Int) -1)=(ps.length:Int) -1:=IntWalk.i64_in _ O;clear s v I Q y z R u;refine callsIn_of_wp func131 rfl ab ?_ ah;simp only[ntmps131,List.size_toArray,BD,Dp,Nat.reduceAdd,Nat.reduceSub,Array.replicate_succ,Array.replicate_zero,List.push_toArray,List.append_toArray,List.nil_append,List.cons_append];gi_wp2
 gi_loopw [3](λp wr=>∃a,a<=ps.length/\p=.int .i64 ((ps.length:Int) -1-(a:Int))/\q (Ec ps.length a) wr/\wr.heap[d]?=j.heap[d]?/\wr.heap[g]?=j.heap[g]?)(λp _=>(intOf p+1).toNat)
 case atStart=>exact⟨0,Nat.zero_le _,by simp,X,rfl,rfl⟩
 case round=>
  obtain⟨a,aB,rfl,t,D,E⟩:=hrel;by_cases ac:a<ps.length
  ·have M:a<ps.length:=ac;obtain rfl:=Y O;obtain⟨e,K⟩:=ε (ps.length-1-a);have o:e<ps.length:=O;have ad:((ps.length:Int) -1-(a:Int))=(e:Int):=O;rw[ad];have J:=Aa (RS ps.length a M);obtain⟨av,aM,ao,ap,P,aa⟩:=T.out (Ec ps.length a) ⟨e,o⟩ wr t (by rw[aj _ _ O];exact M);have a0:=V.out wr E;obtain⟨a1,a2⟩:=W.out wr D e o;have al:(e:Int)<(ps.length:Int):=O;have aG:decide ((e:Int)<(ps.length:Int))=true:=decide_eq_true al;have aH:decide ((0:Int)<=(e:Int))=true:=decide_eq_true O;have ar:IntKind.i64.wrap ((e:Int) -1)=(e:Int) -1:=IntWalk.i64_in _ O;unfold au at P
   dsimp only at P
   generalize ps[e]=aL at*;have m:=Aa K;clear K;gi_wp2;refine aa.mono ?_;rintro k C(⟨rfl,G,L⟩|⟨rfl,H⟩)
   ·have r:Hid (q (Ec ps.length (a+1)) C):=Aa (by
     rw[J.out];have:(⟨ps.length-1-a,O⟩:Below' ps.length)=⟨e,o⟩:=Subtype.ext m.out.symm;rw[this];exact G)
    have B:=Aa L;clear G L;gi_wp2;go_roundw
    case rel=>exact⟨a+1,O,by have:=m.out;congr 1;omega,r.out,B.out.1.trans D,B.out.2.trans E⟩
    case measure=>have:=m.out;simp[intOf]
   ·have r:Hid (U (Ec ps.length (a+1)) C):=Aa (by
     rw[J.out];have:(⟨ps.length-1-a,O⟩:Below' ps.length)=⟨e,o⟩:=Subtype.ext m.out.symm;rw[this];exact H)
    clear H;gi_wp2;refine bodyPost_ret (results_none rfl _ _ _) rfl ?_;exact⟨⟨_,rfl⟩,.inr ⟨Ec ps.length (a+1),ak _ _ _ O,r.out⟩⟩
  ·have N:a=ps.length:=O;rw[show((ps.length:Int) -1-(a:Int))= -1 by omega];have S:Hid (q (Ec ps.length ps.length) wr):=Aa (N▸t);clear t N;gi_wp2;go_end0;exact⟨⟨_,rfl⟩,.inl ⟨Ec ps.length ps.length,rfl,S.out⟩⟩
end
section
def Nj(n a size v i:Nat)(h:a+size<=64)(r:n<2^64):(EG n a size v).testBit i=if a<=i/\i<a+size then v.testBit (i-a)else n.testBit i:=by
 have k:∀b,((2^size-1)*2^a).testBit b=(decide (a<=b)&&decide (b-a<size)):=λb=>by
  rw[Hq,nG,di]
 have o:(2^size-1)*2^a<2^64:=by
  refine jg _ λb t=>?_
  rw[k b];simp;omega
 have p:(jq-(2^size-1)*2^a).testBit i=(decide (i<64)&& !((2^size-1)*2^a).testBit i):=by
  rw[<-Nat.testBit_two_pow_sub_succ o];unfold jq;congr 1;omega
 have q:((v&&&(2^size-1))*2^a).testBit i=(decide (a<=i)&&(v.testBit (i-a)&&decide (i-a<size))):=by
  rw[Hq,nG,Ajb,di]
 have l:n.testBit i=true->i<64:=λm=>by
  rcases Ir i 64 with c|c
  ·exact c
  ·rw[uB (BI r (FK U c))]at m;cases m
 unfold EG;rw[Lm,Ajb,p,q,k];by_cases d:a<=i
 ·by_cases j:i<a+size
  ·have e:i-a<size:=O;have s:i<64:=O;simp[d,j,e]
  ·have e:¬i-a<size:=O;simp only[d,j,e,decide_true,decide_false,Bool.and_false,Bool.not_false,Bool.and_true,Bool.or_false,and_false,if_false];cases g:n.testBit i
   ·rfl
   ·simp[l g]
 ·simp only[d,decide_false,Bool.false_and,Bool.not_false,Bool.and_true,Bool.or_false,false_and,if_false];cases g:n.testBit i
  ·rfl
  ·simp[l g]
def O4(n a size v:Nat)(h:a+size<=64)(b:n<2^64):EG n a size v<2^64:=by
 refine jg _ λd c=>?_
 rw[Nj n a size v d h b,if_neg O];exact uB (BI b (FK U c))
def NZ(n a size i:Nat):(fieldN n a size).testBit i=(decide (i<size)&&n.testBit (a+i)):=by
 unfold fieldN;rw[Nat.testBit_mod_two_pow,Nat.testBit_div_two_pow,Nat.add_comm]
def Ahi(n a:Nat):(fieldN n a 1==1)=n.testBit a:=by
 have h:=NZ n a 1 0;simp only[Nat.zero_lt_one,decide_true,Bool.true_and,Nat.add_zero]at h;rw[<-h];have c:fieldN n a 1<2:=Nat.mod_lt _ U;have b:fieldN n a 1=0\/fieldN n a 1=1:=O;rcases b with b|b<;>rw[b]<;>rfl
def Ux(n size:Nat):fieldN n 0 size=0<->∀a,a<size->n.testBit a=false:=by
 constructor
 ·intro h a b;have:=NZ n 0 size a;rw[h,JJ,DX]at this;simpa[b]using this.symm
 ·intro h;refine zH λa=>?_
  rw[NZ,JJ,DX];by_cases b:a<size
  ·simp[h a b]
  ·simp[b]
structure SW(w c:Nat):Prop where
 lt:w<2^64
 cls:c=1\/c=2
 kind:Ed w=c
 some:∃i,i<Bz c/\w.testBit i=true
 only:∀i,w.testBit i=true->i<Bz c\/i=16\/i=17
def PW(w:Nat):Ed w=(if w.testBit 16 then 1 else 0)+(if w.testBit 17 then 2 else 0):=by
 have b:(fieldN w 16 2).testBit 0=w.testBit 16:=(NZ w 16 2 0).trans (by rfl);have c:(fieldN w 16 2).testBit 1=w.testBit 17:=(NZ w 16 2 1).trans (by rfl);have e:fieldN w 16 2<4:=Nat.mod_lt _ U;unfold Ed;rw[<-b,<-c];generalize fieldN w 16 2=a at e;have d:a=0\/a=1\/a=2\/a=3:=O;rcases d with rfl|rfl|rfl|rfl<;>decide
def ik(w:Nat)(e:w<2^64):FW w=true<->w=0\/∃i,SW w i:=by
 unfold FW;simp only[Bool.or_eq_true,beq_iff_eq,Bool.and_eq_true,bne_iff_ne];by_cases j:w=0
 ·simp[j]
 ·simp only[j,false_or];have b:Bz (Ed w)<=16:=by
   unfold Bz;split<;>omega
  have o:EG (EG w 0 (Bz (Ed w)) 0) 16 2 0=0<->∀a,w.testBit a=true->a<Bz (Ed w)\/a=16\/a=17:=by
   constructor
   ·intro h a c;have d:=Nj (EG w 0 (Bz (Ed w)) 0) 16 2 0 a U (O4 _ _ _ _ O e);rw[h,JJ,Nj w 0 _ 0 a O e]at d;by_cases k:16<=a/\a<16+2
    ·omega
    ·rw[if_neg k]at d;by_cases l:0<=a/\a<0+Bz (Ed w)
     ·omega
     ·rw[if_neg l,c]at d;cases d
   ·intro h;refine zH λa=>?_
    rw[Nj _ 16 2 0 a U (O4 _ _ _ _ O e),Nj w 0 _ 0 a O e];simp only[JJ];split
    ·rfl
    ·split
     ·rfl
     ·cases b:w.testBit a
      ·rfl
      ·have:=h a b;omega
  have m:fieldN w 0 (Bz (Ed w))≠0<->∃a,a<Bz (Ed w)/\w.testBit a=true:=by
   rw[ne_eq,Ux];constructor
   ·intro h;apply Classical.byContradiction;intro n;refine h λa c=>?_
    cases b:w.testBit a
    ·rfl
    ·exact absurd ⟨a,c,b⟩ n
   ·rintro⟨a,c,b⟩h;rw[h a c]at b;cases b
  rw[o,m];constructor
  ·rintro⟨⟨a,c,b⟩,d⟩;refine⟨Ed w,e,?_,rfl,⟨a,c,b⟩,d⟩;unfold Bz at c;split at c
   ·rename_i g;exact .inl g
   ·rename_i g;exact .inr g
   ·omega
  ·rintro⟨i,h⟩;obtain rfl:=h.kind;exact⟨h.some,h.only⟩
def SW.right{w c:Nat}(h:SW w c):FW w=true:=(ik w h.lt).2 (.inr ⟨c,h⟩)
def SW.class{w c:Nat}(h:SW w c):Bc w=c:=by unfold Bc;rw[if_pos h.right,h.kind]
def SW.ne{w c:Nat}(h:SW w c):w≠0:=by
 obtain⟨i,_,a⟩:=h.some;intro b;rw[b,JJ]at a;cases a
def yw:Bc 0=0:=by decide
def SW.has{w c:Nat}(h:SW w c)(a:Nat):EH w a=(decide (a<Bz c)&&w.testBit a):=by unfold EH;rw[h.class,Ahi]
def FC(a:Nat):EH 0 a=false:=by unfold EH;rw[yw];simp[Bz]
def SW.blocks{w c:Nat}(h:SW w c):0<Bz c/\Bz c<=16:=by
 rcases h.cls with rfl|rfl<;>decide
def SW.bits{w c:Nat}(h:SW w c):w.testBit 16=c.testBit 0/\w.testBit 17=c.testBit 1:=by
 have a:=h.kind;rw[PW]at a;rcases h.cls with rfl|rfl<;>cases b:w.testBit 16<;>cases d:w.testBit 17<;>simp[b,d]at a⊢<;>decide
def OkW(w:Nat):Prop:=w=0\/∃a,SW w a
def OkW.lt{w:Nat}(h:OkW w):w<2^64:=by
 rcases h with rfl|⟨a,h⟩
 ·decide
 ·exact h.lt
def OkW.right{w:Nat}(h:OkW w):FW w=true:=(ik w h.lt).2 h
def OkW.Px{w a:Nat}(h:OkW w)(b:EH w a=true):∃c,SW w c/\a<Bz c/\w.testBit a=true:=by
 rcases h with rfl|⟨c,h⟩
 ·rw[FC]at b;cases b
 ·rw[h.has a,Bool.and_eq_true,decide_eq_true_eq]at b;exact⟨c,h,b.1,b.2⟩
def iq{w c a:Nat}(h:OkW w)(n:c=1\/c=2)(e:w=0\/SW w c)(t:a<Bz c)(y:EH w a=false):
 (FX w c a).2=true/\SW (FX w c a).1 c/\∀g,EH (FX w c a).1 g=(EH w g||decide (g=a)):=by
 have u:0<Bz c/\Bz c<=16:=by rcases n with rfl|rfl<;>decide
 have x:LH w c=true:=by
  unfold LH;rw[h.right];simp only[Bool.true_and,Bool.and_eq_true,decide_eq_true_eq,Bool.or_eq_true,beq_iff_eq];exact⟨u.1,e.imp id (λh=>h.kind)⟩
 have v:FX w c a=(EG (EG w a 1 1) 16 2 c,true):=by
  unfold FX;rw[x,y,decide_eq_false (by omega:¬Bz c<=a)];rfl
 have r:=h.lt;have s:EG w a 1 1<2^64:=O4 _ _ _ _ O r;have j:∀b,(EG (EG w a 1 1) 16 2 c).testBit b=if b=16 then c.testBit 0 else if b=17 then c.testBit 1 else if b=a then true else w.testBit b:=λb=>by
  rw[Nj _ 16 2 c b U s,Nj w a 1 1 b O r];by_cases k:b=16
  ·subst k;simp
  ·by_cases l:b=17
   ·subst l;simp
   ·rw[if_neg O,if_neg k,if_neg l];by_cases d:b=a
    ·subst d;rw[if_pos O,if_pos rfl];simp
    ·rw[if_neg O,if_neg d]
 have q:SW (EG (EG w a 1 1) 16 2 c) c:=by
  refine⟨O4 _ _ _ _ U s,n,?_,⟨a,t,?_⟩,λb i=>?_⟩
  ·have o:=j 16;have p:=j 17;rw[if_pos rfl]at o;rw[if_neg U,if_pos rfl]at p;rw[PW,o,p];rcases n with rfl|rfl<;>decide
  ·rw[j,if_neg O,if_neg O,if_pos rfl]
  ·rw[j]at i;by_cases k:b=16
   ·omega
   ·by_cases l:b=17
    ·omega
    ·rw[if_neg k,if_neg l]at i;by_cases d:b=a
     ·omega
     ·rw[if_neg d]at i;rcases e with rfl|e
      ·rw[JJ]at i;cases i
      ·exact e.only b i
 rw[v];refine⟨rfl,q,λg=>?_⟩;rw[q.has];rw[j];by_cases m:g<Bz c
 ·rw[if_neg O,if_neg O];by_cases d:g=a
  ·subst d;simp[m]
  ·rw[if_neg d];rcases e with rfl|e
   ·rw[FC];simp[d]
   ·rw[e.has];simp[d]
 ·have d:g≠a:=O;rcases e with rfl|e
  ·rw[FC];simp[m,d]
  ·rw[e.has];simp[m,d]
def iw{w a:Nat}(h:OkW w)(n:EH w a=true):
 (Ee w a).2=true/\OkW (Ee w a).1/\(∀d,EH (Ee w a).1 d=(EH w d&& !decide (d=a)))/\(Bc (Ee w a).1=Bc w\/(Ee w a).1=0):=by
 obtain⟨l,e,t,j⟩:=h.Px n;have u:=e.blocks;have o:=e.lt;have s:EG w a 1 0<2^64:=O4 _ _ _ _ O o;have j:∀c,(EG w a 1 0).testBit c=if c=a then false else w.testBit c:=λc=>by
  rw[Nj w a 1 0 c O o];by_cases b:c=a
  ·subst b;rw[if_pos O,if_pos rfl];simp
  ·rw[if_neg O,if_neg b]
 unfold Ee;rw[n];simp only[Bool.not_true,Bool.false_eq_true,if_false];by_cases i:JY (EG w a 1 0)=0
 ·rw[if_pos i];refine⟨rfl,.inl rfl,λd=>?_,.inr rfl⟩;rw[FC,e.has];unfold JY at i;rw[Ux]at i;by_cases g:d<Bz l
  ·have:=i d O;rw[j]at this;by_cases b:d=a
   ·simp[b]
   ·rw[if_neg b]at this;simp[this]
  ·simp[g]
 ·rw[if_neg i];have m:SW (EG w a 1 0) l:=by
   refine⟨s,e.cls,?_,?_,λc k=>?_⟩
   ·have p:(EG w a 1 0).testBit 16=w.testBit 16:=by rw[j,if_neg O]
    have q:(EG w a 1 0).testBit 17=w.testBit 17:=by rw[j,if_neg O]
    rw[PW,p,q,<-PW,e.kind]
   ·unfold JY at i;rw[Ux]at i;apply Classical.byContradiction;intro r;refine i λc k=>?_
    cases g:(EG w a 1 0).testBit c
    ·rfl
    ·refine absurd ⟨c,?_,g⟩ r;rw[j]at g;by_cases b:c=a
     ·rw[if_pos b]at g;cases g
     ·rw[if_neg b]at g;have:=e.only c g;omega
   ·rw[j]at k;by_cases b:c=a
    ·rw[if_pos b]at k;cases k
    ·rw[if_neg b]at k;exact e.only c k
  refine⟨rfl,.inr ⟨l,m⟩,λd=>?_,.inl (by rw[m.class,e.class])⟩;rw[m.has,e.has,j];by_cases b:d=a
  ·simp[b]
  ·simp[b]
def Adb{b h:Nat}(a:OkW b)(c:OkW h)(p:b=0\/h=0\/Bc b=Bc h):OkW (b|||h)/\(∀e,EH (b|||h) e=(EH b e||EH h e))/\(b≠0->Bc (b|||h)=Bc b)/\(h≠0->Bc (b|||h)=Bc h):=by
 rcases a with rfl|⟨g,a⟩
 ·rw[Nat.zero_or];exact⟨c,λe=>by rw[FC];rfl,λh=>absurd rfl h,λ_=>rfl⟩
 ·rcases c with rfl|⟨d,c⟩
  ·rw[Nat.or_zero];exact⟨.inr ⟨g,a⟩,λe=>by rw[FC,Bool.or_false],λ_=>rfl,λh=>absurd rfl h⟩
  ·have n:g=d:=by
    rcases p with h|h|h
    ·exact absurd h a.ne
    ·exact absurd h c.ne
    ·rw[a.class,c.class]at h;exact h
   subst n;have i:SW (b|||h) g:=by
    refine⟨Nat.or_lt_two_pow a.lt c.lt,a.cls,?_,?_,λk j=>?_⟩
    ·have l:=a.bits;have m:=c.bits;rw[PW,Lm,Lm,l.1,l.2,m.1,m.2];rcases a.cls with rfl|rfl<;>decide
    ·obtain⟨k,j,o⟩:=a.some;exact⟨k,j,by rw[Lm,o];rfl⟩
    ·rw[Lm,Bool.or_eq_true]at j;exact j.elim (a.only k) (c.only k)
   refine⟨.inr ⟨g,i⟩,λe=>?_,λ_=>by rw[i.class,a.class],λ_=>by rw[i.class,c.class]⟩;rw[i.has,a.has,c.has,Lm];cases decide (e<Bz g)<;>simp
def ax(l:List UInt8)(a:l.length<=15)(h:l.all D6=true):Eu (Gn l).toNat=l:=by
 obtain⟨u1,u2,u3,u4,u5⟩:=unpack_pack l a h;rw[Gn,GY (by simpa[KA]using u5),Eu,u1,u2,if_pos u3,u4]
def look:List UInt8->List UInt64->Nat->UInt64
 |b::c,d::e,a=>if b.toNat=a then d else look c e a
 |_,_,_=>0
def Adc:∀(a:List UInt8)(d:List UInt64)(b:Nat),(∀c∈a,c.toNat≠b)->look a d b=0
 |c::a,i::d,b,h=>by rw[look,if_neg (h c Θ),Adc a d b (λe g=>h e (by simp[g]))]
 |[],_,_,_=>rfl
 |_::_,[],_,_=>rfl
def RU{a:UInt8}{b:List UInt8}(h:ER (a::b)=true):ER b=true/\∀d∈b,a.toNat<d.toNat:=by
 induction b generalizing a with
 |nil=>exact⟨rfl,by simp⟩
 |cons d b i=>
  simp only[ER,Bool.and_eq_true,decide_eq_true_eq]at h;obtain⟨j,g⟩:=i h.2;refine⟨h.2,λe c=>?_⟩;rcases Ea.1 c with rfl|c
  ·exact h.1
  ·exact Ax2 h.1 (g e c)
def Vy:∀(b:List UInt8)(c:List UInt64)(row:List UInt64)(a:Nat),b.length=c.length->ER b=true->4+a<row.length->
 (Dw row b c)[4+a]?=if a∈b.map UInt8.toNat then some (look b c a)else row[4+a]?
 |[],c,row,a,_,_,_=>by simp[Dw]
 |e::b,[],row,a,i,_,_=>by simp at i
 |e::b,r::c,row,a,i,q,o=>by
  obtain⟨l,m⟩:=RU q;rw[Dw,Vy b c (row.set (4+e.toNat) r) a (by simpa using i) l (by simpa using o)];by_cases d:a∈b.map UInt8.toNat
  ·have p:e.toNat≠a:=by
    obtain⟨j,n,rfl⟩:=BM.1 d;exact Nat.ne_of_lt (m j n)
   rw[if_pos d,if_pos (by simp only[Ci,Ea];exact .inr d),look,if_neg p]
  ·rw[if_neg d];by_cases g:e.toNat=a
   ·rw[if_pos (by simp[g]),look,if_pos g,L9,if_pos O,if_pos O]
   ·rw[if_neg (by simp only[Ci,Ea,not_or];exact⟨λk=>g k.symm,d⟩),L9,if_neg O]
def XE:∀(a:List UInt8)(b:List UInt64)(row:List UInt64)(i:Nat),i<4->(Dw row a b)[i]?=row[i]?
 |[],_,row,i,_=>by simp[Dw]
 |_::_,[],row,i,_=>by simp[Dw]
 |d::a,e::b,row,i,c=>by rw[Dw,XE a b _ i c,L9,if_neg O]
def yz:∀(n i:Nat)(a:List UInt8)(c:List UInt64)(g:List UInt64),g.length=n->a.length=c.length->ER a=true->(∀e∈a,i<=e.toNat/\e.toNat<i+n)->i+n<=256->(∀s∈c,s.toNat≠0)->
 (∀b,b<n->g[b]?=some (look a c (i+b)))->Lp i g=a/\N9 g=c
 |0,i,a,c,g,m,q,_,o,_,_,_=>by
  have t:g=[]:=Dk m;have d:a=[]:=by
   rcases a with _|⟨e,a⟩
   ·rfl
   ·have:=o e Θ;omega
  subst t d;have u:c=[]:=Dk (by simpa using q.symm);subst u;exact⟨rfl,rfl⟩
 |n+1,i,a,c,[],m,_,_,_,_,_,_=>by simp at m
 |n+1,i,a,c,x::g,m,q,B,o,H,w,r=>by
  have y:x=look a c i:=by have:=r 0 O;simpa using this
  rcases a with _|⟨e,a⟩
  ·have u:c=[]:=Dk (by simpa using q.symm);subst u;have k:x.toNat=0:=by rw[y];rfl
   have l:=yz n (i+1) [] [] g (by simpa using m) rfl rfl Θ O Θ (λb A=>by
    have:=r (b+1) O;rw[show i+1+b=i+(b+1)by omega];simpa using this)
   simp only[Lp,if_pos k,l.1];refine⟨trivial,?_⟩;have d:=l.2;unfold N9 at d⊢;simp[k,d]
  ·rcases c with _|⟨s,c⟩
   ·simp at q
   ·obtain⟨t,d⟩:=RU B;by_cases v:e.toNat=i
    ·have E:x=s:=by rw[y,look,if_pos v]
     subst E;have k:x.toNat≠0:=w x Θ;have l:=yz n (i+1) a c g (by simpa using m) (by simpa using q) t (λj p=>Ψ (d j p) (o j (by simp[p]))) O (λF D=>w F (by simp[D])) (λb A=>by
      have:=r (b+1) O;rw[look,if_neg O]at this;rw[show i+1+b=i+(b+1)by omega];simpa using this)
     have C:UInt8.ofNat i=e:=by apply UInt8.toNat_inj.1;rw[<-v];simp
     simp only[Lp,if_neg k,l.1,C];refine⟨trivial,?_⟩;have d:=l.2;unfold N9 at d⊢;simp[k,d]
    ·have G:i+1<=e.toNat:=Ω (o e Θ);have k:x.toNat=0:=by
      rw[y,look,if_neg v,Adc a c i (λj p=>Ω (d j p))];rfl
     have l:=yz n (i+1) (e::a) (s::c) g (by simpa using m) q B (λj p=>by
      rcases Ea.1 p with rfl|z
      ·have:=o j Θ;omega
      ·have:=d j z;have:=o j (by simp[z]);omega) O w (λb A=>by
      have:=r (b+1) O;rw[show i+1+b=i+(b+1)by omega];simpa using this)
     simp only[Lp,if_pos k,l.1];refine⟨trivial,?_⟩;have d:=l.2;unfold N9 at d⊢;simp[k,d]
def Nd.ext'{x a:Nd}(h1:x.pre=a.pre)(h2:x.val=a.val)(h3:x.labels=a.labels)(h4:x.kids=a.kids):x=a:=by
 cases x;cases a;simp_all
def qQ(x:Nd)(h:Cf x=true):Fh (DT x)=x:=by
 obtain⟨k,l,b,c,m,t⟩:=(Bv x).1 h;by_cases i:x.kids.length<=4
 ·have e:=Xr x i;rw[DT,if_pos i,Fh,if_pos e];obtain⟨u1,u2,u3,u4,u5⟩:=unpack_pack x.labels O c;have q:(Gn x.labels).toNat=x.labels.length+16*Fv x.labels:=by rw[Gn,GY (by simpa[KA]using u5)]
  have u:(encS x).drop 4=x.kids++List.replicate (4-x.kids.length) 0:=by simp[encS]
  have n:Jj (Gn x.labels).toNat ((encS x).drop 4)=(x.labels,x.kids):=by
   rw[u,Jj,q,u1,u2,if_pos ⟨u3,O⟩,u4,b,List.take_left' rfl]
  apply Nd.ext'
  ·show Eu ((encS x).getD 1 0).toNat=x.pre;rw[show(encS x).getD 1 0=Gn x.pre by simp[encS],ax x.pre k l]
  ·show(encS x).getD 2 0=x.val;simp[encS]
  ·show(Jj ((encS x).getD 3 0).toNat ((encS x).drop 4)).1=x.labels;rw[show(encS x).getD 3 0=Gn x.labels by simp[encS],n]
  ·show(Jj ((encS x).getD 3 0).toNat ((encS x).drop 4)).2=x.kids;rw[show(encS x).getD 3 0=Gn x.labels by simp[encS],n]
 ·have e:=Xt x;rw[DT,if_neg i,Fh,if_neg O];have r:(Rt x)[1]?=some (Gn x.pre):=by rw[Rt,XE _ _ _ 1 U];simp[headB]
  have s:(Rt x)[2]?=some x.val:=by rw[Rt,XE _ _ _ 2 U];simp[headB]
  have z:(((Rt x).drop 4).take 16).length=16:=by simp[e]
  have j:=yz 16 0 x.labels x.kids (((Rt x).drop 4).take 16) z b m (λa d=>by
   rw[Ew]at c;have:=c a d;simp only[D6,decide_eq_true_eq]at this;omega) U (λB y=>by
   obtain⟨A,v,rfl⟩:=Cm y;exact t A v) (λo w=>by
   rw[Dj,if_pos w,D7,Rt,Vy _ _ _ o b m (by simp[headB];omega),DX];by_cases g:o∈x.labels.map UInt8.toNat
   ·rw[if_pos g]
   ·rw[if_neg g,Adc _ _ _ (λa d p=>g (BM.2 ⟨a,d,p⟩))];rw[headB,Eg (by simp only[BD,Dp];omega),List.getElem?_replicate,if_pos (by simp only[BD,Dp];omega)])
  apply Nd.ext'
  ·show Eu ((Rt x).getD 1 0).toNat=x.pre;rw[UB,r];exact ax x.pre k l
  ·show(Rt x).getD 2 0=x.val;rw[UB,s];rfl
  ·exact j.1
  ·exact j.2
def Ade(x:Nd)(h:Cf x=true):Ja (DT x)=true:=by
 have d:=Fb x;have c:=qQ x h;have b:(DT x).length=8\/(DT x).length=32:=by rw[d];split<;>simp
 rw[Ja,c,h];rcases b with a|a<;>simp[a]
def Adf(l:List UInt64)(h:Ja l=true):Cf (Fh l)=true/\DT (Fh l)=l:=by
 simp only[Ja,Bool.and_eq_true,decide_eq_true_eq]at h;exact h.2
def Py(x:Nd)(i:Nat):Nat:=if x.kids.length<=4 then 4+i else 4+(x.labels.getD i 0).toNat
def iy(l:List UInt8)(h:ER l=true):∀(d i:Nat)(a:i+d+1<l.length),l[i].toNat<l[i+d+1].toNat
 |0,i,a=>(Ht l).1 h i a
 |d+1,i,a=>Ax2 (iy l h d i O) ((Ht l).1 h (i+d+1) O)
def IC(l:List UInt8)(h:ER l=true)(i a:Nat)(c:i<a)(d:a<l.length):l[i].toNat<l[a].toNat:=by
 have:=iy l h (a-i-1) i O;have b:i+(a-i-1)+1=a:=O;simp only[b]at this;exact this
def y8(l:List UInt8)(h:ER l=true)(i:Nat)(hi:i<l.length):l.findIdx? (λc=>c.toNat==l[i].toNat)=some i:=by
 rw[List.findIdx?_eq_some_iff_getElem];refine⟨hi,by simp,λb a=>?_⟩;have:=IC l h b i a hi;simp;omega
def Aku:∀(a:List UInt8)(b:List UInt64)(i:Nat)(h1:i<a.length)(h2:i<b.length),ER a=true->look a b a[i].toNat=b[i]
 |c::a,g::b,0,_,_,_=>by simp[look]
 |c::a,g::b,i+1,h1,h2,e=>by
  obtain⟨t1,t2⟩:=RU e;have d:i<a.length:=by simpa using h1
  have:=t2 a[i] (BH d);rw[Am,Am,look,if_neg O];exact Aku a b i (by simpa using h1) (by simpa using h2) t1
 |[],_,_,h1,_,_=>by simp at h1
 |_::_,[],_,_,h2,_=>by simp at h2
def Aaw(x:Nd)(h:Cf x=true)(i:Nat)(hi:i<x.kids.length):(DT x)[Py x i]?=some x.kids[i]:=by
 obtain⟨g,j,d,e,c,k⟩:=(Bv x).1 h;unfold DT Py;by_cases b:x.kids.length<=4
 ·rw[if_pos b,if_pos b,encS,List.append_assoc,Eg Θ,DU (by simp;omega)];simp only[BD,Dp];rw[show 4+i-(0+1+1+1+1)=i by omega,Ae hi]
 ·have a:i<x.labels.length:=O;have l:=Yt e a;rw[if_neg b,if_neg b,Rt,UB,Ae a,P9,Vy _ _ _ _ d c (by simp[headB];omega),
   if_pos (BM.2 ⟨_,BH a,rfl⟩),Aku _ _ i a hi c]
def y9(x:Nd)(h:Cf x=true)(i:Nat)(hi:i<x.kids.length):4<=Py x i/\Py x i<(DT x).length/\∀a,a<i->Py x a≠Py x i:=by
 obtain⟨e,g,j,k,b,l⟩:=(Bv x).1 h;have c:=Aaw x h i hi;refine⟨by unfold Py;split<;>omega,(List.getElem?_eq_some_iff.1 c).1,λa d=>?_⟩;unfold Py;split
 ·omega
 ·have:=IC x.labels b a i d O;simp only[UB,Ae (show a<x.labels.length by omega),Ae (show i<x.labels.length by omega),P9];omega
def ay(l:List UInt8)(x:UInt8):Gh l x<=l.length:=List.countP_le_length
def OU{a:Type}(xs:List a)(i:Nat)(u:a)(h:i<=xs.length):(JO xs i u).length=xs.length+1:=by simp[JO];omega
def qR(l:List UInt8)(x:UInt8)(i:Nat)(hi:i<=l.length)(h1:∀a(h:a<l.length),a<i->l[a].toNat<x.toNat)(h2:∀a(h:a<l.length),i<=a->x.toNat<=l[a].toNat):Gh l x=i:=by
 unfold Gh
 conv=>lhs;rw[<-List.take_append_drop i l]
 rw[List.countP_append];have g:(l.take i).countP (λd=>decide (d.toNat<x.toNat))=i:=by
  have:(l.take i).length=i:=by simp;omega
  conv=>rhs;rw[<-this]
  rw[List.countP_eq_length];intro e b;obtain⟨a,c,rfl⟩:=Cm b;simp at c;simpa using h1 a O O
 have j:(l.drop i).countP (λd=>decide (d.toNat<x.toNat))=0:=by
  rw[List.countP_eq_zero];intro e b;obtain⟨a,c,rfl⟩:=Cm b;simp at c;have:=h2 (i+a) O O;simp;omega
 omega
def JR{d:Type}(xs:List d)(i:Nat)(u:d)(hi:i<=xs.length)(a:Nat):(JO xs i u)[a]?=if a<i then xs[a]? else if a=i then some u else xs[a-1]?:=by
 unfold JO;by_cases b:a<i
 ·rw[if_pos b,DU (by simp;omega),Dj,if_pos b]
 ·rw[if_neg b,Eg (by simp;omega)];simp only[Em,NG hi];by_cases c:a=i
  ·subst c;simp
  ·rw[if_neg c,show a-i=(a-1-i)+1 by omega,AB,D7];congr 1;omega
def iC{a:Type}(xs:List a)(i:Nat)(u:a)(hi:i<=xs.length):JC (JO xs i u) i=xs:=by
 unfold JC JO;rw[List.take_append_of_le_length (by simp;omega),List.take_take,Nat.min_self,List.drop_append,Em,NG hi,show i+1-i=1 by omega,List.drop_of_length_le (by simp;omega)];simp
def qU{b:Type}(xs:List b)(i:Nat)(u a:b)(h:a∈JO xs i u):a=u\/a∈xs:=by
 unfold JO at h;rw[List.mem_append,Ea]at h;rcases h with h|h|h
 ·exact .inr (List.mem_of_mem_take h)
 ·exact .inl h
 ·exact .inr (List.mem_of_mem_drop h)
def kY(l:List UInt8)(x:UInt8)(q:ER l=true):(∀a(h:a<l.length),a<Gh l x->l[a].toNat<x.toNat)/\(∀a(h:a<l.length),Gh l x<=a->x.toNat<=l[a].toNat):=by
 obtain⟨b,c⟩:=ε (l.findIdx (λe=>decide (x.toNat<=e.toNat)));have o:b<=l.length:=by rw[c];exact List.findIdx_le_length
 have g:∀a(h:a<l.length),a<b->l[a].toNat<x.toNat:=by
  intro a h d;rw[c]at d;have:=List.not_of_lt_findIdx d;simpa using this
 have i:∀a(h:a<l.length),b<=a->x.toNat<=l[a].toNat:=by
  intro a h d;have n:b<l.length:=O;have m:x.toNat<=l[b].toNat:=by
   have:=List.findIdx_getElem (p:=λe:UInt8=>decide (x.toNat<=e.toNat)) (xs:=l) (w:=by rw[<-c];exact n);simpa[<-c]using this
  rcases Ir b a with j|j
  ·have:=IC l q b a j h;omega
  ·obtain rfl:a=b:=O;exact m
 have k:=qR l x b o g i;rw[k];exact⟨g,i⟩
def RV(l:List UInt8)(x:UInt8)(h:PE l x=false):∀a(h:a<l.length),l[a].toNat≠x.toNat:=by
 intro a c b;unfold PE at h;rw[List.any_eq_true.2 ⟨l[a],BH _,by simpa using b⟩]at h;cases h
def qV(l:List UInt8)(x:UInt8)(e:ER l=true)(m:PE l x=false):ER (JO l (Gh l x) x)=true:=by
 obtain⟨j,k⟩:=kY l x e;have d:=ay l x;have q:=RV l x m;generalize Gh l x=p at*;rw[Ht];intro c n;have o:(JO l p x).length=l.length+1:=OU l p x d;have a:=JR l p x d c;have b:=JR l p x d (c+1);rw[Ae O]at a b;rw[o]at n;rcases Ir (c+1) p with h|h
 ·rw[if_pos O,Ae O]at a b;injection a with a;injection b with b
  rw[a,b];exact(Ht l).1 e c O
 ·rcases Ir c p with g|g
  ·obtain rfl:p=c+1:=O;rw[if_pos O,Ae O]at a;rw[if_neg O,if_pos rfl]at b;injection a with a;injection b with b
   rw[a,b];exact j c O O
  ·rw[if_neg O,if_neg O,VM,Ae O]at b;injection b with b
   rw[b];rcases Nat.eq_or_lt_of_le g with i|i
   ·subst i;rw[if_neg O,if_pos rfl]at a;injection a with a
    rw[a];have:=k p O (Ad _);have:=q p O;omega
   ·rw[if_neg O,if_neg O,Ae O]at a;injection a with a
    rw[a];have:=(Ht l).1 e (c-1) O;simp only[show c-1+1=c by omega]at this;exact this
structure yA(x:Nd)(label:UInt8)(kid:UInt64):Prop where
 right:Cf (Ib x label kid)=true
 place:Gh x.labels label<=x.labels.length
 len:(Ib x label kid).labels.length=x.labels.length+1
 Asy:(Ib x label kid).kids.length=x.kids.length+1
 Avp:(Ib x label kid).labels[Gh x.labels label]?=some label
 Avq:(Ib x label kid).kids[Gh x.labels label]?=some kid
 find:Jk (Ib x label kid).labels label=some (Gh x.labels label)
 out:Ru (Ib x label kid) (Gh x.labels label)=x
 old:∀i(h:i<x.labels.length)(hk:i<x.kids.length),∃j,j<x.labels.length+1/\(Ib x label kid).labels[j]?=some x.labels[i]/\(Ib x label kid).kids[j]?=some x.kids[i]
def RX(x:Nd)(a:UInt8)(b:UInt64):Jy x a b=true<->Cf x=true/\a.toNat<16/\b.toNat≠0/\PE x.labels a=false:=by
 unfold Jy;simp only[Bool.and_eq_true,decide_eq_true_eq,Bool.not_eq_true',beq_eq_false_iff_ne,and_assoc,ne_eq]
def qW(x:Nd)(a:UInt8)(b:UInt64)(h:Jy x a b=true):yA x a b:=by
 obtain⟨q,p,s,r⟩:=(RX x a b).1 h;obtain⟨v,w,D,y,z,A⟩:=(Bv x).1 q;have c:=ay x.labels a;have o:(JO x.labels (Gh x.labels a) a).length=x.labels.length+1:=OU _ _ _ c;have u:(JO x.kids (Gh x.labels a) b).length=x.kids.length+1:=OU _ _ _ O;have n:Cf (Ib x a b)=true:=by
  rw[Bv];refine⟨v,w,?_,?_,qV _ _ z r,?_⟩
  ·show(JO _ _ _).length=(JO _ _ _).length;omega
  ·rw[Ew];intro C e;rcases qU _ _ _ _ e with rfl|e
   ·exact VX p
   ·exact(Ew.1 y) C e
  ·intro i g;rcases qU _ _ _ _ (BH g)with j|e
   ·rw[j];exact s
   ·obtain⟨B,t,j⟩:=Cm e;rw[<-j];exact A B t
 have d:(Ib x a b).labels[Gh x.labels a]?=some a:=by
  show(JO _ _ _)[_]?=_;rw[JR _ _ _ c,if_neg O,if_pos rfl]
 refine⟨n,c,o,u,d,?_,?_,?_,?_⟩
 ·show(JO _ _ _)[_]?=_;rw[JR _ _ _ O,if_neg O,if_pos rfl]
 ·have m:Gh x.labels a<(Ib x a b).labels.length:=by rw[show(Ib x a b).labels.length=x.labels.length+1 from o];omega
  have:=y8 _ ((Bv _).1 n).2.2.2.2.1 _ m;rw[Ae m]at d;injection d with d
  rw[d]at this;exact this
 ·show({pre:=x.pre,val:=x.val,labels:=JC (JO _ _ _) _,kids:=JC (JO _ _ _) _}:Nd)=x;rw[iC _ _ _ c,iC _ _ _ O]
 ·intro i g k;by_cases l:i<Gh x.labels a
  ·refine⟨i,O,?_,?_⟩
   ·show(JO _ _ _)[_]?=_;rw[JR _ _ _ c,if_pos l,Ae g]
   ·show(JO _ _ _)[_]?=_;rw[JR _ _ _ O,if_pos l,Ae k]
  ·refine⟨i+1,O,?_,?_⟩
   ·show(JO _ _ _)[_]?=_;rw[JR _ _ _ c,if_neg O,if_neg O,VM,Ae g]
   ·show(JO _ _ _)[_]?=_;rw[JR _ _ _ O,if_neg O,if_neg O,VM,Ae k]
