import Derived.WalkSpells
import Derived.WalkLawsBesides
import Derived.Lib.Hide
import Derived.Deep.AppendLies
import Derived.Deep.RegionLaw
import Derived.Lib.BytesEntry
import Derived.BigQuiet
set_option linter.defProp false
open Int renaming ofNat_lt->wY
open List renaming getElem?_eq_getElem->Ah,eq_nil_of_length_eq_zero->Ce,getElem?_take->Di,mem_map->Dk,mem_of_mem_take->xE,replicate->BB,ext_getElem->Fz,getElem?_eq_some_iff->Cb,length_take->Ed,map_toArray->JX,map_cons->BM,map_nil->FP,take_succ_eq_append_getElem->CJ,getElem_mem->Cm,flatMap_cons->Agt,take_succ_cons->JY,drop_eq_getElem_cons->Cf,all_cons->lC,length_cons->Bv,cons_append->BD,all_eq_true->EI,map_set->SK,set_append_right->U3,replicate_succ->VG,getElem_cons_succ->Aj,nil_append->EK,range->Ep,length_append->AP,ext_getElem?->J4,getElem?_mapIdx->NI,getElem?_set->Ic,getElem_set->Lc,getElem?_eq_none->FQ,getElem_take->Agu,getElem_of_mem->Dw,filter_cons->Ag0,take_of_length_le->EL,drop_take->Alg,take_take->Alh,getElem_map->SL,getElem_range->Qj,getD_cons_zero->Abl
open Nat renaming le_refl->Ae,zero_le->BA,eq_zero_or_pos->Jz,mul_le_mul->IB,pow_succ->JV,mul_assoc->Om,mul_comm->J3,min_eq_left->NW,pow_le_pow_right->Fv,div_div_eq_div_mul->wZ,mod_eq_of_lt->Gs,lt_of_lt_of_le->Be,mod_lt->U4,xor_lt_two_pow->Xd
open Array renaming getElem?_eq_some_iff->AA,getElem?_push->GH
open Go.World renaming cell?->Aph
open Go.Value renaming int->Aw,cells->xG
open Option renaming map_some->Ez
open UInt64 renaming ofNat->Az,toNat_ofNat'->Ia
universe u
namespace Go.Proofs.YtfmkofmaabgbkaaGreatDoor
open Go.RowKit
def jM{c:Prop}[h:Decidable c](k:c){α:Sort u}{a b:α}:ite c a b=a:=if_pos k
def ku{c:Prop}[h:Decidable c](k:¬c){α:Sort u}{a b:α}:ite c a b=b:=if_neg k
theorem O{p:Prop}(h:p:=by omega):p:=h
theorem U{p:Prop}(h:p:=by decide):p:=h
theorem Θ{p:Prop}(h:p:=by simp):p:=h
theorem Γ{p:Prop}(h:p:=by kernel_rfl):p:=h
theorem Ω{q p:Prop}(a:q)(h:q->p:=by intro h;omega):p:=h a
theorem Ψ{q r p:Prop}(a:q)(b:r)(h:q->r->p:=by intro h c;omega):p:=h a b
theorem Ξ{q r t p:Prop}(a:q)(b:r)(c:t)(h:q->r->t->p:=by intro h d e;omega):p:=h a b c
abbrev Δ(b i:Nat):Addr:=⟨b,i,none⟩
abbrev Φ(b:Nat):Addr:=⟨b,0,none⟩
abbrev η(w a:World):Prop:=Below w.heap.size w a
theorem τ{w a b:World}(h:Below w.heap.size w a)(k:Below a.heap.size a b):Below w.heap.size w b:=h.trans (k.mono h.size)
theorem χ(w:World)(o:Obj){r:Nat}(h:r<w.heap.size):(w.alloc o).heap[r]?=w.heap[r]?:=by
 show(w.heap.push o)[r]?=_;rw[Array.getElem?_push_lt h,Array.getElem?_eq_getElem h]
theorem ε{c:Type}(a:c):∃b,b=a:=⟨_,rfl⟩
theorem ζ{c:Type}[BEq c][LawfulBEq c]{a b:c}(h:a≠b):(a==b)=false:=beq_eq_false_iff_ne.2 h
abbrev ptr0(b:Nat):Value:=.pointer (some (Φ b))
def ltT{k n:Nat}(h:k<n):(k:Int)<(n:Int)/\decide ((k:Int)<(n:Int))=true/\decide (k<n)=true:=⟨wY.2 h,decide_eq_true (wY.2 h),decide_eq_true h⟩
def qy{k n:Nat}(h:k<n):decide ((k:Int)<(n:Int))=true/\decide (k<n)=true:=(ltT h).2
def qA{k n:Nat}(h:¬k<n):decide ((k:Int)<(n:Int))=false/\decide (k<n)=false:=⟨decide_eq_false (λe=>h (wY.1 e)),decide_eq_false h⟩
def wk1(k:Nat)(h:k+1<9223372036854775808):IntKind.i64.wrap ((k:Int)+1)=(k:Int)+1:=IntWalk.i64_in _ O
def Rd(w:World)(A:Option Addr)(n:Nat)(xs:List Value):Prop:=
 xs.length=n/\(0<n->∃a c,A=some (Δ a c)/\a<w.heap.size/\∀b,b<n->w.cell? (Δ a (c+b))=xs[b]?)
def Rd.nil{w:World}{A:Option Addr}:Rd w A 0 []:=⟨rfl,λh=>absurd h O⟩
def Rd.at{w:World}{A:Option Addr}{n:Nat}{xs:List Value}(h:Rd w A n xs){k:Nat}(i:k<n):
 ∃a b d,A=some (Δ a b)/\a<w.heap.size/\xs[k]?=some d/\w.cell? (Δ a (b+k))=some d:=by
 obtain⟨a,b,e,f,g⟩:=h.2 O;have c:k<xs.length:=Ω h.1;exact⟨a,b,xs[k],e,f,Ah c,(g k i).trans (Ah c)⟩
def Rd.keep{w w':World}{A:Option Addr}{n:Nat}{xs:List Value}(h:Rd w A n xs)(l:w.heap.size<=w'.heap.size)
 (g:∀a,a<w.heap.size->w'.heap[a]?=w.heap[a]?):Rd w' A n xs:=
 ⟨h.1,λi=>by
   obtain⟨b,k,e,c,d⟩:=h.2 i;exact⟨b,k,e,O,λj f=>(World.cell?_of_block (w:=w) (g b c)).trans (d j f)⟩⟩
def Rd.below{w w':World}{A:Option Addr}{n:Nat}{xs:List Value}(h:Rd w A n xs)(a:η w w'):Rd w' A n xs:=
 h.keep a.size a.block
def bv(b:UInt8):Value:=.int .u8 (b.toNat:Int)
def wv(x:UInt64):Value:=.int .u64 (x.toNat:Int)
def Bs(w:World)(A:Option Addr)(n:Nat)(l:List UInt8):Prop:=Rd w A n (l.map bv)
def Ws(w:World)(A:Option Addr)(n:Nat)(l:List UInt64):Prop:=Rd w A n (l.map wv)
def Bs.len{w:World}{A:Option Addr}{n:Nat}{l:List UInt8}(h:Bs w A n l):l.length=n:=by
 have:=h.1;simpa using this
def Ws.len{w:World}{A:Option Addr}{n:Nat}{l:List UInt64}(h:Ws w A n l):l.length=n:=by
 have:=h.1;simpa using this
def Bs.below{w w':World}{A:Option Addr}{n:Nat}{l:List UInt8}(h:Bs w A n l)(a:η w w'):Bs w' A n l:=Rd.below h a
def Ws.below{w w':World}{A:Option Addr}{n:Nat}{l:List UInt64}(h:Ws w A n l)(a:η w w'):Ws w' A n l:=Rd.below h a
def Bs.at{w:World}{A:Option Addr}{n:Nat}{l:List UInt8}(h:Bs w A n l){k:Nat}(g:k<n):
 ∃(c:k<l.length)(a b:Nat),A=some (Δ a b)/\a<w.heap.size/\w.cell? (Δ a (b+k))=some (.int .u8 (l[k].toNat:Int)):=by
 have c:k<l.length:=Ω h.len;obtain⟨a,b,j,e,d,i,f⟩:=Rd.at h g;refine⟨c,a,b,e,d,?_⟩;rw[f,<-i];simp[bv,c]
def Ws.at{w:World}{A:Option Addr}{n:Nat}{l:List UInt64}(h:Ws w A n l){k:Nat}(g:k<n):
 ∃(c:k<l.length)(a b:Nat),A=some (Δ a b)/\a<w.heap.size/\w.cell? (Δ a (b+k))=some (.int .u64 (l[k].toNat:Int)):=by
 have c:k<l.length:=Ω h.len;obtain⟨a,b,j,e,d,i,f⟩:=Rd.at h g;refine⟨c,a,b,e,d,?_⟩;rw[f,<-i];simp[wv,c]
def Cj{w:World}{g:Nat}{e:TypeId}{v:Value}{n:Nat}{xs:List Value}(h:w.ownsRow g e 1 v n xs):
 ∃a b,v=.slice a n b/\n<=b/\Rd w a n xs:=by
 obtain⟨d,j⟩:=h;rcases j with⟨rfl,rfl⟩|⟨c,o,i,rfl,_,f,k,_,p,l⟩
 ·have:xs=[]:=Ce (by simpa using d);subst this;exact⟨none,0,rfl,Ae _,Rd.nil⟩
 ·refine⟨_,_,rfl,k,by simpa using d,λr=>⟨c,0,rfl,?_,λm q=>?_⟩⟩
  ·exact(AA.1 f).1
  ·rw[cell_of_row w c (0+m) i e (0,0) f,<-l,Di,jM O];simp
def Dr(w w':World):Prop:=∃a,w'=w.drewN a
def Dr.refl(w:World):Dr w w:=⟨0,rfl⟩
def Dr.one(w:World)(q:Nat):Dr w (w.drewN q):=⟨q,rfl⟩
def Dr.two(w:World)(q r:Nat):Dr w ((w.drewN q).drewN r):=⟨q+r,World.drewN_drewN _ _ _⟩
def Dr.trans{a b c:World}(h:Dr a b)(k:Dr b c):Dr a c:=by
 obtain⟨d,rfl⟩:=h;obtain⟨e,rfl⟩:=k;exact Dr.two _ _ _
def Dr.below{w w':World}(h:Dr w w')(B:Nat):Below B w w':=by
 obtain⟨a,rfl⟩:=h;exact⟨rfl,rfl,rfl,Ae _,λ_ _=>rfl⟩
def Zx{w:World}{a g cap:Nat}{e:TypeId}{n:Nat}{xs:List Value}(h:w.ownsRow a e 1 (.slice (some (Φ g)) n cap) n xs){k:Nat}(c:k<n):∃b,w.cell? (Δ g k)=some b:=by
 rw[h.cellAt k O];exact⟨_,Ah (Ω h.1)⟩
def Adf{v u:Value}(h:v=u):Ending.returned v=Ending.returned u:=by rw[h]
def Jk(l:List UInt8):∀a∈l.map bv,a.oneCell'=true:=by
 intro a b;obtain⟨_,_,rfl⟩:=Dk.1 b;rfl
def QU(l:List UInt64):∀a∈l.map wv,a.oneCell'=true:=by
 intro a b;obtain⟨_,_,rfl⟩:=Dk.1 b;rfl
def Aom(k:IntKind)(w:World)(a:Option Addr)(len cap:Nat)(zs:List Int):Prop:=
 (a=none/\len=0/\cap=0/\zs=[])\/
 ∃c,a=some c/\len<=cap/\cap<=maxLen/\zs.length=cap/\(∀b,b<zs.length->w.cell? (c.add b)=some (.int k (zs.getD b 0)))/\∀d∈zs,(Lit.int k d).wf=true
def block_lt_of_cell{w:World}{a:Addr}{v:Value}(h:w.cell? a=some v):a.block<w.heap.size:=by
 rcases Nat.lt_or_ge a.block w.heap.size with c|b
 ·exact c
 ·rw[Aph,Array.getElem?_eq_none b]at h;cases h
def lJ{w:World}{x:Addr}{v:Value}(h:w.cell? (x.add 0)=some v):∃a b,x=(Δ a b):=by
 obtain⟨a,b,c⟩:=x;rcases c with _|c
 ·exact⟨a,b,rfl⟩
 ·exfalso;unfold Aph Addr.add at h;split at h
  ·split at h<;>simp_all
  ·cases h
def Adg{k:IntKind}{w:World}{a:Option Addr}{len cap:Nat}{zs:List Int}(h:Aom k w a len cap zs):Rd w a len ((zs.take len).map (Aw k))/\(len<=maxLen/\len<=cap)/\∀j∈zs,(Lit.int k j).wf=true:=by
 rcases h with⟨rfl,rfl,rfl,rfl⟩|⟨p,rfl,g,m,o,c,i⟩
 ·exact⟨Rd.nil,⟨BA _,Ae _⟩,by simp⟩
 ·refine⟨⟨by simp;omega,λn=>?_⟩,⟨O,g⟩,i⟩;have b:=c 0 O;obtain⟨e,l,rfl⟩:=lJ b;refine⟨e,l,rfl,block_lt_of_cell b,λd f=>?_⟩;have:=c d O;rw[Addr.add_lit]at this;rw[this];simp[f,List.getD,show d<zs.length by omega]
def Adh{w:World}{a:Option Addr}{len cap:Nat}{zs:List Int}(h:Aom .u8 w a len cap zs):∃i:List UInt8,Bs w a len i/\len<=maxLen/\len<=cap:=by
 obtain⟨c,d,f⟩:=Adg h;refine⟨(zs.take len).map λb=>UInt8.ofNat b.toNat,?_,d⟩;have e:((zs.take len).map λb=>UInt8.ofNat b.toNat).map bv=(zs.take len).map (Aw .u8):=by
  rw[List.map_map];apply List.map_congr_left;intro b g;have:=f b (xE g);have j:0<=b/\b<=255:=by simpa[Lit.wf,IntKind.min,IntKind.max,IntKind.bits,IntKind.signed]using this
  simp only[Function.comp_apply,bv,UInt8.toNat_ofNat'];congr 1;omega
 rw[Bs,e];exact c
def QV(n:Nat):(madeCells (Aw .u8 0).cells (n*1)).toList=(BB n (0:UInt8)).map bv:=by
 apply Fz
 ·simp[madeCells]
 ·intro c a b;simp[madeCells,xG,Nat.mod_one,bv]
def Me(n:Nat):(madeCells (Aw .u64 0).cells (n*1)).toList=(BB n (0:UInt64)).map wv:=by
 apply Fz
 ·simp[madeCells]
 ·intro c a b;simp[madeCells,xG,Nat.mod_one,wv]
def J9{P:Program}{w:World}{src e b:TypeId}(p:P.underlying src=some (.slice e))(m:P.underlying e=some (.int .u8))(j:P.underlying b=some .string)
 {A:Option Addr}{n:Nat}{l:List UInt8}(h:Bs w A n l)(c:Nat):(convert src b (.slice A n c)).run P w=.ok (.string ⟨l.toArray⟩) w:=by
 have o:=h.len;rcases A with _|i
 ·have t:n=0:=by
   rcases Jz n with f|f
   ·exact f
   ·obtain⟨_,_,e,_⟩:=h.2 f;cases e
  subst t;have d:l=[]:=Ce o;subst d;exact run_convert_bytes_nil w src e p m 0 c b j
 ·have d:(loadCells i n).run P w=.ok ((l.map λa=>(a.toNat:Int)).map (Aw .u8)).toArray w:=by
   have:=run_loadCells_list (P:=P) w i ((l.map λa=>(a.toNat:Int)).map (Aw .u8)) (λq x g=>by
    have s:q<l.length:=by
     have:=(Cb.1 g).1;simpa using this
    obtain⟨d,a,v,e,u,r⟩:=h.at (k:=q) O;injection e with e
    subst e;rw[Addr.add_lit,r];simp only[List.getElem?_map,Ah s,Ez,Option.some.injEq]at g;rw[g])
   simpa[o]using this
  rw[run_convert_bytes_string w src b e _ n c p m j,run_bytesToString w _ n c _ d,foldl_push_bytes];congr 2;apply ByteArray.ext;show(#[]:Array UInt8)++_=l.toArray;simp[Function.comp_def]
structure Nv(P:Program)(t e:TypeId)(z:Value)(bytes:Nat):Prop where
 ht:P.underlying t=some (.slice e)
 hi:(P.info? e).map (λi=>(i.zero,i.size,i.bytes))=some (some z,1,bytes)
 hz:z.cells.size=1
def Zy(A:Option Addr)(c lo:Nat):Option Addr:=if c=lo then A else A.map (·.add lo)
def Rd.sub{w:World}{A:Option Addr}{n:Nat}{xs:List Value}(h:Rd w A n xs){c lo hi:Nat}(h1:lo<=hi)(h2:hi<=n)(j:n<=c):Rd w (Zy A c lo) (hi-lo) ((xs.drop lo).take (hi-lo)):=by
 refine⟨by rw[Ed,List.length_drop,h.1];omega,λi=>?_⟩;obtain⟨a,g,rfl,b,d⟩:=h.2 O;refine⟨a,g+lo,?_,b,λf e=>?_⟩
 ·rw[Zy,ku O];simp[Addr.add_lit]
 ·rw[Nat.add_assoc,d (lo+f) O,Di,jM e,List.getElem?_drop]
section
variable{P:Program}{t e:TypeId}{z:Value}{bytes:Nat}
def Nv.QW(a:Nv P t e z bytes)(w:World):(sizeOf e).run P w=.ok 1 w:=by
 obtain⟨i,hi,c,b,d⟩:=info_parts a.hi;simp[sizeOf,typeInfo,hi,b]
def Abt(a:Nv P t e z bytes)(A:Option Addr)(n c:Nat)(b d:IntKind)(lo hi:Nat)(h1:lo<=hi)(h2:hi<=c)(w:World):
 (Instr.slice t (.slice A n c) (some (.int b (lo:Int))) (some (.int d (hi:Int))) none).run P w=.ok (.slice (Zy A c lo) (hi-lo) (c-lo)) w:=by
 have f:=run_sliceBound (P:=P) (w:=w) d (hi:Int) c .sliceAcap O O;have g:=run_sliceBound (P:=P) (w:=w) b (lo:Int) hi .sliceB O O;simp[Instr.slice,run_underlying a.ht,Instr.sliceBounds,f,g,a.QW,Zy]
def Aha(a:Nv P t e z bytes)(A:Option Addr)(n c:Nat)(b:IntKind)(lo:Nat)(h1:lo<=n)(w:World):
 (Instr.slice t (.slice A n c) (some (.int b (lo:Int))) none none).run P w=.ok (.slice (Zy A c lo) (n-lo) (c-lo)) w:=by
 have d:=run_sliceBound (P:=P) (w:=w) b (lo:Int) n .sliceB O O;simp[Instr.slice,run_underlying a.ht,Instr.sliceBounds,d,a.QW,Zy]
end
def Adi{P:Program}{t e:TypeId}{z:Value}{bytes:Nat}(b:Nv P t e z bytes)(u:TypeId){w:World}{d:Nat}{v:Value}{n:Nat}{xs a:List Value}
 (l:w.ownsRow d e 1 v n xs){A:Option Addr}{m:Nat}(g:Rd w A m a)
 (h1:∀j∈a,j.oneCell'=true)(G:n+m<=1000000000)(B:bytes<=64)(r:d<=w.heap.size)(c:Nat):
 ∃o k,(Builtin.append_ #[t,t] u #[v,.slice A m c]).run P w=.ok o k/\k.ownsRow d e 1 o (n+m) (xs++a)/\Below d w k:=by
 obtain⟨N,p,K,L,M⟩:=info_parts b.hi;rcases A with _|q
 ·have f:m=0:=by
   rcases Jz m with f|f
   ·exact f
   ·obtain⟨_,_,e,_⟩:=g.2 f;cases e
  subst f;have H:a=[]:=Ce g.1;subst H;refine⟨v,w,?_,by simpa using l,Below.refl _ _⟩;rcases l.2 with⟨rfl,rfl⟩|⟨V,S,T,rfl,_,_,I,_⟩
  ·simp[Builtin.append_,run_underlying b.ht,sizeOf,typeInfo,p,Builtin.lenOf,Builtin.firstCells]
  ·simp[Builtin.append_,run_underlying b.ht,sizeOf,typeInfo,p,Builtin.lenOf,Builtin.firstCells,I,storeCells]
 ·have D:∀i j,a[i]?=some j->w.cell? (q.add i)=some j:=by
   intro i j s;have E:i<m:=by
    have:=(Cb.1 s).1;have:=g.1;omega
   obtain⟨R,X,e,_,C⟩:=g.2 O;injection e with e
   subst e;rw[Addr.add_lit,C i E,s]
  have W:(n+m)*bytes<=1000000000*64:=IB G B;obtain⟨o,k,J,x,y,_⟩:=run_append_own (P:=P) w d t u e N z 1 bytes b.ht p K L M b.hz U v n xs l q m c a (by simp[g.1]) D h1
   (by unfold maxLen;omega) O r
  exact⟨o,k,J,x,(Below.refl _ _).grown y r (λQ F=>(l.lt Q F).1)⟩
def UG{P:Program}{j:Array Oper}{rest:List Oper}{o:Oper}{a:Act}{w:World}{i:Exit->Act->World->Prop}(y:o.guard=none)(s x:Operand)(t:TypeId)
 (C:o.op=.call {callee:=.builtin .append,args:= #[s,x],argTypes:= #[t,t]}){e:TypeId}{z:Value}{bytes:Nat}(k:Nv P t e z bytes)
 (d:Nat)(v:Value)(n:Nat)(xs g:List Value)(G:a.eval s=v)(D:w.ownsRow d e 1 v n xs)(A:Option Addr)(m c:Nat)(H:a.eval x=.slice A m c)(E:Rd w A m g)
 (h1:∀I∈g,I.oneCell'=true)(B:n+m<=1000000000)(u:bytes<=64)(r:d<=w.heap.size)
 (h:∀f b,b.ownsRow d e 1 f (n+m) (xs++g)->Below d w b->wpList P j i rest (a.put o.dst f) b):wpList P j i (o::rest) a w:=by
 refine wpList_plain y λJ q=>?_
 obtain⟨f,b,F,l,p⟩:=Adi k o.type D E h1 B u r c;unfold Oper.wp execOp;simp only[C,resolve,invoke,builtin,Sem.run_bind,Sem.run_pure,Result.andThen_ok,JX,BM,FP,G,H,F];exact q _ _ (h f b l p)
def xJ{P:Program}{t e:TypeId}{z:Value}{bytes:Nat}(l:Nv P t e z bytes)(y:TypeId){w wr:World}{b:Nat}{v:Value}{n:Nat}{xs a:List Value}
 (s:wr.ownsRow b e 1 v n xs)(f:w.heap=wr.heap.push (.cells a.toArray e))(J:w.os=wr.os)(M:w.tape=wr.tape)(K:w.output=wr.output)
 (h1:∀g∈a,g.oneCell'=true)(H:n+a.length<=1000000000)(E:bytes<=64)(D:b<=wr.heap.size)(m c:Nat)(I:m=a.length):
 ∃k i,(Builtin.append_ #[t,t] y #[v,.slice (some (Φ wr.heap.size)) m c]).run P w=.ok k i/\i.ownsRow b e 1 k (n+m) (xs++a)/\Below b wr i:=by
 subst I;obtain⟨T,G,Q,R,S⟩:=info_parts l.hi;have q:η wr w:=⟨J,M,K,by rw[f];simp,λx r=>by rw[f,GH,ku O]⟩;have u:w.ownsRow b e 1 v n xs:=by
  refine⟨s.1,?_⟩;rcases s.2 with h|⟨p,A,B,h1,o,j,C⟩
  ·exact .inl h
  ·exact .inr ⟨p,A,B,h1,o,by rw[q.block p (AA.1 j).1];exact j,C⟩
 have F:∀d g,a[d]?=some g->w.cell? (((Φ wr.heap.size):Addr).add d)=some g:=by
  intro d g N;rw[show((Φ wr.heap.size):Addr).add d=(Δ wr.heap.size (0+d))from Addr.add_lit _ _ _];rw[cell_of_row w wr.heap.size (0+d) a.toArray e (0,0) (by rw[f,GH,jM rfl])];simpa using N
 have V:(n+a.length)*bytes<=1000000000*64:=IB H E;obtain⟨k,i,L,o,j,_⟩:=run_append_own (P:=P) w b t y e T z 1 bytes l.ht G Q R S l.hz U v n xs u _ a.length c a Θ F h1
  (by unfold maxLen;omega) O (by rw[f];simp;omega)
 refine⟨k,i,L,o,(q.mono D).trans ?_⟩;exact(Below.refl _ _).grown j (by rw[f];simp;omega) (λx r=>(u.lt x r).1)
def lK{P:Program}{i:Array Oper}{o:Oper}{a:Act}{w:World}{K:Act->World->Prop}{j:Exit->Act->World->Prop}{E:Prop}(u:o.guard=none)(s x:Operand)(t:TypeId)
 (B:o.op=.call {callee:=.builtin .append,args:= #[s,x],argTypes:= #[t,t]}){e:TypeId}{z:Value}{bytes:Nat}(k:Nv P t e z bytes)
 (wr:World)(f:Nat)(v:Value)(n:Nat)(xs b:List Value)(H:a.eval s=v)(F:wr.ownsRow f e 1 v n xs)(J:w.heap=wr.heap.push (.cells b.toArray e))
 (C:w.os=wr.os)(I:w.tape=wr.tape)(D:w.output=wr.output)
 (m c:Nat)(M:a.eval x=.slice (some (Φ wr.heap.size)) m c)(A:m=b.length)
 (h1:∀N∈b,N.oneCell'=true)(y:n+b.length<=1000000000)(r:bytes<=64)(q:f<=wr.heap.size)
 (h:∀g d,d.ownsRow f e 1 g (n+m) (xs++b)->Below f wr d->K (a.put o.dst g) d):
 if Region.wanted o (yielded i a.tmps)=true then Oper.wp P o a w K j else E:=by
 have L:Region.wanted o (yielded i a.tmps)=true:=by simp[Region.wanted,u]
 rw[jM L];obtain⟨g,d,G,l,p⟩:=xJ k o.type F J C I D h1 y r q m c A;unfold Oper.wp execOp;simp only[B,resolve,invoke,builtin,Sem.run_bind,Sem.run_pure,Result.andThen_ok,JX,BM,FP,H,M,G];exact h g d l p
def DV(b:UInt8):Bool:=b.toNat<16
def UH{a:Type}(p:a->Bool)(l:List a)(k:Nat)(h:k<l.length)(b:(l.take k).all p=true)(c:p l[k]=true):(l.take (k+1)).all p=true:=by
 rw[CJ h,List.all_append,b];simp[c]
def Xm{a:Type}(p:a->Bool)(l:List a)(k:Nat)(h:k<l.length)(b:p l[k]=false):l.all p=false:=by
 rw[List.all_eq_false];exact⟨l[k],Cm h,by simp[b]⟩
def Xn{b:UInt8}(h:b.toNat<16):DV b=true:=by simp[DV,h]
def Ahb{b:UInt8}(h:¬b.toNat<16):DV b=false:=by simp[DV];omega
def Ci(l:List UInt8):List UInt8:=l.flatMap λa=>[a/16,a%16]
def Zz(l:List UInt8)(k:Nat)(h:k<l.length):Ci (l.take (k+1))=Ci (l.take k)++[l[k]/16,l[k]%16]:=by
 rw[CJ h];simp only[Ci,List.flatMap_append,Agt,List.flatMap_nil,List.append_nil]
def UW(s:ByteArray)(k:Nat)(h:k<s.size):Ci (s.data.toList.take (k+1))=Ci (s.data.toList.take k)++[s[k]/16,s[k]%16]:=by
 have a:k<s.data.toList.length:=by simpa using h
 rw[Zz _ k a];rfl
def Jl(l:List UInt8):(Ci l).length=2*l.length:=by
 induction l with
 |nil=>rfl
 |cons b l a=>simp[Ci]at a⊢;omega
def Apj(b:UInt8):Aw .u8 ((b.toNat:Int)/16)=bv (b/16):=by simp[bv]
def Apk(b:UInt8):Aw .u8 ((b.toNat:Int)%16)=bv (b%16):=by simp[bv]
def Aln(b:UInt8):Aw .u8 (IntKind.u8.wrap ((b.toNat:Int)/16))=bv (b/16):=by
 have:=b.toNat_lt;rw[<-Apj,IntWalk.u8_in _ O]
def Alo(b:UInt8):Aw .u8 ((b.toNat:Int).tmod 16)=bv (b%16):=by
 rw[<-Apk,Int.tmod_eq_emod_of_nonneg O]
def common:List UInt8->List UInt8->Nat
 |a::b,c::d=>if a=c then common b d+1 else 0
 |_,_=>0
def Jn:∀(a b:List UInt8),common a b<=a.length
 |[],_=>by simp[common]
 |a::c,[]=>by simp[common]
 |a::c,b::d=>by
  simp only[common];have:=Jn c d;split<;>simp;omega
def SV:∀(a b:List UInt8),common a b=common b a
 |[],[]=>rfl
 |[],_::_=>by simp[common]
 |_::_,[]=>by simp[common]
 |a::c,b::d=>by
  simp only[common];rw[SV c d];by_cases h:a=b
  ·subst h;simp
  ·simp[h,Ne.symm h]
def Kw(a b:List UInt8):common a b<=b.length:=by rw[SV];exact Jn b a
def alike(k:Nat)(a b:List UInt8):Prop:=k<=a.length/\k<=b.length/\a.take k=b.take k
def xK(a b:List UInt8):alike 0 a b:=⟨BA _,BA _,by simp⟩
def NJ:∀(k:Nat)(a b:List UInt8),alike k a b->common a b=k+common (a.drop k) (b.drop k)
 |0,a,b,_=>by simp
 |k+1,[],b,h=>by have:=h.1;simp at this
 |k+1,a::d,[],h=>by have:=h.2.1;simp at this
 |k+1,a::d,b::e,h=>by
  obtain⟨f,g,c⟩:=h;simp only[JY,List.cons.injEq]at c;obtain⟨rfl,c⟩:=c;have:=NJ k d e ⟨by simpa using f,by simpa using g,c⟩;simp[common,this];omega
def xM{k:Nat}{a b:List UInt8}(h:alike k a b)(c:k<a.length)(d:k<b.length)(e:a[k]=b[k]):alike (k+1) a b:=
 ⟨c,d,by rw[CJ c,CJ d,h.2.2,e]⟩
def YL{k:Nat}{a b:List UInt8}(h:alike k a b)(c:k<a.length)(d:k<b.length)(e:a[k]≠b[k]):common a b=k:=by
 rw[NJ k a b h,Cf c,Cf d];simp[common,e]
def Py{k:Nat}{a b:List UInt8}(h:alike k a b)(c:a.length=k):common a b=k:=by
 rw[NJ k a b h,List.drop_of_length_le O];simp[common]
def UX{k:Nat}{a b:List UInt8}(h:alike k a b)(c:b.length=k):common a b=k:=by
 rw[SV];exact Py ⟨h.2.1,h.1,h.2.2.symm⟩ c
def qB{a b:UInt8}(h:a=b):(((a.toNat:Int))==(b.toNat:Int))=true:=by simp[h]
def lL{a b:UInt8}(h:a≠b):(((a.toNat:Int))==(b.toNat:Int))=false:=by
 rw[beq_eq_false_iff_ne];intro e;exact h (UInt8.toNat_inj.1 O)
def Fa:List UInt8->Nat
 |[]=>0
 |a::b=>a.toNat+16*Fa b
def VJ:∀(l:List UInt8),l.all DV=true->Fa l<16^l.length
 |[],_=>by simp[Fa]
 |a::l,h=>by
  simp only[lC,Bool.and_eq_true]at h;have:=VJ l h.2;have b:a.toNat<16:=by simpa[DV]using h.1
  simp only[Fa,Bv,JV];omega
def VK:∀(l m:List UInt8),Fa (l++m)=Fa l+16^l.length*Fa m
 |[],m=>by simp[Fa]
 |a::l,m=>by
  simp only[BD,Fa,VK l m,Bv,JV];have:16*(16^l.length*Fa m)=16^l.length*16*Fa m:=by rw[<-Om,J3 16]
  omega
def YM(l:List UInt8)(k:Nat)(h:k<l.length):Fa (l.take (k+1))=Fa (l.take k)+16^k*l[k].toNat:=by
 rw[CJ h,VK];simp[Fa,NW (Nat.le_of_lt h)]
def Aon(k:Nat):16^(k+1)=2^(4+4*k):=by
 rw[show(16:Nat)=2^4 from rfl,<-Nat.pow_mul];congr 1;omega
def VL(p:UInt8->Bool)(l:List UInt8)(k:Nat)(h:l.all p=true):(l.take k).all p=true:=by
 rw[EI]at h⊢;exact λb a=>h b (xE a)
def VM(p:UInt8->Bool)(l:List UInt8)(k:Nat)(h:l.all p=true):(l.drop k).all p=true:=by
 rw[EI]at h⊢;exact λb a=>h b (List.mem_of_mem_drop a)
def Zg{l:List UInt8}{k:Nat}(h:l.all DV=true)(a:k<l.length):l[k].toNat<16:=by
 rw[EI]at h;simpa[DV]using h l[k] (Cm a)
def Adj(l:List UInt8)(n k:Nat)(r:n<=15)(q:k<n)(c:k<l.length)(a:l.all DV=true):
 Aw IntKind.u64 (bits BinOp.or IntKind.u64 ((n:Int)+16*(Fa (l.take k):Int)) (IntKind.u64.wrap (IntKind.u64.wrap (l[k].toNat:Int)*2^(4+4*k))))=
  Aw IntKind.u64 ((n+16*Fa (l.take (k+1)):Nat):Int):=by
 have o:=Zg a c;have j:=VJ (l.take k) (VL _ _ _ a);rw[Ed,NW O]at j;have m:16^(k+1)<=16^15:=Fv U O;have d:16^(k+1)=16*16^k:=by rw[JV,J3]
 have b:n+16*Fa (l.take k)<16^(k+1):=O;have p:l[k].toNat*16^(k+1)<=15*16^(k+1):=Nat.mul_le_mul_right _ O;congr 1;have e:IntKind.u64.wrap (l[k].toNat:Int)=(l[k].toNat:Int):=IntWalk.u64_in _ O;have f:(l[k].toNat:Int)*2^(4+4*k)=((l[k].toNat*16^(k+1):Nat):Int):=by rw[Aon];simp
 rw[e,f,IntWalk.u64_in _ O];have g:(n:Int)+16*(Fa (l.take k):Int)=((n+16*Fa (l.take k):Nat):Int):=by simp
 rw[g,u64_or_nat _ _ O O];congr 1;rw[YM l k c];rw[Aon]at b d⊢;have i:=Nat.two_pow_add_eq_or_of_lt b l[k].toNat;rw[Nat.or_comm,J3,<-i,d];have:16*16^k*l[k].toNat=16*(16^k*l[k].toNat):=Om _ _ _;omega
def digits:Nat->Nat->List UInt8
 |0,_=>[]
 |b+1,a=>UInt8.ofNat (a%16)::digits b (a/16)
def digits_length:∀(k n:Nat),(digits k n).length=k
 |0,_=>rfl
 |k+1,n=>by simp[digits,digits_length k]
def Yc:∀(k n:Nat),digits (k+1) n=digits k n++[UInt8.ofNat (n/16^k%16)]
 |0,n=>by simp[digits]
 |k+1,n=>by
  rw[digits,Yc k (n/16),digits,BD,wZ,JV,J3 16]
def VN:∀(l:List UInt8),l.all DV=true->digits l.length (Fa l)=l
 |[],_=>rfl
 |a::l,h=>by
  simp only[lC,Bool.and_eq_true]at h;have b:a.toNat<16:=by simpa[DV]using h.1
  rw[Bv,Fa,digits,show(a.toNat+16*Fa l)/16=Fa l by omega,VN l h.2,show(a.toNat+16*Fa l)%16=a.toNat by omega];simp
def Abu(n:Nat):Aw .u8 ((n:Int)%16)=bv (UInt8.ofNat (n%16)):=by
 simp only[bv,UInt8.toNat_ofNat'];rw[Gs (show n%16<2^8 by omega)];simp
def lM(k n:Nat)(y:Nat)(c:k<n):
 (((digits k y++BB (n-k) (0:UInt8)).map bv).set k (bv (UInt8.ofNat (y/16^k%16))))=(digits (k+1) y++BB (n-(k+1)) (0:UInt8)).map bv:=by
 rw[Yc,<-SK,U3 _ _ (by rw[digits_length];omega),digits_length];obtain⟨a,b⟩:∃a,n-k=a+1:=⟨n-k-1,O⟩;rw[b,show n-(k+1)=a by omega,VG];simp
def pairs:List UInt8->List UInt8
 |a::b::c=>(a*16+b)::pairs c
 |_=>[]
def VO:∀(l:List UInt8),(pairs l).length=l.length/2
 |[]=>rfl
 |[_]=>by simp[pairs]
 |a::b::l=>by simp[pairs,VO l];omega
def Yd:∀(i:Nat)(l:List UInt8)(_:i%2=0)(h:i+1<l.length),pairs (l.take (i+2))=pairs (l.take i)++[l[i]*16+l[i+1]]
 |0,b::c::l,_,_=>by simp[pairs]
 |1,_,a,_=>by simp at a
 |i+2,b::c::l,a,h=>by
  have:=Yd i l O (by simp at h;omega);simp only[JY,pairs,BD,Aj];rw[this]
 |0,[],_,h=>by simp at h
 |0,[_],_,h=>by simp at h
 |i+2,[],_,h=>by simp at h
 |i+2,[_],_,h=>by simp at h
def xN(k:Nat)(l:List UInt8)(h:2*k+1<l.length):pairs (l.take (2*(k+1)))=pairs (l.take (2*k))++[l[2*k]*16+l[2*k+1]]:=
 Yd (2*k) l O h
def Z4(l:List UInt8):pairs (l.take (2*(l.length/2)))=pairs l:=by
 have c:∀(l:List UInt8),pairs (l.take (2*(l.length/2)))=pairs l:=by
  intro l;induction l using pairs.induct with
  |case1 a b l d=>
   rw[show 2*((a::b::l).length/2)=2*(l.length/2)+1+1 by simp;omega];simp[pairs,d]
  |case2 l h=>
   rcases l with _|⟨a,_|⟨b,l⟩⟩
   ·rfl
   ·simp[pairs]
   ·exact absurd rfl (h a b l)
 exact c l
def Ahc(a b:UInt8)(d:a.toNat<16)(e:b.toNat<16):(a*16+b)/16=a/\(a*16+b)%16=b:=by
 have c:(a*16+b).toNat=a.toNat*16+b.toNat:=by simp[UInt8.toNat_add,UInt8.toNat_mul];omega
 constructor
 ·apply UInt8.toNat_inj.1;rw[UInt8.toNat_div,c];simp;omega
 ·apply UInt8.toNat_inj.1;rw[UInt8.toNat_mod,c];simp;omega
def Z5:∀(l:List UInt8),l.length%2=0->l.all DV=true->Ci (pairs l)=l
 |[],_,_=>rfl
 |[_],h,_=>by simp at h
 |b::c::l,h,a=>by
  simp only[lC,Bool.and_eq_true]at a;have d:b.toNat<16:=by simpa[DV]using a.1
  have e:c.toNat<16:=by simpa[DV]using a.2.1
  have:=Z5 l (by simp at h;omega) a.2.2;simp only[Ci]at this⊢;simp[pairs,this,Ahc b c d e]
def Z7(l:List UInt8):(Ci l).all DV=true:=by
 rw[EI];intro c a;obtain⟨b,_,a⟩:=List.mem_flatMap.1 a;have:=b.toNat_lt;simp only[List.mem_cons,List.not_mem_nil,or_false]at a;rcases a with rfl|rfl<;>simp[DV]<;>omega
def UZ:∀(l:List UInt8),pairs (Ci l)=l
 |[]=>rfl
 |a::l=>by
  have:=UZ l;simp only[Ci]at this;simp only[Ci,Agt,BD,EK,pairs,this];congr 1;apply UInt8.toNat_inj.1;have:=a.toNat_lt;simp[UInt8.toNat_add,UInt8.toNat_mul];omega
def NS(l:List UInt8):Bool:=decide (l.length%2=0)&&l.all DV
def qC(l:List UInt8)(k h:Nat)(f:k<h)(b:2*k+1<l.length)(e:h=l.length/2):
 (((pairs (l.take (2*k))++BB (h-k) (0:UInt8)).map bv).set k (bv (l[2*k]*16+l[2*k+1])))=(pairs (l.take (2*(k+1)))++BB (h-(k+1)) (0:UInt8)).map bv:=by
 have c:(pairs (l.take (2*k))).length=k:=by rw[VO,Ed];omega
 rw[xN k l b,<-SK,U3 _ _ O,c];obtain⟨a,d⟩:∃a,h-k=a+1:=⟨h-k-1,O⟩;rw[d,show h-(k+1)=a by omega,VG];simp
def Abv(a b:UInt8):Aw .u8 (((a.toNat:Int)*16+(b.toNat:Int))%256)=bv (a*16+b):=by
 simp only[bv,UInt8.toNat_add,UInt8.toNat_mul];congr 1;simp
def VP(l:List UInt8)(k:Nat)(a:l.length<=k)(h:l.all DV=true):Fa l<16^k:=
 Be (VJ l h) (Fv U a)
def Nc:(16:Nat)^15=1152921504606846976:=by decide
def xO(l:List UInt8):NS (Ci l)=true:=by
 simp only[NS,Jl,Z7,Bool.and_true,decide_eq_true_eq];omega
def unpack_pack(l:List UInt8)(b:l.length<=15)(h:l.all DV=true):
 (l.length+16*Fa l)%16=l.length/\(l.length+16*Fa l)/16=Fa l/\Fa l/16^l.length=0/\digits l.length (Fa l)=l/\l.length+16*Fa l<18446744073709551616:=by
 have a:=VJ l h;have c:=VP l 15 b h;rw[Nc]at c;exact⟨O,O,Nat.div_eq_of_lt a,VN l h,O⟩
def Z8{a b:UInt8}(h1:a/16=b/16)(h2:a%16=b%16):a=b:=by
 apply UInt8.toNat_inj.1;have c:=congrArg UInt8.toNat h1;have d:=congrArg UInt8.toNat h2;simp at c d;omega
def iK(a:UInt8)(l:List UInt8):Ci (a::l)=a/16::a%16::Ci l:=rfl
def qE:Ci []=[]:=rfl
def qF:∀(a b:List UInt8),common (Ci a) (Ci b)=2*common a b\/common (Ci a) (Ci b)=2*common a b+1
 |[],_=>by simp[qE,common]
 |a::f,[]=>by simp[iK,qE,common]
 |a::f,b::g=>by
  have i:=qF f g;simp only[iK,common];by_cases c:a/16=b/16
  ·by_cases d:a%16=b%16
   ·have e:=Z8 c d;subst e;simp only[if_true];omega
   ·have e:a≠b:=λe=>d (by rw[e])
    rw[jM c,ku d,ku e];omega
  ·have e:a≠b:=λe=>c (by rw[e])
   rw[ku c,ku e];omega
def UI:∀(a b:List UInt8),common a (a++b)=a.length
 |[],_=>by simp[common]
 |a::c,b=>by simp[common,UI c b]
def SX:∀(a b:List UInt8),a.take (common a b)=b.take (common a b)
 |[],_=>by simp[common]
 |_::_,[]=>by simp[common]
 |a::c,b::d=>by
  simp only[common];by_cases h:a=b
  ·rw[jM h,JY,JY,h,SX c d]
  ·rw[ku h];rfl
def Ye:∀(a b:List UInt8)(h1:common a b<a.length)(h2:common a b<b.length),a[common a b]≠b[common a b]
 |[],_,h1,_=>by simp at h1
 |_::_,[],_,h2=>by simp at h2
 |a::c,b::d,h1,h2=>by
  by_cases h:a=b
  ·have e:common (a::c) (b::d)=common c d+1:=by simp[common,h]
   have f:common c d<c.length:=by simp[e]at h1;exact h1
   have g:common c d<d.length:=by simp[e]at h2;exact h2
   have i:=Ye c d f g;simp only[e,Aj];exact i
  ·have e:common (a::c) (b::d)=0:=by simp[common,h]
   simp only[e,List.getElem_cons_zero];exact h
def leB(x:UInt64)(i:Nat):UInt8:=UInt8.ofNat (x.toNat/256^i%256)
def Xo(x:UInt64)(i:Nat):(leB x i).toNat=x.toNat/256^i%256:=by
 unfold leB;rw[UInt8.toNat_ofNat'];exact Gs (U4 _ U)
def Xp(x:UInt64):List UInt8:=(Ep 8).map (leB x)
def Nh(x:UInt64):(Xp x).length=8:=by simp[Xp]
def xP(x:UInt64)(i:Nat)(h:i<8):(Xp x)[i]?=some (leB x i):=by simp[Xp,h]
def leBytes:List UInt64->List UInt8
 |[]=>[]
 |b::a=>Xp b++leBytes a
def leBytes_length:∀a:List UInt64,(leBytes a).length=8*a.length
 |[]=>rfl
 |b::a=>by rw[leBytes,AP,Nh,leBytes_length a,Bv];omega
def Jo:∀(l:List UInt64)(k i:Nat)(a:k<l.length)(_:i<8),(leBytes l)[8*k+i]?=some (leB l[k] i)
 |[],_,_,a,_=>by simp at a
 |c::l,0,i,_,b=>by
  rw[leBytes,List.getElem?_append_left (by rw[Nh];omega)];simpa using xP c i b
 |c::l,k+1,i,a,b=>by
  rw[leBytes,List.getElem?_append_right (by rw[Nh];omega),Nh,show 8*(k+1)+i-8=8*k+i by omega];exact Jo l k i (by simpa using a) b
def le_step(x:UInt64)(i:Nat):x.toNat%256^i+(leB x i).toNat*256^i=x.toNat%256^(i+1):=by
 rw[Xo,JV,Nat.mod_mul];rw[J3]
def Apl(x:UInt64):x.toNat%256^8=x.toNat:=Gs (by have:=x.toNat_lt;simpa using this)
def YN(l:List UInt64)(k:Nat)(n:UInt64)(i:Nat):List UInt8:=(leBytes l).mapIdx λa b=>if 8*k<=a/\a<8*k+i then leB n (a-8*k)else b
def Yf(l:List UInt64)(k:Nat)(n:UInt64)(i:Nat):(YN l k n i).length=8*l.length:=by simp[YN,leBytes_length]
def Adk(l:List UInt64)(k:Nat)(n:UInt64):YN l k n 0=leBytes l:=by
 apply J4;intro a;simp only[YN,NI];cases(leBytes l)[a]? with
 |none=>rfl
 |some b=>rw[Ez,ku O]
def Adl(l:List UInt64)(k:Nat)(n:UInt64)(i:Nat)(d:k<l.length)(hi:i<8):(YN l k n i).set (8*k+i) (leB n i)=YN l k n (i+1):=by
 apply J4;intro a;rw[Ic];by_cases c:8*k+i=a
 ·subst c;rw[jM rfl,jM (by rw[Yf];omega)];simp only[YN,NI,Jo l k i d hi,Ez];rw[jM O,show 8*k+i-8*k=i by omega]
 ·rw[ku c];simp only[YN,NI];cases(leBytes l)[a]? with
  |none=>rfl
  |some e=>
   simp only[Ez];by_cases b:8*k<=a/\a<8*k+i
   ·rw[jM b,jM O]
   ·rw[ku b,ku O]
def qG(l:List UInt64)(k:Nat)(n:UInt64)(_:k<l.length):YN l k n 8=leBytes (l.set k n):=by
 apply J4;intro a;by_cases i:a<8*l.length
 ·have e:a=8*(a/8)+a%8:=O;have d:a/8<l.length:=O;have f:a%8<8:=U4 _ U;have b:=Jo l (a/8) (a%8) d f;have c:=Jo (l.set k n) (a/8) (a%8) (by simpa using d) f;rw[<-e]at b c;simp only[YN,NI,b,c,Ez];rw[Lc];by_cases g:k=a/8
  ·rw[jM O,jM g,show a-8*k=a%8 by omega]
  ·rw[ku O,ku g]
 ·rw[FQ (by rw[Yf];omega),FQ (by rw[leBytes_length,List.length_set];omega)]
def lN:Nat:=2^64-1
def fieldN(n low size:Nat):Nat:=n/2^low%2^size
def EC(n low size v:Nat):Nat:=(n&&&(lN-(2^size-1)*2^low))|||((v&&&(2^size-1))*2^low)
def lQ(n b:Nat):Option Nat:=(Ep b).find? λa=> !n.testBit a
def MB:List Nat:=[0x00000000,0x105ec76f,0x20bd8ede,0x30e349b1,0x417b1dbc,0x5125dad3,0x61c69362,0x7198540d,0x82f63b78,0x92a8fc17,0xa24bb5a6,0xb21572c9,0xc38d26c4,0xd3d3e1ab,0xe330a81a,0xf36e6f75]
def QX(x:Nat):Nat:=(x/16)^^^MB.getD (x%16) 0
def TY(x c:Nat):Nat:=QX (QX (x^^^c))
def Nj(b:Nat)(l:List UInt8):Nat:=(l.foldl (λc a=>TY c a.toNat) (b^^^4294967295))^^^4294967295
structure Sh where
 lines:Nat
 BO:Nat
 table:Nat
 data:Nat
 deriving DecidableEq
def Kz(a:Nat):Nat:=2+(a+7)/8
def Pz(a:Nat):Nat:=Kz a+16*a
def Ky(b:Nat):Nat->Nat->Nat
 |0,a=>a
 |c+1,a=>if Pz (a+1)<=b then Ky b c (a+1)else a
def QY(a:Nat):Nat:=Ky a a 0
def shapeOf(a:Nat):Option Sh:=
 if a>1024 then none else
 let b:=QY a
 if b=0 then none else some {lines:=a,BO:=b,table:=128,data:=Kz b*64}
def headW(s:Sh):List UInt64:=[0x6c6c697473,1,Az s.lines,Az s.BO,Az s.table,Az s.data]
def wordsOf(s:Sh):List UInt64:=headW s++[Az (Nj 0 (leBytes (headW s))),0]
def Bi:Nat->Nat
 |1=>16
 |2=>4
 |_=>0
def Bd:Nat->Nat
 |1=>1
 |2=>4
 |_=>0
def Eb(w:Nat):Nat:=fieldN w 16 2
def KA(w:Nat):Nat:=fieldN w 0 16
def Gx(w:Nat):Bool:=w==0||(fieldN w 0 (Bi (Eb w))!=0&&EC (EC w 0 (Bi (Eb w)) 0) 16 2 0==0)
def Ba(w:Nat):Nat:=if Gx w then Eb w else 0
def EM(w:Nat)(a:Nat):Bool:=decide (a<Bi (Ba w))&&fieldN w a 1==1
def UJ(w:Nat):List Nat:=(Ep (Bi (Ba w))).filter (EM w)
def MC(w c:Nat):Bool:=Gx w&&decide (0<Bi c)&&(w==0||Eb w==c)
def Lh(w c:Nat):Option Nat:=if MC w c then lQ (KA w) (Bi c)else none
def FU(w c a:Nat):Nat×Bool:=if !MC w c||decide (Bi c<=a)||EM w a then(w,false)else(EC (EC w a 1 1) 16 2 c,true)
def Em(w a:Nat):Nat×Bool:=if !EM w a then(w,false)else if KA (EC w a 1 0)=0 then(0,true)else(EC w a 1 0,true)
structure Nd where
 pre:List UInt8
 val:UInt64
 labels:List UInt8
 kids:List UInt64
def DY:List UInt8->Bool
 |b::a::c=>decide (b.toNat<a.toNat)&&DY (a::c)
 |_=>true
def Hz:∀(l:List UInt8),DY l=true<->∀a(h:a+1<l.length),l[a].toNat<l[a+1].toNat
 |[]=>by simp[DY]
 |[_]=>by simp[DY]
 |g::c::l=>by
  have f:=Hz (c::l);simp only[DY,Bool.and_eq_true,decide_eq_true_eq,f];constructor
  ·rintro⟨d,e⟩a b;rcases a with _|a
   ·simpa using d
   ·exact e a (by simpa using b)
  ·intro h;exact⟨by simpa using h 0 Θ,λa b=>h (a+1) (by simpa using b)⟩
def Ql(l:List UInt8)(k:Nat)(f:k<l.length)(h:DY (l.take k)=true)(d:∀b,k=b+1->(h:b<l.length)->l[b].toNat<l[k].toNat):DY (l.take (k+1))=true:=by
 rw[Hz]at h⊢;intro a c;simp only[Ed]at c;simp only[Agu];by_cases e:a+1=k
 ·subst e;exact d a rfl O
 ·have:=h a (by simp;omega);simpa using this
def qH(l:List UInt8)(j:Nat)(b:j+1<l.length)(h:DY (l.take (j+1))=true)(c:l[j].toNat<l[j+1].toNat):DY (l.take (j+1+1))=true:=
 Ql l (j+1) b h (λd a _=>by cases a;exact c)
def BU(x:Nd):Bool:=
 decide (x.pre.length<=15)&&x.pre.all DV&&decide (x.labels.length=x.kids.length)&&x.labels.all DV&&DY x.labels&&x.kids.all (λa=>a.toNat !=0)
def Bh(x:Nd):BU x=true<->x.pre.length<=15/\x.pre.all DV=true/\x.labels.length=x.kids.length/\x.labels.all DV=true/\DY x.labels=true/\∀a(h:a<x.kids.length),x.kids[a].toNat≠0:=by
 simp only[BU,Bool.and_eq_true,decide_eq_true_eq,and_assoc,EI (p:=λj:UInt64=>j.toNat !=0),bne_iff_ne,ne_eq];constructor
 ·rintro⟨b,c,d,e,f,g⟩;exact⟨b,c,d,e,f,λa i=>g _ (Cm i)⟩
 ·rintro⟨b,c,d,e,f,g⟩;refine⟨b,c,d,e,f,λj k=>?_⟩;obtain⟨a,i,rfl⟩:=Dw k;exact g a i
def lS(x:Nd)(k:Nat)(a:k<x.labels.length)(h:¬x.labels[k].toNat<16):BU x=false:=by
 cases b:BU x with
 |false=>rfl
 |true=>
  have:=((Bh x).1 b).2.2.2.1;exact absurd (Zg this a) h
def gq(x:Nd)(j:Nat)(a:j+1<x.labels.length)(h:¬x.labels[j].toNat<x.labels[j+1].toNat):BU x=false:=by
 cases b:BU x with
 |false=>rfl
 |true=>
  have:=((Bh x).1 b).2.2.2.2.1;exact absurd ((Hz _).1 this j a) h
def lT(x:Nd)(h:¬(x.pre.length<=15/\x.pre.all DV=true)):BU x=false:=by
 cases a:BU x with
 |false=>rfl
 |true=>exact absurd ⟨((Bh x).1 a).1,((Bh x).1 a).2.1⟩ h
def lU(x:Nd)(h:x.labels.length≠x.kids.length):BU x=false:=by
 cases a:BU x with
 |false=>rfl
 |true=>exact absurd ((Bh x).1 a).2.2.1 h
def xQ(x:Nd)(h1:x.pre.length<=15)(h2:x.pre.all DV=true)(h3:x.labels.length=x.kids.length)(h4:x.labels.all DV=true)(c:DY x.labels=true):
 BU x= !(x.kids.any λe=>e.toNat==0):=by
 rw[Bool.eq_iff_iff,Bh];simp only[Bool.not_eq_true',List.any_eq_false,beq_iff_eq];constructor
 ·rintro⟨_,_,_,_,_,h⟩f d;obtain⟨b,a,rfl⟩:=Dw d;exact h b a
 ·intro h;exact⟨h1,h2,h3,h4,c,λb a=>h _ (Cm a)⟩
def Dp(x:Nd):Nat:=if x.kids.length<=4 then 1 else 2
def placeOf{a:Type}(p:a->Bool)(l:List a):Int:=match l.findIdx? p with|some b=>(b:Int)|none=> -1
def Yg{b:Type}(p:b->Bool)(l:List b)(k:Nat)(d:k<l.length)(e:∀a(h:a<k),p (l[a]' O)=false)(f:p l[k]=true):placeOf p l=(k:Int):=by
 have:l.findIdx? p=some k:=by
  rw[List.findIdx?_eq_some_iff_getElem];exact⟨d,f,λa c=>by simp[e a c]⟩
 simp[placeOf,this]
def VQ{b:Type}(p:b->Bool)(l:List b)(d:∀a(h:a<l.length),p l[a]=false):placeOf p l= -1:=by
 have:l.findIdx? p=none:=by
  rw[List.findIdx?_eq_none_iff];intro g e;obtain⟨f,c,rfl⟩:=Dw e;exact d f c
 simp[placeOf,this]
def Gv(l:List UInt8):UInt64:=Az (l.length+16*Fa l)
def CO:List UInt64->List UInt8->List UInt64->List UInt64
 |a,b::c,d::e=>CO (a.set (4+b.toNat) d) c e
 |a,_,_=>a
def OA:∀(row:List UInt64)(a:List UInt8)(b:List UInt64),(CO row a b).length=row.length
 |row,c::a,d::b=>by rw[CO,OA];simp
 |row,[],_=>by simp[CO]
 |row,_::_,[]=>by simp[CO]
def P5:∀(row:List UInt64)(a:List UInt8)(b:List UInt64)(i:Nat)(h1:i<a.length)(h2:i<b.length),
 CO row (a.take (i+1)) (b.take (i+1))=(CO row (a.take i) (b.take i)).set (4+a[i].toNat) b[i]
 |row,c::a,d::b,0,_,_=>by simp[CO]
 |row,c::a,d::b,i+1,h1,h2=>by
  have:=P5 (row.set (4+c.toNat) d) a b i (by simpa using h1) (by simpa using h2);simpa[CO]using this
 |_,[],_,_,h1,_=>by simp at h1
 |_,_::_,[],_,_,h2=>by simp at h2
def encS(x:Nd):List UInt64:=[Az (1+256*x.kids.length),Gv x.pre,x.val,Gv x.labels]++x.kids++BB (4-x.kids.length) 0
def headB(x:Nd):List UInt64:=[Az (2+256*x.kids.length),Gv x.pre,x.val]++BB 29 0
def SY(x:Nd):List UInt64:=CO (headB x) x.labels x.kids
def DL(x:Nd):List UInt64:=if x.kids.length<=4 then encS x else SY x
def Yh(x:Nd)(h:x.kids.length<=4):(encS x).length=8:=by simp[encS];omega
def Yi(x:Nd):(SY x).length=32:=by simp[SY,OA,headB]
def Hm(x:Nd):(DL x).length=if x.kids.length<=4 then 8 else 32:=by
 unfold DL;split
 ·rename_i h;exact Yh x h
 ·exact Yi x
def Jp(u:Nat)(a:List UInt64):List UInt8×List UInt64:=
 if u/16/16^(u%16)=0/\u%16<=4 then(digits (u%16) (u/16),a.take (u%16))else([],[])
def JL:Nat->List UInt64->List UInt8
 |_,[]=>[]
 |a,b::t=>if b.toNat=0 then JL (a+1) t else UInt8.ofNat a::JL (a+1) t
def KP(t:List UInt64):List UInt64:=t.filter λa=>a.toNat !=0
def Z9:∀(i:Nat)(t:List UInt64)(x:UInt64),JL i (t++[x])=JL i t++(if x.toNat=0 then[]else[UInt8.ofNat (i+t.length)])
 |i,[],x=>by simp only[EK,JL];split<;>simp
 |i,a::t,x=>by
  have:=Z9 (i+1) t x;simp only[BD,JL,this,Bv];rw[show i+1+t.length=i+(t.length+1)by omega];split<;>simp
def xR(t:List UInt64)(x:UInt64):KP (t++[x])=KP t++(if x.toNat=0 then[]else[x]):=by
 simp only[KP,List.filter_append,Ag0,List.filter_nil];by_cases h:x.toNat=0<;>simp[h]
def P7:∀(i:Nat)(t:List UInt64),(JL i t).length=(KP t).length
 |_,[]=>rfl
 |i,a::t=>by
  have:=P7 (i+1) t;simp only[JL,KP,Ag0]at this⊢;by_cases h:a.toNat=0<;>simp[h,this]
def ZA(t:List UInt64):(KP t).length<=t.length:=List.length_filter_le _ _
def En(u:Nat):List UInt8:=if u/16/16^(u%16)=0 then digits (u%16) (u/16)else[]
def Ahd(l:List UInt64):Nd:=
 {pre:=En (l.getD 1 0).toNat,val:=l.getD 2 0,labels:=(Jp (l.getD 3 0).toNat (l.drop 4)).1,kids:=(Jp (l.getD 3 0).toNat (l.drop 4)).2}
def xU(l:List UInt64):Nd:=
 {pre:=En (l.getD 1 0).toNat,val:=l.getD 2 0,labels:=JL 0 ((l.drop 4).take 16),kids:=KP ((l.drop 4).take 16)}
def Fb(l:List UInt64):Nd:=if l.length=8 then Ahd l else xU l
def Jd(l:List UInt64):Bool:=(decide (l.length=8)||decide (l.length=32))&&(BU (Fb l)&&decide (DL (Fb l)=l))
def iL(u:Nat):(En u).length<=15:=by
 unfold En;split
 ·rw[digits_length];omega
 ·simp
def xW(x:Nd)(v:UInt64):BU {x with val:=v}=BU x:=rfl
def VR:∀(row a:List UInt64)(d:List UInt8)(e:List UInt64)(i:Nat),row.length=a.length->(∀c,c≠2->row[c]?=a[c]?)->i≠2->(CO row d e)[i]?=(CO a d e)[i]?
 |row,a,j::d,k::e,i,f,h,b=>by
  simp only[CO];refine VR _ _ d e i (by simp[f]) (λc g=>?_) b;rw[Ic,Ic,h c g,f]
 |row,a,[],_,i,_,h,b=>by simp only[CO];exact h i b
 |row,a,_::_,[],i,_,h,b=>by simp only[CO];exact h i b
def Yj:∀(row:List UInt64)(a:List UInt8)(b:List UInt64),(CO row a b)[2]?=row[2]?
 |row,c::a,d::b=>by
  simp only[CO];rw[Yj,Ic];simp;omega
 |row,[],_=>by simp[CO]
 |row,_::_,[]=>by simp[CO]
def Ahe(x:Nd)(v:UInt64)(i:Nat)(hi:i≠2):(DL {x with val:=v})[i]?=(DL x)[i]?:=by
 unfold DL;by_cases h:x.kids.length<=4
 ·simp only[jM h,encS];rcases i with _|_|_|i
  ·rfl
  ·rfl
  ·exact absurd rfl hi
  ·simp
 ·simp only[ku h,SY];refine VR _ _ _ _ i (by simp[headB]) (λa b=>?_) hi;rcases a with _|_|_|a
  ·rfl
  ·rfl
  ·exact absurd rfl b
  ·simp[headB]
def Ahf(x:Nd):(DL x)[2]?=some x.val:=by
 unfold DL;split
 ·simp[encS]
 ·rw[SY,Yj];simp[headB]
def BX(ws:Nat->UInt64)(j:Nat)(xs:List UInt64)(i:Nat):UInt64:=if j<=i/\i<j+xs.length then xs.getD (i-j) 0 else ws i
def Dt(ws:Nat->UInt64)(j:Nat)(x:UInt64)(i:Nat):UInt64:=if i=j then x else ws i
def wordsAt(ws:Nat->UInt64)(j n:Nat):List UInt64:=(Ep n).map λt=>ws (j+t)
structure St where
 sh:Sh
 ws:Nat->UInt64
 tk:List UInt64
 hd:List UInt64
def GZ(s:St)(i:Nat):Nat:=(s.tk.getD i 0).toNat
def hdN(s:St)(i:Nat):Nat:=(s.hd.getD i 0).toNat
def C9(s:St)(i:Nat):Nat:=GZ s i|||hdN s i
def Df(sh:Sh)(i c a:Nat):Nat:=sh.data+1024*i+64*Bd c*a
def Iq(s:St)(off:Int):Option (Nat×Nat):=
 if off<(s.sh.data:Int)\/(s.sh.data+1024*s.tk.length:Nat)<=off then none else
 if Bd (Ba (C9 s ((off.toNat-s.sh.data)/1024)))=0\/(off.toNat-s.sh.data)%1024%(64*Bd (Ba (C9 s ((off.toNat-s.sh.data)/1024))))≠0 then none else
 some ((off.toNat-s.sh.data)/1024,(off.toNat-s.sh.data)%1024/(64*Bd (Ba (C9 s ((off.toNat-s.sh.data)/1024)))))
def DD(s:St)(off:Int):Nat:=
 match Iq s off with
 |none=>0
 |some (a,b)=>if EM (GZ s a) b then Ba (GZ s a)else 0
def MF(s:St)(k c:Nat):Option Nat:=(Ep s.tk.length).find? λa=>decide (Ba (C9 s a)=k)&&(Lh (C9 s a) c).isSome
def Nk(s:St)(c:Nat):Option Nat:=match MF s c c with|some a=>some a|none=>MF s 0 c
def DT(s:St)(c:Nat):Option (Nat×St):=
 match Nk s c with
 |none=>none
 |some a=>match Lh (C9 s a) c with
  |none=>none
  |some b=>some (Df s.sh a c b,{s with hd:=s.hd.set a (Az (FU (hdN s a) c b).1)})
def Xq(s:St)(i:Nat)(x:UInt64):St:={s with ws:=Dt s.ws (s.sh.table/8+i) x,tk:=s.tk.set i x}
def Lj(s:St)(off:Int):St×Int:=
 match Iq s off with
 |none=>(s,7)
 |some (a,b)=>if EM (hdN s a) b then
  ({Xq s a (Az (FU (GZ s a) (Ba (hdN s a)) b).1)with hd:=s.hd.set a (Az (Em (hdN s a) b).1)},0)
  else(s,7)
def FM(s:St)(off:Int):St×Int:=
 match Iq s off with
 |none=>(s,7)
 |some (a,b)=>
  if(Em (hdN s a) b).2 then({s with hd:=s.hd.set a (Az (Em (hdN s a) b).1)},0)
  else if(Em (GZ s a) b).2 then(Xq s a (Az (Em (GZ s a) b).1),0)
  else(s,7)
def allP(s:St):List Nat:=(Ep s.tk.length).flatMap λa=>(UJ (GZ s a)).map λb=>Df s.sh a (Ba (GZ s a)) b
def Ll(sh:Sh):Nat->UInt64:=BX (λ_=>0) 0 (wordsOf sh)
def Bf(x:UInt64):Int:=IntKind.i64.wrap (x.toNat:Int)
def FC(s:St)(a:UInt64):Option Nd:=
 if Bd (DD s (Bf a))=0 then none else
 if Jd (wordsAt s.ws ((Bf a).toNat/8) (8*Bd (DD s (Bf a))))then some (Fb (wordsAt s.ws ((Bf a).toNat/8) (8*Bd (DD s (Bf a)))))else none
structure Pl where
 nd:Nd
 off:Int
 label:UInt8
 word:Int
def Jq(l:List UInt8)(x:UInt8):Option Nat:=l.findIdx? λa=>a.toNat==x.toNat
def PU(x:Nd)(b:UInt8):Option (UInt64×Nat):=
 match Jq x.labels b with
 |some a=>if BU x then some (x.kids.getD a 0,if x.kids.length<=4 then 4+a else 4+b.toNat)else none
 |none=>none
def Es(s:St):Nat->UInt64->List UInt8->UInt8->Int->List Pl->Option (List Pl×List UInt8)
 |0,_,a,_,_,d=>some (d,a)
 |g+1,c,a,e,f,d=>
  if c=0 then some (d,a)else
  match FC s c with
  |none=>none
  |some b=>
   if common b.pre a<b.pre.length\/common b.pre a=a.length then some (d++[⟨b,Bf c,e,f⟩],a)else
   match PU b (a.getD (common b.pre a) 0)with
   |none=>some (d++[⟨b,Bf c,e,f⟩],a)
   |some (i,j)=>Es s g i (a.drop (common b.pre a+1)) (a.getD (common b.pre a) 0) (Bf c+8*j) (d++[⟨b,Bf c,e,f⟩])
def ER(s:St)(key:List UInt8):Option (List Pl×List UInt8):=Es s (2*key.length+1) (s.ws 9) (Ci key) 0 72 []
def CV(b:List Pl)(rest:List UInt8):Option Pl:=
 match b.getLast? with
 |none=>none
 |some a=>if a.nd.pre=rest then some a else none
def GR(s:St)(key:List UInt8):UInt64×Int:=
 if 16<key.length then(0,3)else
 match ER s key with
 |none=>(0,5)
 |some (c,b)=>match CV c b with
  |none=>(0,7)
  |some a=>if a.nd.val=0 then(0,7)else(a.nd.val,0)
structure Jb where
 s:St
 made:List Int
def FV(j:Jb)(n:Nd):Jb×UInt64×Int:=
 if !BU n then(j,0,5)else
 match DT j.s (Dp n)with
 |none=>(j,0,6)
 |some (a,b)=>
  match Lj {b with ws:=BX b.ws (a/8) (DL n)} a with
  |(c,e)=>if e=0 then(⟨c,j.made++[(a:Int)]⟩,Az a,0)else(⟨c,j.made++[(a:Int)]⟩,0,e)
def Qm(l:List UInt8)(x:UInt8):Bool:=l.any λa=>a.toNat==x.toNat
def JA(x:Nd)(a:UInt8)(b:UInt64):Bool:=BU x&&decide (a.toNat<16)&& !(b.toNat==0)&& !Qm x.labels a
def Ko{a:Type}(xs:List a)(i:Nat)(u:a):List a:=xs.take i++u::xs.drop i
def JS{a:Type}(xs:List a)(i:Nat):List a:=xs.take i++xs.drop (i+1)
def Gi(l:List UInt8)(x:UInt8):Nat:=l.countP λa=>decide (a.toNat<x.toNat)
def Ie(x:Nd)(a:UInt8)(b:UInt64):Nd:={pre:=x.pre,val:=x.val,labels:=Ko x.labels (Gi x.labels a) a,kids:=Ko x.kids (Gi x.labels a) b}
def Tc(x:Nd)(i:Nat):Nd:={pre:=x.pre,val:=x.val,labels:=JS x.labels i,kids:=JS x.kids i}
def Iw(j:Jb)(n:Nd)(b:UInt8)(a:UInt64)(e:Int):Jb×UInt64×Int:=
 if e≠0 then(j,0,e)else
 if JA n b a then FV j (Ie n b a)else(j,0,5)
def Nw:Nat->Jb->List UInt8->UInt64->Jb×UInt64×Int
 |0,b,_,_=>(b,0,5)
 |d+1,b,a,c=>
  if a.length<=15 then FV b ⟨a,c,[],[]⟩else
  match Nw d b (a.drop 16) c with
  |(f,g,e)=>Iw f ⟨a.take 15,0,[],[]⟩ (a.getD 15 0) g e
def Sj(j:Jb)(x:Nd)(rest:List UInt8)(c:UInt64):Jb×UInt64×Int:=
 if common x.pre rest=x.pre.length then
  match Nw (rest.length+1) j (rest.drop (common x.pre rest+1)) c with
  |(a,b,e)=>Iw a x (rest.getD (common x.pre rest) 0) b e
 else
  match FV j {x with pre:=x.pre.drop (common x.pre rest+1)}with
  |(a,b,e)=>
   if common x.pre rest=rest.length then Iw a ⟨x.pre.take (common x.pre rest),c,[],[]⟩ (x.pre.getD (common x.pre rest) 0) b e else
   if e≠0 then(a,0,e)else
   if JA ⟨x.pre.take (common x.pre rest),0,[],[]⟩ (x.pre.getD (common x.pre rest) 0) b then
    match Nw (rest.length+1) a (rest.drop (common x.pre rest+1)) c with
    |(g,d,f)=>Iw g (Ie ⟨x.pre.take (common x.pre rest),0,[],[]⟩ (x.pre.getD (common x.pre rest) 0) b) (rest.getD (common x.pre rest) 0) d f
   else(a,0,5)
def Et(s:St)(l:List Int):St:=l.foldl (λs a=>(FM s a).1) s
def KC:St->List Int->Int->St×Int
 |a,[],e=>(a,e)
 |a,b::c,e=>KC (FM a b).1 c (if e=0 then(FM a b).2 else e)
def EG(j:Jb)(e:Int)(c:Int)(a:UInt64)(b:List Int):St×Int:=
 if e≠0 then(Et j.s j.made,e)else KC {j.s with ws:=Dt j.s.ws (c.toNat/8) a} b 0
def QZ(s:St)(a:Pl)(n:UInt64):St:={s with ws:=Dt s.ws (a.off.toNat/8+2) n}
def Qn(s:St)(key:List UInt8)(c:UInt64):St×Int:=
 if 16<key.length then(s,3)else if c=0 then(s,2)else
 match ER s key with
 |none=>(s,5)
 |some (g,b)=>match CV g b with
  |some a=>(QZ s a c,0)
  |none=>match g.getLast? with
   |none=>match Nw (b.length+1) ⟨s,[]⟩ b c with
    |(d,f,e)=>EG d e 72 f []
   |some a=>match Sj ⟨s,[]⟩ a.nd b c with
    |(d,f,e)=>EG d e a.word f [a.off]
def Ho(d:List Pl):Nat->List Int->Nat×List Int
 |0,b=>(0,b)
 |a+1,b=>match d[a]?,d[a+1]? with
  |some c,some _=>if c.nd.val=0/\c.nd.kids.length=1 then Ho d a (b++[c.off])else(a+1,b)
  |_,_=>(a+1,b)
def KD(j:Jb)(b:List Pl):St×Int:=
 match Ho b (b.length-1) [(b.getLast?.map (·.off)).getD 0]with
 |(0,c)=>EG j 0 72 0 c
 |(d+1,c)=>match b[d]?,b[d+1]? with
  |some a,some f=>match Jq a.nd.labels f.label with
   |some g=>if BU a.nd then match FV j (Tc a.nd g)with
    |(i,k,e)=>EG i e a.word k (c++[a.off])
    else(j.s,5)
   |none=>(j.s,5)
  |_,_=>(j.s,5)
def Qo(s:St)(key:List UInt8):St×UInt64×Int:=
 if 16<key.length then(s,0,3)else
 match ER s key with
 |none=>(s,0,5)
 |some (c,d)=>match CV c d with
  |none=>(s,0,7)
  |some a=>if a.nd.val=0 then(s,0,7)else
   match(if a.nd.kids.length=0 then KD ⟨s,[]⟩ c else(s,6))with
   |(b,e)=>if e=6 then(QZ b a 0,a.nd.val,0)else if e=0 then(b,a.nd.val,0)else(b,0,e)
def Ei(s:St):Nat->UInt64->List UInt8->List (List UInt8×UInt64)×List Int->Option (List (List UInt8×UInt64)×List Int)
 |0,_,_,_=>none
 |f+1,b,ahead,(c,e)=>
  match FC s b with
  |none=>none
  |some a=>
   if e.contains (Bf b)\/32<(ahead++a.pre).length then none else
   if a.val≠0/\NS (ahead++a.pre)=false then none else
   (a.labels.zip a.kids).foldlM (λg(d:UInt8×UInt64)=>Ei s f d.2 (ahead++a.pre++[d.1]) g)
    (if a.val≠0 then c++[(pairs (ahead++a.pre),a.val)]else c,e++[Bf b])
def DW(s:St):Option (List (List UInt8×UInt64)×List Int):=
 if s.ws 9=0 then some ([],[])else Ei s 34 (s.ws 9) [] ([],[])
structure Rc where
 stamp:UInt64
 next:UInt64
 gone:Bool
 text:ByteArray
def DZ(r:Rc):Bool:= !(r.stamp.toNat==0)&&decide (r.text.size<=40)&&(!r.gone||decide (r.text.size=0))
def U8:List UInt8->Nat
 |[]=>0
 |a::b=>a.toNat+256*U8 b
def lV:∀(l:List UInt8),U8 l<256^l.length
 |[]=>by simp[U8]
 |a::l=>by
  have:=lV l;have b:=a.toNat_lt;rw[U8,Bv,JV];omega
def iM:∀(l:List UInt8)(b:UInt8),U8 (l++[b])=U8 l+b.toNat*256^l.length
 |[],b=>by simp[U8]
 |a::l,b=>by
  have:=iM l b;rw[BD,U8,this,U8,Bv,JV,Nat.mul_add];have e:256*(b.toNat*256^l.length)=b.toNat*(256^l.length*256):=by rw[J3 256,Om]
  omega
def LX(l:List UInt8)(k:Nat):UInt64:=Az (U8 ((l.drop (8*k)).take 8))
def textW(l:List UInt8):List UInt64:=(Ep 5).map (LX l)
def VS(l:List UInt8):(textW l).length=5:=by simp[textW]
def TZ(l:List UInt8)(k:Nat):(LX l k).toNat=U8 ((l.drop (8*k)).take 8):=by
 unfold LX
 have:=lV ((l.drop (8*k)).take 8)
 have a:256^((l.drop (8*k)).take 8).length<=256^8:=Fv U (by simp;omega)
 rw [Ia]
 exact Gs (by have:(256:Nat)^8=2^64:=by decide
              omega)
def ZB(l:List UInt8)(i:Nat)(hi:i<l.length):(LX (l.take (i+1)) (i/8)).toNat=(LX (l.take i) (i/8)).toNat+l[i].toNat*256^(i%8):=by
 rw[TZ,TZ];have e:((l.take (i+1)).drop (8*(i/8))).take 8=((l.take i).drop (8*(i/8))).take 8++[l[i]]:=by
  have b:((l.take i).drop (8*(i/8))).length<=8:=by simp;omega
  have a:((l.take i).drop (8*(i/8))++[l[i]]).length<=8:=by simp;omega
  rw[CJ hi,List.drop_append_of_le_length (by simp;omega),EL a,EL b]
 have a:(((l.take i).drop (8*(i/8))).take 8).length=i%8:=by simp;omega
 rw[e,iM,a]
def qI(l:List UInt8)(i k:Nat)(a:k≠i/8):LX (l.take (i+1)) k=LX (l.take i) k:=by
 unfold LX;congr 2;rw[Alg,Alg,Alh,Alh];by_cases h:k<i/8
 ·rw[show min 8 (i+1-8*k)=8 by omega,show min 8 (i-8*k)=8 by omega]
 ·rw[show min 8 (i+1-8*k)=0 by omega,show min 8 (i-8*k)=0 by omega]
def xX(l:List UInt8)(i:Nat):(LX (l.take i) (i/8)).toNat<256^(i%8):=by
 rw[TZ];have:=lV (((l.take i).drop (8*(i/8))).take 8);exact Be this (Fv U (by simp;omega))
def xY(l:List UInt8)(i:Nat)(hi:i<l.length)(x:UInt64)(c:x.toNat=(LX (l.take i) (i/8)).toNat+l[i].toNat*256^(i%8)):(textW (l.take i)).set (i/8) x=textW (l.take (i+1)):=by
 have d:x=LX (l.take (i+1)) (i/8):=UInt64.toNat_inj.1 (by rw[c,ZB l i hi]);apply Fz
 ·simp[textW]
 ·intro b f g;rw[Lc];simp only[textW,SL,Qj];by_cases a:i/8=b
  ·rw[jM a,d,a]
  ·rw[ku a,qI l i b (λe=>a e.symm)]
def ZC:textW []=[0,0,0,0,0]:=by decide
def Iy(n:Nat)(g:Bool):Nat:=3+65536*n+(if g then 256 else 0)
def Ee(r:Rc):List UInt64:=[Az (Iy r.text.size r.gone),r.stamp,r.next]++textW r.text.data.toList
def Iz(r:Rc):(Ee r).length=8:=by simp[Ee,VS]
def Va(l:List UInt64):Rc:=
 {stamp:=l.getD 1 0,next:=l.getD 2 0,gone:=decide ((l.getD 0 0).toNat/256%2=1),text:=⟨((leBytes (l.drop 3)).take ((l.getD 0 0).toNat/65536)).toArray⟩}
def OB(l:List UInt64):Option Rc:=
 if l.length=8/\(l.getD 0 0).toNat/65536<=40 then
  if DZ (Va l)=true/\Ee (Va l)=l then some (Va l)else none
 else none
def qJ:∀(l:List UInt8)(i:Nat)(hi:i<l.length),U8 l/256^i%256=l[i].toNat
 |a::l,0,_=>by
  have:=a.toNat_lt;simp[U8]
 |a::l,i+1,hi=>by
  have b:=a.toNat_lt;have:=qJ l i (by simpa using hi);rw[U8,JV,J3 (256^i) 256,<-wZ,show(a.toNat+256*U8 l)/256=U8 l by omega,this];rfl
def Adm(l:List UInt8)(i:Nat)(hi:i<l.length):leB (LX l (i/8)) (i%8)=l[i]:=by
 apply UInt8.toNat_inj.1;rw[Xo,TZ,qJ _ _ (by simp;omega)];simp only[Agu,List.getElem_drop];congr 2;omega
def KQ(r:Rc):DZ r=true<->r.stamp.toNat≠0/\r.text.size<=40/\(r.gone=true->r.text.size=0):=by
 simp only[DZ,Bool.and_eq_true,decide_eq_true_eq,Bool.not_eq_true',beq_eq_false_iff_ne,Bool.or_eq_true,and_assoc];cases r.gone<;>simp
def Adn{n:Nat}(h:n<=40)(g:Bool):Iy n g<18446744073709551616:=by
 unfold Iy;split<;>omega
def Rf{n:Nat}(h:n<=40)(g:Bool):(Az (Iy n g)).toNat=Iy n g:=by
 rw[Ia];exact Gs (Adn h g)
def Vb(r:Rc)(h:DZ r=true):Va (Ee r)=r:=by
 obtain⟨o,j,p⟩:=(KQ r).1 h;have c:((Ee r).getD 0 0).toNat=Iy r.text.size r.gone:=by
  simp only[Ee,BD,Abl];exact Rf j _
 have d:Iy r.text.size r.gone/65536=r.text.size:=by unfold Iy;split<;>omega
 have e:Iy r.text.size r.gone/256%2=if r.gone then 1 else 0:=by unfold Iy;split<;>omega
 have f:(Ee r).drop 3=textW r.text.data.toList:=rfl;have q:r.text.size=r.text.data.toList.length:=rfl;unfold Va;rw[c,d,e,f];have i:(leBytes (textW r.text.data.toList)).take r.text.size=r.text.data.toList:=by
  apply J4;intro a;rw[Di];by_cases b:a<r.text.size
  ·rw[jM b];have:=Jo (textW r.text.data.toList) (a/8) (a%8) (by rw[VS];omega) O;rw[show 8*(a/8)+a%8=a by omega]at this;rw[this];simp only[textW,SL,Qj];rw[Adm _ _ O,Ah O]
  ·rw[ku b,FQ O]
 rw[i];have g:decide ((if r.gone=true then 1 else 0)=1)=r.gone:=by cases r.gone<;>rfl
 rw[g];cases r with
 |mk k l m n=>simp only[Rc.mk.injEq];exact⟨rfl,rfl,trivial,trivial⟩
def Ado(r:Rc)(h:DZ r=true):OB (Ee r)=some r:=by
 obtain⟨d,a,e⟩:=(KQ r).1 h;have b:((Ee r).getD 0 0).toNat=Iy r.text.size r.gone:=by
  simp only[Ee,BD,Abl];exact Rf a _
 have c:Iy r.text.size r.gone/65536=r.text.size:=by unfold Iy;split<;>omega
 unfold OB;rw[jM ⟨Iz r,by rw[b,c];exact a⟩,Vb r h,jM ⟨h,rfl⟩]
structure Lk where
 off:Int
 rc:Rc
def ES(l:List Lk):Nat:=match l.getLast? with|none=>18446744073709551616|some a=>a.rc.stamp.toNat
def Vd(s:St):Nat->UInt64->List Lk->Option (List Lk)
 |0,_,_=>none
 |d+1,a,b=>
  if a.toNat=0 then some b else
  if DD s (Bf a)≠1 then none else
  match OB (wordsAt s.ws ((Bf a).toNat/8) 8)with
  |none=>none
  |some c=>if ES b<=c.stamp.toNat then none else Vd s d c.next (b++[⟨Bf a,c⟩])
def IE(s:St)(first:UInt64):Option (List Lk):=Vd s 18446744073709551618 first []
def MG(s:St)(r:Rc):St×UInt64×Int:=
 if DZ r=false then(s,0,2)else
 match DT s 1 with
 |none=>(s,0,6)
 |some (a,b)=>
  match Lj {b with ws:=BX b.ws (a/8) (Ee r)} a with
  |(c,e)=>if e=0 then(c,Az a,0)else((FM c a).1,0,e)
def YO:List Lk->Nat->Option ByteArray
 |[],_=>none
 |a::c,b=>if a.rc.stamp.toNat<=b then(if a.rc.gone then none else some a.rc.text)else YO c b
def OC(low:Nat):List Lk->Bool->Nat
 |[],_=>0
 |c::a,b=>if low<c.rc.stamp.toNat then OC low a b+1 else if b then OC low a b else OC low a true+(if c.rc.gone then 0 else 1)
def LY(l:List Lk)(low:Nat):Nat:=OC low l false
def Qp(low:Nat):∀(l:List Lk)(m:Bool),OC low l m<=l.length
 |[],_=>Ae _
 |c::l,m=>by
  have a:=Qp low l m;have b:=Qp low l true;rw[OC,Bv];split
  ·omega
  ·split
   ·omega
   ·split<;>omega
def Ve(x:Nat)(h:x<4294967296):QX x<4294967296:=by
 have a:x/16<2^32:=O;have b:MB.getD (x%16) 0<2^32:=by
  have:x%16<16:=U4 _ U;have d:∀c:Fin 16,MB.getD c.val 0<2^32:=by decide
  exact d ⟨x%16,this⟩
 exact Xd a b
def xZ(x c:Nat)(h:x<4294967296)(a:c<256):TY x c<4294967296:=by
 unfold TY;refine Ve _ (Ve _ ?_);exact Xd (n:=32) h O
def Qq(b:Nat)(l:List UInt8)(k:Nat):Nat:=(l.take k).foldl (λc a=>TY c a.toNat) (b^^^4294967295)
def ZE(a:Nat)(l:List UInt8):Qq a l 0=a^^^4294967295:=by simp[Qq]
def ZF(a:Nat)(l:List UInt8)(k:Nat)(b:k<l.length):Qq a l (k+1)=TY (Qq a l k) l[k].toNat:=by
 unfold Qq;rw[CJ b,List.foldl_append];rfl
def Adp(a:Nat)(l:List UInt8):Qq a l l.length^^^4294967295=Nj a l:=by simp[Qq,Nj]
def ZG(b:Nat)(l:List UInt8)(c:b<4294967296):∀a,a<=l.length->Qq b l a<4294967296
 |0,_=>by rw[ZE];exact Xd (n:=32) c U
 |a+1,d=>by
  rw[ZF b l a d];exact xZ _ _ (ZG b l c a O) (UInt8.toNat_lt _)
def ET(l:List Int):List Int:=l.mergeSort λa b=>decide (a<=b)
def Hq(s:St):List (List UInt8×UInt64)->List Int->Option (List Int)
 |[],a=>some a
 |b::t,a=>match IE s b.2 with
  |none=>none
  |some c=>Hq s t (a++c.map (·.off))
def IW:List Int->Bool
 |b::a::t=> !(b==a)&&IW (a::t)
 |_=>true
def ZH(s:St):∀(l:List (List UInt8×UInt64))(it:List UInt8×UInt64)(a:List Int),Hq s (l++[it]) a=match Hq s l a with
    |none=>none
    |some c=>match IE s it.2 with|none=>none|some b=>some (c++b.map (·.off))
 |[],it,a=>by
  simp only[EK,Hq]
 |d::t,it,a=>by
  simp only[BD,Hq];cases IE s d.2 with
  |none=>rfl
  |some b=>exact ZH s t it _
def ZI{s:St}{l:List (List UInt8×UInt64)}{b r:List Int}(h:Hq s l b=some r):∀a,a<=l.length->∃c,Hq s (l.take a) b=some c/\Hq s (l.drop a) c=some r:=by
 induction l generalizing b with
 |nil=>intro a d;exact⟨b,by simp[Hq],by simpa[Hq]using h⟩
 |cons g t f=>
  intro a d;cases a with
  |zero=>exact⟨b,rfl,h⟩
  |succ a=>
   simp only[Hq]at h;simp only[JY,List.drop_succ_cons,Hq];cases e:IE s g.2 with
   |none=>rw[e]at h;cases h
   |some i=>
    rw[e]at h;exact f h a (by simpa using d)
def iO{s:St}:∀{l:List (List UInt8×UInt64)}{a r:List Int},Hq s l a=some r->a.length<=r.length
 |[],a,r,h=>by simp only[Hq,Option.some.injEq]at h;subst h;exact Ae _
 |c::t,a,r,h=>by
  simp only[Hq]at h;cases b:IE s c.2 with
  |none=>rw[b]at h;cases h
  |some d=>
   rw[b]at h;have:=iO h;rw[AP]at this;omega
def iP:∀{l:List Int},IW l=true->∀a(h:a+1<l.length),l[a]≠l[a+1]
 |c::d::t,h,0,_=>by
  simp only[IW,Bool.and_eq_true,Bool.not_eq_true',beq_eq_false_iff_ne,ne_eq]at h;exact h.1
 |c::d::t,h,a+1,b=>by
  simp only[IW,Bool.and_eq_true]at h;have:=iP h.2 a (by simpa using b);simpa using this
 |[],_,_,b=>by simp at b
 |[c],_,a,b=>by simp at b
def Vf(s:St):Option (List Int):=
 match DW s with
 |none=>none
 |some (b,c)=>match Hq s b (ET c)with
  |none=>none
  |some a=>if IW (ET a)=true then some (ET a)else none
def yc{s:St}{l:List (List UInt8×UInt64)}{b a:List Int}{k:Nat}(d:k<l.length)(c:Hq s (l.take k) b=some a):
 Hq s (l.take (k+1)) b=match IE s l[k].2 with|none=>none|some e=>some (a++e.map (·.off)):=by
 rw[CJ d,ZH,c]
def yf{s:St}{l:List (List UInt8×UInt64)}{a:List Int}{k:Nat}(c:k<l.length)(h:Hq s (l.take (k+1)) a=none):Hq s l a=none:=by
 cases d:Hq s l a with
 |none=>rfl
 |some f=>
  obtain⟨e,b,_⟩:=ZI d (k+1) c;rw[b]at h;cases h
def lW(l:List Int)(j:Nat):Prop:=∀a,1<=a->a<j->∀h:a<l.length,l[a-1]≠l[a]
def qK{l:List Int}{j:Nat}(q:1<=j)(h:lW l j){a b:Int}(k:l[j]?=some a)(m:l[j-1]?=some b)(o:a≠b):lW l (j+1):=λc g p i=>by
 by_cases n:c=j
 ·subst n;obtain⟨_,d⟩:=Cb.1 k;obtain⟨_,f⟩:=Cb.1 m;rw[d,f];exact λe=>o e.symm
 ·exact h c g O i
def Abw:∀{l:List Int},(∀a,1<=a->∀h:a<l.length,l[a-1]≠l[a])->IW l=true
 |[],_=>rfl
 |[_],_=>rfl
 |g::b::t,h=>by
  have c:=h 1 (Ae _) Θ;have e:=Abw (l:=b::t) (λa i d=>by
   have:=h (a+1) O (by simpa using d);obtain⟨a,rfl⟩:∃f,a=f+1:=⟨a-1,O⟩;simpa using this)
  unfold IW;simp only[Bool.and_eq_true,Bool.not_eq_true',beq_eq_false_iff_ne];exact⟨c,e⟩
