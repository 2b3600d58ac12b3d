import Derived.WalkSpells
import Derived.WalkLawsBesides
import Derived.Lib.Hide
import Derived.Deep.AppendLies
import Derived.Deep.RegionLaw
import Derived.Lib.BytesEntry
import Derived.BigQuiet
set_option linter.defProp false
open Int renaming ofNat_lt->uy
open List renaming getElem?_eq_getElem->Ae,eq_nil_of_length_eq_zero->Dk,getElem?_take->Dj,mem_map->BM,mem_of_mem_take->uT,replicate->BC,ext_getElem->EC,getElem?_eq_some_iff->C9,length_take->Em,map_toArray->Nu,map_cons->Ci,map_nil->Gv,take_succ_eq_append_getElem->CU,getElem_mem->BH,flatMap_cons->Ae4,take_succ_cons->JL,drop_eq_getElem_cons->EO,all_cons->je,length_cons->BD,cons_append->Cj,all_eq_true->Ew,map_set->Rj,set_append_right->Tu,replicate_succ->UD,getElem_cons_succ->Am,nil_append->EX,range->DW,length_append->AY,ext_getElem?->Jt,getElem?_mapIdx->Nv,getElem?_set->L9,getElem_set->KL,getElem?_eq_none->FU,getElem_take->Ae5,getElem_of_mem->Cm,filter_cons->Afb,take_of_length_le->EP,drop_take->Ai6,take_take->Ai7,getElem_map->KN,getElem_range->VT,getD_cons_zero->zC
open Nat renaming le_refl->Ad,zero_le->BB,eq_zero_or_pos->Js,mul_le_mul->IE,pow_succ->JI,mul_assoc->NR,mul_comm->Hq,min_eq_left->NG,pow_le_pow_right->FK,div_div_eq_div_mul->uz,mod_eq_of_lt->Gm,lt_of_lt_of_le->BI,mod_lt->Tv,xor_lt_two_pow->VJ
open Array renaming getElem?_eq_some_iff->AA,getElem?_push->Gw
open Go.World renaming cell?->Am8
open Go.Value renaming int->Aw,cells->Y8
open Option renaming map_some->DJ
open UInt64 renaming ofNat->Aj,toNat_ofNat'->H8
namespace Go.Proofs.YtekhjimghoibfaaGreatDoor
open Go.RowKit
theorem O{p:Prop}(a:p:=by omega):p:=a
theorem U{p:Prop}(a:p:=by decide):p:=a
theorem Θ{p:Prop}(a:p:=by simp):p:=a
theorem Γ{p:Prop}(a:p:=by kernel_rfl):p:=a
theorem Ω{q p:Prop}(a:q)(b:q->p:=by intro b;omega):p:=b a
theorem Ψ{q r p:Prop}(a:q)(b:r)(c:q->r->p:=by intro c d;omega):p:=c a b
theorem Ξ{q r t p:Prop}(a:q)(b:r)(c:t)(d:q->r->t->p:=by intro d e f;omega):p:=d a b c
abbrev Δ(b i:Nat):Addr:=⟨b,i,none⟩
abbrev Φ(b:Nat):Addr:=⟨b,0,none⟩
abbrev η(w a:World):Prop:=Below w.heap.size w a
theorem τ{w a b:World}(c:Below w.heap.size w a)(k:Below a.heap.size a b):Below w.heap.size w b:=c.trans (k.mono c.size)
theorem χ(w:World)(o:Obj){r:Nat}(a:r<w.heap.size):(w.alloc o).heap[r]?=w.heap[r]?:=by
 show(w.heap.push o)[r]?=_;rw[Array.getElem?_push_lt a,Array.getElem?_eq_getElem a]
theorem ε{c:Type}(a:c):∃b,b=a:=⟨_,rfl⟩
theorem ζ{c:Type}[BEq c][LawfulBEq c]{a b:c}(d:a≠b):(a==b)=false:=beq_eq_false_iff_ne.2 d
abbrev Az(b:Nat):Value:=.pointer (some (Φ b))
def YB{k n:Nat}(a:k<n):(k:Int)<(n:Int)/\decide ((k:Int)<(n:Int))=true/\decide (k<n)=true:=⟨uy.2 a,decide_eq_true (uy.2 a),decide_eq_true a⟩
def Aus{k n:Nat}(a:k<n):decide ((k:Int)<(n:Int))=true/\decide (k<n)=true:=(YB a).2
def uH{k n:Nat}(a:¬k<n):decide ((k:Int)<(n:Int))=false/\decide (k<n)=false:=⟨decide_eq_false (λe=>a (uy.1 e)),decide_eq_false a⟩
def jh(k:Nat)(a:k+1<9223372036854775808):IntKind.i64.wrap ((k:Int)+1)=(k:Int)+1:=IntWalk.i64_in _ O
def Rd(w:World)(A:Option Addr)(n:Nat)(xs:List Value):Prop:=
 xs.length=n/\(0<n->∃a c,A=some (Δ a c)/\a<w.heap.size/\∀b,b<n->w.cell? (Δ a (c+b))=xs[b]?)
def Rd.nil{w:World}{A:Option Addr}:Rd w A 0 []:=⟨rfl,λa=>absurd a O⟩
def Rd.at{w:World}{A:Option Addr}{n:Nat}{xs:List Value}(c:Rd w A n xs){k:Nat}(i:k<n):
 ∃a b f,A=some (Δ a b)/\a<w.heap.size/\xs[k]?=some f/\w.cell? (Δ a (b+k))=some f:=by
 obtain⟨a,b,e,g,h⟩:=c.2 O;have d:k<xs.length:=Ω c.1;exact⟨a,b,xs[k],e,g,Ae d,(h k i).trans (Ae d)⟩
def Rd.keep{w w':World}{A:Option Addr}{n:Nat}{xs:List Value}(c:Rd w A n xs)(l:w.heap.size<=w'.heap.size)
 (h:∀a,a<w.heap.size->w'.heap[a]?=w.heap[a]?):Rd w' A n xs:=
 ⟨c.1,λi=>by
   obtain⟨b,k,e,d,f⟩:=c.2 i;exact⟨b,k,e,O,λj g=>(World.cell?_of_block (w:=w) (h b d)).trans (f j g)⟩⟩
def Rd.below{w w':World}{A:Option Addr}{n:Nat}{xs:List Value}(b:Rd w A n xs)(a:η w w'):Rd w' A n xs:=
 b.keep a.size a.block
def bv(b:UInt8):Value:=.int .u8 (b.toNat:Int)
def wv(x:UInt64):Value:=.int .u64 (x.toNat:Int)
def Bs(w:World)(A:Option Addr)(n:Nat)(l:List UInt8):Prop:=Rd w A n (l.map bv)
def Ws(w:World)(A:Option Addr)(n:Nat)(l:List UInt64):Prop:=Rd w A n (l.map wv)
def Bs.len{w:World}{A:Option Addr}{n:Nat}{l:List UInt8}(a:Bs w A n l):l.length=n:=by
 have:=a.1;simpa using this
def Ws.len{w:World}{A:Option Addr}{n:Nat}{l:List UInt64}(a:Ws w A n l):l.length=n:=by
 have:=a.1;simpa using this
def Bs.below{w w':World}{A:Option Addr}{n:Nat}{l:List UInt8}(a:Bs w A n l)(b:η w w'):Bs w' A n l:=Rd.below a b
def Ws.below{w w':World}{A:Option Addr}{n:Nat}{l:List UInt64}(a:Ws w A n l)(b:η w w'):Ws w' A n l:=Rd.below a b
def Bs.at{w:World}{A:Option Addr}{n:Nat}{l:List UInt8}(d:Bs w A n l){k:Nat}(h:k<n):
 ∃(c:k<l.length)(a b:Nat),A=some (Δ a b)/\a<w.heap.size/\w.cell? (Δ a (b+k))=some (.int .u8 (l[k].toNat:Int)):=by
 have c:k<l.length:=Ω d.len;obtain⟨a,b,j,e,f,i,g⟩:=Rd.at d h;refine⟨c,a,b,e,f,?_⟩;rw[g,<-i];simp[bv,c]
def Ws.at{w:World}{A:Option Addr}{n:Nat}{l:List UInt64}(d:Ws w A n l){k:Nat}(h:k<n):
 ∃(c:k<l.length)(a b:Nat),A=some (Δ a b)/\a<w.heap.size/\w.cell? (Δ a (b+k))=some (.int .u64 (l[k].toNat:Int)):=by
 have c:k<l.length:=Ω d.len;obtain⟨a,b,j,e,f,i,g⟩:=Rd.at d h;refine⟨c,a,b,e,f,?_⟩;rw[g,<-i];simp[wv,c]
def CS{w:World}{g:Nat}{e:TypeId}{v:Value}{n:Nat}{xs:List Value}(i:w.ownsRow g e 1 v n xs):
 ∃a b,v=.slice a n b/\n<=b/\Rd w a n xs:=by
 obtain⟨d,j⟩:=i;rcases j with⟨rfl,rfl⟩|⟨c,o,h,rfl,_,f,k,_,p,l⟩
 ·have:xs=[]:=Dk (by simpa using d);subst this;exact⟨none,0,rfl,Ad _,Rd.nil⟩
 ·refine⟨_,_,rfl,k,by simpa using d,λr=>⟨c,0,rfl,?_,λm q=>?_⟩⟩
  ·exact(AA.1 f).1
  ·rw[cell_of_row w c (0+m) h e (0,0) f,<-l,Dj,if_pos O];simp
def Dr(w w':World):Prop:=∃a,w'=w.drewN a
def Dr.refl(w:World):Dr w w:=⟨0,rfl⟩
def Dr.one(w:World)(q:Nat):Dr w (w.drewN q):=⟨q,rfl⟩
def Dr.two(w:World)(q r:Nat):Dr w ((w.drewN q).drewN r):=⟨q+r,World.drewN_drewN _ _ _⟩
def Dr.trans{a b c:World}(d:Dr a b)(k:Dr b c):Dr a c:=by
 obtain⟨e,rfl⟩:=d;obtain⟨f,rfl⟩:=k;exact Dr.two _ _ _
def Dr.below{w w':World}(a:Dr w w')(B:Nat):Below B w w':=by
 obtain⟨b,rfl⟩:=a;exact⟨rfl,rfl,rfl,Ad _,λ_ _=>rfl⟩
def YC{w:World}{b g cap:Nat}{e:TypeId}{n:Nat}{xs:List Value}(a:w.ownsRow b e 1 (.slice (some (Φ g)) n cap) n xs){k:Nat}(d:k<n):∃c,w.cell? (Δ g k)=some c:=by
 rw[a.cellAt k O];exact⟨_,Ae (Ω a.1)⟩
def Abj{v u:Value}(a:v=u):Ending.returned v=Ending.returned u:=by rw[a]
def Iw(l:List UInt8):∀a∈l.map bv,a.oneCell'=true:=by
 intro a b;obtain⟨_,_,rfl⟩:=BM.1 b;rfl
def Qe(l:List UInt64):∀a∈l.map wv,a.oneCell'=true:=by
 intro a b;obtain⟨_,_,rfl⟩:=BM.1 b;rfl
def Amd(k:IntKind)(w:World)(a:Option Addr)(len cap:Nat)(zs:List Int):Prop:=
 (a=none/\len=0/\cap=0/\zs=[])\/
 ∃c,a=some c/\len<=cap/\cap<=maxLen/\zs.length=cap/\(∀b,b<zs.length->w.cell? (c.add b)=some (.int k (zs.getD b 0)))/\∀d∈zs,(Lit.int k d).wf=true
def block_lt_of_cell{w:World}{a:Addr}{v:Value}(b:w.cell? a=some v):a.block<w.heap.size:=by
 rcases Nat.lt_or_ge a.block w.heap.size with d|c
 ·exact d
 ·rw[Am8,Array.getElem?_eq_none c]at b;cases b
def ji{w:World}{x:Addr}{v:Value}(a:w.cell? (x.add 0)=some v):∃b c,x=(Δ b c):=by
 obtain⟨b,c,d⟩:=x;rcases d with _|d
 ·exact⟨b,c,rfl⟩
 ·exfalso;unfold Am8 Addr.add at a;split at a
  ·split at a<;>simp_all
  ·cases a
def Abk{k:IntKind}{w:World}{a:Option Addr}{len cap:Nat}{zs:List Int}(f:Amd k w a len cap zs):Rd w a len ((zs.take len).map (Aw k))/\(len<=maxLen/\len<=cap)/\∀j∈zs,(Lit.int k j).wf=true:=by
 rcases f with⟨rfl,rfl,rfl,rfl⟩|⟨p,rfl,h,m,o,c,i⟩
 ·exact⟨Rd.nil,⟨BB _,Ad _⟩,by simp⟩
 ·refine⟨⟨by simp;omega,λn=>?_⟩,⟨O,h⟩,i⟩;have b:=c 0 O;obtain⟨e,l,rfl⟩:=ji b;refine⟨e,l,rfl,block_lt_of_cell b,λd g=>?_⟩;have:=c d O;rw[Addr.add_lit]at this;rw[this];simp[g,List.getD,show d<zs.length by omega]
def Abl{w:World}{a:Option Addr}{len cap:Nat}{zs:List Int}(c:Amd .u8 w a len cap zs):∃i:List UInt8,Bs w a len i/\len<=maxLen/\len<=cap:=by
 obtain⟨d,f,g⟩:=Abk c;refine⟨(zs.take len).map λb=>UInt8.ofNat b.toNat,?_,f⟩;have e:((zs.take len).map λb=>UInt8.ofNat b.toNat).map bv=(zs.take len).map (Aw .u8):=by
  rw[List.map_map];apply List.map_congr_left;intro b h;have:=g b (uT h);have j:0<=b/\b<=255:=by simpa[Lit.wf,IntKind.min,IntKind.max,IntKind.bits,IntKind.signed]using this
  simp only[Function.comp_apply,bv,UInt8.toNat_ofNat'];congr 1;omega
 rw[Bs,e];exact d
def Qg(n:Nat):(madeCells (Aw .u8 0).cells (n*1)).toList=(BC n (0:UInt8)).map bv:=by
 apply EC
 ·simp[madeCells]
 ·intro c a b;simp[madeCells,Y8,Nat.mod_one,bv]
def LC(n:Nat):(madeCells (Aw .u64 0).cells (n*1)).toList=(BC n (0:UInt64)).map wv:=by
 apply EC
 ·simp[madeCells]
 ·intro c a b;simp[madeCells,Y8,Nat.mod_one,wv]
def LD{P:Program}{w:World}{src e b:TypeId}(p:P.underlying src=some (.slice e))(m:P.underlying e=some (.int .u8))(j:P.underlying b=some .string)
 {A:Option Addr}{n:Nat}{l:List UInt8}(f:Bs w A n l)(c:Nat):(convert src b (.slice A n c)).run P w=.ok (.string ⟨l.toArray⟩) w:=by
 have o:=f.len;rcases A with _|i
 ·have t:n=0:=by
   rcases Js n with g|g
   ·exact g
   ·obtain⟨_,_,e,_⟩:=f.2 g;cases e
  subst t;have d:l=[]:=Dk o;subst d;exact run_convert_bytes_nil w src e p m 0 c b j
 ·have d:(loadCells i n).run P w=.ok ((l.map λa=>(a.toNat:Int)).map (Aw .u8)).toArray w:=by
   have:=run_loadCells_list (P:=P) w i ((l.map λa=>(a.toNat:Int)).map (Aw .u8)) (λq x h=>by
    have s:q<l.length:=by
     have:=(C9.1 h).1;simpa using this
    obtain⟨d,a,v,e,u,r⟩:=f.at (k:=q) O;injection e with e
    subst e;rw[Addr.add_lit,r];simp only[List.getElem?_map,Ae s,DJ,Option.some.injEq]at h;rw[h])
   simpa[o]using this
  rw[run_convert_bytes_string w src b e _ n c p m j,run_bytesToString w _ n c _ d,foldl_push_bytes];congr 2;apply ByteArray.ext;show(#[]:Array UInt8)++_=l.toArray;simp[Function.comp_def]
structure MS(P:Program)(t e:TypeId)(z:Value)(bytes:Nat):Prop where
 ht:P.underlying t=some (.slice e)
 hi:(P.info? e).map (λi=>(i.zero,i.size,i.bytes))=some (some z,1,bytes)
 hz:z.cells.size=1
def UH(A:Option Addr)(c lo:Nat):Option Addr:=if c=lo then A else A.map (·.add lo)
def Rd.sub{w:World}{A:Option Addr}{n:Nat}{xs:List Value}(a:Rd w A n xs){c lo hi:Nat}(h1:lo<=hi)(h2:hi<=n)(j:n<=c):Rd w (UH A c lo) (hi-lo) ((xs.drop lo).take (hi-lo)):=by
 refine⟨by rw[Em,List.length_drop,a.1];omega,λi=>?_⟩;obtain⟨b,h,rfl,d,e⟩:=a.2 O;refine⟨b,h+lo,?_,d,λg f=>?_⟩
 ·rw[UH,if_neg O];simp[Addr.add_lit]
 ·rw[Nat.add_assoc,e (lo+g) O,Dj,if_pos f,List.getElem?_drop]
section
variable{P:Program}{t e:TypeId}{z:Value}{bytes:Nat}
def MS.Qh(a:MS P t e z bytes)(w:World):(sizeOf e).run P w=.ok 1 w:=by
 obtain⟨i,hi,c,b,d⟩:=info_parts a.hi;simp[sizeOf,typeInfo,hi,b]
def zM(a:MS P t e z bytes)(A:Option Addr)(n c:Nat)(b d:IntKind)(lo hi:Nat)(h1:lo<=hi)(h2:hi<=c)(w:World):
 (Instr.slice t (.slice A n c) (some (.int b (lo:Int))) (some (.int d (hi:Int))) none).run P w=.ok (.slice (UH A c lo) (hi-lo) (c-lo)) w:=by
 have f:=run_sliceBound (P:=P) (w:=w) d (hi:Int) c .sliceAcap O O;have g:=run_sliceBound (P:=P) (w:=w) b (lo:Int) hi .sliceB O O;simp[Instr.slice,run_underlying a.ht,Instr.sliceBounds,f,g,a.Qh,UH]
def nJ(a:MS P t e z bytes)(A:Option Addr)(n c:Nat)(b:IntKind)(lo:Nat)(h1:lo<=n)(w:World):
 (Instr.slice t (.slice A n c) (some (.int b (lo:Int))) none none).run P w=.ok (.slice (UH A c lo) (n-lo) (c-lo)) w:=by
 have d:=run_sliceBound (P:=P) (w:=w) b (lo:Int) n .sliceB O O;simp[Instr.slice,run_underlying a.ht,Instr.sliceBounds,d,a.Qh,UH]
end
def Abm{P:Program}{t e:TypeId}{z:Value}{bytes:Nat}(b:MS P t e z bytes)(s:TypeId){w:World}{d:Nat}{v:Value}{n:Nat}{xs a:List Value}
 (k:w.ownsRow d e 1 v n xs){A:Option Addr}{m:Nat}(g:Rd w A m a)
 (h1:∀i∈a,i.oneCell'=true)(F:n+m<=1000000000)(y:bytes<=64)(q:d<=w.heap.size)(c:Nat):
 ∃l j,(Builtin.append_ #[t,t] s #[v,.slice A m c]).run P w=.ok l j/\j.ownsRow d e 1 l (n+m) (xs++a)/\Below d w j:=by
 obtain⟨M,o,J,K,L⟩:=info_parts b.hi;rcases A with _|p
 ·have f:m=0:=by
   rcases Js m with f|f
   ·exact f
   ·obtain⟨_,_,e,_⟩:=g.2 f;cases e
  subst f;have G:a=[]:=Dk g.1;subst G;refine⟨v,w,?_,by simpa using k,Below.refl _ _⟩;rcases k.2 with⟨rfl,rfl⟩|⟨T,R,S,rfl,_,_,H,_⟩
  ·simp[Builtin.append_,run_underlying b.ht,sizeOf,typeInfo,o,Builtin.lenOf,Builtin.firstCells]
  ·simp[Builtin.append_,run_underlying b.ht,sizeOf,typeInfo,o,Builtin.lenOf,Builtin.firstCells,H,storeCells]
 ·have C:∀h i,a[h]?=some i->w.cell? (p.add h)=some i:=by
   intro h i r;have D:h<m:=by
    have:=(C9.1 r).1;have:=g.1;omega
   obtain⟨Q,W,e,_,B⟩:=g.2 O;injection e with e
   subst e;rw[Addr.add_lit,B h D,r]
  have V:(n+m)*bytes<=1000000000*64:=IE F y;obtain⟨l,j,I,u,x,_⟩:=run_append_own (P:=P) w d t s e M z 1 bytes b.ht o J K L b.hz U v n xs k p m c a (by simp[g.1]) C h1
   (by unfold maxLen;omega) O q
  exact⟨l,j,I,u,(Below.refl _ _).grown x q (λN E=>(k.lt N E).1)⟩
def TI{P:Program}{i:Array Oper}{rest:List Oper}{o:Oper}{a:Act}{w:World}{h:Exit->Act->World->Prop}(y:o.guard=none)(s x:Operand)(t:TypeId)
 (C:o.op=.call {callee:=.builtin .append,args:= #[s,x],argTypes:= #[t,t]}){e:TypeId}{z:Value}{bytes:Nat}(j:MS P t e z bytes)
 (d:Nat)(v:Value)(n:Nat)(xs g:List Value)(G:a.eval s=v)(D:w.ownsRow d e 1 v n xs)(A:Option Addr)(m c:Nat)(H:a.eval x=.slice A m c)(E:Rd w A m g)
 (h1:∀I∈g,I.oneCell'=true)(B:n+m<=1000000000)(u:bytes<=64)(r:d<=w.heap.size)
 (k:∀f b,b.ownsRow d e 1 f (n+m) (xs++g)->Below d w b->wpList P i h rest (a.put o.dst f) b):wpList P i h (o::rest) a w:=by
 refine wpList_plain y λJ q=>?_
 obtain⟨f,b,F,l,p⟩:=Abm j o.type D E h1 B u r c;unfold Oper.wp execOp;simp only[C,resolve,invoke,builtin,Sem.run_bind,Sem.run_pure,Result.andThen_ok,Nu,Ci,Gv,G,H,F];exact q _ _ (k f b l p)
def uV{P:Program}{t e:TypeId}{z:Value}{bytes:Nat}(k:MS P t e z bytes)(x:TypeId){w wr:World}{b:Nat}{v:Value}{n:Nat}{xs a:List Value}
 (r:wr.ownsRow b e 1 v n xs)(f:w.heap=wr.heap.push (.cells a.toArray e))(J:w.os=wr.os)(M:w.tape=wr.tape)(K:w.output=wr.output)
 (h1:∀g∈a,g.oneCell'=true)(H:n+a.length<=1000000000)(E:bytes<=64)(D:b<=wr.heap.size)(m c:Nat)(I:m=a.length):
 ∃j h,(Builtin.append_ #[t,t] x #[v,.slice (some (Φ wr.heap.size)) m c]).run P w=.ok j h/\h.ownsRow b e 1 j (n+m) (xs++a)/\Below b wr h:=by
 subst I;obtain⟨T,G,Q,R,S⟩:=info_parts k.hi;have p:η wr w:=⟨J,M,K,by rw[f];simp,λu q=>by rw[f,Gw,if_neg O]⟩;have s:w.ownsRow b e 1 v n xs:=by
  refine⟨r.1,?_⟩;rcases r.2 with B|⟨o,y,A,h1,l,i,C⟩
  ·exact .inl B
  ·exact .inr ⟨o,y,A,h1,l,by rw[p.block o (AA.1 i).1];exact i,C⟩
 have F:∀d g,a[d]?=some g->w.cell? (((Φ wr.heap.size):Addr).add d)=some g:=by
  intro d g N;rw[show((Φ wr.heap.size):Addr).add d=(Δ wr.heap.size (0+d))from Addr.add_lit _ _ _];rw[cell_of_row w wr.heap.size (0+d) a.toArray e (0,0) (by rw[f,Gw,if_pos rfl])];simpa using N
 have V:(n+a.length)*bytes<=1000000000*64:=IE H E;obtain⟨j,h,L,l,i,_⟩:=run_append_own (P:=P) w b t x e T z 1 bytes k.ht G Q R S k.hz U v n xs s _ a.length c a Θ F h1
  (by unfold maxLen;omega) O (by rw[f];simp;omega)
 refine⟨j,h,L,l,(p.mono D).trans ?_⟩;exact(Below.refl _ _).grown i (by rw[f];simp;omega) (λu q=>(s.lt u q).1)
def jk{P:Program}{h:Array Oper}{o:Oper}{a:Act}{w:World}{K:Act->World->Prop}{j:Exit->Act->World->Prop}{i:Prop}(y:o.guard=none)(s x:Operand)(t:TypeId)
 (C:o.op=.call {callee:=.builtin .append,args:= #[s,x],argTypes:= #[t,t]}){e:TypeId}{z:Value}{bytes:Nat}(k:MS P t e z bytes)
 (wr:World)(f:Nat)(v:Value)(n:Nat)(xs b:List Value)(H:a.eval s=v)(F:wr.ownsRow f e 1 v n xs)(J:w.heap=wr.heap.push (.cells b.toArray e))
 (D:w.os=wr.os)(I:w.tape=wr.tape)(E:w.output=wr.output)
 (m c:Nat)(M:a.eval x=.slice (some (Φ wr.heap.size)) m c)(B:m=b.length)
 (h1:∀N∈b,N.oneCell'=true)(A:n+b.length<=1000000000)(u:bytes<=64)(r:f<=wr.heap.size)
 (l:∀g d,d.ownsRow f e 1 g (n+m) (xs++b)->Below f wr d->K (a.put o.dst g) d):
 if Region.wanted o (yielded h a.tmps)=true then Oper.wp P o a w K j else i:=by
 have L:Region.wanted o (yielded h a.tmps)=true:=by simp[Region.wanted,y]
 rw[if_pos L];obtain⟨g,d,G,p,q⟩:=uV k o.type F J D I E h1 A u r m c B;unfold Oper.wp execOp;simp only[C,resolve,invoke,builtin,Sem.run_bind,Sem.run_pure,Result.andThen_ok,Nu,Ci,Gv,H,M,G];exact l g d p q
def D6(b:UInt8):Bool:=b.toNat<16
def TJ{a:Type}(p:a->Bool)(l:List a)(k:Nat)(b:k<l.length)(c:(l.take k).all p=true)(d:p l[k]=true):(l.take (k+1)).all p=true:=by
 rw[CU b,List.all_append,c];simp[d]
def VW{a:Type}(p:a->Bool)(l:List a)(k:Nat)(b:k<l.length)(c:p l[k]=false):l.all p=false:=by
 rw[List.all_eq_false];exact⟨l[k],BH b,by simp[c]⟩
def VX{b:UInt8}(a:b.toNat<16):D6 b=true:=by simp[D6,a]
def Afj{b:UInt8}(a:¬b.toNat<16):D6 b=false:=by simp[D6];omega
def CG(l:List UInt8):List UInt8:=l.flatMap λa=>[a/16,a%16]
def YD(l:List UInt8)(k:Nat)(a:k<l.length):CG (l.take (k+1))=CG (l.take k)++[l[k]/16,l[k]%16]:=by
 rw[CU a];simp only[CG,List.flatMap_append,Ae4,List.flatMap_nil,List.append_nil]
def TY(s:ByteArray)(k:Nat)(a:k<s.size):CG (s.data.toList.take (k+1))=CG (s.data.toList.take k)++[s[k]/16,s[k]%16]:=by
 have b:k<s.data.toList.length:=by simpa using a
 rw[YD _ k b];rfl
def KC(l:List UInt8):(CG l).length=2*l.length:=by
 induction l with
 |nil=>rfl
 |cons b l a=>simp[CG]at a⊢;omega
def Anc(b:UInt8):Aw .u8 ((b.toNat:Int)/16)=bv (b/16):=by simp[bv]
def Ane(b:UInt8):Aw .u8 ((b.toNat:Int)%16)=bv (b%16):=by simp[bv]
def Ajd(b:UInt8):Aw .u8 (IntKind.u8.wrap ((b.toNat:Int)/16))=bv (b/16):=by
 have:=b.toNat_lt;rw[<-Anc,IntWalk.u8_in _ O]
def Aje(b:UInt8):Aw .u8 ((b.toNat:Int).tmod 16)=bv (b%16):=by
 rw[<-Ane,Int.tmod_eq_emod_of_nonneg O]
def common:List UInt8->List UInt8->Nat
 |a::b,c::d=>if a=c then common b d+1 else 0
 |_,_=>0
def Jh:∀(a b:List UInt8),common a b<=a.length
 |[],_=>by simp[common]
 |a::c,[]=>by simp[common]
 |a::c,b::d=>by
  simp only[common];have:=Jh c d;split<;>simp;omega
def Ro:∀(a b:List UInt8),common a b=common b a
 |[],[]=>rfl
 |[],_::_=>by simp[common]
 |_::_,[]=>by simp[common]
 |a::d,b::e=>by
  simp only[common];rw[Ro d e];by_cases c:a=b
  ·subst c;simp
  ·simp[c,Ne.symm c]
def FM(a b:List UInt8):common a b<=b.length:=by rw[Ro];exact Jh b a
def alike(k:Nat)(a b:List UInt8):Prop:=k<=a.length/\k<=b.length/\a.take k=b.take k
def uX(a b:List UInt8):alike 0 a b:=⟨BB _,BB _,by simp⟩
def Nz:∀(k:Nat)(a b:List UInt8),alike k a b->common a b=k+common (a.drop k) (b.drop k)
 |0,a,b,_=>by simp
 |k+1,[],b,c=>by have:=c.1;simp at this
 |k+1,a::e,[],c=>by have:=c.2.1;simp at this
 |k+1,a::e,b::f,c=>by
  obtain⟨g,h,d⟩:=c;simp only[JL,List.cons.injEq]at d;obtain⟨rfl,d⟩:=d;have:=Nz k e f ⟨by simpa using g,by simpa using h,d⟩;simp[common,this];omega
def uY{k:Nat}{a b:List UInt8}(f:alike k a b)(c:k<a.length)(d:k<b.length)(e:a[k]=b[k]):alike (k+1) a b:=
 ⟨c,d,by rw[CU c,CU d,f.2.2,e]⟩
def XZ{k:Nat}{a b:List UInt8}(c:alike k a b)(d:k<a.length)(f:k<b.length)(e:a[k]≠b[k]):common a b=k:=by
 rw[Nz k a b c,EO d,EO f];simp[common,e]
def OD{k:Nat}{a b:List UInt8}(c:alike k a b)(d:a.length=k):common a b=k:=by
 rw[Nz k a b c,List.drop_of_length_le O];simp[common]
def TZ{k:Nat}{a b:List UInt8}(c:alike k a b)(d:b.length=k):common a b=k:=by
 rw[Ro];exact OD ⟨c.2.1,c.1,c.2.2.symm⟩ d
def nM{a b:UInt8}(c:a=b):(((a.toNat:Int))==(b.toNat:Int))=true:=by simp[c]
def jl{a b:UInt8}(c:a≠b):(((a.toNat:Int))==(b.toNat:Int))=false:=by
 rw[beq_eq_false_iff_ne];intro e;exact c (UInt8.toNat_inj.1 O)
def Fv:List UInt8->Nat
 |[]=>0
 |a::b=>a.toNat+16*Fv b
def UI:∀(l:List UInt8),l.all D6=true->Fv l<16^l.length
 |[],_=>by simp[Fv]
 |b::l,a=>by
  simp only[je,Bool.and_eq_true]at a;have:=UI l a.2;have c:b.toNat<16:=by simpa[D6]using a.1
  simp only[Fv,BD,JI];omega
def UJ:∀(l m:List UInt8),Fv (l++m)=Fv l+16^l.length*Fv m
 |[],m=>by simp[Fv]
 |a::l,m=>by
  simp only[Cj,Fv,UJ l m,BD,JI];have:16*(16^l.length*Fv m)=16^l.length*16*Fv m:=by rw[<-NR,Hq 16]
  omega
def Ya(l:List UInt8)(k:Nat)(a:k<l.length):Fv (l.take (k+1))=Fv (l.take k)+16^k*l[k].toNat:=by
 rw[CU a,UJ];simp[Fv,NG (Nat.le_of_lt a)]
def Ame(k:Nat):16^(k+1)=2^(4+4*k):=by
 rw[show(16:Nat)=2^4 from rfl,<-Nat.pow_mul];congr 1;omega
def UK(p:UInt8->Bool)(l:List UInt8)(k:Nat)(a:l.all p=true):(l.take k).all p=true:=by
 rw[Ew]at a⊢;exact λc b=>a c (uT b)
def UL(p:UInt8->Bool)(l:List UInt8)(k:Nat)(a:l.all p=true):(l.drop k).all p=true:=by
 rw[Ew]at a⊢;exact λc b=>a c (List.mem_of_mem_drop b)
def Yt{l:List UInt8}{k:Nat}(a:l.all D6=true)(b:k<l.length):l[k].toNat<16:=by
 rw[Ew]at a;simpa[D6]using a l[k] (BH b)
def Abn(l:List UInt8)(n k:Nat)(r:n<=15)(q:k<n)(c:k<l.length)(a:l.all D6=true):
 Aw IntKind.u64 (bits BinOp.or IntKind.u64 ((n:Int)+16*(Fv (l.take k):Int)) (IntKind.u64.wrap (IntKind.u64.wrap (l[k].toNat:Int)*2^(4+4*k))))=
  Aw IntKind.u64 ((n+16*Fv (l.take (k+1)):Nat):Int):=by
 have o:=Yt a c;have i:=UI (l.take k) (UK _ _ _ a);rw[Em,NG O]at i;have j:16^(k+1)<=16^15:=FK U O;have d:16^(k+1)=16*16^k:=by rw[JI,Hq]
 have b:n+16*Fv (l.take k)<16^(k+1):=O;have p:l[k].toNat*16^(k+1)<=15*16^(k+1):=Nat.mul_le_mul_right _ O;have m:(16:Nat)^15=1152921504606846976:=by decide
 congr 1;have e:IntKind.u64.wrap (l[k].toNat:Int)=(l[k].toNat:Int):=IntWalk.u64_in _ O;have f:(l[k].toNat:Int)*2^(4+4*k)=((l[k].toNat*16^(k+1):Nat):Int):=by rw[Ame];simp
 rw[e,f,IntWalk.u64_in _ O];have g:(n:Int)+16*(Fv (l.take k):Int)=((n+16*Fv (l.take k):Nat):Int):=by simp
 rw[g,u64_or_nat _ _ O O];congr 1;rw[Ya l k c];rw[Ame]at b d⊢;have h:=Nat.two_pow_add_eq_or_of_lt b l[k].toNat;rw[Nat.or_comm,Hq,<-h,d];have:16*16^k*l[k].toNat=16*(16^k*l[k].toNat):=NR _ _ _;omega
def digits:Nat->Nat->List UInt8
 |0,_=>[]
 |b+1,a=>UInt8.ofNat (a%16)::digits b (a/16)
def digits_length:∀(k n:Nat),(digits k n).length=k
 |0,_=>rfl
 |k+1,n=>by simp[digits,digits_length k]
def Xm:∀(k n:Nat),digits (k+1) n=digits k n++[UInt8.ofNat (n/16^k%16)]
 |0,n=>by simp[digits]
 |k+1,n=>by
  rw[digits,Xm k (n/16),digits,Cj,uz,JI,Hq 16]
def UM:∀(l:List UInt8),l.all D6=true->digits l.length (Fv l)=l
 |[],_=>rfl
 |a::l,b=>by
  simp only[je,Bool.and_eq_true]at b;have c:a.toNat<16:=by simpa[D6]using b.1
  rw[BD,Fv,digits,show(a.toNat+16*Fv l)/16=Fv l by omega,UM l b.2,show(a.toNat+16*Fv l)%16=a.toNat by omega];simp
def zN(n:Nat):Aw .u8 ((n:Int)%16)=bv (UInt8.ofNat (n%16)):=by
 simp only[bv,UInt8.toNat_ofNat'];rw[Gm (show n%16<2^8 by omega)];simp
def jo(k n:Nat)(b:Nat)(d:k<n):
 (((digits k b++BC (n-k) (0:UInt8)).map bv).set k (bv (UInt8.ofNat (b/16^k%16))))=(digits (k+1) b++BC (n-(k+1)) (0:UInt8)).map bv:=by
 rw[Xm,<-Rj,Tu _ _ (by rw[digits_length];omega),digits_length];obtain⟨a,c⟩:∃a,n-k=a+1:=⟨n-k-1,O⟩;rw[c,show n-(k+1)=a by omega,UD];simp
def pairs:List UInt8->List UInt8
 |a::b::c=>(a*16+b)::pairs c
 |_=>[]
def NI:∀(l:List UInt8),(pairs l).length=l.length/2
 |[]=>rfl
 |[_]=>by simp[pairs]
 |a::b::l=>by simp[pairs,NI l];omega
def Xn:∀(i:Nat)(l:List UInt8)(_:i%2=0)(a:i+1<l.length),pairs (l.take (i+2))=pairs (l.take i)++[l[i]*16+l[i+1]]
 |0,c::d::l,_,_=>by simp[pairs]
 |1,_,b,_=>by simp at b
 |i+2,c::d::l,b,a=>by
  have:=Xn i l O (by simp at a;omega);simp only[JL,pairs,Cj,Am];rw[this]
 |0,[],_,a=>by simp at a
 |0,[_],_,a=>by simp at a
 |i+2,[],_,a=>by simp at a
 |i+2,[_],_,a=>by simp at a
def uZ(k:Nat)(l:List UInt8)(a:2*k+1<l.length):pairs (l.take (2*(k+1)))=pairs (l.take (2*k))++[l[2*k]*16+l[2*k+1]]:=
 Xn (2*k) l O a
def YE(l:List UInt8):pairs (l.take (2*(l.length/2)))=pairs l:=by
 have c:∀(l:List UInt8),pairs (l.take (2*(l.length/2)))=pairs l:=by
  intro l;induction l using pairs.induct with
  |case1 a b l e=>
   rw[show 2*((a::b::l).length/2)=2*(l.length/2)+1+1 by simp;omega];simp[pairs,e]
  |case2 l d=>
   rcases l with _|⟨a,_|⟨b,l⟩⟩
   ·rfl
   ·simp[pairs]
   ·exact absurd rfl (d a b l)
 exact c l
def YF(a b:UInt8)(d:a.toNat<16)(e:b.toNat<16):(a*16+b)/16=a/\(a*16+b)%16=b:=by
 have c:(a*16+b).toNat=a.toNat*16+b.toNat:=by simp[UInt8.toNat_add,UInt8.toNat_mul];omega
 constructor
 ·apply UInt8.toNat_inj.1;rw[UInt8.toNat_div,c];simp;omega
 ·apply UInt8.toNat_inj.1;rw[UInt8.toNat_mod,c];simp;omega
def YG:∀(l:List UInt8),l.length%2=0->l.all D6=true->CG (pairs l)=l
 |[],_,_=>rfl
 |[_],b,_=>by simp at b
 |c::d::l,b,a=>by
  simp only[je,Bool.and_eq_true]at a;have e:c.toNat<16:=by simpa[D6]using a.1
  have f:d.toNat<16:=by simpa[D6]using a.2.1
  have:=YG l (by simp at b;omega) a.2.2;simp only[CG]at this⊢;simp[pairs,this,YF c d e f]
def YH(l:List UInt8):(CG l).all D6=true:=by
 rw[Ew];intro c a;obtain⟨b,_,a⟩:=List.mem_flatMap.1 a;have:=b.toNat_lt;simp only[List.mem_cons,List.not_mem_nil,or_false]at a;rcases a with rfl|rfl<;>simp[D6]<;>omega
def Ub:∀(l:List UInt8),pairs (CG l)=l
 |[]=>rfl
 |a::l=>by
  have:=Ub l;simp only[CG]at this;simp only[CG,Ae4,Cj,EX,pairs,this];congr 1;apply UInt8.toNat_inj.1;have:=a.toNat_lt;simp[UInt8.toNat_add,UInt8.toNat_mul];omega
def J8(l:List UInt8):Bool:=decide (l.length%2=0)&&l.all D6
def nN(l:List UInt8)(k a:Nat)(g:k<a)(c:2*k+1<l.length)(f:a=l.length/2):
 (((pairs (l.take (2*k))++BC (a-k) (0:UInt8)).map bv).set k (bv (l[2*k]*16+l[2*k+1])))=(pairs (l.take (2*(k+1)))++BC (a-(k+1)) (0:UInt8)).map bv:=by
 have d:(pairs (l.take (2*k))).length=k:=by rw[NI,Em];omega
 rw[uZ k l c,<-Rj,Tu _ _ O,d];obtain⟨b,e⟩:∃b,a-k=b+1:=⟨a-k-1,O⟩;rw[e,show a-(k+1)=b by omega,UD];simp
def zO(a b:UInt8):Aw .u8 (((a.toNat:Int)*16+(b.toNat:Int))%256)=bv (a*16+b):=by
 simp only[bv,UInt8.toNat_add,UInt8.toNat_mul];congr 1;have c:=a.toNat_lt;have d:=b.toNat_lt;simp
def UN(l:List UInt8)(k:Nat)(b:l.length<=k)(a:l.all D6=true):Fv l<16^k:=
 BI (UI l a) (FK U b)
def MJ:(16:Nat)^15=1152921504606846976:=by decide
def ve(l:List UInt8):J8 (CG l)=true:=by
 simp only[J8,KC,YH,Bool.and_true,decide_eq_true_eq];omega
def unpack_pack(l:List UInt8)(c:l.length<=15)(a:l.all D6=true):
 (l.length+16*Fv l)%16=l.length/\(l.length+16*Fv l)/16=Fv l/\Fv l/16^l.length=0/\digits l.length (Fv l)=l/\l.length+16*Fv l<18446744073709551616:=by
 have b:=UI l a;have d:=UN l 15 c a;rw[MJ]at d;exact⟨O,O,Nat.div_eq_of_lt b,UM l a,O⟩
def YI{a b:UInt8}(h1:a/16=b/16)(h2:a%16=b%16):a=b:=by
 apply UInt8.toNat_inj.1;have c:=congrArg UInt8.toNat h1;have d:=congrArg UInt8.toNat h2;simp at c d;omega
def eX(a:UInt8)(l:List UInt8):CG (a::l)=a/16::a%16::CG l:=rfl
def nO:CG []=[]:=rfl
def nP:∀(a b:List UInt8),common (CG a) (CG b)=2*common a b\/common (CG a) (CG b)=2*common a b+1
 |[],_=>by simp[nO,common]
 |a::f,[]=>by simp[eX,nO,common]
 |a::f,b::g=>by
  have h:=nP f g;simp only[eX,common];by_cases c:a/16=b/16
  ·by_cases d:a%16=b%16
   ·have e:=YI c d;subst e;simp only[if_true];omega
   ·have e:a≠b:=λe=>d (by rw[e])
    rw[if_pos c,if_neg d,if_neg e];omega
  ·have e:a≠b:=λe=>c (by rw[e])
   rw[if_neg c,if_neg e];omega
def TK:∀(a b:List UInt8),common a (a++b)=a.length
 |[],_=>by simp[common]
 |a::c,b=>by simp[common,TK c b]
def Rq:∀(a b:List UInt8),a.take (common a b)=b.take (common a b)
 |[],_=>by simp[common]
 |_::_,[]=>by simp[common]
 |a::d,b::e=>by
  simp only[common];by_cases c:a=b
  ·rw[if_pos c,JL,JL,c,Rq d e]
  ·rw[if_neg c];rfl
def Xo:∀(a b:List UInt8)(h1:common a b<a.length)(h2:common a b<b.length),a[common a b]≠b[common a b]
 |[],_,h1,_=>by simp at h1
 |_::_,[],_,h2=>by simp at h2
 |a::c,b::d,h1,h2=>by
  by_cases f:a=b
  ·have e:common (a::c) (b::d)=common c d+1:=by simp[common,f]
   have g:common c d<c.length:=by simp[e]at h1;exact h1
   have h:common c d<d.length:=by simp[e]at h2;exact h2
   have i:=Xo c d g h;simp only[e,Am];exact i
  ·have e:common (a::c) (b::d)=0:=by simp[common,f]
   simp only[e,List.getElem_cons_zero];exact f
def leB(x:UInt64)(i:Nat):UInt8:=UInt8.ofNat (x.toNat/256^i%256)
def VY(x:UInt64)(i:Nat):(leB x i).toNat=x.toNat/256^i%256:=by
 unfold leB;rw[UInt8.toNat_ofNat'];exact Gm (Tv _ U)
def VZ(x:UInt64):List UInt8:=(DW 8).map (leB x)
def MK(x:UInt64):(VZ x).length=8:=by simp[VZ]
def vg(x:UInt64)(i:Nat)(a:i<8):(VZ x)[i]?=some (leB x i):=by simp[VZ,a]
def leBytes:List UInt64->List UInt8
 |[]=>[]
 |b::a=>VZ b++leBytes a
def leBytes_length:∀a:List UInt64,(leBytes a).length=8*a.length
 |[]=>rfl
 |b::a=>by rw[leBytes,AY,MK,leBytes_length a,BD];omega
def Ji:∀(l:List UInt64)(k i:Nat)(a:k<l.length)(_:i<8),(leBytes l)[8*k+i]?=some (leB l[k] i)
 |[],_,_,a,_=>by simp at a
 |c::l,0,i,_,b=>by
  rw[leBytes,List.getElem?_append_left (by rw[MK];omega)];simpa using vg c i b
 |c::l,k+1,i,a,b=>by
  rw[leBytes,List.getElem?_append_right (by rw[MK];omega),MK,show 8*(k+1)+i-8=8*k+i by omega];exact Ji l k i (by simpa using a) b
def le_step(x:UInt64)(i:Nat):x.toNat%256^i+(leB x i).toNat*256^i=x.toNat%256^(i+1):=by
 rw[VY,JI,Nat.mod_mul];rw[Hq]
def Anf(x:UInt64):x.toNat%256^8=x.toNat:=Gm (by have:=x.toNat_lt;simpa using this)
def Yb(l:List UInt64)(k:Nat)(n:UInt64)(i:Nat):List UInt8:=(leBytes l).mapIdx λa b=>if 8*k<=a/\a<8*k+i then leB n (a-8*k)else b
def Xp(l:List UInt64)(k:Nat)(n:UInt64)(i:Nat):(Yb l k n i).length=8*l.length:=by simp[Yb,leBytes_length]
def Abp(l:List UInt64)(k:Nat)(n:UInt64):Yb l k n 0=leBytes l:=by
 apply Jt;intro a;simp only[Yb,Nv];cases(leBytes l)[a]? with
 |none=>rfl
 |some b=>rw[DJ,if_neg O]
def Abq(l:List UInt64)(k:Nat)(n:UInt64)(i:Nat)(d:k<l.length)(hi:i<8):(Yb l k n i).set (8*k+i) (leB n i)=Yb l k n (i+1):=by
 apply Jt;intro a;rw[L9];by_cases c:8*k+i=a
 ·subst c;rw[if_pos rfl,if_pos (by rw[Xp];omega)];simp only[Yb,Nv,Ji l k i d hi,DJ];rw[if_pos O,show 8*k+i-8*k=i by omega]
 ·rw[if_neg c];simp only[Yb,Nv];cases(leBytes l)[a]? with
  |none=>rfl
  |some e=>
   simp only[DJ];by_cases b:8*k<=a/\a<8*k+i
   ·rw[if_pos b,if_pos O]
   ·rw[if_neg b,if_neg O]
def nR(l:List UInt64)(k:Nat)(n:UInt64)(_:k<l.length):Yb l k n 8=leBytes (l.set k n):=by
 apply Jt;intro a;by_cases h:a<8*l.length
 ·have e:a=8*(a/8)+a%8:=O;have d:a/8<l.length:=O;have f:a%8<8:=Tv _ U;have b:=Ji l (a/8) (a%8) d f;have c:=Ji (l.set k n) (a/8) (a%8) (by simpa using d) f;rw[<-e]at b c;simp only[Yb,Nv,b,c,DJ];rw[KL];by_cases g:k=a/8
  ·rw[if_pos O,if_pos g,show a-8*k=a%8 by omega]
  ·rw[if_neg O,if_neg g]
 ·rw[FU (by rw[Xp];omega),FU (by rw[leBytes_length,List.length_set];omega)]
def jq:Nat:=2^64-1
def fieldN(n a size:Nat):Nat:=n/2^a%2^size
def EG(n a size v:Nat):Nat:=(n&&&(jq-(2^size-1)*2^a))|||((v&&&(2^size-1))*2^a)
def jr(n b:Nat):Option Nat:=(DW b).find? λa=> !n.testBit a
def LG:List Nat:=[0x00000000,0x105ec76f,0x20bd8ede,0x30e349b1,0x417b1dbc,0x5125dad3,0x61c69362,0x7198540d,0x82f63b78,0x92a8fc17,0xa24bb5a6,0xb21572c9,0xc38d26c4,0xd3d3e1ab,0xe330a81a,0xf36e6f75]
def Qi(x:Nat):Nat:=(x/16)^^^LG.getD (x%16) 0
def SE(x c:Nat):Nat:=Qi (Qi (x^^^c))
def ML(b:Nat)(l:List UInt8):Nat:=(l.foldl (λc a=>SE c a.toNat) (b^^^4294967295))^^^4294967295
structure Sh where
 lines:Nat
 BQ:Nat
 table:Nat
 data:Nat
 deriving DecidableEq
def JX(a:Nat):Nat:=2+(a+7)/8
def Oi(a:Nat):Nat:=JX a+16*a
def JW(b:Nat):Nat->Nat->Nat
 |0,a=>a
 |c+1,a=>if Oi (a+1)<=b then JW b c (a+1)else a
def Qj(a:Nat):Nat:=JW a a 0
def shapeOf(a:Nat):Option Sh:=
 if a>1024 then none else
 let b:=Qj a
 if b=0 then none else some {lines:=a,BQ:=b,table:=128,data:=JX b*64}
def headW(s:Sh):List UInt64:=[0x6c6c697473,1,Aj s.lines,Aj s.BQ,Aj s.table,Aj s.data]
def wordsOf(s:Sh):List UInt64:=headW s++[Aj (ML 0 (leBytes (headW s))),0]
def Bz:Nat->Nat
 |1=>16
 |2=>4
 |_=>0
def Bf:Nat->Nat
 |1=>1
 |2=>4
 |_=>0
def Ed(w:Nat):Nat:=fieldN w 16 2
def JY(w:Nat):Nat:=fieldN w 0 16
def FW(w:Nat):Bool:=w==0||(fieldN w 0 (Bz (Ed w))!=0&&EG (EG w 0 (Bz (Ed w)) 0) 16 2 0==0)
def Bc(w:Nat):Nat:=if FW w then Ed w else 0
def EH(w:Nat)(a:Nat):Bool:=decide (a<Bz (Bc w))&&fieldN w a 1==1
def IZ(w:Nat):List Nat:=(DW (Bz (Bc w))).filter (EH w)
def LH(w c:Nat):Bool:=FW w&&decide (0<Bz c)&&(w==0||Ed w==c)
def KP(w c:Nat):Option Nat:=if LH w c then jr (JY w) (Bz c)else none
def FX(w c a:Nat):Nat×Bool:=if !LH w c||decide (Bz c<=a)||EH w a then(w,false)else(EG (EG w a 1 1) 16 2 c,true)
def Ee(w a:Nat):Nat×Bool:=if !EH w a then(w,false)else if JY (EG w a 1 0)=0 then(0,true)else(EG w a 1 0,true)
structure Nd where
 pre:List UInt8
 val:UInt64
 labels:List UInt8
 kids:List UInt64
def ER:List UInt8->Bool
 |b::a::c=>decide (b.toNat<a.toNat)&&ER (a::c)
 |_=>true
def Ht:∀(l:List UInt8),ER l=true<->∀a(b:a+1<l.length),l[a].toNat<l[a+1].toNat
 |[]=>by simp[ER]
 |[_]=>by simp[ER]
 |h::d::l=>by
  have g:=Ht (d::l);simp only[ER,Bool.and_eq_true,decide_eq_true_eq,g];constructor
  ·rintro⟨e,f⟩a c;rcases a with _|a
   ·simpa using e
   ·exact f a (by simpa using c)
  ·intro b;exact⟨by simpa using b 0 Θ,λa c=>b (a+1) (by simpa using c)⟩
def PD(l:List UInt8)(k:Nat)(g:k<l.length)(a:ER (l.take k)=true)(f:∀c,k=c+1->(a:c<l.length)->l[c].toNat<l[k].toNat):ER (l.take (k+1))=true:=by
 rw[Ht]at a⊢;intro b d;simp only[Em]at d;simp only[Ae5];by_cases e:b+1=k
 ·subst e;exact f b rfl O
 ·have:=a b (by simp;omega);simpa using this
def nS(l:List UInt8)(a:Nat)(d:a+1<l.length)(b:ER (l.take (a+1))=true)(e:l[a].toNat<l[a+1].toNat):ER (l.take (a+1+1))=true:=
 PD l (a+1) d b (λf c _=>by cases c;exact e)
def Cf(x:Nd):Bool:=
 decide (x.pre.length<=15)&&x.pre.all D6&&decide (x.labels.length=x.kids.length)&&x.labels.all D6&&ER x.labels&&x.kids.all (λa=>a.toNat !=0)
def Bv(x:Nd):Cf x=true<->x.pre.length<=15/\x.pre.all D6=true/\x.labels.length=x.kids.length/\x.labels.all D6=true/\ER x.labels=true/\∀a(k:a<x.kids.length),x.kids[a].toNat≠0:=by
 simp only[Cf,Bool.and_eq_true,decide_eq_true_eq,and_assoc,Ew (p:=λi:UInt64=>i.toNat !=0),bne_iff_ne,ne_eq];constructor
 ·rintro⟨b,c,d,e,f,g⟩;exact⟨b,c,d,e,f,λa h=>g _ (BH h)⟩
 ·rintro⟨b,c,d,e,f,g⟩;refine⟨b,c,d,e,f,λi j=>?_⟩;obtain⟨a,h,rfl⟩:=Cm j;exact g a h
def jv(x:Nd)(k:Nat)(b:k<x.labels.length)(a:¬x.labels[k].toNat<16):Cf x=false:=by
 cases c:Cf x with
 |false=>rfl
 |true=>
  have:=((Bv x).1 c).2.2.2.1;exact absurd (Yt this b) a
def dw(x:Nd)(a:Nat)(c:a+1<x.labels.length)(b:¬x.labels[a].toNat<x.labels[a+1].toNat):Cf x=false:=by
 cases d:Cf x with
 |false=>rfl
 |true=>
  have:=((Bv x).1 d).2.2.2.2.1;exact absurd ((Ht _).1 this a c) b
def jy(x:Nd)(b:¬(x.pre.length<=15/\x.pre.all D6=true)):Cf x=false:=by
 cases a:Cf x with
 |false=>rfl
 |true=>exact absurd ⟨((Bv x).1 a).1,((Bv x).1 a).2.1⟩ b
def jA(x:Nd)(a:x.labels.length≠x.kids.length):Cf x=false:=by
 cases b:Cf x with
 |false=>rfl
 |true=>exact absurd ((Bv x).1 b).2.2.1 a
def vz(x:Nd)(h1:x.pre.length<=15)(h2:x.pre.all D6=true)(h3:x.labels.length=x.kids.length)(h4:x.labels.all D6=true)(d:ER x.labels=true):
 Cf x= !(x.kids.any λf=>f.toNat==0):=by
 rw[Bool.eq_iff_iff,Bv];simp only[Bool.not_eq_true',List.any_eq_false,beq_iff_eq];constructor
 ·rintro⟨_,_,_,_,_,a⟩g e;obtain⟨c,b,rfl⟩:=Cm e;exact a c b
 ·intro a;exact⟨h1,h2,h3,h4,d,λc b=>a _ (BH b)⟩
def Dl(x:Nd):Nat:=if x.kids.length<=4 then 1 else 2
def placeOf{a:Type}(p:a->Bool)(l:List a):Int:=match l.findIdx? p with|some b=>(b:Int)|none=> -1
def Xq{b:Type}(p:b->Bool)(l:List b)(k:Nat)(d:k<l.length)(e:∀a(g:a<k),p (l[a]' O)=false)(f:p l[k]=true):placeOf p l=(k:Int):=by
 have:l.findIdx? p=some k:=by
  rw[List.findIdx?_eq_some_iff_getElem];exact⟨d,f,λa c=>by simp[e a c]⟩
 simp[placeOf,this]
def UO{b:Type}(p:b->Bool)(l:List b)(d:∀a(g:a<l.length),p l[a]=false):placeOf p l= -1:=by
 have:l.findIdx? p=none:=by
  rw[List.findIdx?_eq_none_iff];intro h e;obtain⟨f,c,rfl⟩:=Cm e;exact d f c
 simp[placeOf,this]
def Gn(l:List UInt8):UInt64:=Aj (l.length+16*Fv l)
def Dw:List UInt64->List UInt8->List UInt64->List UInt64
 |a,b::c,d::e=>Dw (a.set (4+b.toNat) d) c e
 |a,_,_=>a
def Oj:∀(row:List UInt64)(a:List UInt8)(b:List UInt64),(Dw row a b).length=row.length
 |row,c::a,d::b=>by rw[Dw,Oj];simp
 |row,[],_=>by simp[Dw]
 |row,_::_,[]=>by simp[Dw]
def OE:∀(row:List UInt64)(a:List UInt8)(b:List UInt64)(i:Nat)(h1:i<a.length)(h2:i<b.length),
 Dw row (a.take (i+1)) (b.take (i+1))=(Dw row (a.take i) (b.take i)).set (4+a[i].toNat) b[i]
 |row,c::a,d::b,0,_,_=>by simp[Dw]
 |row,c::a,d::b,i+1,h1,h2=>by
  have:=OE (row.set (4+c.toNat) d) a b i (by simpa using h1) (by simpa using h2);simpa[Dw]using this
 |_,[],_,_,h1,_=>by simp at h1
 |_,_::_,[],_,_,h2=>by simp at h2
def encS(x:Nd):List UInt64:=[Aj (1+256*x.kids.length),Gn x.pre,x.val,Gn x.labels]++x.kids++BC (4-x.kids.length) 0
def headB(x:Nd):List UInt64:=[Aj (2+256*x.kids.length),Gn x.pre,x.val]++BC 29 0
def Rt(x:Nd):List UInt64:=Dw (headB x) x.labels x.kids
def DT(x:Nd):List UInt64:=if x.kids.length<=4 then encS x else Rt x
def Xr(x:Nd)(a:x.kids.length<=4):(encS x).length=8:=by simp[encS];omega
def Xt(x:Nd):(Rt x).length=32:=by simp[Rt,Oj,headB]
def Fb(x:Nd):(DT x).length=if x.kids.length<=4 then 8 else 32:=by
 unfold DT;split
 ·rename_i a;exact Xr x a
 ·exact Xt x
def Jj(u:Nat)(a:List UInt64):List UInt8×List UInt64:=
 if u/16/16^(u%16)=0/\u%16<=4 then(digits (u%16) (u/16),a.take (u%16))else([],[])
def Lp:Nat->List UInt64->List UInt8
 |_,[]=>[]
 |a,b::t=>if b.toNat=0 then Lp (a+1) t else UInt8.ofNat a::Lp (a+1) t
def N9(t:List UInt64):List UInt64:=t.filter λa=>a.toNat !=0
def YJ:∀(i:Nat)(t:List UInt64)(x:UInt64),Lp i (t++[x])=Lp i t++(if x.toNat=0 then[]else[UInt8.ofNat (i+t.length)])
 |i,[],x=>by simp only[EX,Lp];split<;>simp
 |i,a::t,x=>by
  have:=YJ (i+1) t x;simp only[Cj,Lp,this,BD];rw[show i+1+t.length=i+(t.length+1)by omega];split<;>simp
def vC(t:List UInt64)(x:UInt64):N9 (t++[x])=N9 t++(if x.toNat=0 then[]else[x]):=by
 simp only[N9,List.filter_append,Afb,List.filter_nil];by_cases a:x.toNat=0<;>simp[a]
def OG:∀(i:Nat)(t:List UInt64),(Lp i t).length=(N9 t).length
 |_,[]=>rfl
 |i,b::t=>by
  have:=OG (i+1) t;simp only[Lp,N9,Afb]at this⊢;by_cases a:b.toNat=0<;>simp[a,this]
def YK(t:List UInt64):(N9 t).length<=t.length:=List.length_filter_le _ _
def Eu(u:Nat):List UInt8:=if u/16/16^(u%16)=0 then digits (u%16) (u/16)else[]
def Afk(l:List UInt64):Nd:=
 {pre:=Eu (l.getD 1 0).toNat,val:=l.getD 2 0,labels:=(Jj (l.getD 3 0).toNat (l.drop 4)).1,kids:=(Jj (l.getD 3 0).toNat (l.drop 4)).2}
def vF(l:List UInt64):Nd:=
 {pre:=Eu (l.getD 1 0).toNat,val:=l.getD 2 0,labels:=Lp 0 ((l.drop 4).take 16),kids:=N9 ((l.drop 4).take 16)}
def Fh(l:List UInt64):Nd:=if l.length=8 then Afk l else vF l
def Ja(l:List UInt64):Bool:=(decide (l.length=8)||decide (l.length=32))&&(Cf (Fh l)&&decide (DT (Fh l)=l))
def eY(u:Nat):(Eu u).length<=15:=by
 unfold Eu;split
 ·rw[digits_length];omega
 ·simp
def vG(x:Nd)(v:UInt64):Cf {x with val:=v}=Cf x:=rfl
def UQ:∀(row a:List UInt64)(e:List UInt8)(f:List UInt64)(i:Nat),row.length=a.length->(∀d,d≠2->row[d]?=a[d]?)->i≠2->(Dw row e f)[i]?=(Dw a e f)[i]?
 |row,a,j::e,k::f,i,g,b,c=>by
  simp only[Dw];refine UQ _ _ e f i (by simp[g]) (λd h=>?_) c;rw[L9,L9,b d h,g]
 |row,a,[],_,i,_,b,c=>by simp only[Dw];exact b i c
 |row,a,_::_,[],i,_,b,c=>by simp only[Dw];exact b i c
def Xu:∀(row:List UInt64)(a:List UInt8)(b:List UInt64),(Dw row a b)[2]?=row[2]?
 |row,c::a,d::b=>by
  simp only[Dw];rw[Xu,L9];simp;omega
 |row,[],_=>by simp[Dw]
 |row,_::_,[]=>by simp[Dw]
def Afl(x:Nd)(v:UInt64)(i:Nat)(hi:i≠2):(DT {x with val:=v})[i]?=(DT x)[i]?:=by
 unfold DT;by_cases a:x.kids.length<=4
 ·simp only[if_pos a,encS];rcases i with _|_|_|i
  ·rfl
  ·rfl
  ·exact absurd rfl hi
  ·simp
 ·simp only[if_neg a,Rt];refine UQ _ _ _ _ i (by simp[headB]) (λb c=>?_) hi;rcases b with _|_|_|b
  ·rfl
  ·rfl
  ·exact absurd rfl c
  ·simp[headB]
def Afm(x:Nd):(DT x)[2]?=some x.val:=by
 unfold DT;split
 ·simp[encS]
 ·rw[Rt,Xu];simp[headB]
def BK(ws:Nat->UInt64)(a:Nat)(xs:List UInt64)(i:Nat):UInt64:=if a<=i/\i<a+xs.length then xs.getD (i-a) 0 else ws i
def D9(ws:Nat->UInt64)(a:Nat)(x:UInt64)(i:Nat):UInt64:=if i=a then x else ws i
def wordsAt(ws:Nat->UInt64)(a n:Nat):List UInt64:=(DW n).map λt=>ws (a+t)
structure St where
 sh:Sh
 ws:Nat->UInt64
 tk:List UInt64
 hd:List UInt64
def GU(s:St)(i:Nat):Nat:=(s.tk.getD i 0).toNat
def hdN(s:St)(i:Nat):Nat:=(s.hd.getD i 0).toNat
def CE(s:St)(i:Nat):Nat:=GU s i|||hdN s i
def CY(sh:Sh)(i c a:Nat):Nat:=sh.data+1024*i+64*Bf c*a
def Hf(s:St)(off:Int):Option (Nat×Nat):=
 if off<(s.sh.data:Int)\/(s.sh.data+1024*s.tk.length:Nat)<=off then none else
 if Bf (Bc (CE s ((off.toNat-s.sh.data)/1024)))=0\/(off.toNat-s.sh.data)%1024%(64*Bf (Bc (CE s ((off.toNat-s.sh.data)/1024))))≠0 then none else
 some ((off.toNat-s.sh.data)/1024,(off.toNat-s.sh.data)%1024/(64*Bf (Bc (CE s ((off.toNat-s.sh.data)/1024)))))
def DC(s:St)(off:Int):Nat:=
 match Hf s off with
 |none=>0
 |some (a,b)=>if EH (GU s a) b then Bc (GU s a)else 0
def LJ(s:St)(k c:Nat):Option Nat:=(DW s.tk.length).find? λa=>decide (Bc (CE s a)=k)&&(KP (CE s a) c).isSome
def MM(s:St)(c:Nat):Option Nat:=match LJ s c c with|some a=>some a|none=>LJ s 0 c
def CP(s:St)(c:Nat):Option (Nat×St):=
 match MM s c with
 |none=>none
 |some a=>match KP (CE s a) c with
  |none=>none
  |some b=>some (CY s.sh a c b,{s with hd:=s.hd.set a (Aj (FX (hdN s a) c b).1)})
def We(s:St)(i:Nat)(x:UInt64):St:={s with ws:=D9 s.ws (s.sh.table/8+i) x,tk:=s.tk.set i x}
def GV(s:St)(off:Int):St×Int:=
 match Hf s off with
 |none=>(s,7)
 |some (a,b)=>if EH (hdN s a) b then
  ({We s a (Aj (FX (GU s a) (Bc (hdN s a)) b).1)with hd:=s.hd.set a (Aj (Ee (hdN s a) b).1)},0)
  else(s,7)
def Fj(s:St)(off:Int):St×Int:=
 match Hf s off with
 |none=>(s,7)
 |some (a,b)=>
  if(Ee (hdN s a) b).2 then({s with hd:=s.hd.set a (Aj (Ee (hdN s a) b).1)},0)
  else if(Ee (GU s a) b).2 then(We s a (Aj (Ee (GU s a) b).1),0)
  else(s,7)
def En(s:St):List Nat:=(DW s.tk.length).flatMap λa=>(IZ (GU s a)).map λb=>CY s.sh a (Bc (GU s a)) b
def nT(s:St):Nat:=((DW s.hd.length).map λa=>(IZ (hdN s a)).length).sum
def MN(sh:Sh):Nat->UInt64:=BK (λ_=>0) 0 (wordsOf sh)
def Bg(x:UInt64):Int:=IntKind.i64.wrap (x.toNat:Int)
def FN(s:St)(a:UInt64):Option Nd:=
 if Bf (DC s (Bg a))=0 then none else
 if Ja (wordsAt s.ws ((Bg a).toNat/8) (8*Bf (DC s (Bg a))))then some (Fh (wordsAt s.ws ((Bg a).toNat/8) (8*Bf (DC s (Bg a)))))else none
structure Pl where
 nd:Nd
 off:Int
 label:UInt8
 word:Int
def Jk(l:List UInt8)(x:UInt8):Option Nat:=l.findIdx? λa=>a.toNat==x.toNat
def OY(x:Nd)(b:UInt8):Option (UInt64×Nat):=
 match Jk x.labels b with
 |some a=>if Cf x then some (x.kids.getD a 0,if x.kids.length<=4 then 4+a else 4+b.toNat)else none
 |none=>none
def Et(s:St):Nat->UInt64->List UInt8->UInt8->Int->List Pl->Option (List Pl×List UInt8)
 |0,_,a,_,_,d=>some (d,a)
 |g+1,c,a,e,f,d=>
  if c=0 then some (d,a)else
  match FN s c with
  |none=>none
  |some b=>
   if common b.pre a<b.pre.length\/common b.pre a=a.length then some (d++[⟨b,Bg c,e,f⟩],a)else
   match OY b (a.getD (common b.pre a) 0)with
   |none=>some (d++[⟨b,Bg c,e,f⟩],a)
   |some (h,i)=>Et s g h (a.drop (common b.pre a+1)) (a.getD (common b.pre a) 0) (Bg c+8*i) (d++[⟨b,Bg c,e,f⟩])
def EY(s:St)(key:List UInt8):Option (List Pl×List UInt8):=Et s (2*key.length+1) (s.ws 9) (CG key) 0 72 []
def CX(b:List Pl)(rest:List UInt8):Option Pl:=
 match b.getLast? with
 |none=>none
 |some a=>if a.nd.pre=rest then some a else none
def GH(s:St)(key:List UInt8):UInt64×Int:=
 if 16<key.length then(0,3)else
 match EY s key with
 |none=>(0,5)
 |some (c,b)=>match CX c b with
  |none=>(0,7)
  |some a=>if a.nd.val=0 then(0,7)else(a.nd.val,0)
structure Jb where
 s:St
 made:List Int
def FY(a:Jb)(n:Nd):Jb×UInt64×Int:=
 if !Cf n then(a,0,5)else
 match CP a.s (Dl n)with
 |none=>(a,0,6)
 |some (b,c)=>
  match GV {c with ws:=BK c.ws (b/8) (DT n)} b with
  |(d,e)=>if e=0 then(⟨d,a.made++[(b:Int)]⟩,Aj b,0)else(⟨d,a.made++[(b:Int)]⟩,0,e)
def PE(l:List UInt8)(x:UInt8):Bool:=l.any λa=>a.toNat==x.toNat
def Jy(x:Nd)(a:UInt8)(b:UInt64):Bool:=Cf x&&decide (a.toNat<16)&& !(b.toNat==0)&& !PE x.labels a
def JO{a:Type}(xs:List a)(i:Nat)(u:a):List a:=xs.take i++u::xs.drop i
def JC{a:Type}(xs:List a)(i:Nat):List a:=xs.take i++xs.drop (i+1)
def Gh(l:List UInt8)(x:UInt8):Nat:=l.countP λa=>decide (a.toNat<x.toNat)
def Ib(x:Nd)(a:UInt8)(b:UInt64):Nd:={pre:=x.pre,val:=x.val,labels:=JO x.labels (Gh x.labels a) a,kids:=JO x.kids (Gh x.labels a) b}
def Ru(x:Nd)(i:Nat):Nd:={pre:=x.pre,val:=x.val,labels:=JC x.labels i,kids:=JC x.kids i}
def Iy(a:Jb)(n:Nd)(c:UInt8)(b:UInt64)(e:Int):Jb×UInt64×Int:=
 if e≠0 then(a,0,e)else
 if Jy n c b then FY a (Ib n c b)else(a,0,5)
def MV:Nat->Jb->List UInt8->UInt64->Jb×UInt64×Int
 |0,b,_,_=>(b,0,5)
 |d+1,b,a,c=>
  if a.length<=15 then FY b ⟨a,c,[],[]⟩else
  match MV d b (a.drop 16) c with
  |(f,g,e)=>Iy f ⟨a.take 15,0,[],[]⟩ (a.getD 15 0) g e
def QM(d:Jb)(x:Nd)(rest:List UInt8)(c:UInt64):Jb×UInt64×Int:=
 if common x.pre rest=x.pre.length then
  match MV (rest.length+1) d (rest.drop (common x.pre rest+1)) c with
  |(a,b,e)=>Iy a x (rest.getD (common x.pre rest) 0) b e
 else
  match FY d {x with pre:=x.pre.drop (common x.pre rest+1)}with
  |(a,b,e)=>
   if common x.pre rest=rest.length then Iy a ⟨x.pre.take (common x.pre rest),c,[],[]⟩ (x.pre.getD (common x.pre rest) 0) b e else
   if e≠0 then(a,0,e)else
   if Jy ⟨x.pre.take (common x.pre rest),0,[],[]⟩ (x.pre.getD (common x.pre rest) 0) b then
    match MV (rest.length+1) a (rest.drop (common x.pre rest+1)) c with
    |(h,f,g)=>Iy h (Ib ⟨x.pre.take (common x.pre rest),0,[],[]⟩ (x.pre.getD (common x.pre rest) 0) b) (rest.getD (common x.pre rest) 0) f g
   else(a,0,5)
def Ez(s:St)(l:List Int):St:=l.foldl (λs a=>(Fj s a).1) s
def JZ:St->List Int->Int->St×Int
 |a,[],e=>(a,e)
 |a,b::c,e=>JZ (Fj a b).1 c (if e=0 then(Fj a b).2 else e)
def EI(a:Jb)(e:Int)(d:Int)(b:UInt64)(c:List Int):St×Int:=
 if e≠0 then(Ez a.s a.made,e)else JZ {a.s with ws:=D9 a.s.ws (d.toNat/8) b} c 0
def Qk(s:St)(a:Pl)(n:UInt64):St:={s with ws:=D9 s.ws (a.off.toNat/8+2) n}
def JD(s:St)(key:List UInt8)(c:UInt64):St×Int:=
 if 16<key.length then(s,3)else if c=0 then(s,2)else
 match EY s key with
 |none=>(s,5)
 |some (g,b)=>match CX g b with
  |some a=>(Qk s a c,0)
  |none=>match g.getLast? with
   |none=>match MV (b.length+1) ⟨s,[]⟩ b c with
    |(d,f,e)=>EI d e 72 f []
   |some a=>match QM ⟨s,[]⟩ a.nd b c with
    |(d,f,e)=>EI d e a.word f [a.off]
def Hg(d:List Pl):Nat->List Int->Nat×List Int
 |0,b=>(0,b)
 |a+1,b=>match d[a]?,d[a+1]? with
  |some c,some _=>if c.nd.val=0/\c.nd.kids.length=1 then Hg d a (b++[c.off])else(a+1,b)
  |_,_=>(a+1,b)
def Ko(a:Jb)(c:List Pl):St×Int:=
 match Hg c (c.length-1) [(c.getLast?.map (·.off)).getD 0]with
 |(0,d)=>EI a 0 72 0 d
 |(f+1,d)=>match c[f]?,c[f+1]? with
  |some b,some g=>match Jk b.nd.labels g.label with
   |some h=>if Cf b.nd then match FY a (Ru b.nd h)with
    |(i,j,e)=>EI i e b.word j (d++[b.off])
    else(a.s,5)
   |none=>(a.s,5)
  |_,_=>(a.s,5)
def QX(s:St)(key:List UInt8):St×UInt64×Int:=
 if 16<key.length then(s,0,3)else
 match EY s key with
 |none=>(s,0,5)
 |some (c,d)=>match CX c d with
  |none=>(s,0,7)
  |some a=>if a.nd.val=0 then(s,0,7)else
   match(if a.nd.kids.length=0 then Ko ⟨s,[]⟩ c else(s,6))with
   |(b,e)=>if e=6 then(Qk b a 0,a.nd.val,0)else if e=0 then(b,a.nd.val,0)else(b,0,e)
def Eb(s:St):Nat->UInt64->List UInt8->List (List UInt8×UInt64)×List Int->Option (List (List UInt8×UInt64)×List Int)
 |0,_,_,_=>none
 |f+1,b,ahead,(c,e)=>
  match FN s b with
  |none=>none
  |some a=>
   if e.contains (Bg b)\/32<(ahead++a.pre).length then none else
   if a.val≠0/\J8 (ahead++a.pre)=false then none else
   (a.labels.zip a.kids).foldlM (λg(d:UInt8×UInt64)=>Eb s f d.2 (ahead++a.pre++[d.1]) g)
    (if a.val≠0 then c++[(pairs (ahead++a.pre),a.val)]else c,e++[Bg b])
def DZ(s:St):Option (List (List UInt8×UInt64)×List Int):=
 if s.ws 9=0 then some ([],[])else Eb s 34 (s.ws 9) [] ([],[])
def Uc(x:Nat)(e:x<4294967296):Qi x<4294967296:=by
 have a:x/16<2^32:=O;have b:LG.getD (x%16) 0<2^32:=by
  have:x%16<16:=Tv _ U;have d:∀c:Fin 16,LG.getD c.val 0<2^32:=by decide
  exact d ⟨x%16,this⟩
 exact VJ a b
def vH(x c:Nat)(a:x<4294967296)(b:c<256):SE x c<4294967296:=by
 unfold SE;refine Uc _ (Uc _ ?_);exact VJ (n:=32) a O
def PG(b:Nat)(l:List UInt8)(k:Nat):Nat:=(l.take k).foldl (λc a=>SE c a.toNat) (b^^^4294967295)
def YL(a:Nat)(l:List UInt8):PG a l 0=a^^^4294967295:=by simp[PG]
def YM(a:Nat)(l:List UInt8)(k:Nat)(b:k<l.length):PG a l (k+1)=SE (PG a l k) l[k].toNat:=by
 unfold PG;rw[CU b,List.foldl_append];rfl
def Abr(a:Nat)(l:List UInt8):PG a l l.length^^^4294967295=ML a l:=by simp[PG,ML]
def YN(b:Nat)(l:List UInt8)(c:b<4294967296):∀a,a<=l.length->PG b l a<4294967296
 |0,_=>by rw[YL];exact VJ (n:=32) c U
 |a+1,d=>by
  rw[YM b l a d];exact vH _ _ (YN b l c a O) (UInt8.toNat_lt _)
structure Rc where
 stamp:UInt64
 next:UInt64
 gone:Bool
 text:ByteArray
def DN(r:Rc):Bool:= !(r.stamp.toNat==0)&&decide (r.text.size<=40)&&(!r.gone||decide (r.text.size=0))
def TB:List UInt8->Nat
 |[]=>0
 |a::b=>a.toNat+256*TB b
def jB:∀(l:List UInt8),TB l<256^l.length
 |[]=>by simp[TB]
 |a::l=>by
  have:=jB l;have b:=a.toNat_lt;rw[TB,BD,JI];omega
def fA:∀(l:List UInt8)(b:UInt8),TB (l++[b])=TB l+b.toNat*256^l.length
 |[],b=>by simp[TB]
 |a::l,b=>by
  have:=fA l b;rw[Cj,TB,this,TB,BD,JI,Nat.mul_add];have e:256*(b.toNat*256^l.length)=b.toNat*(256^l.length*256):=by rw[Hq 256,NR]
  omega
def Lr(l:List UInt8)(k:Nat):UInt64:=Aj (TB ((l.drop (8*k)).take 8))
def textW(l:List UInt8):List UInt64:=(DW 5).map (Lr l)
def UR(l:List UInt8):(textW l).length=5:=by simp[textW]
def SG(l:List UInt8)(k:Nat):(Lr l k).toNat=TB ((l.drop (8*k)).take 8):=by
 unfold Lr
 have:=jB ((l.drop (8*k)).take 8)
 have a:256^((l.drop (8*k)).take 8).length<=256^8:=FK U (by simp;omega)
 rw [H8]
 exact Gm (by have:(256:Nat)^8=2^64:=by decide
              omega)
def YO(l:List UInt8)(i:Nat)(hi:i<l.length):(Lr (l.take (i+1)) (i/8)).toNat=(Lr (l.take i) (i/8)).toNat+l[i].toNat*256^(i%8):=by
 rw[SG,SG];have e:((l.take (i+1)).drop (8*(i/8))).take 8=((l.take i).drop (8*(i/8))).take 8++[l[i]]:=by
  have b:((l.take i).drop (8*(i/8))).length<=8:=by simp;omega
  have a:((l.take i).drop (8*(i/8))++[l[i]]).length<=8:=by simp;omega
  rw[CU hi,List.drop_append_of_le_length (by simp;omega),EP a,EP b]
 have a:(((l.take i).drop (8*(i/8))).take 8).length=i%8:=by simp;omega
 rw[e,fA,a]
def nU(l:List UInt8)(i k:Nat)(b:k≠i/8):Lr (l.take (i+1)) k=Lr (l.take i) k:=by
 unfold Lr;congr 2;rw[Ai6,Ai6,Ai7,Ai7];by_cases a:k<i/8
 ·rw[show min 8 (i+1-8*k)=8 by omega,show min 8 (i-8*k)=8 by omega]
 ·rw[show min 8 (i+1-8*k)=0 by omega,show min 8 (i-8*k)=0 by omega]
def vI(l:List UInt8)(i:Nat):(Lr (l.take i) (i/8)).toNat<256^(i%8):=by
 rw[SG];have:=jB (((l.take i).drop (8*(i/8))).take 8);exact BI this (FK U (by simp;omega))
def vJ(l:List UInt8)(i:Nat)(hi:i<l.length)(x:UInt64)(c:x.toNat=(Lr (l.take i) (i/8)).toNat+l[i].toNat*256^(i%8)):(textW (l.take i)).set (i/8) x=textW (l.take (i+1)):=by
 have d:x=Lr (l.take (i+1)) (i/8):=UInt64.toNat_inj.1 (by rw[c,YO l i hi]);apply EC
 ·simp[textW]
 ·intro b f g;rw[KL];simp only[textW,KN,VT];by_cases a:i/8=b
  ·rw[if_pos a,d,a]
  ·rw[if_neg a,nU l i b (λe=>a e.symm)]
def YP:textW []=[0,0,0,0,0]:=by decide
def Iz(n:Nat)(g:Bool):Nat:=3+65536*n+(if g then 256 else 0)
def CW(r:Rc):List UInt64:=[Aj (Iz r.text.size r.gone),r.stamp,r.next]++textW r.text.data.toList
def I4(r:Rc):(CW r).length=8:=by simp[CW,UR]
def Ud(l:List UInt64):Rc:=
 {stamp:=l.getD 1 0,next:=l.getD 2 0,gone:=decide ((l.getD 0 0).toNat/256%2=1),text:=⟨((leBytes (l.drop 3)).take ((l.getD 0 0).toNat/65536)).toArray⟩}
def Lt(l:List UInt64):Option Rc:=
 if l.length=8/\(l.getD 0 0).toNat/65536<=40 then
  if DN (Ud l)=true/\CW (Ud l)=l then some (Ud l)else none
 else none
def nV:∀(l:List UInt8)(i:Nat)(hi:i<l.length),TB l/256^i%256=l[i].toNat
 |a::l,0,_=>by
  have:=a.toNat_lt;simp[TB]
 |a::l,i+1,hi=>by
  have b:=a.toNat_lt;have:=nV l i (by simpa using hi);rw[TB,JI,Hq (256^i) 256,<-uz,show(a.toNat+256*TB l)/256=TB l by omega,this];rfl
def Abs(l:List UInt8)(i:Nat)(hi:i<l.length):leB (Lr l (i/8)) (i%8)=l[i]:=by
 apply UInt8.toNat_inj.1;rw[VY,SG,nV _ _ (by simp;omega)];simp only[Ae5,List.getElem_drop];congr 2;omega
def KD(r:Rc):DN r=true<->r.stamp.toNat≠0/\r.text.size<=40/\(r.gone=true->r.text.size=0):=by
 simp only[DN,Bool.and_eq_true,decide_eq_true_eq,Bool.not_eq_true',beq_eq_false_iff_ne,Bool.or_eq_true,and_assoc];cases r.gone<;>simp
def Abt{n:Nat}(a:n<=40)(g:Bool):Iz n g<18446744073709551616:=by
 unfold Iz;split<;>omega
def Ql{n:Nat}(a:n<=40)(g:Bool):(Aj (Iz n g)).toNat=Iz n g:=by
 rw[H8];exact Gm (Abt a g)
def Ue(r:Rc)(i:DN r=true):Ud (CW r)=r:=by
 obtain⟨o,j,p⟩:=(KD r).1 i;have c:((CW r).getD 0 0).toNat=Iz r.text.size r.gone:=by
  simp only[CW,Cj,zC];exact Ql j _
 have d:Iz r.text.size r.gone/65536=r.text.size:=by unfold Iz;split<;>omega
 have e:Iz r.text.size r.gone/256%2=if r.gone then 1 else 0:=by unfold Iz;split<;>omega
 have f:(CW r).drop 3=textW r.text.data.toList:=rfl;have q:r.text.size=r.text.data.toList.length:=rfl;unfold Ud;rw[c,d,e,f];have h:(leBytes (textW r.text.data.toList)).take r.text.size=r.text.data.toList:=by
  apply Jt;intro a;rw[Dj];by_cases b:a<r.text.size
  ·rw[if_pos b];have:=Ji (textW r.text.data.toList) (a/8) (a%8) (by rw[UR];omega) O;rw[show 8*(a/8)+a%8=a by omega]at this;rw[this];simp only[textW,KN,VT];rw[Abs _ _ O,Ae O]
  ·rw[if_neg b,FU O]
 rw[h];have g:decide ((if r.gone=true then 1 else 0)=1)=r.gone:=by cases r.gone<;>rfl
 rw[g];cases r with
 |mk k l m n=>simp only[Rc.mk.injEq];exact⟨rfl,rfl,trivial,trivial⟩
def Abu(r:Rc)(a:DN r=true):Lt (CW r)=some r:=by
 obtain⟨e,b,f⟩:=(KD r).1 a;have c:((CW r).getD 0 0).toNat=Iz r.text.size r.gone:=by
  simp only[CW,Cj,zC];exact Ql b _
 have d:Iz r.text.size r.gone/65536=r.text.size:=by unfold Iz;split<;>omega
 unfold Lt;rw[if_pos ⟨I4 r,by rw[c,d];exact b⟩,Ue r a,if_pos ⟨a,rfl⟩]
def vK{l:List UInt64}{r:Rc}(a:Lt l=some r):DN r=true/\CW r=l/\l.length=8:=by
 unfold Lt at a;split at a
 ·rename_i c;split at a
  ·rename_i b;injection a with a
   subst a;exact⟨b.1,b.2,c.1⟩
  ·cases a
 ·cases a
structure Lk where
 off:Int
 rc:Rc
def EL(l:List Lk):Nat:=match l.getLast? with|none=>18446744073709551616|some a=>a.rc.stamp.toNat
def OZ(s:St):Nat->UInt64->List Lk->Option (List Lk)
 |0,_,_=>none
 |d+1,a,b=>
  if a.toNat=0 then some b else
  if DC s (Bg a)≠1 then none else
  match Lt (wordsAt s.ws ((Bg a).toNat/8) 8)with
  |none=>none
  |some c=>if EL b<=c.stamp.toNat then none else OZ s d c.next (b++[⟨Bg a,c⟩])
def Lu(s:St)(first:UInt64):Option (List Lk):=OZ s 18446744073709551618 first []
def Iq(s:St)(r:Rc):St×UInt64×Int:=
 if DN r=false then(s,0,2)else
 match CP s 1 with
 |none=>(s,0,6)
 |some (a,b)=>
  match GV {b with ws:=BK b.ws (a/8) (CW r)} a with
  |(c,e)=>if e=0 then(c,Aj a,0)else((Fj c a).1,0,e)
def Du(l:List Int):List Int:=l.mergeSort λa b=>decide (a<=b)
def Gt(s:St):List (List UInt8×UInt64)->List Int->Option (List Int)
 |[],a=>some a
 |b::t,a=>match Lu s b.2 with
  |none=>none
  |some c=>Gt s t (a++c.map (·.off))
def Ic:List Int->Bool
 |b::a::t=> !(b==a)&&Ic (a::t)
 |_=>true
def YQ(s:St):∀(l:List (List UInt8×UInt64))(a:List UInt8×UInt64)(b:List Int),Gt s (l++[a]) b=match Gt s l b with
    |none=>none
    |some d=>match Lu s a.2 with|none=>none|some c=>some (d++c.map (·.off))
 |[],a,b=>by
  simp only[EX,Gt]
 |e::t,a,b=>by
  simp only[Cj,Gt];cases Lu s e.2 with
  |none=>rfl
  |some c=>exact YQ s t a _
def YR{s:St}{l:List (List UInt8×UInt64)}{c r:List Int}(b:Gt s l c=some r):∀a,a<=l.length->∃d,Gt s (l.take a) c=some d/\Gt s (l.drop a) d=some r:=by
 induction l generalizing c with
 |nil=>intro a e;exact⟨c,by simp[Gt],by simpa[Gt]using b⟩
 |cons h t g=>
  intro a e;cases a with
  |zero=>exact⟨c,rfl,b⟩
  |succ a=>
   simp only[Gt]at b;simp only[JL,List.drop_succ_cons,Gt];cases f:Lu s h.2 with
   |none=>rw[f]at b;cases b
   |some i=>
    rw[f]at b;exact g b a (by simpa using e)
def fB{s:St}:∀{l:List (List UInt8×UInt64)}{b r:List Int},Gt s l b=some r->b.length<=r.length
 |[],b,r,a=>by simp only[Gt,Option.some.injEq]at a;subst a;exact Ad _
 |d::t,b,r,a=>by
  simp only[Gt]at a;cases c:Lu s d.2 with
  |none=>rw[c]at a;cases a
  |some e=>
   rw[c]at a;have:=fB a;rw[AY]at this;omega
def fC:∀{l:List Int},Ic l=true->∀b(a:b+1<l.length),l[b]≠l[b+1]
 |d::e::t,a,0,_=>by
  simp only[Ic,Bool.and_eq_true,Bool.not_eq_true',beq_eq_false_iff_ne,ne_eq]at a;exact a.1
 |d::e::t,a,b+1,c=>by
  simp only[Ic,Bool.and_eq_true]at a;have:=fC a.2 b (by simpa using c);simpa using this
 |[],_,_,c=>by simp at c
 |[d],_,b,c=>by simp at c
def Uf(s:St):Option (List Int):=
 match DZ s with
 |none=>none
 |some (b,c)=>match Gt s b (Du c)with
  |none=>none
  |some a=>if Ic (Du a)=true then some (Du a)else none
def vM{s:St}{l:List (List UInt8×UInt64)}{b a:List Int}{k:Nat}(d:k<l.length)(c:Gt s (l.take k) b=some a):
 Gt s (l.take (k+1)) b=match Lu s l[k].2 with|none=>none|some e=>some (a++e.map (·.off)):=by
 rw[CU d,YQ,c]
def vN{s:St}{l:List (List UInt8×UInt64)}{a:List Int}{k:Nat}(d:k<l.length)(b:Gt s (l.take (k+1)) a=none):Gt s l a=none:=by
 cases e:Gt s l a with
 |none=>rfl
 |some g=>
  obtain⟨f,c,_⟩:=YR e (k+1) d;rw[c]at b;cases b
def jC(l:List Int)(b:Nat):Prop:=∀a,1<=a->a<b->∀c:a<l.length,l[a-1]≠l[a]
def nX{l:List Int}{c:Nat}(q:1<=c)(h:jC l c){a b:Int}(k:l[c]?=some a)(m:l[c-1]?=some b)(o:a≠b):jC l (c+1):=λd i p j=>by
 by_cases n:d=c
 ·subst n;obtain⟨_,f⟩:=C9.1 k;obtain⟨_,g⟩:=C9.1 m;rw[f,g];exact λe=>o e.symm
 ·exact h d i O j
def zQ:∀{l:List Int},(∀a,1<=a->∀b:a<l.length,l[a-1]≠l[a])->Ic l=true
 |[],_=>rfl
 |[_],_=>rfl
 |h::c::t,b=>by
  have d:=b 1 (Ad _) Θ;have f:=zQ (l:=c::t) (λa i e=>by
   have:=b (a+1) O (by simpa using e);obtain⟨a,rfl⟩:∃g,a=g+1:=⟨a-1,O⟩;simpa using this)
  unfold Ic;simp only[Bool.and_eq_true,Bool.not_eq_true',beq_eq_false_iff_ne];exact⟨d,f⟩
