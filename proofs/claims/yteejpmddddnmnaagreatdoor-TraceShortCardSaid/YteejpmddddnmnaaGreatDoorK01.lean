import Derived.WalkSpells
import Derived.WalkLawsBesides
import Derived.Lib.Hide
import Derived.Deep.AppendLies
import Derived.Lib.BytesEntry
import Derived.BigQuiet
import Derived.Test.YteejpmddddnmnaaGreatDoorRows
import Derived.Laws.CopyOwn
set_option linter.defProp false
set_option maxHeartbeats 32000000
set_option maxRecDepth 100000
open Int renaming ofNat_lt->Abr,natCast_pow->JJ,natCast_mul->Ib,natCast_ediv->Aqd
open List renaming getElem?_eq_getElem->Ag,length_take->Cc,getElem?_take->Dh,eq_nil_of_length_eq_zero->Cj,mem_map->CU,getD->XC,mem_of_mem_take->Qd,replicate->BJ,ext_getElem->ER,getElem?_eq_some_iff->Cf,getElem?_map->CP,length_drop->AU,getElem?_drop->DX,map_toArray->Jl,map_cons->Ci,map_nil->FW,take_succ_eq_append_getElem->BH,getElem_mem->BO,flatMap_cons->Ala,append_nil->EN,take_succ_cons->Jf,drop_eq_getElem_cons->BX,all_cons->rO,length_cons->Bg,cons_append->BM,all_eq_true->ED,map_set->O9,set_append_right->VV,replicate_succ->XF,getElem_cons_succ->Ak,nil_append->DR,range->Ea,length_append->AO,getElem?_append_left->DK,getElem?_append_right->Ez,ext_getElem?->KE,getElem?_mapIdx->OZ,getElem?_set->H9,getElem_set->MX,getElem?_eq_none->FO,getElem_take->bC,getElem_of_mem->CW,findIdx?_eq_some_iff_getElem->NG,findIdx?_eq_none_iff->nV,filter_cons->Alk,take_of_length_le->Dq,drop_take->Aql,take_take->Rq,getElem_map->UC,getElem_range->RU,getD_cons_zero->Afq,map_append->CJ,any_eq_true->Alm,length_map->Df,length_nil->CV
open Go.World renaming cell?_of_block->BQ,cell?->Au0,ownsRow_nil->Ce,ownsRow_made->Afr,frozen?->Ij,setCell->DL,setCells->QH
open Nat renaming le_refl->Ae,lt_or_ge->JO,zero_le->Bd,eq_zero_or_pos->I4,mul_le_mul->I5,pow_succ->JA,mul_assoc->PO,mul_comm->KD,min_eq_left->EI,le_of_lt->Lh,pow_le_pow_right->Gm,div_div_eq_div_mul->UA,mod_eq_of_lt->Ho,lt_of_lt_of_le->Bc,mod_lt->MH,xor_lt_two_pow->YK,lt_of_le_of_lt->KF,div_le_self->A40,add_zero->Axt,zero_add->Du,le_trans->AZ,pow_pos->Wl,and_le_right->Aqe,and_le_left->Aqm,xor_comm->Axq
open Array renaming getElem?_eq_some_iff->AL,getElem?_push->Ff,getElem?_modify->Ov,size_modify->RN,getElem?_setIfInBounds->Bh
open Go.Value renaming int->AA,cells->Aby,oneCell'->Aqc,ownBlock->AY,slice->Ad
open Option renaming map_some->EX
open UInt64 renaming ofNat->Az,toNat_ofNat'->IX,toNat_inj->Eb,toNat_ofNat_of_lt'->Gq,size->JU
open Go.Lib renaming run_eql_slice_nil->KI,hid->Ac
universe u
namespace Go.Proofs.YteejpmddddnmnaaGreatDoor
open Go.RowKit
open Go.Proofs.Tryz
abbrev ni:=UInt64
abbrev nC:=UInt8
abbrev nG:=ByteArray
theorem l9{p q r:Prop}(a:p)(b:q)(c:r):Hid p/\Hid q/\Hid r:=⟨a,b,c⟩
theorem lL{p q r s:Prop}(a:p)(b:q)(c:r)(d:s):Hid p/\Hid q/\Hid r/\Hid s:=⟨a,b,c,d⟩
theorem lM{p q r s t:Prop}(a:p)(b:q)(c:r)(d:s)(e:t):Hid p/\Hid q/\Hid r/\Hid s/\Hid t:=⟨a,b,c,d,e⟩
theorem lN{p q r s t u:Prop}(a:p)(b:q)(c:r)(d:s)(e:t)(f:u):Hid p/\Hid q/\Hid r/\Hid s/\Hid t/\Hid u:=⟨a,b,c,d,e,f⟩
theorem lQ{p q r s t u v:Prop}(a:p)(b:q)(c:r)(d:s)(e:t)(f:u)(g:v):Hid p/\Hid q/\Hid r/\Hid s/\Hid t/\Hid u/\Hid v:=⟨a,b,c,d,e,f,g⟩
theorem lT{p q r s t u v x y:Prop}(a:p)(b:q)(c:r)(d:s)(e:t)(f:u)(g:v)(h:x)(i:y):Hid p/\Hid q/\Hid r/\Hid s/\Hid t/\Hid u/\Hid v/\Hid x/\Hid y:=⟨a,b,c,d,e,f,g,h,i⟩
theorem mZ{n:Nat}{w:Go.World}:Below n w w:=Below.refl _ _
def kX{c:Prop}[h:Decidable c](k:c){α:Sort u}{a b:α}:ite c a b=a:=if_pos k
def lg{c:Prop}[h:Decidable c](k:¬c){α:Sort u}{a b:α}:ite c a b=b:=if_neg k
theorem O{p:Prop}(h:p:=by omega):p:=h
theorem U{p:Prop}(h:p:=by decide):p:=h
theorem Θ{p:Prop}(h:p:=by simp):p:=h
theorem Γ{p:Prop}(h:p:=by kernel_rfl):p:=h
theorem Ω{q p:Prop}(a:q)(h:q->p:=by intro h;omega):p:=h a
theorem Ψ{q r p:Prop}(a:q)(b:r)(h:q->r->p:=by intro h c;omega):p:=h a b
theorem Ξ{q r t p:Prop}(a:q)(b:r)(c:t)(h:q->r->t->p:=by intro h d e;omega):p:=h a b c
abbrev Δ(b i:Nat):Addr:=⟨b,i,none⟩
abbrev Φ(b:Nat):Addr:=⟨b,0,none⟩
abbrev η(w a:World):Prop:=Below w.heap.size w a
theorem τ{w a b:World}(h:Below w.heap.size w a)(k:Below a.heap.size a b):Below w.heap.size w b:=h.trans (k.mono h.size)
theorem χ(w:World)(o:Obj){r:Nat}(h:r<w.heap.size):(w.alloc o).heap[r]?=w.heap[r]?:=by
 show(w.heap.push o)[r]?=_;rw[Array.getElem?_push_lt h,Array.getElem?_eq_getElem h]
theorem ε{c:Type}(a:c):∃b,b=a:=⟨_,rfl⟩
theorem ζ{c:Type}[BEq c][LawfulBEq c]{a b:c}(h:a≠b):(a==b)=false:=beq_eq_false_iff_ne.2 h
instance:CoeOut World Nat:=⟨λw=>w.heap.size⟩
instance:Coe ni Value:=⟨λx=>.int .u64 (x.toNat:Int)⟩
instance:Coe nC Value:=⟨λx=>.int .u8 (x.toNat:Int)⟩
instance:Coe Nat Value:=⟨λx=>.int .i64 (x:Int)⟩
instance:Coe Int Value:=⟨λx=>.int .i64 x⟩
instance:Coe Bool Value:=⟨λx=>.bool x⟩
instance:Coe nG Value:=⟨λx=>.string x⟩
instance:CoeOut nG (List nC):=⟨λb=>b.data.toList⟩
def dT(p:Prop) [Decidable p](h:p:=by omega):decide p=true:=decide_eq_true h
def dF(p:Prop) [Decidable p](h:¬p:=by omega):decide p=false:=decide_eq_false h
def wR(n:Int)(h: -9223372036854775808<=n/\n<=9223372036854775807:=by omega):IntKind.i64.wrap n=n:=IntWalk.i64_in n h
def mz{p:Prop}(h:p:=by simp[intOf];omega):p:=h
def _root_.Go.Calls.ro{P:Program}{f:FuncId}{a:Array Value}{w:World}{v:Value}{b:Ending->World->Prop}(h:Calls P f a w λe c=>e=.returned v/\w=c)(k:b (.returned v) w):Calls P f a w b:=h.mono λe c d=>by
 obtain⟨rfl,rfl⟩:=d;exact k
open Go.RowKit
abbrev AB(b:Nat):Value:=.pointer (some (Φ b))
def XH{k n:Nat}(h:k<n):(k:Int)<(n:Int)/\decide ((k:Int)<(n:Int))=true/\decide (k<n)=true:=⟨Abr.2 h,decide_eq_true (Abr.2 h),decide_eq_true h⟩
def xk{k n:Nat}(h:k<n):decide ((k:Int)<(n:Int))=true/\decide (k<n)=true:=(XH h).2
def wO{k n:Nat}(h:¬k<n):decide ((k:Int)<(n:Int))=false/\decide (k<n)=false:=⟨decide_eq_false (λe=>h (Abr.1 e)),decide_eq_false h⟩
def XI(k:Nat)(h:k+1<9223372036854775808):IntKind.i64.wrap ((k:Int)+1)=(k:Int)+1:=IntWalk.i64_in _ O
def Rd(w:World)(A:Option Addr)(n:Nat)(xs:List Value):Prop:=
 xs.length=n/\(0<n->∃a c,A=some (Δ a c)/\a<w/\∀b,b<n->w.cell? (Δ a (c+b))=xs[b]?)
def Rd.nil{w:World}{A:Option Addr}:Rd w A 0 []:=⟨rfl,λh=>absurd h O⟩
def Rd.at{w:World}{A:Option Addr}{n:Nat}{xs:List Value}(h:Rd w A n xs){k:Nat}(i:k<n):
 ∃a b d,A=some (Δ a b)/\a<w/\xs[k]?=some d/\w.cell? (Δ a (b+k))=some d:=by
 obtain⟨a,b,e,f,g⟩:=h.2 O;have c:k<xs.length:=Ω h.1;exact⟨a,b,xs[k],e,f,Ag c,(g k i).trans (Ag c)⟩
def Rd.keep{w w':World}{A:Option Addr}{n:Nat}{xs:List Value}(h:Rd w A n xs)(l:w.heap.size<=w'.heap.size)
 (g:∀a,a<w.heap.size->w'.heap[a]?=w.heap[a]?):Rd w' A n xs:=
 ⟨h.1,λi=>by
   obtain⟨b,k,e,c,d⟩:=h.2 i;exact⟨b,k,e,O,λj f=>(BQ (w:=w) (g b c)).trans (d j f)⟩⟩
def Rd.below{w w':World}{A:Option Addr}{n:Nat}{xs:List Value}(h:Rd w A n xs)(a:η w w'):Rd w' A n xs:=
 h.keep a.size a.block
def bv(b:nC):Value:=.int .u8 (b.toNat:Int)
def wv(x:ni):Value:=.int .u64 (x.toNat:Int)
def Bs(w:World)(A:Option Addr)(n:Nat)(l:List nC):Prop:=Rd w A n (l.map bv)
def Ws(w:World)(A:Option Addr)(n:Nat)(l:List ni):Prop:=Rd w A n (l.map wv)
def Bs.len{w:World}{A:Option Addr}{n:Nat}{l:List nC}(h:Bs w A n l):l.length=n:=by
 have:=h.1;simpa using this
def Ws.len{w:World}{A:Option Addr}{n:Nat}{l:List ni}(h:Ws w A n l):l.length=n:=by
 have:=h.1;simpa using this
def Bs.below{w w':World}{A:Option Addr}{n:Nat}{l:List nC}(h:Bs w A n l)(a:η w w'):Bs w' A n l:=Rd.below h a
def Ws.below{w w':World}{A:Option Addr}{n:Nat}{l:List ni}(h:Ws w A n l)(a:η w w'):Ws w' A n l:=Rd.below h a
def Rd.take{w:World}{A:Option Addr}{n k:Nat}{xs:List Value}(h:Rd w A n xs)(i:k<=n):Rd w A k (xs.take k):=by
 refine⟨by rw[Cc,h.1];omega,λj=>?_⟩;obtain⟨a,g,e,b,c⟩:=h.2 O;exact⟨a,g,e,b,λf d=>by rw[c f O,Dh,kX d]⟩
def Bs.at{w:World}{A:Option Addr}{n:Nat}{l:List nC}(h:Bs w A n l){k:Nat}(g:k<n):
 ∃(c:k<l.length)(a b:Nat),A=some (Δ a b)/\a<w/\w.cell? (Δ a (b+k))=some (.int .u8 (l[k].toNat:Int)):=by
 have c:k<l.length:=Ω h.len;obtain⟨a,b,j,e,d,i,f⟩:=Rd.at h g;refine⟨c,a,b,e,d,?_⟩;rw[f,<-i];simp[bv,c]
def Ws.at{w:World}{A:Option Addr}{n:Nat}{l:List ni}(h:Ws w A n l){k:Nat}(g:k<n):
 ∃(c:k<l.length)(a b:Nat),A=some (Δ a b)/\a<w/\w.cell? (Δ a (b+k))=some (.int .u64 (l[k].toNat:Int)):=by
 have c:k<l.length:=Ω h.len;obtain⟨a,b,j,e,d,i,f⟩:=Rd.at h g;refine⟨c,a,b,e,d,?_⟩;rw[f,<-i];simp[wv,c]
def CY{w:World}{g:Nat}{e:TypeId}{v:Value}{n:Nat}{xs:List Value}(h:w.ownsRow g e 1 v n xs):
 ∃a b,v=.slice a n b/\n<=b/\Rd w a n xs:=by
 obtain⟨d,j⟩:=h;rcases j with⟨rfl,rfl⟩|⟨c,o,i,rfl,_,f,k,_,p,l⟩
 ·have:xs=[]:=Cj (by simpa using d);subst this;exact⟨none,0,rfl,Ae _,Rd.nil⟩
 ·refine⟨_,_,rfl,k,by simpa using d,λr=>⟨c,0,rfl,?_,λm q=>?_⟩⟩
  ·exact(AL.1 f).1
  ·rw[cell_of_row w c (0+m) i e (0,0) f,<-l,Dh,kX O];simp
def Dr(w w':World):Prop:=∃a,w'=w.drewN a
def Dr.refl(w:World):Dr w w:=⟨0,rfl⟩
def Dr.one(w:World)(q:Nat):Dr w (w.drewN q):=⟨q,rfl⟩
def Dr.two(w:World)(q r:Nat):Dr w ((w.drewN q).drewN r):=⟨q+r,World.drewN_drewN _ _ _⟩
def Dr.trans{a b c:World}(h:Dr a b)(k:Dr b c):Dr a c:=by
 obtain⟨d,rfl⟩:=h;obtain⟨e,rfl⟩:=k;exact Dr.two _ _ _
def Dr.below{w w':World}(h:Dr w w')(B:Nat):Below B w w':=by
 obtain⟨a,rfl⟩:=h;exact⟨rfl,rfl,rfl,Ae _,λ_ _=>rfl⟩
def dY{w:World}{a g cap:Nat}{e:TypeId}{n:Nat}{xs:List Value}(h:w.ownsRow a e 1 (.slice (some (Φ g)) n cap) n xs){k:Nat}(c:k<n):∃b,w.cell? (Δ g k)=some b:=by
 rw[h.cellAt k O];exact⟨_,Ag (Ω h.1)⟩
def Ahm{v u:Value}(h:v=u):Ending.returned v=Ending.returned u:=by rw[h]
def JW(l:List nC):∀a∈l.map bv,a.oneCell'=true:=by
 intro a b;obtain⟨_,_,rfl⟩:=CU.1 b;rfl
def Tz(l:List ni):∀a∈l.map wv,a.oneCell'=true:=by
 intro a b;obtain⟨_,_,rfl⟩:=CU.1 b;rfl
def At7(k:IntKind)(w:World)(a:Option Addr)(len cap:Nat)(zs:List Int):Prop:=
 (a=none/\len=0/\cap=0/\zs=[])\/
 ∃c,a=some c/\len<=cap/\cap<=maxLen/\zs.length=cap/\(∀b,b<zs.length->w.cell? (c.add b)=some (.int k (zs.getD b 0)))/\∀d∈zs,(Lit.int k d).wf=true
def block_lt_of_cell{w:World}{a:Addr}{v:Value}(h:w.cell? a=some v):a.block<w:=by
 rcases JO a.block w with c|b
 ·exact c
 ·rw[Au0,Array.getElem?_eq_none b]at h;cases h
def rV{w:World}{x:Addr}{v:Value}(h:w.cell? (x.add 0)=some v):∃a b,x=(Δ a b):=by
 obtain⟨a,b,c⟩:=x;rcases c with _|c
 ·exact⟨a,b,rfl⟩
 ·exfalso;unfold Au0 Addr.add at h;split at h
  ·split at h<;>simp_all
  ·cases h
def Ahn{k:IntKind}{w:World}{a:Option Addr}{len cap:Nat}{zs:List Int}(h:At7 k w a len cap zs):Rd w a len ((zs.take len).map (AA k))/\(len<=maxLen/\len<=cap)/\∀j∈zs,(Lit.int k j).wf=true:=by
 rcases h with⟨rfl,rfl,rfl,rfl⟩|⟨p,rfl,g,m,o,c,i⟩
 ·exact⟨Rd.nil,⟨Bd _,Ae _⟩,by simp⟩
 ·refine⟨⟨by simp;omega,λn=>?_⟩,⟨O,g⟩,i⟩;have b:=c 0 O;obtain⟨e,l,rfl⟩:=rV b;refine⟨e,l,rfl,block_lt_of_cell b,λd f=>?_⟩;have:=c d O;rw[Addr.add_lit]at this;rw[this];simp[f,XC,show d<zs.length by omega]
def Aho{w:World}{a:Option Addr}{len cap:Nat}{zs:List Int}(h:At7 .u8 w a len cap zs):∃i:List nC,Bs w a len i/\len<=maxLen/\len<=cap:=by
 obtain⟨c,d,f⟩:=Ahn h;refine⟨(zs.take len).map λb=>UInt8.ofNat b.toNat,?_,d⟩;have e:((zs.take len).map λb=>UInt8.ofNat b.toNat).map bv=(zs.take len).map (AA .u8):=by
  rw[List.map_map];apply List.map_congr_left;intro b g;have:=f b (Qd g);have j:0<=b/\b<=255:=by simpa[Lit.wf,IntKind.min,IntKind.max,IntKind.bits,IntKind.signed]using this
  simp only[Function.comp_apply,bv,UInt8.toNat_ofNat'];congr 1;omega
 rw[Bs,e];exact c
def TA(n:Nat):(madeCells (AA .u8 0).cells (n*1)).toList=(BJ n (0:nC)).map bv:=by
 apply ER
 ·simp[madeCells]
 ·intro c a b;simp[madeCells,Aby,Nat.mod_one,bv]
def NT(n:Nat):(madeCells (AA .u64 0).cells (n*1)).toList=(BJ n (0:ni)).map wv:=by
 apply ER
 ·simp[madeCells]
 ·intro c a b;simp[madeCells,Aby,Nat.mod_one,wv]
def KL{P:Program}{w:World}{src e b:TypeId}(p:P.underlying src=some (.slice e))(m:P.underlying e=some (.int .u8))(j:P.underlying b=some .string)
 {A:Option Addr}{n:Nat}{l:List nC}(h:Bs w A n l)(c:Nat):(convert src b (.slice A n c)).run P w=.ok (.string ⟨l.toArray⟩) w:=by
 have o:=h.len;rcases A with _|i
 ·have t:n=0:=by
   rcases I4 n with f|f
   ·exact f
   ·obtain⟨_,_,e,_⟩:=h.2 f;cases e
  subst t;have d:l=[]:=Cj o;subst d;exact run_convert_bytes_nil w src e p m 0 c b j
 ·have d:(loadCells i n).run P w=.ok ((l.map λa=>(a.toNat:Int)).map (AA .u8)).toArray w:=by
   have:=run_loadCells_list (P:=P) w i ((l.map λa=>(a.toNat:Int)).map (AA .u8)) (λq x g=>by
    have s:q<l.length:=by
     have:=(Cf.1 g).1;simpa using this
    obtain⟨d,a,v,e,u,r⟩:=h.at (k:=q) O;injection e with e
    subst e;rw[Addr.add_lit,r];simp only[CP,Ag s,EX,Option.some.injEq]at g;rw[g])
   simpa[o]using this
  rw[run_convert_bytes_string w src b e _ n c p m j,run_bytesToString w _ n c _ d,foldl_push_bytes];congr 2;apply ByteArray.ext;show(#[]:Array nC)++_=l.toArray;simp[Function.comp_def]
structure OA(P:Program)(t e:TypeId)(z:Value)(bytes:Nat):Prop where
 ht:P.underlying t=some (.slice e)
 hi:(P.info? e).map (λi=>(i.zero,i.size,i.bytes))=some (some z,1,bytes)
 hz:z.cells.size=1
def dZ(A:Option Addr)(c lo:Nat):Option Addr:=if c=lo then A else A.map (·.add lo)
def Rd.sub{w:World}{A:Option Addr}{n:Nat}{xs:List Value}(h:Rd w A n xs){c lo hi:Nat}(h1:lo<=hi)(h2:hi<=n)(j:n<=c):Rd w (dZ A c lo) (hi-lo) ((xs.drop lo).take (hi-lo)):=by
 refine⟨by rw[Cc,AU,h.1];omega,λi=>?_⟩;obtain⟨a,g,rfl,b,d⟩:=h.2 O;refine⟨a,g+lo,?_,b,λf e=>?_⟩
 ·rw[dZ,lg O];simp[Addr.add_lit]
 ·rw[Nat.add_assoc,d (lo+f) O,Dh,kX e,DX]
section
variable{P:Program}{t e:TypeId}{z:Value}{bytes:Nat}
def OA.TB(T:OA P t e z bytes)(w:World):(sizeOf e).run P w=.ok 1 w:=by
 obtain⟨i,hi,b,a,c⟩:=info_parts T.hi;simp[sizeOf,typeInfo,hi,a]
def Af1(T:OA P t e z bytes)(A:Option Addr)(n c:Nat)(a b:IntKind)(lo hi:Nat)(h1:lo<=hi)(h2:hi<=c)(w:World):
 (Instr.slice t (.slice A n c) (some (.int a (lo:Int))) (some (.int b (hi:Int))) none).run P w=.ok (.slice (dZ A c lo) (hi-lo) (c-lo)) w:=by
 have d:=run_sliceBound (P:=P) (w:=w) b (hi:Int) c .sliceAcap O O;have f:=run_sliceBound (P:=P) (w:=w) a (lo:Int) hi .sliceB O O;simp[Instr.slice,run_underlying T.ht,Instr.sliceBounds,d,f,T.TB,dZ]
def Alu(T:OA P t e z bytes)(A:Option Addr)(n c:Nat)(a:IntKind)(lo:Nat)(h1:lo<=n)(w:World):
 (Instr.slice t (.slice A n c) (some (.int a (lo:Int))) none none).run P w=.ok (.slice (dZ A c lo) (n-lo) (c-lo)) w:=by
 have b:=run_sliceBound (P:=P) (w:=w) a (lo:Int) n .sliceB O O;simp[Instr.slice,run_underlying T.ht,Instr.sliceBounds,b,T.TB,dZ]
end
def Ahp{P:Program}{t e:TypeId}{z:Value}{bytes:Nat}(T:OA P t e z bytes)(s:TypeId){w:World}{b:Nat}{v:Value}{n:Nat}{xs a:List Value}
 (k:w.ownsRow b e 1 v n xs){A:Option Addr}{m:Nat}(f:Rd w A m a)
 (h1:∀i∈a,i.oneCell'=true)(F:n+m<=1000000000)(y:bytes<=64)(q:b<=w)(c:Nat):
 ∃l j,(Builtin.append_ #[t,t] s #[v,.slice A m c]).run P w=.ok l j/\j.ownsRow b e 1 l (n+m) (xs++a)/\Below b w j:=by
 obtain⟨M,o,J,K,L⟩:=info_parts T.hi;rcases A with _|p
 ·have d:m=0:=by
   rcases I4 m with d|d
   ·exact d
   ·obtain⟨_,_,e,_⟩:=f.2 d;cases e
  subst d;have G:a=[]:=Cj f.1;subst G;refine⟨v,w,?_,by simpa using k,mZ⟩;rcases k.2 with⟨rfl,rfl⟩|⟨V,R,S,rfl,_,_,H,_⟩
  ·simp[Builtin.append_,run_underlying T.ht,sizeOf,typeInfo,o,Builtin.lenOf,Builtin.firstCells]
  ·simp[Builtin.append_,run_underlying T.ht,sizeOf,typeInfo,o,Builtin.lenOf,Builtin.firstCells,H,storeCells]
 ·have C:∀g i,a[g]?=some i->w.cell? (p.add g)=some i:=by
   intro g i r;have D:g<m:=by
    have:=(Cf.1 r).1;have:=f.1;omega
   obtain⟨Q,X,e,_,B⟩:=f.2 O;injection e with e
   subst e;rw[Addr.add_lit,B g D,r]
  have W:(n+m)*bytes<=1000000000*64:=I5 F y;obtain⟨l,j,I,u,x,_⟩:=run_append_own (P:=P) w b t s e M z 1 bytes T.ht o J K L T.hz U v n xs k p m c a (by simp[f.1]) C h1
   (by unfold maxLen;omega) O q
  exact⟨l,j,I,u,mZ.grown x q (λN E=>(k.lt N E).1)⟩
def Wp{P:Program}{j:Array Oper}{nM:List Oper}{o:Oper}{a:Act}{w:World}{i:Exit->Act->World->Prop}(u:o.guard=none)(s x:Operand)(t:TypeId)
 (B:o.op=.call {callee:=.builtin .append,args:= #[s,x],argTypes:= #[t,t]}){e:TypeId}{z:Value}{bytes:Nat}(T:OA P t e z bytes)
 (d:Nat)(v:Value)(n:Nat)(xs g:List Value)(F:a.eval s=v)(C:w.ownsRow d e 1 v n xs)(A:Option Addr)(m c:Nat)(G:a.eval x=.slice A m c)(D:Rd w A m g)
 (h1:∀H∈g,H.oneCell'=true)(y:n+m<=1000000000)(r:bytes<=64)(q:d<=w)
 (h:∀f b,b.ownsRow d e 1 f (n+m) (xs++g)->Below d w b->wpList P j i nM (a.put o.dst f) b):wpList P j i (o::nM) a w:=by
 refine wpList_plain u λI p=>?_
 obtain⟨f,b,E,k,l⟩:=Ahp T o.type C D h1 y r q c;unfold Oper.wp execOp;simp only[B,resolve,invoke,builtin,Sem.run_bind,Sem.run_pure,Result.andThen_ok,Jl,Ci,FW,F,G,E];exact p _ _ (h f b k l)
def Ab0{P:Program}{t e:TypeId}{z:Value}{bytes:Nat}(T:OA P t e z bytes)(x:TypeId){w wr:World}{b:Nat}{v:Value}{n:Nat}{xs a:List Value}
 (r:wr.ownsRow b e 1 v n xs)(f:w.heap=wr.heap.push (.cells a.toArray e))(I:w.os=wr.os)(L:w.tape=wr.tape)(J:w.output=wr.output)
 (h1:∀g∈a,g.oneCell'=true)(G:n+a.length<=1000000000)(D:bytes<=64)(C:b<=wr)(m c:Nat)(H:m=a.length):
 ∃k i,(Builtin.append_ #[t,t] x #[v,.slice (some (Φ wr)) m c]).run P w=.ok k i/\i.ownsRow b e 1 k (n+m) (xs++a)/\Below b wr i:=by
 subst H;obtain⟨S,F,N,Q,R⟩:=info_parts T.hi;have p:η wr w:=⟨I,L,J,by rw[f];simp,λu q=>by rw[f,Ff,lg O]⟩;have s:w.ownsRow b e 1 v n xs:=by
  refine⟨r.1,?_⟩;rcases r.2 with h|⟨o,y,A,h1,l,j,B⟩
  ·exact .inl h
  ·exact .inr ⟨o,y,A,h1,l,by rw[p.block o (AL.1 j).1];exact j,B⟩
 have E:∀d g,a[d]?=some g->w.cell? (((Φ wr):Addr).add d)=some g:=by
  intro d g M;rw[show((Φ wr):Addr).add d=(Δ wr (0+d))from Addr.add_lit _ _ _];rw[cell_of_row w wr (0+d) a.toArray e (0,0) (by rw[f,Ff,kX rfl])];simpa using M
 have V:(n+a.length)*bytes<=1000000000*64:=I5 G D;obtain⟨k,i,K,l,j,_⟩:=run_append_own (P:=P) w b t x e S z 1 bytes T.ht F N Q R T.hz U v n xs s _ a.length c a Θ E h1
  (by unfold maxLen;omega) O (by rw[f];simp;omega)
 refine⟨k,i,K,l,(p.mono C).trans ?_⟩;exact mZ.grown j (by rw[f];simp;omega) (λu q=>(s.lt u q).1)
def rW{P:Program}{i:Array Oper}{o:Oper}{a:Act}{w:World}{K:Act->World->Prop}{k:Exit->Act->World->Prop}{j:Prop}(u:o.guard=none)(s x:Operand)(t:TypeId)
 (B:o.op=.call {callee:=.builtin .append,args:= #[s,x],argTypes:= #[t,t]}){e:TypeId}{z:Value}{bytes:Nat}(T:OA P t e z bytes)
 (wr:World)(f:Nat)(v:Value)(n:Nat)(xs b:List Value)(G:a.eval s=v)(E:wr.ownsRow f e 1 v n xs)(I:w.heap=wr.heap.push (.cells b.toArray e))
 (C:w.os=wr.os)(H:w.tape=wr.tape)(D:w.output=wr.output)
 (m c:Nat)(L:a.eval x=.slice (some (Φ wr)) m c)(A:m=b.length)
 (h1:∀M∈b,M.oneCell'=true)(y:n+b.length<=1000000000)(r:bytes<=64)(q:f<=wr)
 (h:∀g d,d.ownsRow f e 1 g (n+m) (xs++b)->Below f wr d->K (a.put o.dst g) d):
 if Region.wanted o (yielded i a.tmps)=true then Oper.wp P o a w K k else j:=by
 have J:Region.wanted o (yielded i a.tmps)=true:=by simp[Region.wanted,u]
 rw[kX J];obtain⟨g,d,F,l,p⟩:=Ab0 T o.type E I C H D h1 y r q m c A;unfold Oper.wp execOp;simp only[B,resolve,invoke,builtin,Sem.run_bind,Sem.run_pure,Result.andThen_ok,Jl,Ci,FW,G,L,F];exact h g d l p
def DW(b:nC):Bool:=b.toNat<16
def Wq{a:Type}(p:a->Bool)(l:List a)(k:Nat)(h:k<l.length)(b:(l.take k).all p=true)(c:p l[k]=true):(l.take (k+1)).all p=true:=by
 rw[BH h,List.all_append,b];simp[c]
def YQ{a:Type}(p:a->Bool)(l:List a)(k:Nat)(h:k<l.length)(b:p l[k]=false):l.all p=false:=by
 rw[List.all_eq_false];exact⟨l[k],BO h,by simp[b]⟩
def YR{b:nC}(h:b.toNat<16):DW b=true:=by simp[DW,h]
def Alv{b:nC}(h:¬b.toNat<16):DW b=false:=by simp[DW];omega
def CO(l:List nC):List nC:=l.flatMap λa=>[a/16,a%16]
def eu(l:List nC)(k:Nat)(h:k<l.length):CO (l.take (k+1))=CO (l.take k)++[l[k]/16,l[k]%16]:=by
 rw[BH h];simp only[CO,List.flatMap_append,Ala,List.flatMap_nil,EN]
def WO(s:nG)(k:Nat)(h:k<s.size):CO (s.data.toList.take (k+1))=CO (s.data.toList.take k)++[s[k]/16,s[k]%16]:=by
 have a:k<s.data.toList.length:=by simpa using h
 rw[eu _ k a];rfl
def JX(l:List nC):(CO l).length=2*l.length:=by
 induction l with
 |nil=>rfl
 |cons b l a=>simp[CO]at a⊢;omega
def Au4(b:nC):AA .u8 ((b.toNat:Int)/16)=bv (b/16):=by simp[bv]
def Au5(b:nC):AA .u8 ((b.toNat:Int)%16)=bv (b%16):=by simp[bv]
def Aqq(b:nC):AA .u8 (IntKind.u8.wrap ((b.toNat:Int)/16))=bv (b/16):=by
 have:=b.toNat_lt;rw[<-Au4,IntWalk.u8_in _ O]
def Aqr(b:nC):AA .u8 ((b.toNat:Int).tmod 16)=bv (b%16):=by
 rw[<-Au5,Int.tmod_eq_emod_of_nonneg O]
def oW:List nC->List nC->Nat
 |a::b,c::d=>if a=c then oW b d+1 else 0
 |_,_=>0
def JY:∀(a b:List nC),oW a b<=a.length
 |[],_=>by simp[oW]
 |a::c,[]=>by simp[oW]
 |a::c,b::d=>by
  simp only[oW];have:=JY c d;split<;>simp;omega
def UG:∀(a b:List nC),oW a b=oW b a
 |[],[]=>rfl
 |[],_::_=>by simp[oW]
 |_::_,[]=>by simp[oW]
 |a::c,b::d=>by
  simp only[oW];rw[UG c d];by_cases h:a=b
  ·subst h;simp
  ·simp[h,Ne.symm h]
def LM(a b:List nC):oW a b<=b.length:=by rw[UG];exact JY b a
def alike(k:Nat)(a b:List nC):Prop:=k<=a.length/\k<=b.length/\a.take k=b.take k
def Ab1(a b:List nC):alike 0 a b:=⟨Bd _,Bd _,by simp⟩
def Pg:∀(k:Nat)(a b:List nC),alike k a b->oW a b=k+oW (a.drop k) (b.drop k)
 |0,a,b,_=>by simp
 |k+1,[],b,h=>by have:=h.1;simp at this
 |k+1,a::d,[],h=>by have:=h.2.1;simp at this
 |k+1,a::d,b::e,h=>by
  obtain⟨f,g,c⟩:=h;simp only[Jf,List.cons.injEq]at c;obtain⟨rfl,c⟩:=c;have:=Pg k d e ⟨by simpa using f,by simpa using g,c⟩;simp[oW,this];omega
def Ab2{k:Nat}{a b:List nC}(h:alike k a b)(c:k<a.length)(d:k<b.length)(e:a[k]=b[k]):alike (k+1) a b:=
 ⟨c,d,by rw[BH c,BH d,h.2.2,e]⟩
def bI{k:Nat}{a b:List nC}(h:alike k a b)(c:k<a.length)(d:k<b.length)(e:a[k]≠b[k]):oW a b=k:=by
 rw[Pg k a b h,BX c,BX d];simp[oW,e]
def QN{k:Nat}{a b:List nC}(h:alike k a b)(c:a.length=k):oW a b=k:=by
 rw[Pg k a b h,List.drop_of_length_le O];simp[oW]
def WQ{k:Nat}{a b:List nC}(h:alike k a b)(c:b.length=k):oW a b=k:=by
 rw[UG];exact QN ⟨h.2.1,h.1,h.2.2.symm⟩ c
def xm{a b:nC}(h:a=b):(((a.toNat:Int))==(b.toNat:Int))=true:=by simp[h]
def rX{a b:nC}(h:a≠b):(((a.toNat:Int))==(b.toNat:Int))=false:=by
 rw[beq_eq_false_iff_ne];intro e;exact h (UInt8.toNat_inj.1 O)
def FX:List nC->Nat
 |[]=>0
 |a::b=>a.toNat+16*FX b
def XJ:∀(l:List nC),l.all DW=true->FX l<16^l.length
 |[],_=>by simp[FX]
 |a::l,h=>by
  simp only[rO,Bool.and_eq_true]at h;have:=XJ l h.2;have b:a.toNat<16:=by simpa[DW]using h.1
  simp only[FX,Bg,JA];omega
def XK:∀(l m:List nC),FX (l++m)=FX l+16^l.length*FX m
 |[],m=>by simp[FX]
 |a::l,m=>by
  simp only[BM,FX,XK l m,Bg,JA];have:16*(16^l.length*FX m)=16^l.length*16*FX m:=by rw[<-PO,KD 16]
  omega
def bJ(l:List nC)(k:Nat)(h:k<l.length):FX (l.take (k+1))=FX (l.take k)+16^k*l[k].toNat:=by
 rw[BH h,XK];simp[FX,EI (Lh h)]
def At8(k:Nat):16^(k+1)=2^(4+4*k):=by
 rw[show(16:Nat)=2^4 from rfl,<-Nat.pow_mul];congr 1;omega
def XL(p:nC->Bool)(l:List nC)(k:Nat)(h:l.all p=true):(l.take k).all p=true:=by
 rw[ED]at h⊢;exact λb a=>h b (Qd a)
def XM(p:nC->Bool)(l:List nC)(k:Nat)(h:l.all p=true):(l.drop k).all p=true:=by
 rw[ED]at h⊢;exact λb a=>h b (List.mem_of_mem_drop a)
def dE{l:List nC}{k:Nat}(h:l.all DW=true)(a:k<l.length):l[k].toNat<16:=by
 rw[ED]at h;simpa[DW]using h l[k] (BO a)
def Ahq(l:List nC)(n k:Nat)(r:n<=15)(q:k<n)(c:k<l.length)(a:l.all DW=true):
 AA IntKind.u64 (bits BinOp.or IntKind.u64 ((n:Int)+16*(FX (l.take k):Int)) (IntKind.u64.wrap (IntKind.u64.wrap (l[k].toNat:Int)*2^(4+4*k))))=
  AA IntKind.u64 ((n+16*FX (l.take (k+1)):Nat):Int):=by
 have o:=dE a c;have j:=XJ (l.take k) (XL _ _ _ a);rw[Cc,EI O]at j;have m:16^(k+1)<=16^15:=Gm U O;have d:16^(k+1)=16*16^k:=by rw[JA,KD]
 have b:n+16*FX (l.take k)<16^(k+1):=O;have p:l[k].toNat*16^(k+1)<=15*16^(k+1):=Nat.mul_le_mul_right _ O;congr 1;have e:IntKind.u64.wrap (l[k].toNat:Int)=(l[k].toNat:Int):=IntWalk.u64_in _ O;have f:(l[k].toNat:Int)*2^(4+4*k)=((l[k].toNat*16^(k+1):Nat):Int):=by rw[At8];simp
 rw[e,f,IntWalk.u64_in _ O];have g:(n:Int)+16*(FX (l.take k):Int)=((n+16*FX (l.take k):Nat):Int):=by simp
 rw[g,u64_or_nat _ _ O O];congr 1;rw[bJ l k c];rw[At8]at b d⊢;have i:=Nat.two_pow_add_eq_or_of_lt b l[k].toNat;rw[Nat.or_comm,KD,<-i,d];have:16*16^k*l[k].toNat=16*(16^k*l[k].toNat):=PO _ _ _;omega
def digits:Nat->Nat->List nC
 |0,_=>[]
 |b+1,a=>UInt8.ofNat (a%16)::digits b (a/16)
def digits_length:∀(k n:Nat),(digits k n).length=k
 |0,_=>rfl
 |k+1,n=>by simp[digits,digits_length k]
def ZR:∀(k n:Nat),digits (k+1) n=digits k n++[UInt8.ofNat (n/16^k%16)]
 |0,n=>by simp[digits]
 |k+1,n=>by
  rw[digits,ZR k (n/16),digits,BM,UA,JA,KD 16]
def XN:∀(l:List nC),l.all DW=true->digits l.length (FX l)=l
 |[],_=>rfl
 |a::l,h=>by
  simp only[rO,Bool.and_eq_true]at h;have b:a.toNat<16:=by simpa[DW]using h.1
  rw[Bg,FX,digits,show(a.toNat+16*FX l)/16=FX l by omega,XN l h.2,show(a.toNat+16*FX l)%16=a.toNat by omega];simp
def Af2(n:Nat):AA .u8 ((n:Int)%16)=bv (UInt8.ofNat (n%16)):=by
 simp only[bv,UInt8.toNat_ofNat'];rw[Ho (show n%16<2^8 by omega)];simp
def rY(k n:Nat)(y:Nat)(c:k<n):
 (((digits k y++BJ (n-k) (0:nC)).map bv).set k (bv (UInt8.ofNat (y/16^k%16))))=(digits (k+1) y++BJ (n-(k+1)) (0:nC)).map bv:=by
 rw[ZR,<-O9,VV _ _ (by rw[digits_length];omega),digits_length];obtain⟨a,b⟩:∃a,n-k=a+1:=⟨n-k-1,O⟩;rw[b,show n-(k+1)=a by omega,XF];simp
def pairs:List nC->List nC
 |a::b::c=>(a*16+b)::pairs c
 |_=>[]
def XO:∀(l:List nC),(pairs l).length=l.length/2
 |[]=>rfl
 |[_]=>by simp[pairs]
 |a::b::l=>by simp[pairs,XO l];omega
def ZT:∀(i:Nat)(l:List nC)(_:i%2=0)(h:i+1<l.length),pairs (l.take (i+2))=pairs (l.take i)++[l[i]*16+l[i+1]]
 |0,b::c::l,_,_=>by simp[pairs]
 |1,_,a,_=>by simp at a
 |i+2,b::c::l,a,h=>by
  have:=ZT i l O (by simp at h;omega);simp only[Jf,pairs,BM,Ak];rw[this]
 |0,[],_,h=>by simp at h
 |0,[_],_,h=>by simp at h
 |i+2,[],_,h=>by simp at h
 |i+2,[_],_,h=>by simp at h
def Ab3(k:Nat)(l:List nC)(h:2*k+1<l.length):pairs (l.take (2*(k+1)))=pairs (l.take (2*k))++[l[2*k]*16+l[2*k+1]]:=
 ZT (2*k) l O h
def eF(l:List nC):pairs (l.take (2*(l.length/2)))=pairs l:=by
 have c:∀(l:List nC),pairs (l.take (2*(l.length/2)))=pairs l:=by
  intro l;induction l using pairs.induct with
  |case1 a b l d=>
   rw[show 2*((a::b::l).length/2)=2*(l.length/2)+1+1 by simp;omega];simp[pairs,d]
  |case2 l h=>
   rcases l with _|⟨a,_|⟨b,l⟩⟩
   ·rfl
   ·simp[pairs]
   ·exact absurd rfl (h a b l)
 exact c l
def eG(a b:nC)(d:a.toNat<16)(e:b.toNat<16):(a*16+b)/16=a/\(a*16+b)%16=b:=by
 have c:(a*16+b).toNat=a.toNat*16+b.toNat:=by simp[UInt8.toNat_add,UInt8.toNat_mul];omega
 constructor
 ·apply UInt8.toNat_inj.1;rw[UInt8.toNat_div,c];simp;omega
 ·apply UInt8.toNat_inj.1;rw[UInt8.toNat_mod,c];simp;omega
def eH:∀(l:List nC),l.length%2=0->l.all DW=true->CO (pairs l)=l
 |[],_,_=>rfl
 |[_],h,_=>by simp at h
 |b::c::l,h,a=>by
  simp only[rO,Bool.and_eq_true]at a;have d:b.toNat<16:=by simpa[DW]using a.1
  have e:c.toNat<16:=by simpa[DW]using a.2.1
  have:=eH l (by simp at h;omega) a.2.2;simp only[CO]at this⊢;simp[pairs,this,eG b c d e]
def eQ(l:List nC):(CO l).all DW=true:=by
 rw[ED];intro c a;obtain⟨b,_,a⟩:=List.mem_flatMap.1 a;have:=b.toNat_lt;simp only[List.mem_cons,List.not_mem_nil,or_false]at a;rcases a with rfl|rfl<;>simp[DW]<;>omega
def TC:∀(l:List nC),pairs (CO l)=l
 |[]=>rfl
 |a::l=>by
  have:=TC l;simp only[CO]at this;simp only[CO,Ala,BM,DR,pairs,this];congr 1;apply UInt8.toNat_inj.1;have:=a.toNat_lt;simp[UInt8.toNat_add,UInt8.toNat_mul];omega
def OB(l:List nC):Bool:=decide (l.length%2=0)&&l.all DW
def xq(l:List nC)(k h:Nat)(f:k<h)(b:2*k+1<l.length)(e:h=l.length/2):
 (((pairs (l.take (2*k))++BJ (h-k) (0:nC)).map bv).set k (bv (l[2*k]*16+l[2*k+1])))=(pairs (l.take (2*(k+1)))++BJ (h-(k+1)) (0:nC)).map bv:=by
 have c:(pairs (l.take (2*k))).length=k:=by rw[XO,Cc];omega
 rw[Ab3 k l b,<-O9,VV _ _ O,c];obtain⟨a,d⟩:∃a,h-k=a+1:=⟨h-k-1,O⟩;rw[d,show h-(k+1)=a by omega,XF];simp
def Af3(a b:nC):AA .u8 (((a.toNat:Int)*16+(b.toNat:Int))%256)=bv (a*16+b):=by
 simp only[bv,UInt8.toNat_add,UInt8.toNat_mul];congr 1;simp
def XP(l:List nC)(k:Nat)(a:l.length<=k)(h:l.all DW=true):FX l<16^k:=
 Bc (XJ l h) (Gm U a)
def Ox:(16:Nat)^15=1152921504606846976:=by decide
def Ab4(l:List nC):OB (CO l)=true:=by
 simp only[OB,JX,eQ,Bool.and_true,decide_eq_true_eq];omega
def unpack_pack(l:List nC)(b:l.length<=15)(h:l.all DW=true):
 (l.length+16*FX l)%16=l.length/\(l.length+16*FX l)/16=FX l/\FX l/16^l.length=0/\digits l.length (FX l)=l/\l.length+16*FX l<18446744073709551616:=by
 have a:=XJ l h;have c:=XP l 15 b h;rw[Ox]at c;exact⟨O,O,Nat.div_eq_of_lt a,XN l h,O⟩
def eU{a b:nC}(h1:a/16=b/16)(h2:a%16=b%16):a=b:=by
 apply UInt8.toNat_inj.1;have c:=congrArg UInt8.toNat h1;have d:=congrArg UInt8.toNat h2;simp at c d;omega
def og(a:nC)(l:List nC):CO (a::l)=a/16::a%16::CO l:=rfl
def xu:CO []=[]:=rfl
def xw:∀(a b:List nC),oW (CO a) (CO b)=2*oW a b\/oW (CO a) (CO b)=2*oW a b+1
 |[],_=>by simp[xu,oW]
 |a::f,[]=>by simp[og,xu,oW]
 |a::f,b::g=>by
  have i:=xw f g;simp only[og,oW];by_cases c:a/16=b/16
  ·by_cases d:a%16=b%16
   ·have e:=eU c d;subst e;simp only[if_true];omega
   ·have e:a≠b:=λe=>d (by rw[e])
    rw[kX c,lg d,lg e];omega
  ·have e:a≠b:=λe=>c (by rw[e])
   rw[lg c,lg e];omega
def Wu:∀(a b:List nC),oW a (a++b)=a.length
 |[],_=>by simp[oW]
 |a::c,b=>by simp[oW,Wu c b]
def UH:∀(a b:List nC),a.take (oW a b)=b.take (oW a b)
 |[],_=>by simp[oW]
 |_::_,[]=>by simp[oW]
 |a::c,b::d=>by
  simp only[oW];by_cases h:a=b
  ·rw[kX h,Jf,Jf,h,UH c d]
  ·rw[lg h];rfl
def ZU:∀(a b:List nC)(h1:oW a b<a.length)(h2:oW a b<b.length),a[oW a b]≠b[oW a b]
 |[],_,h1,_=>by simp at h1
 |_::_,[],_,h2=>by simp at h2
 |a::c,b::d,h1,h2=>by
  by_cases h:a=b
  ·have e:oW (a::c) (b::d)=oW c d+1:=by simp[oW,h]
   have f:oW c d<c.length:=by simp[e]at h1;exact h1
   have g:oW c d<d.length:=by simp[e]at h2;exact h2
   have i:=ZU c d f g;simp only[e,Ak];exact i
  ·have e:oW (a::c) (b::d)=0:=by simp[oW,h]
   simp only[e,List.getElem_cons_zero];exact h
def leB(x:ni)(i:Nat):nC:=UInt8.ofNat (x.toNat/256^i%256)
def YS(x:ni)(i:Nat):(leB x i).toNat=x.toNat/256^i%256:=by
 unfold leB;rw[UInt8.toNat_ofNat'];exact Ho (MH _ U)
def YT(x:ni):List nC:=(Ea 8).map (leB x)
def Oy(x:ni):(YT x).length=8:=by simp[YT]
def Ab5(x:ni)(i:Nat)(h:i<8):(YT x)[i]?=some (leB x i):=by simp[YT,h]
def leBytes:List ni->List nC
 |[]=>[]
 |b::a=>YT b++leBytes a
def leBytes_length:∀a:List ni,(leBytes a).length=8*a.length
 |[]=>rfl
 |b::a=>by rw[leBytes,AO,Oy,leBytes_length a,Bg];omega
def JZ:∀(l:List ni)(k i:Nat)(a:k<l.length)(_:i<8),(leBytes l)[8*k+i]?=some (leB l[k] i)
 |[],_,_,a,_=>by simp at a
 |c::l,0,i,_,b=>by
  rw[leBytes,DK (by rw[Oy];omega)];simpa using Ab5 c i b
 |c::l,k+1,i,a,b=>by
  rw[leBytes,Ez (by rw[Oy];omega),Oy,show 8*(k+1)+i-8=8*k+i by omega];exact JZ l k i (by simpa using a) b
def le_step(x:ni)(i:Nat):x.toNat%256^i+(leB x i).toNat*256^i=x.toNat%256^(i+1):=by
 rw[YS,JA,Nat.mod_mul];rw[KD]
def Au6(x:ni):x.toNat%256^8=x.toNat:=Ho (by have:=x.toNat_lt;simpa using this)
def bK(l:List ni)(k:Nat)(n:ni)(i:Nat):List nC:=(leBytes l).mapIdx λa b=>if 8*k<=a/\a<8*k+i then leB n (a-8*k)else b
def ZV(l:List ni)(k:Nat)(n:ni)(i:Nat):(bK l k n i).length=8*l.length:=by simp[bK,leBytes_length]
def Ahr(l:List ni)(k:Nat)(n:ni):bK l k n 0=leBytes l:=by
 apply KE;intro a;simp only[bK,OZ];cases(leBytes l)[a]? with
 |none=>rfl
 |some b=>rw[EX,lg O]
def Ahs(l:List ni)(k:Nat)(n:ni)(i:Nat)(d:k<l.length)(hi:i<8):(bK l k n i).set (8*k+i) (leB n i)=bK l k n (i+1):=by
 apply KE;intro a;rw[H9];by_cases c:8*k+i=a
 ·subst c;rw[kX rfl,kX (by rw[ZV];omega)];simp only[bK,OZ,JZ l k i d hi,EX];rw[kX O,show 8*k+i-8*k=i by omega]
 ·rw[lg c];simp only[bK,OZ];cases(leBytes l)[a]? with
  |none=>rfl
  |some e=>
   simp only[EX];by_cases b:8*k<=a/\a<8*k+i
   ·rw[kX b,kX O]
   ·rw[lg b,lg O]
def xy(l:List ni)(k:Nat)(n:ni)(_:k<l.length):bK l k n 8=leBytes (l.set k n):=by
 apply KE;intro a;by_cases i:a<8*l.length
 ·have e:a=8*(a/8)+a%8:=O;have d:a/8<l.length:=O;have f:a%8<8:=MH _ U;have b:=JZ l (a/8) (a%8) d f;have c:=JZ (l.set k n) (a/8) (a%8) (by simpa using d) f;rw[<-e]at b c;simp only[bK,OZ,b,c,EX];rw[MX];by_cases g:k=a/8
  ·rw[kX O,kX g,show a-8*k=a%8 by omega]
  ·rw[lg O,lg g]
 ·rw[FO (by rw[ZV];omega),FO (by rw[leBytes_length,List.length_set];omega)]
def rZ:Nat:=2^64-1
def fieldN(n low size:Nat):Nat:=n/2^low%2^size
def Fa(n low size v:Nat):Nat:=(n&&&(rZ-(2^size-1)*2^low))|||((v&&&(2^size-1))*2^low)
def su(n b:Nat):Option Nat:=(Ea b).find? λa=> !n.testBit a
def NU:List Nat:=[0x00000000,0x105ec76f,0x20bd8ede,0x30e349b1,0x417b1dbc,0x5125dad3,0x61c69362,0x7198540d,0x82f63b78,0x92a8fc17,0xa24bb5a6,0xb21572c9,0xc38d26c4,0xd3d3e1ab,0xe330a81a,0xf36e6f75]
def TD(x:Nat):Nat:=(x/16)^^^NU.getD (x%16) 0
def Vy(x c:Nat):Nat:=TD (TD (x^^^c))
def Oz(b:Nat)(l:List nC):Nat:=(l.foldl (λc a=>Vy c a.toNat) (b^^^4294967295))^^^4294967295
structure Sh where
 lines:Nat
 CE:Nat
 table:Nat
 data:Nat
 deriving DecidableEq
def LQ(a:Nat):Nat:=2+(a+7)/8
def QO(a:Nat):Nat:=LQ a+16*a
def LP(b:Nat):Nat->Nat->Nat
 |0,a=>a
 |c+1,a=>if QO (a+1)<=b then LP b c (a+1)else a
def TE(a:Nat):Nat:=LP a a 0
def shapeOf(a:Nat):Option Sh:=
 if a>1024 then none else
 let b:=TE a
 if b=0 then none else some {lines:=a,CE:=b,table:=128,data:=LQ b*64}
def headW(s:Sh):List ni:=[0x6c6c697473,1,Az s.lines,Az s.CE,Az s.table,Az s.data]
def wordsOf(s:Sh):List ni:=headW s++[Az (Oz 0 (leBytes (headW s))),0]
def BG:Nat->Nat
 |1=>16
 |2=>4
 |_=>0
def Bq:Nat->Nat
 |1=>1
 |2=>4
 |_=>0
def Ew(w:Nat):Nat:=fieldN w 16 2
def LU(w:Nat):Nat:=fieldN w 0 16
def Hw(w:Nat):Bool:=w==0||(fieldN w 0 (BG (Ew w))!=0&&Fa (Fa w 0 (BG (Ew w)) 0) 16 2 0==0)
def Bj(w:Nat):Nat:=if Hw w then Ew w else 0
def Fj(w:Nat)(a:Nat):Bool:=decide (a<BG (Bj w))&&fieldN w a 1==1
def Wv(w:Nat):List Nat:=(Ea (BG (Bj w))).filter (Fj w)
def NV(w c:Nat):Bool:=Hw w&&decide (0<BG c)&&(w==0||Ew w==c)
def Nl(w c:Nat):Option Nat:=if NV w c then su (LU w) (BG c)else none
def GM(w c a:Nat):Nat×Bool:=if !NV w c||decide (BG c<=a)||Fj w a then(w,false)else(Fa (Fa w a 1 1) 16 2 c,true)
def EL(w a:Nat):Nat×Bool:=if !Fj w a then(w,false)else if LU (Fa w a 1 0)=0 then(0,true)else(Fa w a 1 0,true)
structure Nd where
 pre:List nC
 val:ni
 labels:List nC
 kids:List ni
def Es:List nC->Bool
 |b::a::c=>decide (b.toNat<a.toNat)&&Es (a::c)
 |_=>true
def IJ:∀(l:List nC),Es l=true<->∀a(h:a+1<l.length),l[a].toNat<l[a+1].toNat
 |[]=>by simp[Es]
 |[_]=>by simp[Es]
 |g::c::l=>by
  have f:=IJ (c::l);simp only[Es,Bool.and_eq_true,decide_eq_true_eq,f];constructor
  ·rintro⟨d,e⟩a b;rcases a with _|a
   ·simpa using d
   ·exact e a (by simpa using b)
  ·intro h;exact⟨by simpa using h 0 Θ,λa b=>h (a+1) (by simpa using b)⟩
def RX(l:List nC)(k:Nat)(f:k<l.length)(h:Es (l.take k)=true)(d:∀b,k=b+1->(h:b<l.length)->l[b].toNat<l[k].toNat):Es (l.take (k+1))=true:=by
 rw[IJ]at h⊢;intro a c;simp only[Cc]at c;simp only[bC];by_cases e:a+1=k
 ·subst e;exact d a rfl O
 ·have:=h a (by simp;omega);simpa using this
def x9(l:List nC)(j:Nat)(b:j+1<l.length)(h:Es (l.take (j+1))=true)(c:l[j].toNat<l[j+1].toNat):Es (l.take (j+1+1))=true:=
 RX l (j+1) b h (λd a _=>by cases a;exact c)
def CG(x:Nd):Bool:=
 decide (x.pre.length<=15)&&x.pre.all DW&&decide (x.labels.length=x.kids.length)&&x.labels.all DW&&Es x.labels&&x.kids.all (λa=>a.toNat !=0)
def BD(x:Nd):CG x=true<->x.pre.length<=15/\x.pre.all DW=true/\x.labels.length=x.kids.length/\x.labels.all DW=true/\Es x.labels=true/\∀a(h:a<x.kids.length),x.kids[a].toNat≠0:=by
 simp only[CG,Bool.and_eq_true,decide_eq_true_eq,and_assoc,ED (p:=λj:ni=>j.toNat !=0),bne_iff_ne,ne_eq];constructor
 ·rintro⟨b,c,d,e,f,g⟩;exact⟨b,c,d,e,f,λa i=>g _ (BO i)⟩
 ·rintro⟨b,c,d,e,f,g⟩;refine⟨b,c,d,e,f,λj k=>?_⟩;obtain⟨a,i,rfl⟩:=CW k;exact g a i
def sD(x:Nd)(k:Nat)(a:k<x.labels.length)(h:¬x.labels[k].toNat<16):CG x=false:=by
 cases b:CG x with
 |false=>rfl
 |true=>
  have:=((BD x).1 b).2.2.2.1;exact absurd (dE this a) h
def mr(x:Nd)(j:Nat)(a:j+1<x.labels.length)(h:¬x.labels[j].toNat<x.labels[j+1].toNat):CG x=false:=by
 cases b:CG x with
 |false=>rfl
 |true=>
  have:=((BD x).1 b).2.2.2.2.1;exact absurd ((IJ _).1 this j a) h
def sG(x:Nd)(h:¬(x.pre.length<=15/\x.pre.all DW=true)):CG x=false:=by
 cases a:CG x with
 |false=>rfl
 |true=>exact absurd ⟨((BD x).1 a).1,((BD x).1 a).2.1⟩ h
def sH(x:Nd)(h:x.labels.length≠x.kids.length):CG x=false:=by
 cases a:CG x with
 |false=>rfl
 |true=>exact absurd ((BD x).1 a).2.2.1 h
def Ab6(x:Nd)(h1:x.pre.length<=15)(h2:x.pre.all DW=true)(h3:x.labels.length=x.kids.length)(h4:x.labels.all DW=true)(c:Es x.labels=true):
 CG x= !(x.kids.any λe=>e.toNat==0):=by
 rw[Bool.eq_iff_iff,BD];simp only[Bool.not_eq_true',List.any_eq_false,beq_iff_eq];constructor
 ·rintro⟨_,_,_,_,_,h⟩f d;obtain⟨b,a,rfl⟩:=CW d;exact h b a
 ·intro h;exact⟨h1,h2,h3,h4,c,λb a=>h _ (BO a)⟩
def DI(x:Nd):Nat:=if x.kids.length<=4 then 1 else 2
def placeOf{a:Type}(p:a->Bool)(l:List a):Int:=match l.findIdx? p with|some b=>(b:Int)|none=> -1
def ZW{b:Type}(p:b->Bool)(l:List b)(k:Nat)(d:k<l.length)(e:∀a(h:a<k),p (l[a]' O)=false)(f:p l[k]=true):placeOf p l=(k:Int):=by
 have:l.findIdx? p=some k:=by
  rw[NG];exact⟨d,f,λa c=>by simp[e a c]⟩
 simp[placeOf,this]
def XQ{b:Type}(p:b->Bool)(l:List b)(d:∀a(h:a<l.length),p l[a]=false):placeOf p l= -1:=by
 have:l.findIdx? p=none:=by
  rw[nV];intro g e;obtain⟨f,c,rfl⟩:=CW e;exact d f c
 simp[placeOf,this]
def Hr(l:List nC):ni:=Az (l.length+16*FX l)
def Dj:List ni->List nC->List ni->List ni
 |a,b::c,d::e=>Dj (a.set (4+b.toNat) d) c e
 |a,_,_=>a
def Qh:∀(row:List ni)(a:List nC)(b:List ni),(Dj row a b).length=row.length
 |row,c::a,d::b=>by rw[Dj,Qh];simp
 |row,[],_=>by simp[Dj]
 |row,_::_,[]=>by simp[Dj]
def QP:∀(row:List ni)(a:List nC)(b:List ni)(i:Nat)(h1:i<a.length)(h2:i<b.length),
 Dj row (a.take (i+1)) (b.take (i+1))=(Dj row (a.take i) (b.take i)).set (4+a[i].toNat) b[i]
 |row,c::a,d::b,0,_,_=>by simp[Dj]
 |row,c::a,d::b,i+1,h1,h2=>by
  have:=QP (row.set (4+c.toNat) d) a b i (by simpa using h1) (by simpa using h2);simpa[Dj]using this
 |_,[],_,_,h1,_=>by simp at h1
 |_,_::_,[],_,_,h2=>by simp at h2
def encS(x:Nd):List ni:=[Az (1+256*x.kids.length),Hr x.pre,x.val,Hr x.labels]++x.kids++BJ (4-x.kids.length) 0
def headB(x:Nd):List ni:=[Az (2+256*x.kids.length),Hr x.pre,x.val]++BJ 29 0
def UI(x:Nd):List ni:=Dj (headB x) x.labels x.kids
def Eh(x:Nd):List ni:=if x.kids.length<=4 then encS x else UI x
def ZX(x:Nd)(h:x.kids.length<=4):(encS x).length=8:=by simp[encS];omega
def ZY(x:Nd):(UI x).length=32:=by simp[UI,Qh,headB]
def I8(x:Nd):(Eh x).length=if x.kids.length<=4 then 8 else 32:=by
 unfold Eh;split
 ·rename_i h;exact ZX x h
 ·exact ZY x
def Ko(u:Nat)(a:List ni):List nC×List ni:=
 if u/16/16^(u%16)=0/\u%16<=4 then(digits (u%16) (u/16),a.take (u%16))else([],[])
def La:Nat->List ni->List nC
 |_,[]=>[]
 |a,b::t=>if b.toNat=0 then La (a+1) t else UInt8.ofNat a::La (a+1) t
def MI(t:List ni):List ni:=t.filter λa=>a.toNat !=0
def eX:∀(i:Nat)(t:List ni)(x:ni),La i (t++[x])=La i t++(if x.toNat=0 then[]else[UInt8.ofNat (i+t.length)])
 |i,[],x=>by simp only[DR,La];split<;>simp
 |i,a::t,x=>by
  have:=eX (i+1) t x;simp only[BM,La,this,Bg];rw[show i+1+t.length=i+(t.length+1)by omega];split<;>simp
def Ab7(t:List ni)(x:ni):MI (t++[x])=MI t++(if x.toNat=0 then[]else[x]):=by
 simp only[MI,List.filter_append,Alk,List.filter_nil];by_cases h:x.toNat=0<;>simp[h]
def QQ:∀(i:Nat)(t:List ni),(La i t).length=(MI t).length
 |_,[]=>rfl
 |i,a::t=>by
  have:=QQ (i+1) t;simp only[La,MI,Alk]at this⊢;by_cases h:a.toNat=0<;>simp[h,this]
def eY(t:List ni):(MI t).length<=t.length:=List.length_filter_le _ _
def EM(u:Nat):List nC:=if u/16/16^(u%16)=0 then digits (u%16) (u/16)else[]
def Aly(l:List ni):Nd:=
 {pre:=EM (l.getD 1 0).toNat,val:=l.getD 2 0,labels:=(Ko (l.getD 3 0).toNat (l.drop 4)).1,kids:=(Ko (l.getD 3 0).toNat (l.drop 4)).2}
def Ab8(l:List ni):Nd:=
 {pre:=EM (l.getD 1 0).toNat,val:=l.getD 2 0,labels:=La 0 ((l.drop 4).take 16),kids:=MI ((l.drop 4).take 16)}
def FY(l:List ni):Nd:=if l.length=8 then Aly l else Ab8 l
def JK(l:List ni):Bool:=(decide (l.length=8)||decide (l.length=32))&&(CG (FY l)&&decide (Eh (FY l)=l))
def oh(u:Nat):(EM u).length<=15:=by
 unfold EM;split
 ·rw[digits_length];omega
 ·simp
def Ab9(x:Nd)(v:ni):CG {x with val:=v}=CG x:=rfl
def XR:∀(row a:List ni)(d:List nC)(e:List ni)(i:Nat),row.length=a.length->(∀c,c≠2->row[c]?=a[c]?)->i≠2->(Dj row d e)[i]?=(Dj a d e)[i]?
 |row,a,j::d,k::e,i,f,h,b=>by
  simp only[Dj];refine XR _ _ d e i (by simp[f]) (λc g=>?_) b;rw[H9,H9,h c g,f]
 |row,a,[],_,i,_,h,b=>by simp only[Dj];exact h i b
 |row,a,_::_,[],i,_,h,b=>by simp only[Dj];exact h i b
def ZZ:∀(row:List ni)(a:List nC)(b:List ni),(Dj row a b)[2]?=row[2]?
 |row,c::a,d::b=>by
  simp only[Dj];rw[ZZ,H9];simp;omega
 |row,[],_=>by simp[Dj]
 |row,_::_,[]=>by simp[Dj]
def Alz(x:Nd)(v:ni)(i:Nat)(hi:i≠2):(Eh {x with val:=v})[i]?=(Eh x)[i]?:=by
 unfold Eh;by_cases h:x.kids.length<=4
 ·simp only[kX h,encS];rcases i with _|_|_|i
  ·rfl
  ·rfl
  ·exact absurd rfl hi
  ·simp
 ·simp only[lg h,UI];refine XR _ _ _ _ i (by simp[headB]) (λa b=>?_) hi;rcases a with _|_|_|a
  ·rfl
  ·rfl
  ·exact absurd rfl b
  ·simp[headB]
def Al0(x:Nd):(Eh x)[2]?=some x.val:=by
 unfold Eh;split
 ·simp[encS]
 ·rw[UI,ZZ];simp[headB]
def CQ(ws:Nat->ni)(j:Nat)(xs:List ni)(i:Nat):ni:=if j<=i/\i<j+xs.length then xs.getD (i-j) 0 else ws i
def DD(ws:Nat->ni)(j:Nat)(x:ni)(i:Nat):ni:=if i=j then x else ws i
def wordsAt(ws:Nat->ni)(j n:Nat):List ni:=(Ea n).map λt=>ws (j+t)
structure St where
 sh:Sh
 ws:Nat->ni
 tk:List ni
 hd:List ni
def Iu(s:St)(i:Nat):Nat:=(s.tk.getD i 0).toNat
def hdN(s:St)(i:Nat):Nat:=(s.hd.getD i 0).toNat
def Dc(s:St)(i:Nat):Nat:=Iu s i|||hdN s i
def D7(sh:Sh)(i c a:Nat):Nat:=sh.data+1024*i+64*Bq c*a
def Jg(s:St)(off:Int):Option (Nat×Nat):=
 if off<(s.sh.data:Int)\/(s.sh.data+1024*s.tk.length:Nat)<=off then none else
 if Bq (Bj (Dc s ((off.toNat-s.sh.data)/1024)))=0\/(off.toNat-s.sh.data)%1024%(64*Bq (Bj (Dc s ((off.toNat-s.sh.data)/1024))))≠0 then none else
 some ((off.toNat-s.sh.data)/1024,(off.toNat-s.sh.data)%1024/(64*Bq (Bj (Dc s ((off.toNat-s.sh.data)/1024)))))
def Ed(s:St)(off:Int):Nat:=
 match Jg s off with
 |none=>0
 |some (a,b)=>if Fj (Iu s a) b then Bj (Iu s a)else 0
def NW(s:St)(k c:Nat):Option Nat:=(Ea s.tk.length).find? λa=>decide (Bj (Dc s a)=k)&&(Nl (Dc s a) c).isSome
def O0(s:St)(c:Nat):Option Nat:=match NW s c c with|some a=>some a|none=>NW s 0 c
def Ei(s:St)(c:Nat):Option (Nat×St):=
 match O0 s c with
 |none=>none
 |some a=>match Nl (Dc s a) c with
  |none=>none
  |some b=>some (D7 s.sh a c b,{s with hd:=s.hd.set a (Az (GM (hdN s a) c b).1)})
def YU(s:St)(i:Nat)(x:ni):St:={s with ws:=DD s.ws (s.sh.table/8+i) x,tk:=s.tk.set i x}
def Np(s:St)(off:Int):St×Int:=
 match Jg s off with
 |none=>(s,7)
 |some (a,b)=>if Fj (hdN s a) b then
  ({YU s a (Az (GM (Iu s a) (Bj (hdN s a)) b).1)with hd:=s.hd.set a (Az (EL (hdN s a) b).1)},0)
  else(s,7)
def GG(s:St)(off:Int):St×Int:=
 match Jg s off with
 |none=>(s,7)
 |some (a,b)=>
  if(EL (hdN s a) b).2 then({s with hd:=s.hd.set a (Az (EL (hdN s a) b).1)},0)
  else if(EL (Iu s a) b).2 then(YU s a (Az (EL (Iu s a) b).1),0)
  else(s,7)
def sJ(s:St):List Nat:=(Ea s.tk.length).flatMap λa=>(Wv (Iu s a)).map λb=>D7 s.sh a (Bj (Iu s a)) b
def Nq(sh:Sh):Nat->ni:=CQ (λ_=>0) 0 (wordsOf sh)
def Bz(x:ni):Int:=IntKind.i64.wrap (x.toNat:Int)
def Gu(s:St)(a:ni):Option Nd:=
 if Bq (Ed s (Bz a))=0 then none else
 if JK (wordsAt s.ws ((Bz a).toNat/8) (8*Bq (Ed s (Bz a))))then some (FY (wordsAt s.ws ((Bz a).toNat/8) (8*Bq (Ed s (Bz a)))))else none
structure Pl where
 nd:Nd
 off:Int
 label:nC
 word:Int
def Kq(l:List nC)(x:nC):Option Nat:=l.findIdx? λa=>a.toNat==x.toNat
def Ru(x:Nd)(b:nC):Option (ni×Nat):=
 match Kq x.labels b with
 |some a=>if CG x then some (x.kids.getD a 0,if x.kids.length<=4 then 4+a else 4+b.toNat)else none
 |none=>none
def ES(s:St):Nat->ni->List nC->nC->Int->List Pl->Option (List Pl×List nC)
 |0,_,a,_,_,d=>some (d,a)
 |g+1,c,a,e,f,d=>
  if c=0 then some (d,a)else
  match Gu s c with
  |none=>none
  |some b=>
   if oW b.pre a<b.pre.length\/oW b.pre a=a.length then some (d++[⟨b,Bz c,e,f⟩],a)else
   match Ru b (a.getD (oW b.pre a) 0)with
   |none=>some (d++[⟨b,Bz c,e,f⟩],a)
   |some (i,j)=>ES s g i (a.drop (oW b.pre a+1)) (a.getD (oW b.pre a) 0) (Bz c+8*j) (d++[⟨b,Bz c,e,f⟩])
def FC(s:St)(key:List nC):Option (List Pl×List nC):=ES s (2*key.length+1) (s.ws 9) (CO key) 0 72 []
def Dw(b:List Pl)(nM:List nC):Option Pl:=
 match b.getLast? with
 |none=>none
 |some a=>if a.nd.pre=nM then some a else none
def Ic(s:St)(key:List nC):ni×Int:=
 if 16<key.length then(0,3)else
 match FC s key with
 |none=>(0,5)
 |some (c,b)=>match Dw c b with
  |none=>(0,7)
  |some a=>if a.nd.val=0 then(0,7)else(a.nd.val,0)
structure Jb where
 s:St
 made:List Int
def GN(j:Jb)(n:Nd):Jb×ni×Int:=
 if !CG n then(j,0,5)else
 match Ei j.s (DI n)with
 |none=>(j,0,6)
 |some (a,b)=>
  match Np {b with ws:=CQ b.ws (a/8) (Eh n)} a with
  |(c,e)=>if e=0 then(⟨c,j.made++[(a:Int)]⟩,Az a,0)else(⟨c,j.made++[(a:Int)]⟩,0,e)
def RY(l:List nC)(x:nC):Bool:=l.any λa=>a.toNat==x.toNat
def KN(x:Nd)(a:nC)(b:ni):Bool:=CG x&&decide (a.toNat<16)&& !(b.toNat==0)&& !RY x.labels a
def Lt{a:Type}(xs:List a)(i:Nat)(u:a):List a:=xs.take i++u::xs.drop i
def Lj{a:Type}(xs:List a)(i:Nat):List a:=xs.take i++xs.drop (i+1)
def He(l:List nC)(x:nC):Nat:=l.countP λa=>decide (a.toNat<x.toNat)
def Ja(x:Nd)(a:nC)(b:ni):Nd:={pre:=x.pre,val:=x.val,labels:=Lt x.labels (He x.labels a) a,kids:=Lt x.kids (He x.labels a) b}
def UJ(x:Nd)(i:Nat):Nd:={pre:=x.pre,val:=x.val,labels:=Lj x.labels i,kids:=Lj x.kids i}
def Jn(j:Jb)(n:Nd)(b:nC)(a:ni)(e:Int):Jb×ni×Int:=
 if e≠0 then(j,0,e)else
 if KN n b a then GN j (Ja n b a)else(j,0,5)
def OC:Nat->Jb->List nC->ni->Jb×ni×Int
 |0,b,_,_=>(b,0,5)
 |d+1,b,a,c=>
  if a.length<=15 then GN b ⟨a,c,[],[]⟩else
  match OC d b (a.drop 16) c with
  |(f,g,e)=>Jn f ⟨a.take 15,0,[],[]⟩ (a.getD 15 0) g e
def Uw(j:Jb)(x:Nd)(nM:List nC)(c:ni):Jb×ni×Int:=
 if oW x.pre nM=x.pre.length then
  match OC (nM.length+1) j (nM.drop (oW x.pre nM+1)) c with
  |(a,b,e)=>Jn a x (nM.getD (oW x.pre nM) 0) b e
 else
  match GN j {x with pre:=x.pre.drop (oW x.pre nM+1)}with
  |(a,b,e)=>
   if oW x.pre nM=nM.length then Jn a ⟨x.pre.take (oW x.pre nM),c,[],[]⟩ (x.pre.getD (oW x.pre nM) 0) b e else
   if e≠0 then(a,0,e)else
   if KN ⟨x.pre.take (oW x.pre nM),0,[],[]⟩ (x.pre.getD (oW x.pre nM) 0) b then
    match OC (nM.length+1) a (nM.drop (oW x.pre nM+1)) c with
    |(g,d,f)=>Jn g (Ja ⟨x.pre.take (oW x.pre nM),0,[],[]⟩ (x.pre.getD (oW x.pre nM) 0) b) (nM.getD (oW x.pre nM) 0) d f
   else(a,0,5)
def ET(s:St)(l:List Int):St:=l.foldl (λs a=>(GG s a).1) s
def LV:St->List Int->Int->St×Int
 |a,[],e=>(a,e)
 |a,b::c,e=>LV (GG a b).1 c (if e=0 then(GG a b).2 else e)
def Fb(j:Jb)(e:Int)(c:Int)(a:ni)(b:List Int):St×Int:=
 if e≠0 then(ET j.s j.made,e)else LV {j.s with ws:=DD j.s.ws (c.toNat/8) a} b 0
def TG(s:St)(a:Pl)(n:ni):St:={s with ws:=DD s.ws (a.off.toNat/8+2) n}
def RZ(s:St)(key:List nC)(c:ni):St×Int:=
 if 16<key.length then(s,3)else if c=0 then(s,2)else
 match FC s key with
 |none=>(s,5)
 |some (g,b)=>match Dw g b with
  |some a=>(TG s a c,0)
  |none=>match g.getLast? with
   |none=>match OC (b.length+1) ⟨s,[]⟩ b c with
    |(d,f,e)=>Fb d e 72 f []
   |some a=>match Uw ⟨s,[]⟩ a.nd b c with
    |(d,f,e)=>Fb d e a.word f [a.off]
def I9(d:List Pl):Nat->List Int->Nat×List Int
 |0,b=>(0,b)
 |a+1,b=>match d[a]?,d[a+1]? with
  |some c,some _=>if c.nd.val=0/\c.nd.kids.length=1 then I9 d a (b++[c.off])else(a+1,b)
  |_,_=>(a+1,b)
def LW(j:Jb)(b:List Pl):St×Int:=
 match I9 b (b.length-1) [(b.getLast?.map (·.off)).getD 0]with
 |(0,c)=>Fb j 0 72 0 c
 |(d+1,c)=>match b[d]?,b[d+1]? with
  |some a,some f=>match Kq a.nd.labels f.label with
   |some g=>if CG a.nd then match GN j (UJ a.nd g)with
    |(i,k,e)=>Fb i e a.word k (c++[a.off])
    else(j.s,5)
   |none=>(j.s,5)
  |_,_=>(j.s,5)
def Si(s:St)(key:List nC):St×ni×Int:=
 if 16<key.length then(s,0,3)else
 match FC s key with
 |none=>(s,0,5)
 |some (c,d)=>match Dw c d with
  |none=>(s,0,7)
  |some a=>if a.nd.val=0 then(s,0,7)else
   match(if a.nd.kids.length=0 then LW ⟨s,[]⟩ c else(s,6))with
   |(b,e)=>if e=6 then(TG b a 0,a.nd.val,0)else if e=0 then(b,a.nd.val,0)else(b,0,e)
def EJ(s:St):Nat->ni->List nC->List (List nC×ni)×List Int->Option (List (List nC×ni)×List Int)
 |0,_,_,_=>none
 |f+1,b,o8,(c,e)=>
  match Gu s b with
  |none=>none
  |some a=>
   if e.contains (Bz b)\/32<(o8++a.pre).length then none else
   if a.val≠0/\OB (o8++a.pre)=false then none else
   (a.labels.zip a.kids).foldlM (λg(d:nC×ni)=>EJ s f d.2 (o8++a.pre++[d.1]) g)
    (if a.val≠0 then c++[(pairs (o8++a.pre),a.val)]else c,e++[Bz b])
def Em(s:St):Option (List (List nC×ni)×List Int):=
 if s.ws 9=0 then some ([],[])else EJ s 34 (s.ws 9) [] ([],[])
structure Rc where
 nK:ni
 next:ni
 gone:Bool
 text:nG
def Et(r:Rc):Bool:= !(r.nK.toNat==0)&&decide (r.text.size<=40)&&(!r.gone||decide (r.text.size=0))
def VY:List nC->Nat
 |[]=>0
 |a::b=>a.toNat+256*VY b
def sK:∀(l:List nC),VY l<256^l.length
 |[]=>by simp[VY]
 |a::l=>by
  have:=sK l;have b:=a.toNat_lt;rw[VY,Bg,JA];omega
def oq:∀(l:List nC)(b:nC),VY (l++[b])=VY l+b.toNat*256^l.length
 |[],b=>by simp[VY]
 |a::l,b=>by
  have:=oq l b;rw[BM,VY,this,VY,Bg,JA,Nat.mul_add];have e:256*(b.toNat*256^l.length)=b.toNat*(256^l.length*256):=by rw[KD 256,PO]
  omega
def NL(l:List nC)(k:Nat):ni:=Az (VY ((l.drop (8*k)).take 8))
def textW(l:List nC):List ni:=(Ea 5).map (NL l)
def XT(l:List nC):(textW l).length=5:=by simp[textW]
def Vz(l:List nC)(k:Nat):(NL l k).toNat=VY ((l.drop (8*k)).take 8):=by
 unfold NL
 have:=sK ((l.drop (8*k)).take 8)
 have a:256^((l.drop (8*k)).take 8).length<=256^8:=Gm U (by simp;omega)
 rw [IX]
 exact Ho (by have:(256:Nat)^8=2^64:=by decide
              omega)
def fA(l:List nC)(i:Nat)(hi:i<l.length):(NL (l.take (i+1)) (i/8)).toNat=(NL (l.take i) (i/8)).toNat+l[i].toNat*256^(i%8):=by
 rw[Vz,Vz];have e:((l.take (i+1)).drop (8*(i/8))).take 8=((l.take i).drop (8*(i/8))).take 8++[l[i]]:=by
  have b:((l.take i).drop (8*(i/8))).length<=8:=by simp;omega
  have a:((l.take i).drop (8*(i/8))++[l[i]]).length<=8:=by simp;omega
  rw[BH hi,List.drop_append_of_le_length (by simp;omega),Dq a,Dq b]
 have a:(((l.take i).drop (8*(i/8))).take 8).length=i%8:=by simp;omega
 rw[e,oq,a]
def xA(l:List nC)(i k:Nat)(a:k≠i/8):NL (l.take (i+1)) k=NL (l.take i) k:=by
 unfold NL;congr 2;rw[Aql,Aql,Rq,Rq];by_cases h:k<i/8
 ·rw[show min 8 (i+1-8*k)=8 by omega,show min 8 (i-8*k)=8 by omega]
 ·rw[show min 8 (i+1-8*k)=0 by omega,show min 8 (i-8*k)=0 by omega]
def Aca(l:List nC)(i:Nat):(NL (l.take i) (i/8)).toNat<256^(i%8):=by
 rw[Vz];have:=sK (((l.take i).drop (8*(i/8))).take 8);exact Bc this (Gm U (by simp;omega))
def Acb(l:List nC)(i:Nat)(hi:i<l.length)(x:ni)(c:x.toNat=(NL (l.take i) (i/8)).toNat+l[i].toNat*256^(i%8)):(textW (l.take i)).set (i/8) x=textW (l.take (i+1)):=by
 have d:x=NL (l.take (i+1)) (i/8):=Eb.1 (by rw[c,fA l i hi]);apply ER
 ·simp[textW]
 ·intro b f g;rw[MX];simp only[textW,UC,RU];by_cases a:i/8=b
  ·rw[kX a,d,a]
  ·rw[lg a,xA l i b (λe=>a e.symm)]
def fB:textW []=[0,0,0,0,0]:=by decide
def Jo(n:Nat)(g:Bool):Nat:=3+65536*n+(if g then 256 else 0)
def EE(r:Rc):List ni:=[Az (Jo r.text.size r.gone),r.nK,r.next]++textW r.text
def Jp(r:Rc):(EE r).length=8:=by simp[EE,XT]
def WS(l:List ni):Rc:=
 {nK:=l.getD 1 0,next:=l.getD 2 0,gone:=decide ((l.getD 0 0).toNat/256%2=1),text:=⟨((leBytes (l.drop 3)).take ((l.getD 0 0).toNat/65536)).toArray⟩}
def Qi(l:List ni):Option Rc:=
 if l.length=8/\(l.getD 0 0).toNat/65536<=40 then
  if Et (WS l)=true/\EE (WS l)=l then some (WS l)else none
 else none
def xB:∀(l:List nC)(i:Nat)(hi:i<l.length),VY l/256^i%256=l[i].toNat
 |a::l,0,_=>by
  have:=a.toNat_lt;simp[VY]
 |a::l,i+1,hi=>by
  have b:=a.toNat_lt;have:=xB l i (by simpa using hi);rw[VY,JA,KD (256^i) 256,<-UA,show(a.toNat+256*VY l)/256=VY l by omega,this];rfl
def Aht(l:List nC)(i:Nat)(hi:i<l.length):leB (NL l (i/8)) (i%8)=l[i]:=by
 apply UInt8.toNat_inj.1;rw[YS,Vz,xB _ _ (by simp;omega)];simp only[bC,List.getElem_drop];congr 2;omega
def MJ(r:Rc):Et r=true<->r.nK.toNat≠0/\r.text.size<=40/\(r.gone=true->r.text.size=0):=by
 simp only[Et,Bool.and_eq_true,decide_eq_true_eq,Bool.not_eq_true',beq_eq_false_iff_ne,Bool.or_eq_true,and_assoc];cases r.gone<;>simp
def Ahu{n:Nat}(h:n<=40)(g:Bool):Jo n g<18446744073709551616:=by
 unfold Jo;split<;>omega
def TI{n:Nat}(h:n<=40)(g:Bool):(Az (Jo n g)).toNat=Jo n g:=by
 rw[IX];exact Ho (Ahu h g)
def WT(r:Rc)(h:Et r=true):WS (EE r)=r:=by
 obtain⟨o,j,p⟩:=(MJ r).1 h;have c:((EE r).getD 0 0).toNat=Jo r.text.size r.gone:=by
  simp only[EE,BM,Afq];exact TI j _
 have d:Jo r.text.size r.gone/65536=r.text.size:=by unfold Jo;split<;>omega
 have e:Jo r.text.size r.gone/256%2=if r.gone then 1 else 0:=by unfold Jo;split<;>omega
 have f:(EE r).drop 3=textW r.text:=rfl;have q:r.text.size=r.text.data.toList.length:=rfl;unfold WS;rw[c,d,e,f];have i:(leBytes (textW r.text)).take r.text.size=r.text:=by
  apply KE;intro a;rw[Dh];by_cases b:a<r.text.size
  ·rw[kX b];have:=JZ (textW r.text) (a/8) (a%8) (by rw[XT];omega) O;rw[show 8*(a/8)+a%8=a by omega]at this;rw[this];simp only[textW,UC,RU];rw[Aht _ _ O,Ag O]
  ·rw[lg b,FO O]
 rw[i];have g:decide ((if r.gone=true then 1 else 0)=1)=r.gone:=by cases r.gone<;>rfl
 rw[g];cases r with
 |mk k l m n=>simp only[Rc.mk.injEq];exact⟨rfl,rfl,trivial,trivial⟩
def Ahv(r:Rc)(h:Et r=true):Qi (EE r)=some r:=by
 obtain⟨d,a,e⟩:=(MJ r).1 h;have b:((EE r).getD 0 0).toNat=Jo r.text.size r.gone:=by
  simp only[EE,BM,Afq];exact TI a _
 have c:Jo r.text.size r.gone/65536=r.text.size:=by unfold Jo;split<;>omega
 unfold Qi;rw[kX ⟨Jp r,by rw[b,c];exact a⟩,WT r h,kX ⟨h,rfl⟩]
structure Lk where
 off:Int
 rc:Rc
def FD(l:List Lk):Nat:=match l.getLast? with|none=>18446744073709551616|some a=>a.rc.nK.toNat
def WU(s:St):Nat->ni->List Lk->Option (List Lk)
 |0,_,_=>none
 |d+1,a,b=>
  if a.toNat=0 then some b else
  if Ed s (Bz a)≠1 then none else
  match Qi (wordsAt s.ws ((Bz a).toNat/8) 8)with
  |none=>none
  |some c=>if FD b<=c.nK.toNat then none else WU s d c.next (b++[⟨Bz a,c⟩])
def IU(s:St)(first:ni):Option (List Lk):=WU s 18446744073709551618 first []
def NY(s:St)(r:Rc):St×ni×Int:=
 if Et r=false then(s,0,2)else
 match Ei s 1 with
 |none=>(s,0,6)
 |some (a,b)=>
  match Np {b with ws:=CQ b.ws (a/8) (EE r)} a with
  |(c,e)=>if e=0 then(c,Az a,0)else((GG c a).1,0,e)
def Je:List Lk->Nat->Option nG
 |[],_=>none
 |a::c,b=>if a.rc.nK.toNat<=b then(if a.rc.gone then none else some a.rc.text)else Je c b
def Nr(low:Nat):List Lk->Bool->Nat
 |[],_=>0
 |c::a,b=>if low<c.rc.nK.toNat then Nr low a b+1 else if b then Nr low a b else Nr low a true+(if c.rc.gone then 0 else 1)
def MK(l:List Lk)(low:Nat):Nat:=Nr low l false
def Sj(low:Nat):∀(l:List Lk)(m:Bool),Nr low l m<=l.length
 |[],_=>Ae _
 |c::l,m=>by
  have a:=Sj low l m;have b:=Sj low l true;rw[Nr,Bg];split
  ·omega
  ·split
   ·omega
   ·split<;>omega
def WV(x:Nat)(h:x<4294967296):TD x<4294967296:=by
 have a:x/16<2^32:=O;have b:NU.getD (x%16) 0<2^32:=by
  have:x%16<16:=MH _ U;have d:∀c:Fin 16,NU.getD c.val 0<2^32:=by decide
  exact d ⟨x%16,this⟩
 exact YK a b
def Acd(x c:Nat)(h:x<4294967296)(a:c<256):Vy x c<4294967296:=by
 unfold Vy;refine WV _ (WV _ ?_);exact YK (n:=32) h O
def Sl(b:Nat)(l:List nC)(k:Nat):Nat:=(l.take k).foldl (λc a=>Vy c a.toNat) (b^^^4294967295)
def fC(a:Nat)(l:List nC):Sl a l 0=a^^^4294967295:=by simp[Sl]
def fD(a:Nat)(l:List nC)(k:Nat)(b:k<l.length):Sl a l (k+1)=Vy (Sl a l k) l[k].toNat:=by
 unfold Sl;rw[BH b,List.foldl_append];rfl
def Ahw(a:Nat)(l:List nC):Sl a l l.length^^^4294967295=Oz a l:=by simp[Sl,Oz]
def fE(b:Nat)(l:List nC)(c:b<4294967296):∀a,a<=l.length->Sl b l a<4294967296
 |0,_=>by rw[fC];exact YK (n:=32) c U
 |a+1,d=>by
  rw[fD b l a d];exact Acd _ _ (fE b l c a O) (UInt8.toNat_lt _)
def FH(l:List Int):List Int:=l.mergeSort λa b=>decide (a<=b)
def IA(s:St):List (List nC×ni)->List Int->Option (List Int)
 |[],a=>some a
 |b::t,a=>match IU s b.2 with
  |none=>none
  |some c=>IA s t (a++c.map (·.off))
def JE:List Int->Bool
 |b::a::t=> !(b==a)&&JE (a::t)
 |_=>true
def fF(s:St):∀(l:List (List nC×ni))(it:List nC×ni)(a:List Int),IA s (l++[it]) a=match IA s l a with
    |none=>none
    |some c=>match IU s it.2 with|none=>none|some b=>some (c++b.map (·.off))
 |[],it,a=>by
  simp only[DR,IA]
 |d::t,it,a=>by
  simp only[BM,IA];cases IU s d.2 with
  |none=>rfl
  |some b=>exact fF s t it _
def fG{s:St}{l:List (List nC×ni)}{b r:List Int}(h:IA s l b=some r):∀a,a<=l.length->∃c,IA s (l.take a) b=some c/\IA s (l.drop a) c=some r:=by
 induction l generalizing b with
 |nil=>intro a d;exact⟨b,by simp[IA],by simpa[IA]using h⟩
 |cons g t f=>
  intro a d;cases a with
  |zero=>exact⟨b,rfl,h⟩
  |succ a=>
   simp only[IA]at h;simp only[Jf,List.drop_succ_cons,IA];cases e:IU s g.2 with
   |none=>rw[e]at h;cases h
   |some i=>
    rw[e]at h;exact f h a (by simpa using d)
def ou{s:St}:∀{l:List (List nC×ni)}{a r:List Int},IA s l a=some r->a.length<=r.length
 |[],a,r,h=>by simp only[IA,Option.some.injEq]at h;subst h;exact Ae _
 |c::t,a,r,h=>by
  simp only[IA]at h;cases b:IU s c.2 with
  |none=>rw[b]at h;cases h
  |some d=>
   rw[b]at h;have:=ou h;rw[AO]at this;omega
def oz:∀{l:List Int},JE l=true->∀a(h:a+1<l.length),l[a]≠l[a+1]
 |c::d::t,h,0,_=>by
  simp only[JE,Bool.and_eq_true,Bool.not_eq_true',beq_eq_false_iff_ne,ne_eq]at h;exact h.1
 |c::d::t,h,a+1,b=>by
  simp only[JE,Bool.and_eq_true]at h;have:=oz h.2 a (by simpa using b);simpa using this
 |[],_,_,b=>by simp at b
 |[c],_,a,b=>by simp at b
def WW(s:St):Option (List Int):=
 match Em s with
 |none=>none
 |some (b,c)=>match IA s b (FH c)with
  |none=>none
  |some a=>if JE (FH a)=true then some (FH a)else none
def Ace{s:St}{l:List (List nC×ni)}{b a:List Int}{k:Nat}(d:k<l.length)(c:IA s (l.take k) b=some a):
 IA s (l.take (k+1)) b=match IU s l[k].2 with|none=>none|some e=>some (a++e.map (·.off)):=by
 rw[BH d,fF,c]
def Acf{s:St}{l:List (List nC×ni)}{a:List Int}{k:Nat}(c:k<l.length)(h:IA s (l.take (k+1)) a=none):IA s l a=none:=by
 cases d:IA s l a with
 |none=>rfl
 |some f=>
  obtain⟨e,b,_⟩:=fG d (k+1) c;rw[b]at h;cases h
def sO(l:List Int)(j:Nat):Prop:=∀a,1<=a->a<j->∀h:a<l.length,l[a-1]≠l[a]
def xC{l:List Int}{j:Nat}(q:1<=j)(h:sO l j){a b:Int}(k:l[j]?=some a)(m:l[j-1]?=some b)(o:a≠b):sO l (j+1):=λc g p i=>by
 by_cases n:c=j
 ·subst n;obtain⟨_,d⟩:=Cf.1 k;obtain⟨_,f⟩:=Cf.1 m;rw[d,f];exact λe=>o e.symm
 ·exact h c g O i
def Af4:∀{l:List Int},(∀a,1<=a->∀h:a<l.length,l[a-1]≠l[a])->JE l=true
 |[],_=>rfl
 |[_],_=>rfl
 |g::b::t,h=>by
  have c:=h 1 (Ae _) Θ;have e:=Af4 (l:=b::t) (λa i d=>by
   have:=h (a+1) O (by simpa using d);obtain⟨a,rfl⟩:∃f,a=f+1:=⟨a-1,O⟩;simpa using this)
  unfold JE;simp only[Bool.and_eq_true,Bool.not_eq_true',beq_eq_false_iff_ne];exact⟨c,e⟩
def Tryz.Jq:OA prog 22 5 (.int .u8 0) 1:=⟨underlying22,by kernel_rfl,rfl⟩
def Tryz.infoByte:(prog.info? 5).map (λa=>(a.zero,a.size,a.bytes))=some (some (.int .u8 0),1,1):=by kernel_rfl
def Tryz.JL:OA prog 76 47 (.int .u64 0) 8:=⟨underlying76,by kernel_rfl,rfl⟩
def fH(A:Option Addr)(n c:Nat)(l:List ni)(w:World)(r:n<=1000000)(h:Ws w A n l):
 Calls prog 232 #[.slice A n c] w λe g=>∃f,e=.returned f/\g.ownsRow w 47 1 f n (l.map wv)/\η w g:=by
 have k:=h.len;rcases A with _|d
 ·have m:n=0:=by
   rcases I4 n with b|b
   ·exact b
   ·obtain⟨_,_,e,_⟩:=h.2 b;cases e
  subst m;have j:l=[]:=Cj k;subst j;have p:=λa=>KI (P:=prog) a 76 47 none 0 c 0 0 underlying76
  go_in;go_wp2;go_ret;exact⟨_,rfl,Ce _ _ _ _,mZ⟩
 ·have p:=λa=>KI (P:=prog) a 76 47 (some d) n c 0 0 underlying76
  go_in;go_wp2_with(at_builtin;refine Wp rfl (.tmp 5) (.tmp 6) 76 rfl Tryz.JL w (.slice (some (Φ w)) 0 0) 0 [] (l.map wv) rfl (Afr w #[] 0 (Ae _) U rfl) (some d) n c rfl (h.below (mZ.alloc (Ae _) _)) (Tz _) O U Θ ?_;intro q s o i);go_ret;exact⟨q,rfl,by simpa using o,(mZ.alloc (Ae _) _).trans i⟩
def WX(A:Option Addr)(n c:Nat)(l:List nC)(w:World)(r:n<=1000000)(h:Bs w A n l):
 Calls prog 82 #[.slice A n c] w λe g=>∃f,e=.returned f/\g.ownsRow w 5 1 f n (l.map bv)/\η w g:=by
 have k:=h.len;rcases A with _|d
 ·have m:n=0:=by
   rcases I4 n with b|b
   ·exact b
   ·obtain⟨_,_,e,_⟩:=h.2 b;cases e
  subst m;have j:l=[]:=Cj k;subst j;have p:=λa=>KI (P:=prog) a 22 5 none 0 c 0 0 underlying22
  go_in;go_wp2;go_ret;exact⟨_,rfl,Ce _ _ _ _,mZ⟩
 ·have p:=λa=>KI (P:=prog) a 22 5 (some d) n c 0 0 underlying22
  go_in;go_wp2_with(at_builtin;refine Wp rfl (.tmp 5) (.tmp 6) 22 rfl Tryz.Jq w (.slice (some (Φ w)) 0 0) 0 [] (l.map bv) rfl (Afr w #[] 0 (Ae _) U rfl) (some d) n c rfl (h.below (mZ.alloc (Ae _) _)) (JW _) O U Θ ?_;intro q s o i);go_ret;exact⟨q,rfl,by simpa using o,(mZ.alloc (Ae _) _).trans i⟩
def V3(A:Option Addr)(n c:Nat)(l:List nC)(w:World)(t:n<=4294967296)(h:Bs w A n l):
 Calls prog 228 #[.slice A n c] w λe o=>e=.returned (.bool (l.all DW))/\w=o:=by
 have k:=h.len;go_in;go_wp2;go_loop [7](λf=>∃a:Nat,a<=n/\f=.int .i64 a/\(l.take a).all DW=true)(λf=>n-(intOf f).toNat)
 case atStart=>exact⟨0,Bd _,rfl,by simp⟩
 case round=>
  obtain⟨a,s,rfl,b⟩:=hrel;by_cases m:a<n
  ·obtain⟨i,p,u,rfl,q,r⟩:=h.at m;by_cases g:l[a].toNat<16
   ·have d:=Ac (Wq DW l a i b (YR g));clear b;go_wp2;go_round
    case rel=>exact⟨a+1,O,by go_num,d⟩
    case measure=>simp[intOf];omega
   ·have d:=Ac (YQ DW l a i (Alv g));clear b;go_wp2;go_ret;exact⟨by rw[d.out];rfl,rfl⟩
  ·have j:a=n:=O;subst j;go_wp2;go_ret;exact⟨Ahm (by rw[<-k]at b;simpa using b),rfl⟩
def Al1(s:nG)(w:World)(C:s.size<=1000000):
 Calls prog 157 #[s] w λe m=>∃d,e=.returned d/\m.ownsRow w 5 1 d (2*s.size) ((CO s).map bv)/\η w m:=by
 obtain⟨y,q,u,v,x⟩:=info_parts Tryz.infoByte;go_in;go_wp2_with(at_make;refine wpList_make_own _ rfl _ _ 22 rfl w 5 y (.int .u8 0) 1 underlying22 q u v .i64 .i64 _ (2*s.size) rfl rfl Θ (by rw[x];omega) (by unfold maxLen;omega) (Ae _) ?_;intro z k i);have o:η w z:=mZ.grown i (Ae _) Θ;clear i;go_loopw [3,11](λd f wr=>∃a:Nat,a<=s.size/\f=.int .i64 a/\wr.ownsRow w 5 1 d (2*a) ((CO (s.data.toList.take a)).map bv)/\η w wr)(λ_ f _=>s.size-(intOf f).toNat)
 case atStart=>exact⟨0,Bd _,rfl,by simpa[CO]using k,o⟩
 case round=>
  obtain⟨a,A,rfl,c,b⟩:=hrel;clear k;have t:=b.size;by_cases j:a<s.size
  ·have B:a<s.data.toList.length:=by simpa using j
   have n:=Ac (WO s a j);go_wp2;go_region_law(refine rW rfl (.tmp 14) (.tmp 23) 22 rfl Tryz.Jq wr w u3 (2*a) ((CO (s.data.toList.take a)).map bv) [AA .u8 (IntKind.u8.wrap (↑s[a].toNat/16)),AA .u8 ((↑s[a].toNat:Int).tmod 16)] (by simp[Act.eval]) c rfl rfl rfl rfl 2 2 (by simp[Act.eval]) rfl (by simp[Aqc]) (by simp;omega) U t ?_;intro D E l g)
   all_goals
    have p:=b.trans g;rw[Aqq,Aqr]at l;clear c b g;go_wp2;exact⟨⟨a+1,O,by go_num,by rw[n.out,CJ];exact l,p⟩,mz⟩
  ·have r:a=s.size:=O;subst r;go_wp2;go_ret;exact⟨_,rfl,by rw[Dq Θ]at c;exact c,b⟩
def NZ(A B:Option Addr)(n m p q:Nat)(a b:List nC)(w:World)(F:n<=4294967296)(_hm:m<=4294967296)(j:Bs w A n a)(k:Bs w B m b):
 Calls prog 160 #[.slice A n p,.slice B m q] w λe u=>e=.returned (.int .i64 (oW a b:Nat))/\Dr w u:=by
 have D:=j.len;have E:=k.len;go_in;go_wp2;go_loopw [5](λi wr=>∃d:Nat,d<=n/\i=.int .i64 d/\alike d a b/\Dr w wr)(λi _=>n-(intOf i).toNat)
 case atStart=>exact⟨0,Bd _,rfl,Ab1 _ _,Dr.refl _⟩
 case round=>
  obtain⟨d,z,rfl,c,L,rfl⟩:=hrel;have C:=c.2.1;by_cases s:d<n
  ·obtain⟨l,J,I,rfl,G,x⟩:=j.at s;by_cases t:d<m
   ·obtain⟨o,K,v,rfl,H,y⟩:=k.at t;by_cases g:a[d]=b[d]
    ·have f:=Ac (Ab2 c l o g);have r:=xm g;clear c g;go_wp2;go_quiet(fail);go_wp2;exact⟨⟨d+1,O,by go_num,f,by first|exact Dr.one _ _|exact Dr.two _ _ _⟩,mz⟩
    ·have f:=Ac (bI c l o g);have r:=rX g;clear c g;go_wp2;go_quiet(fail);go_wp2;go_ret;exact⟨by rw[f.out];rfl,by first|exact Dr.one _ _|exact Dr.two _ _ _⟩
   ·have f:=Ac (WQ c O);clear c;go_wp2;go_quiet(fail);go_wp2;go_ret;exact⟨by rw[f.out];rfl,by first|exact Dr.one _ _|exact Dr.two _ _ _⟩
  ·have f:=Ac (QN c O);clear c;go_wp2;go_quiet(fail);go_wp2;go_ret;exact⟨by rw[f.out];rfl,by first|exact Dr.one _ _|exact Dr.two _ _ _⟩
def XU(A:Option Addr)(n c:Nat)(l:List nC)(w:World)(p:n<=15)(h:Bs w A n l)(b:l.all DW=true):
 Calls prog 226 #[.slice A n c] w λe i=>e=.returned (.tuple #[.int .u64 ((n+16*FX l:Nat):Int),true])/\w=i:=by
 have o:=h.len;have d:=V3 A n c l w O h;rw[b]at d;go_in;go_wp2_with(go_at_call 228;refine d.mono ?_;rintro e i⟨rfl,rfl⟩);go_loop [4,20](λq f=>∃a:Nat,a<=n/\f=.int .i64 a/\q=.int .u64 ((n+16*FX (l.take a):Nat):Int))(λ_ f=>n-(intOf f).toNat)
 case atStart=>exact⟨0,Bd _,rfl,by simp[FX]⟩
 case round=>
  obtain⟨a,u,rfl,rfl⟩:=hrel;by_cases g:a<n
  ·obtain⟨m,r,v,rfl,s,t⟩:=h.at g;have j:=Ac (Ahq l n a p g m b);clear d b;go_wp2;go_round
   case rel=>exact⟨a+1,O,by go_num,j⟩
   case measure=>simp[intOf];omega
  ·have k:a=n:=O;subst k;go_wp2;go_ret2;exact⟨by simp[<-o],rfl⟩
def Al2(A:Option Addr)(n c:Nat)(w:World)(b:15<n)(d:n<=4294967296):
 Calls prog 226 #[.slice A n c] w λe a=>e=.returned (.tuple #[.int .u64 0,false])/\w=a:=by
 go_in;go_wp2;go_ret2;exact⟨rfl,rfl⟩
def Aqt(A:Option Addr)(n c:Nat)(l:List nC)(w:World)(f:n<=15)(h:Bs w A n l)(d:l.all DW=false):
 Calls prog 226 #[.slice A n c] w λe b=>e=.returned (.tuple #[.int .u64 0,false])/\w=b:=by
 have a:=V3 A n c l w O h;rw[d]at a;go_in;go_wp2_with(go_at_call 228;refine a.mono ?_;rintro e b⟨rfl,rfl⟩);go_ret2;exact⟨rfl,rfl⟩
def Acg(x:Nat)(w:World)(e:Ending)(w':World):Prop:=
 η w w'/\(if x/16/16^(x%16)=0 then∃a,e=.returned (.tuple #[a,true])/\w'.ownsRow w 5 1 a (x%16) ((digits (x%16) (x/16)).map bv)
  else e=.returned (.tuple #[.slice none 0 0,false]))
def fJ(x:Nat)(w:World)(T:x<18446744073709551616):
 Calls prog 225 #[.int .u64 (x:Int)] w (Acg x w):=by
 obtain⟨M,F,d,K,L⟩:=info_parts Tryz.infoByte;have H:x%16<16:=MH _ U;go_in;go_wp2_with(at_make;refine wpList_make_full _ rfl _ _ 22 rfl w 5 M (.int .u8 0) 1 underlying22 F d K .i64 .i64 _ _ (x%16) rfl rfl Θ Θ (by rw[L];omega) (by unfold maxLen;omega) (Ae _) ?_;intro P j v);rw[TA]at j;have t:η w P:=mZ.grown v (Ae _) Θ;clear v;obtain⟨b,i⟩:=ε (x%16);obtain⟨e,C⟩:=ε (x/16);have r:((x:Int)%16)=(b:Int):=O;have s:((x:Int)/16)=(e:Int):=O;have J:e<18446744073709551616:=O;have o:=Ac i;have q:=Ac C;rw[r,s,<-i];rw[<-i]at j H;clear r s i C;go_loopw [0,16](λN n wr=>∃a:Nat,a<=b/\n=.int .i64 a/\N=.int .u64 ((e/16^a:Nat):Int)/\wr.ownsRow w 5 1 (.slice (some (Φ w)) b b) b ((digits a e++BJ (b-a) (0:nC)).map bv)/\η w wr)(λ_ n _=>b-(intOf n).toNat)
 case atStart=>exact⟨0,Bd _,rfl,by simp,by simpa[digits]using j,t⟩
 case round=>
  clear j t;obtain⟨a,R,rfl,rfl,f,g⟩:=hrel;obtain⟨z,c⟩:=ε (e/16^a);have V:z<18446744073709551616:=by rw[c];exact KF (A40 _ _) J
  by_cases y:a<b
  ·have m:=rY a b e y;have B:((z:Int)/16)=((e/16^(a+1):Nat):Int):=by rw[JA,<-UA,<-c];simp
   rw[<-c]at m⊢;have E:=Ac m;have D:=Ac B;clear m B c;obtain⟨W,S⟩:=dY f y;have Q:=f.frozenAt a;have A:=(f.stored a (bv (UInt8.ofNat (z%16)))).1;have u:=g.setCell (p:=Δ w a) (Ae _) (bv (UInt8.ofNat (z%16)));rw[E.out,<-Af2]at A;rw[<-Af2]at u;clear f g;go_wp2;exact⟨⟨a+1,O,by go_num,by rw[D.out],A,u⟩,mz⟩
  ·have G:a=b:=O;subst G;rw[<-c];by_cases d:z=0
   ·have I:((z:Int)!=0)=false:=by simp[d]
    have k:=Ac c;have l:=Ac d;clear c d;go_wp2;go_ret2;refine⟨g,?_⟩;rw[<-o.out,<-q.out,<-k.out,kX l.out];exact⟨_,rfl,by simpa using f⟩
   ·have I:((z:Int)!=0)=true:=by simp;omega
    have k:=Ac c;have l:=Ac d;clear c d;go_wp2;go_ret2;refine⟨g,?_⟩;rw[<-o.out,<-q.out,<-k.out,lg l.out];rfl
def Au7(A:Option Addr)(n c:Nat)(l:List nC)(w:World)(j:n<=1000000)(h:Bs w A n l)(b:OB l=false):
 Calls prog 202 #[.slice A n c] w λe g=>e=.returned (.tuple #[.string ⟨#[]⟩,false])/\w=g:=by
 have i:=h.len;have d:=V3 A n c l w O h;by_cases a:n%2=0
 ·have f:l.all DW=false:=by
   simpa[OB,i,a]using b
  rw[f]at d;have t1:((n:Int)%2 !=0)=false:=by simp;omega
  clear b f a;go_in;go_wp2_with(go_at_call 228;refine d.mono ?_;rintro e g⟨rfl,rfl⟩);go_ret2;exact⟨rfl,rfl⟩
 ·have t1:((n:Int)%2 !=0)=true:=by simp;omega
  clear b a d;go_in;go_wp2;go_ret2;exact⟨rfl,rfl⟩
def Aqu(A:Option Addr)(n c:Nat)(l:List nC)(w:World)(ap:n<=1000000)(h:Bs w A n l)(g:OB l=true):
 Calls prog 202 #[.slice A n c] w λe C=>e=.returned (.tuple #[.string ⟨(pairs l).toArray⟩,true])/\η w C:=by
 obtain⟨W,K,T,U,V⟩:=info_parts Tryz.infoByte;have an:=h.len;have o:=V3 A n c l w O h;simp only[OB,Bool.and_eq_true,decide_eq_true_eq]at g;rw[g.2]at o;have J:n%2=0:=O;obtain⟨b,i⟩:∃b,n=2*b:=⟨n/2,O⟩;have z:b=l.length/2:=O;have t1:((n:Int)%2 !=0)=false:=by simp;omega
 have ac:((n:Int)/2)=(b:Int):=O;have E:=Ac i;have s:=Ac z;have ao:b<=n:=O;clear g J i z;go_in;go_wp2_with(first|(go_at_call 228;refine o.mono ?_;rintro e C⟨rfl,rfl⟩)|(at_make;refine wpList_make_full _ rfl _ _ 22 rfl w 5 W (.int .u8 0) 1 underlying22 K T U .i64 .i64 _ _ b rfl rfl (by rfl) (by rfl) (by rw[V];omega) (by unfold maxLen;omega) (Ae _) ?_;intro X k x));rw[TA]at k;have u:η w X:=mZ.grown x (Ae _) Θ;clear x o;go_loopw [21](λr wr=>∃a:Nat,a<=b/\r=.int .i64 a/\wr.ownsRow w 5 1 (.slice (some (Φ w)) b b) b ((pairs (l.take (2*a))++BJ (b-a) (0:nC)).map bv)/\η w wr)(λr _=>b-(intOf r).toNat)
 case atStart=>exact⟨0,Bd _,rfl,by simpa[pairs]using k,u⟩
 case round=>
  clear k u;obtain⟨a,g,rfl,d,f⟩:=hrel;by_cases y:a<b
  ·have i:=E.out;have q:=h.below f;obtain⟨am,Z,au,rfl,aq,ad⟩:=Bs.at q (show 2*a<n by omega);obtain⟨M,aa,av,j,_,ae⟩:=Bs.at q (show 2*a+1<n by omega);injection j with j
   injection j with G H I
   subst G H;obtain⟨aw,ar⟩:=dY d y;have al:=d.frozenAt a;have m:=(d.stored a (bv (l[2*a]*16+l[2*a+1]))).1;have v:=f.setCell (p:=Δ w a) (Ae _) (bv (l[2*a]*16+l[2*a+1]));rw[xq l a b y M s.out]at m;have F:=Ac m;have D:=Ac v;clear d f m v i q I;go_wp2;go_region;go_wp2;go_roundw
   case rel=>
    refine⟨a+1,O,by go_num,?_,?_⟩
    ·rw[Af3];exact F.drew
    ·rw[Af3];exact D.drew
   case measure=>simp[intOf];omega
  ·have L:a=b:=O;subst L;simp only[Nat.sub_self,List.replicate_zero,EN]at d;have t:pairs (l.take (2*a))=pairs l:=by rw[s.out];exact eF l
   rw[t]at d;obtain⟨Y,ab,N,_,B⟩:=CY d;injection N with Q R S
   subst Q;have ah:=KL (P:=prog) underlying22 underlying5 underlying9 B a;clear t d S B R;go_wp2;go_ret2;exact⟨rfl,f⟩
def Af5{w:World}{A:Option Addr}{n:Nat}{l:List nC}(h:Bs w A n l)(c:Nat):(convert 22 9 (.slice A n c)).run prog w=.ok (.string ⟨l.toArray⟩) w:=
 KL underlying22 underlying5 underlying9 h c
def Al3(w:World)(t:TypeId)(a b c e:Value):∃d,d=w.alloc (.cells #[a,b,c,e] t)/\d.cell? (Φ w.heap.size)=some a/\d.cell? (Δ w.heap.size 1)=some b/\d.cell? (Δ w.heap.size 2)=some c/\
 d.cell? (Δ w 3)=some e/\η w d/\d.heap.size=w+1:=by
 refine⟨_,rfl,?_,?_,?_,?_,mZ.alloc (Ae _) _,by simp⟩<;>
 ·rw[cell_of_row _ w _ _ t (0,0) (heap_alloc_new w _)];rfl
def lines_any(c:Int)(w:World):Calls prog 192 #[c] w λe d=>e=.returned (.int .i64 (if c=1 then 1 else if c=2 then 4 else 0))/\w=d:=by
 by_cases a:c=1
 ·subst a;go_in;go_wp2;go_ret;exact⟨rfl,rfl⟩
 ·by_cases b:c=2
  ·subst b;go_in;go_wp2;go_ret;exact⟨rfl,rfl⟩
  ·have t1:(c==1)=false:=by simp[a]
   have t2:(c==2)=false:=by simp[b]
   rw[lg a,lg b];go_in;go_wp2;go_ret;exact⟨rfl,rfl⟩
def Oa(c:Int):Int:=if c=1 then 8 else if c=2 then 32 else 0
def KO(c:Int)(w:World):Calls prog 197 #[c] w λe b=>e=.returned (.int .i64 (Oa c))/\w=b:=by
 have g:=lines_any c w;have a:(8*(if c=1 then 1 else if c=2 then 4 else 0):Int)=Oa c:=by unfold Oa;split<;>(try split)<;>rfl
 have f:(0:Int)<=(if c=1 then 1 else if c=2 then 4 else 0)/\(if c=1 then 1 else if c=2 then 4 else 0:Int)<=4:=by split<;>(try split)<;>decide
 generalize(if c=1 then 1 else if c=2 then 4 else 0:Int)=k at*;obtain⟨i,j⟩:=f;have d:=Ac a;clear a;go_in;go_wp2_with(go_at_call 192;refine g.mono ?_;rintro e b⟨rfl,rfl⟩);go_ret;exact⟨by rw[<-d.out];rfl,rfl⟩
def WY(A:Option Addr)(n c:Nat)(l:List nC)(x:nC)(w:World)(B:n<=4294967296)(h:Bs w A n l):
 Calls prog 199 #[.slice A n c,x] w λe r=>e=.returned (.int .i64 (placeOf (λi=>i.toNat==x.toNat) l))/\w=r:=by
 have z:=h.len;go_in;go_wp2;go_loop [8](λk=>∃b:Nat,b<=n/\k=.int .i64 b/\∀a(h:a<l.length),a<b->(l[a].toNat==x.toNat)=false)(λk=>n-(intOf k).toNat)
 case atStart=>exact⟨0,Bd _,rfl,λa _ d=>absurd d O⟩
 case round=>
  obtain⟨b,y,rfl,f⟩:=hrel;by_cases q:b<n
  ·obtain⟨p,s,C,rfl,t,u⟩:=h.at q;by_cases g:l[b].toNat=x.toNat
   ·have t1:((x.toNat:Int)==(l[b].toNat:Int))=true:=by simp[g]
    have j:=Ac (ZW (λi:nC=>i.toNat==x.toNat) l b p (λa d=>f a O d) (by simp[g]));clear f g;go_wp2;go_ret;exact⟨by rw[j.out];rfl,rfl⟩
   ·have t1:((x.toNat:Int)==(l[b].toNat:Int))=false:=by simp;omega
    have m:Hid (∀a(h:a<l.length),a<b+1->(l[a].toNat==x.toNat)=false):=Ac λa d v=>by
     by_cases e:a=b
     ·subst e;simp[g]
     ·exact f a d O
    clear f g;go_wp2;go_round
    case rel=>exact⟨b+1,O,by go_num,m⟩
    case measure=>simp[intOf];omega
  ·have o:b=n:=O;subst o;have j:=Ac (XQ (λi:nC=>i.toNat==x.toNat) l (λa d=>f a d O));clear f;go_wp2;go_ret;exact⟨by rw[j.out];rfl,rfl⟩
def Ach(A:Option Addr)(n c:Nat)(l:List ni)(x:ni)(w:World)(B:n<=4294967296)(h:Ws w A n l):
 Calls prog 244 #[.slice A n c,x] w λe r=>e=.returned (.int .i64 (placeOf (λi=>i.toNat==x.toNat) l))/\w=r:=by
 have z:=h.len;go_in;go_wp2;go_loop [8](λk=>∃b:Nat,b<=n/\k=.int .i64 b/\∀a(h:a<l.length),a<b->(l[a].toNat==x.toNat)=false)(λk=>n-(intOf k).toNat)
 case atStart=>exact⟨0,Bd _,rfl,λa _ d=>absurd d O⟩
 case round=>
  obtain⟨b,y,rfl,f⟩:=hrel;by_cases q:b<n
  ·obtain⟨p,s,C,rfl,t,u⟩:=h.at q;by_cases g:l[b].toNat=x.toNat
   ·have t1:((x.toNat:Int)==(l[b].toNat:Int))=true:=by simp[g]
    have j:=Ac (ZW (λi:ni=>i.toNat==x.toNat) l b p (λa d=>f a O d) (by simp[g]));clear f g;go_wp2;go_ret;exact⟨by rw[j.out];rfl,rfl⟩
   ·have t1:((x.toNat:Int)==(l[b].toNat:Int))=false:=by simp;omega
    have m:Hid (∀a(h:a<l.length),a<b+1->(l[a].toNat==x.toNat)=false):=Ac λa d v=>by
     by_cases e:a=b
     ·subst e;simp[g]
     ·exact f a d O
    clear f g;go_wp2;go_round
    case rel=>exact⟨b+1,O,by go_num,m⟩
    case measure=>simp[intOf];omega
  ·have o:b=n:=O;subst o;have j:=Ac (XQ (λi:ni=>i.toNat==x.toNat) l (λa d=>f a d O));clear f;go_wp2;go_ret;exact⟨by rw[j.out];rfl,rfl⟩
def xE{b:Type}(p:b->Bool)(l:List b):(0<=placeOf p l)<->l.any p=true:=by
 unfold placeOf;cases h:l.findIdx? p with
 |none=>
  rw[nV]at h;constructor
  ·intro c;simp at c
  ·intro d;obtain⟨i,f,a⟩:=Alm.1 d;rw[h i f]at a;cases a
 |some g=>
  rw[NG]at h;obtain⟨e,a,_⟩:=h;constructor
  ·intro _;exact Alm.2 ⟨_,BO e,a⟩
  ·intro _;exact Int.natCast_nonneg g
def mG(A:Option Addr)(n c:Nat)(l:List ni)(w:World)(k:n<=4294967296)(h:Ws w A n l):
 Calls prog 227 #[.slice A n c,.int .u64 0] w λe d=>e=.returned (.bool (l.any λa=>a.toNat==0))/\w=d:=by
 have i:Calls prog 244 #[.slice A n c,.int .u64 0] w λe d=>e=.returned (.int .i64 (placeOf (λa=>a.toNat==0) l))/\w=d:=Ach A n c l 0 w k h
 have f:=xE (λa:ni=>a.toNat==0) l;generalize placeOf (λa:ni=>a.toNat==0) l=g at*;cases b:l.any (λa=>a.toNat==0)with
 |true=>
  have j:0<=g:=f.2 b;clear f b;go_in;go_wp2_with(go_at_call 244;refine i.mono ?_;rintro e d⟨rfl,rfl⟩);go_ret;exact⟨rfl,rfl⟩
 |false=>
  have j:g<0:=by
   rcases Int.lt_or_le g 0 with h|h
   ·exact h
   ·rw[f.1 h]at b;cases b
  clear f b;go_in;go_wp2_with(go_at_call 244;refine i.mono ?_;rintro e d⟨rfl,rfl⟩);go_ret;exact⟨by simp;omega,rfl⟩
def YW(f g i:Value)(c:Option Addr)(a d:Nat)(w:World)(k:a<=4294967296):
 Calls prog 201 #[.agg #[f,g,i,.slice c a d]] w λe j=>e=.returned (.int .i64 (if a<=4 then 1 else 2))/\η w j:=by
 by_cases b:a<=4
 ·rw[kX b];go_in;go_wp2;go_ret;exact⟨rfl,mZ.alloc (Ae _) _⟩
 ·rw[lg b];go_in;go_wp2;go_ret;exact⟨rfl,mZ.alloc (Ae _) _⟩
def Ob(k u s:Option Addr)(d o b D p z:Nat)(x:Nd)(w:World)(Y:d<=1000000)(Z:b<=1000000)(aa:p<=1000000)(h1:Bs w k d x.pre)(h2:Bs w u b x.labels)(h3:Ws w s p x.kids):
 Calls prog 200 #[.agg #[.slice k d o,x.val,.slice u b D,.slice s p z]] w λe t=>e=.returned (.bool (CG x))/\η w t:=by
 have V:=h1.len;have W:=h2.len;have an:=h3.len;obtain⟨n,J,ab,ac,ad,ae,j,ar⟩:=Al3 w 211 (.slice k d o) (.int .u64 (x.val.toNat:Int)) (.slice u b D) (.slice s p z);have F:=h1.below j;have G:=h2.below j;have P:=h3.below j;have y:=Ac J;clear J;by_cases m:d<=15/\x.pre.all DW=true
 ·have q:=XU k d o x.pre n m.1 F m.2;have l:=Ac q;clear q;by_cases U:b=p
  ·subst U;have t1:((b:Int)!=(b:Int))=false:=by simp
   go_in;go_wp2_with(rw[<-y.out];refine l.ro ?_;clear l h1 h2 h3);go_loop [27](λB=>∃a:Nat,a<=b/\B=.int .i64 a/\(x.labels.take a).all DW=true/\Es (x.labels.take a)=true)(λB=>b-(intOf B).toNat)
   case atStart=>exact⟨0,Bd _,rfl,by simp,by simp[Es]⟩
   case round=>
    obtain⟨a,am,rfl,i,g⟩:=hrel;by_cases X:a<b
    ·obtain⟨r,aw,au,rfl,ao,Q⟩:=G.at X;by_cases I:x.labels[a].toNat<16
     ·have t2:decide (16<=(x.labels[a].toNat:Int))=false:=by simp;omega
      have C:=Ac (Wq DW x.labels a r i (YR I));rcases a with _|c
      ·have v:=Ac (RX x.labels 0 r g (λc al=>O));have t3:decide ((0:Int)<0)=false:=rfl;clear i g;rw[show((0:Nat):Int)=0 from rfl];simp only[Axt]at Q;go_wp2;go_round
       case rel=>exact⟨1,O,by go_num,C,v⟩
       case measure=>simp[intOf];omega
      ·obtain⟨aq,az,av,A,ap,ah⟩:=G.at (show c<b by omega);injection A with A
       injection A with M N E
       subst M N;by_cases K:x.labels[c].toNat<x.labels[c+1].toNat
       ·have t3:decide ((x.labels[c+1].toNat:Int)<=(x.labels[c].toNat:Int))=false:=by simp;omega
        have v:=Ac (x9 x.labels c r g K);clear i g E;go_wp2;go_round
        case rel=>exact⟨c+1+1,O,by go_num,C,v⟩
        case measure=>simp[intOf];omega
       ·have t3:decide ((x.labels[c+1].toNat:Int)<=(x.labels[c].toNat:Int))=true:=by simp;omega
        have f:=Ac (mr x c r K);clear i g E;go_wp2;go_ret;exact⟨by rw[f.out];rfl,j⟩
     ·have t2:decide (16<=(x.labels[a].toNat:Int))=true:=by simp;omega
      have f:=Ac (sD x a r I);clear i g;go_wp2;go_ret;exact⟨by rw[f.out];rfl,j⟩
    ·have T:a=b:=O;subst T;rw[<-W,List.take_length]at i g;have f:=Ac (Ab6 x O m.2 O i g);have R:=mG s a z x.kids n O P;clear i g m;go_wp2_with(go_at_call 227;refine R.mono ?_;rintro e t⟨rfl,rfl⟩);go_ret;exact⟨by rw[f.out];rfl,j⟩
  ·have f:=Ac (sH x O);have t1:((b:Int)!=(p:Int))=true:=by simp;omega
   go_in;go_wp2_with(rw[<-y.out];refine l.ro ?_;clear l h1 h2 h3);go_ret;exact⟨by rw[f.out];rfl,j⟩
 ·have f:=Ac (sG x (by rw[V];exact m));have q:Calls prog 226 #[.slice k d o] n λe t=>e=.returned (.tuple #[.int .u64 0,false])/\n=t:=by
   by_cases H:d<=15
   ·have L:x.pre.all DW=false:=by
     cases S:x.pre.all DW with
     |false=>rfl
     |true=>exact absurd ⟨H,S⟩ m
    exact Aqt k d o x.pre n H F L
   ·exact Al2 k d o n O O
  have l:=Ac q;clear q m;go_in;go_wp2_with(rw[<-y.out];refine l.ro ?_;clear l h1 h2 h3);go_ret;exact⟨by rw[f.out];rfl,j⟩
def Cm(w:World)(g:Nat)(e:TypeId)(xs:List Value):Prop:=w.heap[g]?=some (.cells xs.toArray e (0,0))
def Cm.lt{w:World}{g:Nat}{e:TypeId}{xs:List Value}(h:Cm w g e xs):g<w:=(AL.1 h).1
def Cm.cell{w:World}{g:Nat}{e:TypeId}{xs:List Value}(h:Cm w g e xs)(i:Nat):w.cell? (Δ g i)=xs[i]?:=by
 rw[cell_of_row w g i _ e (0,0) h];simp
def Cm.p1{w:World}{g:Nat}{e:TypeId}{a:Value}{l:List Value}(h:Cm w g e (a::l)):w.cell? (Φ g)=some a:=h.cell 0
def Cm.p2{w:World}{g:Nat}{e:TypeId}{a b:Value}{l:List Value}(h:Cm w g e (a::b::l)):w.cell? (Φ g)=some a/\w.cell? (Δ g 1)=some b:=⟨h.cell 0,h.cell 1⟩
def Cm.p3{w:World}{g:Nat}{e:TypeId}{a b c:Value}{l:List Value}(h:Cm w g e (a::b::c::l)):w.cell? (Φ g)=some a/\w.cell? (Δ g 1)=some b/\w.cell? (Δ g 2)=some c:=⟨h.cell 0,h.cell 1,h.cell 2⟩
def Cm.p4{w:World}{g:Nat}{e:TypeId}{a b c d:Value}{l:List Value}(h:Cm w g e (a::b::c::d::l)):w.cell? (Φ g)=some a/\w.cell? (Δ g 1)=some b/\w.cell? (Δ g 2)=some c/\w.cell? (Δ g 3)=some d:=⟨h.cell 0,h.cell 1,h.cell 2,h.cell 3⟩
def Cm.p5{w:World}{g:Nat}{e:TypeId}{a b c d f:Value}{l:List Value}(h:Cm w g e (a::b::c::d::f::l)):w.cell? (Φ g)=some a/\w.cell? (Δ g 1)=some b/\w.cell? (Δ g 2)=some c/\w.cell? (Δ g 3)=some d/\w.cell? (Δ g 4)=some f:=⟨h.cell 0,h.cell 1,h.cell 2,h.cell 3,h.cell 4⟩
def E5(w:World)(e:TypeId)(xs:List Value):∃a,a=w.alloc (.cells xs.toArray e)/\η w a/\Cm a w.heap.size e xs:=⟨_,rfl,mZ.alloc (Ae _) _,heap_alloc_new _ _⟩
def Cm.has{w:World}{g:Nat}{e:TypeId}{xs:List Value}(h:Cm w g e xs){i:Nat}(hi:i<xs.length):w.cell? (Δ g i)=some xs[i]:=by
 rw[h.cell,Ag hi]
def Cm.frozen{w:World}{g:Nat}{e:TypeId}{xs:List Value}(h:Cm w g e xs)(i:Nat):w.frozen? (Δ g i)=false:=by
 unfold Cm at h;simp[Ij,h]
def Cm.Be{w:World}{g:Nat}{e:TypeId}{xs:List Value}(h:Cm w g e xs)(i:Nat)(u:Value):Cm (w.setCell (Δ g i) u) g e (xs.set i u):=by
 unfold Cm at h⊢;simp[DL,Ov,h]
def Cm.drew{w:World}{g:Nat}{e:TypeId}{xs:List Value}(h:Cm w g e xs):Cm w.drew g e xs:=h
def Cm.below{w w':World}{g B:Nat}{e:TypeId}{xs:List Value}(h:Cm w g e xs)(a:Below B w w')(b:g<B):Cm w' g e xs:=(a.block g b).trans h
def Cm.ξ{w a:World}{g:Nat}{e:TypeId}{xs:List Value}(h:Cm w g e xs)(k:Below w.heap.size w a):Cm a g e xs:=h.below k h.lt
def Cm.rd{w:World}{g:Nat}{e:TypeId}{xs:List Value}(h:Cm w g e xs):Rd w (some (Φ g)) xs.length xs:=
 ⟨rfl,λ_=>⟨g,0,rfl,h.lt,λa _=>by rw[Du,h.cell]⟩⟩
def Cm.own{w:World}{g B:Nat}{e:TypeId}{xs:List Value}(h:Cm w g e xs)(a:B<=g)(b:xs.length<=maxLen):w.ownsRow B e 1 (.slice (some (Φ g)) xs.length xs.length) xs.length xs:=
 ⟨by simp,.inr ⟨g,xs.length,xs.toArray,rfl,a,h,Ae _,b,by simp,by simp⟩⟩
def fK{w:World}{B g n:Nat}{e:TypeId}{xs:List Value}(h:w.ownsRow B e 1 (.slice (some (Φ g)) n n) n xs):Cm w g e xs:=by
 rcases h.2 with⟨b,_⟩|⟨k,i,j,a,_,d,_,_,c,f⟩
 ·cases b
 ·simp only[Value.slice.injEq,Option.some.injEq,Addr.mk.injEq,and_true,true_and]at a;obtain⟨rfl,rfl⟩:=a;unfold Cm;rw[d];congr 2;rw[<-f,Dq (by simp[c])]
def Sm{d e:World}{g:Nat}{a b c j:Value}(e0:d.cell? (Φ g)=some a)(k:d.cell? (Δ g 1)=some b)(l:d.cell? (Δ g 2)=some c)(m:d.cell? (Δ g 3)=some j)
 (i:g<d)(f:η d e):
 e.cell? (Φ g)=some a/\e.cell? (Δ g 1)=some b/\e.cell? (Δ g 2)=some c/\e.cell? (Δ g 3)=some j/\g<e:=
 ⟨(f.cell (p:=Φ g) i).trans e0,(f.cell (p:=Δ g 1) i).trans k,(f.cell (p:=Δ g 2) i).trans l,(f.cell (p:=Δ g 3) i).trans m,Bc i f.size⟩
def Ahx{d e:World}{g B:Nat}{a b c j:Value}(e0:d.cell? (Φ g)=some a)(k:d.cell? (Δ g 1)=some b)(l:d.cell? (Δ g 2)=some c)(m:d.cell? (Δ g 3)=some j)
 (f:g<B)(i:Below B d e):
 e.cell? (Φ g)=some a/\e.cell? (Δ g 1)=some b/\e.cell? (Δ g 2)=some c/\e.cell? (Δ g 3)=some j/\True:=
 ⟨(i.cell (p:=Φ g) f).trans e0,(i.cell (p:=Δ g 1) f).trans k,(i.cell (p:=Δ g 2) f).trans l,(i.cell (p:=Δ g 3) f).trans m,trivial⟩
def TJ{d:World}{g g':Nat}{a b c j:Value}(e0:d.cell? (Φ g)=some a)(k:d.cell? (Δ g 1)=some b)(l:d.cell? (Δ g 2)=some c)(m:d.cell? (Δ g 3)=some j)
 (n:g<d)(o:g≠g')(i:Nat)(u:Value):
 (d.setCell (Δ g' i) u).cell? (Φ g)=some a/\(d.setCell (Δ g' i) u).cell? (Δ g 1)=some b/\(d.setCell (Δ g' i) u).cell? (Δ g 2)=some c/\(d.setCell (Δ g' i) u).cell? (Δ g 3)=some j/\g<(d.setCell (Δ g' i) u).heap.size:=by
 have f:∀e,(d.setCell (Δ g' i) u).cell? (Δ g e)=d.cell? (Δ g e):=λe=>
  BQ (w:=d) (a:=Δ g e) (Below.heap_setCell d (Δ g' i) u g o)
 exact⟨(f 0).trans e0,(f 1).trans k,(f 2).trans l,(f 3).trans m,by simpa[DL]using n⟩
def Ahy{w:World}{A:Option Addr}{n:Nat}{l:List ni}(h:Ws w A n l){d:Option Addr}{g off:Nat}(i:d=some (Δ g off):=by rfl):
 0<(l.map wv).length->d=some (Δ g off)/\∃c,A=some c/\∀a b,(l.map wv)[a]?=some b->w.cell? (c.add a)=some b:=by
 intro k;obtain⟨j,m,rfl,_,f⟩:=h.2 (Ω h.1);refine⟨i,_,rfl,λa b e=>?_⟩;rw[Addr.add_lit,f a (Ψ ((Cf.1 e).1) h.1),e]
def Kept(w w':World)(row:Option Nat):Prop:=w.heap.size<=w'.heap.size/\∀a,a<w.heap.size->some a≠row->w'.heap[a]?=w.heap[a]?
def Qj{w w':World}{b:Nat}{e:TypeId}{v:Value}{n:Nat}{xs:List Value}{row:Option Nat}(h:w.ownsRow b e 1 v n xs)(k:Kept w w' row)(l:∀a,v.ownBlock=some a->row≠some a):w'.ownsRow b e 1 v n xs:=by
 refine⟨h.1,?_⟩;rcases h.2 with h|⟨a,f,g,c,i,d,j⟩
 ·exact .inl h
 ·exact .inr ⟨a,f,g,c,i,by
   rw[k.2 a (AL.1 d).1 (λe=>l a (by rw[c];rfl) e.symm)];exact d,j⟩
def PQ{w:World}{j k:Nat}{e f:TypeId}{g i:Value}{o p:Nat}{q r:List Value}(h1:w.ownsRow j e 1 g o q)(h2:w.ownsRow k f 1 i p r)(m:e≠f):
 ∀b,g.ownBlock=some b->i.ownBlock≠some b:=by
 intro b c d;rcases h1.2 with⟨rfl,_⟩|⟨x,u,s,rfl,_,l,_⟩
 ·simp[AY]at c
 ·rcases h2.2 with⟨rfl,_⟩|⟨y,v,t,rfl,_,a,_⟩
  ·simp[AY]at d
  ·simp[AY]at c d;subst c d;rw[l]at a;injection a with a
   injection a with _ n
   exact m n
def xG{P:Program}{t e:TypeId}{z:Value}{bytes:Nat}(T:OA P t e z bytes)(x:TypeId){w wr:World}{d:Nat}{v:Value}{n:Nat}{xs a:List Value}
 (s:wr.ownsRow d e 1 v n xs)(b:w.heap=wr.heap.push (.cells a.toArray e))(J:w.os=wr.os)(M:w.tape=wr.tape)(K:w.output=wr.output)
 (h1:∀k∈a,k.oneCell'=true)(H:n+a.length<=1000000000)(D:bytes<=64)(C:d<=wr.heap.size)(m c:Nat)(I:m=a.length):
 ∃o i,(Builtin.append_ #[t,t] x #[v,.slice (some (Φ wr)) m c]).run P w=.ok o i/\i.ownsRow d e 1 o (n+m) (xs++a)/\Below d wr i/\Kept wr i v.ownBlock:=by
 subst I;obtain⟨V,F,Q,R,S⟩:=info_parts T.hi;have q:η wr w:=⟨J,M,K,by rw[b];simp,λj l=>by rw[b,Ff,lg O]⟩;have u:w.ownsRow d e 1 v n xs:=by
  refine⟨s.1,?_⟩;rcases s.2 with h|⟨r,y,A,h1,p,f,B⟩
  ·exact .inl h
  ·exact .inr ⟨r,y,A,h1,p,by rw[q.block r (AL.1 f).1];exact f,B⟩
 have E:∀g k,a[g]?=some k->w.cell? (((Φ wr):Addr).add g)=some k:=by
  intro g k N;rw[show((Φ wr):Addr).add g=(Δ wr (0+g))from Addr.add_lit _ _ _];rw[cell_of_row w wr.heap.size (0+g) a.toArray e (0,0) (by rw[b,Ff,kX rfl])];simpa using N
 have W:(n+a.length)*bytes<=1000000000*64:=I5 H D;obtain⟨o,i,L,p,f,_⟩:=run_append_own (P:=P) w d t x e V z 1 bytes T.ht F Q R S T.hz U v n xs u _ a.length c a Θ E h1
  (by unfold maxLen;omega) O (by rw[b];simp;omega)
 refine⟨o,i,L,p,(q.mono C).trans ?_,?_,?_⟩
 ·exact mZ.grown f (by rw[b];simp;omega) (λj l=>(u.lt j l).1)
 ·have:=f.size;rw[b]at this;simp at this;omega
 ·intro j l G;rw[f.block j (by rw[b];simp;omega) G,q.block j l]
def Jy{P:Program}{j:Array Oper}{nM:List Oper}{o:Oper}{a:Act}{w:World}{i:Exit->Act->World->Prop}(y:o.guard=none)(s x:Operand)(t:TypeId)
 (C:o.op=.call {callee:=.builtin .append,args:= #[s,x],argTypes:= #[t,t]}){e:TypeId}{z:Value}{bytes:Nat}(T:OA P t e z bytes)
 (wr:World)(f:Nat)(v:Value)(n:Nat)(xs d:List Value)(H:a.eval s=v)(F:wr.ownsRow f e 1 v n xs)(J:w.heap=wr.heap.push (.cells d.toArray e))
 (D:w.os=wr.os)(I:w.tape=wr.tape)(E:w.output=wr.output)
 (m c:Nat)(K:a.eval x=.slice (some (Φ wr)) m c)(B:m=d.length)
 (h1:∀L∈d,L.oneCell'=true)(A:n+d.length<=1000000000)(u:bytes<=64)(r:f<=wr)
 (h:∀g b,b.ownsRow f e 1 g (n+m) (xs++d)->Below f wr b->Kept wr b v.ownBlock->wpList P j i nM (a.put o.dst g) b):wpList P j i (o::nM) a w:=by
 refine wpList_plain y λM q=>?_
 obtain⟨g,b,G,k,l,p⟩:=xG T o.type F J D I E h1 A u r m c B;unfold Oper.wp execOp;simp only[C,resolve,invoke,builtin,Sem.run_bind,Sem.run_pure,Result.andThen_ok,Jl,Ci,FW,H,K,G];exact q _ _ (h g b k l p)
def own_below{w w':World}{a:Nat}{e:TypeId}{v:Value}{n:Nat}{xs:List Value}(h:w.ownsRow a e 1 v n xs)(b:η w w'):w'.ownsRow a e 1 v n xs:=
 Qj h (row:=none) ⟨b.size,λd c _=>b.block d c⟩ Θ
def FI{w:World}{a base':Nat}{e:TypeId}{v:Value}{n:Nat}{xs:List Value}(h:w.ownsRow a e 1 v n xs)(j:base'<=a):w.ownsRow base' e 1 v n xs:=by
 refine⟨h.1,?_⟩;rcases h.2 with h|⟨d,b,c,f,i,g⟩
 ·exact .inl h
 ·exact .inr ⟨d,b,c,f,O,g⟩
def Dk{w:World}{a:Nat}{e:TypeId}{A:Option Addr}{c:Nat}{n:Nat}{xs:List Value}(h:w.ownsRow a e 1 (.slice A n c) n xs):n<=c/\Rd w A n xs:=by
 obtain⟨i,j,e,f,g⟩:=CY h;injection e with b k d
 subst b d;exact⟨f,g⟩
def AV{w:World}{b:Nat}{e:TypeId}{v:Value}{n:Nat}{xs:List Value}(h:w.ownsRow b e 1 v n xs){g:Nat}(c:g<b)(i:Nat)(u:Value):(w.setCell (Δ g i) u).ownsRow b e 1 v n xs:=
 ownsRow_setCell_below h (a:=Δ g i) c u
def Ws.cellAt{w:World}{b off n:Nat}{l:List ni}(h:Ws w (some (Δ b off)) n l){k:Nat}(f:k<n)(g:k<l.length):w.cell? (Δ b (off+k))=some (.int .u64 (l[k].toNat:Int)):=by
 obtain⟨i,m,e,_,d⟩:=h.2 O;injection e with e
 injection e with a c j
 subst a c;rw[d k f];simp[g,wv]
def Cm.c0{w:World}{g:Nat}{e:TypeId}{a:Value}{l:List Value}(h:Cm w g e (a::l)):w.cell? (Φ g)=some a:=h.cell 0
def Cm.c1{w:World}{g:Nat}{e:TypeId}{b a:Value}{l:List Value}(h:Cm w g e (b::a::l)):w.cell? (Δ g 1)=some a:=h.cell 1
def Cm.c2{w:World}{g:Nat}{e:TypeId}{b c a:Value}{l:List Value}(h:Cm w g e (b::c::a::l)):w.cell? (Δ g 2)=some a:=h.cell 2
def Cm.c3{w:World}{g:Nat}{e:TypeId}{b c d a:Value}{l:List Value}(h:Cm w g e (b::c::d::a::l)):w.cell? (Δ g 3)=some a:=h.cell 3
def Cm.c4{w:World}{g:Nat}{e:TypeId}{b c d f a:Value}{l:List Value}(h:Cm w g e (b::c::d::f::a::l)):w.cell? (Δ g 4)=some a:=h.cell 4
def Cm.c5{w:World}{g:Nat}{e:TypeId}{b c d f i a:Value}{l:List Value}(h:Cm w g e (b::c::d::f::i::a::l)):w.cell? (Δ g 5)=some a:=h.cell 5
def Cm.c6{w:World}{g:Nat}{e:TypeId}{b c d f i j a:Value}{l:List Value}(h:Cm w g e (b::c::d::f::i::j::a::l)):w.cell? (Δ g 6)=some a:=h.cell 6
def Cm.c7{w:World}{g:Nat}{e:TypeId}{b c d f i j k a:Value}{l:List Value}(h:Cm w g e (b::c::d::f::i::j::k::a::l)):w.cell? (Δ g 7)=some a:=h.cell 7
def Cm.c8{w:World}{g:Nat}{e:TypeId}{b c d f i j k m a:Value}{l:List Value}(h:Cm w g e (b::c::d::f::i::j::k::m::a::l)):w.cell? (Δ g 8)=some a:=h.cell 8
def xH(n:Nat)(h:n<18446744073709551616):wv (Az n)=.int .u64 (n:Int):=by
 rw[wv,Gq (by simpa[JU]using h)]
def Acj(x:Nd)(h:x.kids.length<=4):(Eh x).map wv=splice ((((((BJ 8 (0:ni)).map wv).set 0 (.int .u64 (1+256*(x.kids.length:Int)))).set 1 (.int .u64 ((Hr x.pre).toNat:Int))).set 2 (.int .u64 (x.val.toNat:Int))).set 3 (.int .u64 ((Hr x.labels).toNat:Int))) 4 (x.kids.map wv):=by
 rw[Eh,kX h,encS];have e:wv (Az (1+256*x.kids.length))=.int .u64 (1+256*(x.kids.length:Int)):=by rw[xH _ O];simp
 simp only[splice,CJ,Ci,FW,e,Df,List.map_replicate];obtain⟨a,b⟩:=ε x.kids.length;rw[<-b]at h⊢;have:a=0\/a=1\/a=2\/a=3\/a=4:=O;rcases this with rfl|rfl|rfl|rfl|rfl<;>simp[BJ,wv]
def Ahz(x:Nd)(h:x.kids.length<=1000000):(Dj (headB x) (x.labels.take 0) (x.kids.take 0)).map wv=((((BJ 32 (0:ni)).map wv).set 0 (.int .u64 (2+256*(x.kids.length:Int)))).set 1 (.int .u64 ((Hr x.pre).toNat:Int))).set 2 (.int .u64 (x.val.toNat:Int)):=by
 have e:wv (Az (2+256*x.kids.length))=.int .u64 (2+256*(x.kids.length:Int)):=by rw[xH _ O];simp
 simp only[List.take_zero,Dj,headB,CJ,Ci,FW,e];simp[BJ,wv]
def xI(x:Nd)(k:Nat)(h1:k<x.labels.length)(h2:k<x.kids.length):
 (Dj (headB x) (x.labels.take (k+1)) (x.kids.take (k+1))).map wv=((Dj (headB x) (x.labels.take k) (x.kids.take k)).map wv).set (4+x.labels[k].toNat) (.int .u64 (x.kids[k].toNat:Int)):=by
 rw[QP _ _ _ k h1 h2,O9];rfl
def Tryz.xJ:(prog.info? 47).map (λa=>(a.zero,a.size,a.bytes))=some (some (.int .u64 0),1,8):=by kernel_rfl
def Aqv(x:Nd)(w:World)(e:Ending)(w':World):Prop:=
 η w w'/\(if CG x then∃a,e=.returned (.tuple #[a,true])/\w'.ownsRow w 47 1 a (Eh x).length ((Eh x).map wv)
  else e=.returned (.tuple #[.slice none 0 0,false]))
def UK(s v o:Option Addr)(j C i I b D:Nat)(x:Nd)(w:World)(b2:j<=1000000)(b3:i<=1000000)(b4:b<=1000000)(h1:Bs w s j x.pre)(h2:Bs w v i x.labels)(h3:Ws w o b x.kids):
 Calls prog 217 #[.agg #[.slice s j C,x.val,.slice v i I,.slice o b D]] w (Aqv x w):=by
 obtain⟨M,au,aG,aI,aL⟩:=info_parts Tryz.xJ;have av:=h1.len;have ch:=h2.len;have L:=h3.len;obtain⟨u,cd,b5,b6,b7,b8,K,cE⟩:=Al3 w 211 (.slice s j C) (.int .u64 (x.val.toNat:Int)) (.slice v i I) (.slice o b D);have b9:=h1.below K;have ca:=h2.below K;have T:=h3.below K;have bX:=Ac cd;have co:=Ob s v o j C i I b D x u b2 b3 b4 b9 ca T;have bW:=Ac co;go_in;go_wp2_with fail;rw[<-bX.out];refine bW.mono ?_;rintro e ao⟨rfl,aq⟩;obtain⟨bi,bj,bk,bl,cj⟩:=Sm b5 b6 b7 b8 O aq;have al:η w ao:=τ K aq;cases ap:CG x with
 |false=>
  have t:=Ac ap;go_wp2;go_ret2;exact⟨al,by rw[t.out];rfl⟩
 |true=>
  have t:=Ac ap;go_wp2_with fail;refine(YW _ _ _ o b D ao O).mono ?_;rintro e a⟨rfl,ar⟩;obtain⟨ac,ad,ae,ah,Y⟩:=Sm bi bj bk bl cj ar;have l:=τ al ar;by_cases V:b<=4
  ·rw[kX V];go_wp2_with fail;refine(KO 1 a).ro ?_;rw[show Oa 1=8 from rfl];go_wp2_with
    (at_make
     refine wpList_make_full _ rfl _ _ 76 rfl w 47 M (.int .u64 0) 1 underlying76 au aG aI .i64 .i64 _ _ 8 rfl rfl rfl rfl (by rw[aL];omega) U (by exact l.size) ?_;intro k F E;have q:η a k:=mZ.grown E (Ae _) Θ;obtain⟨bm,a7,a8,a9,f⟩:=Sm ac ad ae ah Y q;have z:=τ l q;have c:Cm k a 47 ((BJ 8 (0:ni)).map wv):=by rw[<-NT];exact fK F
     have M:=c.has (i:=0) Θ;have ck:=c.has (i:=1) Θ;have cl:=c.has (i:=2) Θ;have aM:=c.has (i:=3) Θ;have f0:=c.frozen 0;have f1:=c.frozen 1;have f2:=c.frozen 2;have f3:=c.frozen 3;have n:w.heap.size≠a:=O;have g:=l.size;clear F E q l)
   have Z:=(BD x).1 t;obtain⟨ab,H,cn,N,_,_⟩:=Z;have G:=XU s j C x.pre (k.setCell (Φ a) (.int .u64 (1+256*(b:Int)))) O (h1.below (z.setCell (p:=Φ a) g _)) H;have W:=XP x.pre 15 ab H;rw[Ox]at W;have Q:Hid (((j+16*FX x.pre:Nat):Int)=((Hr x.pre).toNat:Int)):=Ac (by rw[Hr,av,Gq (by simp[JU];omega)]);rw[Q.out]at G;have S:=Ac G;have R:Hid (i<=4):=Ac O;refine S.ro ?_;go_wp2_with fail;have y:=((c.Be 0 (.int .u64 (1+256*(b:Int)))).Be 1 (.int .u64 ((Hr x.pre).toNat:Int))).Be 2 (.int .u64 (x.val.toNat:Int));have J:=((z.setCell (p:=Φ a) g (.int .u64 (1+256*(b:Int)))).setCell (p:=Δ a 1) g (.int .u64 ((Hr x.pre).toNat:Int))).setCell (p:=Δ a 2) g (.int .u64 (x.val.toNat:Int));obtain⟨ba,bb,bc,bd,f⟩:=TJ bm a7 a8 a9 f n 0 (.int .u64 (1+256*(b:Int)));obtain⟨be,bg,bh,bo,f⟩:=TJ ba bb bc bd f n 1 (.int .u64 ((Hr x.pre).toNat:Int));obtain⟨bp,bq,br,bs,f⟩:=TJ be bg bh bo f n 2 (.int .u64 (x.val.toNat:Int));generalize(((k.setCell (Φ a.heap.size) (.int .u64 (1+256*(b:Int)))).setCell (Δ a.heap.size 1) (.int .u64 ((Hr x.pre).toNat:Int))).setCell (Δ a.heap.size 2) (.int .u64 (x.val.toNat:Int)))=A at*;have az:=XU v i I x.labels A (Ω R.out) (h2.below J) N;have cc:=XP x.labels 15 (Ω R.out) N;rw[Ox]at cc;have bO:Hid (((i+16*FX x.labels:Nat):Int)=((Hr x.labels).toNat:Int)):=Ac (by rw[Hr,ch,Gq (by have:=R.out;simp[JU];omega)]);rw[bO.out]at az;have bS:=Ac az;have aM:=y.has (i:=3) Θ;have f3:=y.frozen 3;refine bS.ro ?_;have bN:=y.Be 3 (.int .u64 ((Hr x.labels).toNat:Int));have an:=J.setCell (p:=Δ a 3) g (.int .u64 ((Hr x.labels).toNat:Int));have cF:∀u,(Instr.slice 76 (.slice (some (Φ a)) 8 8) (some (.int .i64 4)) none none).run prog u=.ok (.slice (some (Δ a 4)) 4 4) u:=λu=>by
    have:=Alu Tryz.JL (some (Φ a)) 8 8 .i64 4 U u;simpa[dZ,Addr.add_lit]using this
   obtain⟨cq,cr,cs,ct,f⟩:=TJ bp bq br bs f n 3 (.int .u64 ((Hr x.labels).toNat:Int));go_wp2_with fail;generalize A.setCell (Δ a.heap.size 3) (.int .u64 ((Hr x.labels).toNat:Int))=b1 at*;have T:Ws b1.drew o b x.kids:=h3.below an.drew;go_region_law(refine step_copy_splice rfl (.tmp 49) (.tmp 51) 76 76 rfl 47 underlying76 Γ (some (Δ a 4)) o 4 4 b D (by simp[Act.eval]) (by simp[Act.eval]) a 4 _ 47 bN.drew (x.kids.map wv) (by rw[Df,L];exact(EI V).symm) (Ahy T) (by simp[L];omega) (Tz _) w w an.drew g ?_;intro cm b0 ce)
   all_goals
    go_wp2;go_ret2;refine⟨ce,?_⟩;rw[kX t.out];have cb:Cm cm a 47 ((Eh x).map wv):=by
     have h:=b0.out;rw[Acj x O];rw[L];exact h
    have m:((Eh x).map wv).length=8:=by rw[Df,I8,kX O]
    refine⟨_,rfl,?_⟩;have:=cb.own (B:=w) g (by rw[m];decide);rw[m]at this;rw[show(Eh x).length=8 by simpa using m];exact this
  ·rw[lg V];go_wp2_with fail;refine(KO 2 a).ro ?_;rw[show Oa 2=32 from rfl];go_wp2_with
    (at_make
     refine wpList_make_full _ rfl _ _ 76 rfl w 47 M (.int .u64 0) 1 underlying76 au aG aI .i64 .i64 _ _ 32 rfl rfl rfl rfl (by rw[aL];omega) U (by exact l.size) ?_;intro k F E;have q:η a k:=mZ.grown E (Ae _) Θ;obtain⟨bt,bw,bx,bA,f⟩:=Sm ac ad ae ah Y q;have z:=τ l q;have c:Cm k a 47 ((BJ 32 (0:ni)).map wv):=by rw[<-NT];exact fK F
     have M:=c.has (i:=0) Θ;have ck:=c.has (i:=1) Θ;have cl:=c.has (i:=2) Θ;have aM:=c.has (i:=3) Θ;have f0:=c.frozen 0;have f1:=c.frozen 1;have f2:=c.frozen 2;have f3:=c.frozen 3;have n:w.heap.size≠a:=O;have g:=l.size;clear F E q l)
   have Z:=(BD x).1 t;obtain⟨ab,H,cn,N,_,_⟩:=Z;have G:=XU s j C x.pre (k.setCell (Φ a) (.int .u64 (2+256*(b:Int)))) O (h1.below (z.setCell (p:=Φ a) g _)) H;have W:=XP x.pre 15 ab H;rw[Ox]at W;have Q:Hid (((j+16*FX x.pre:Nat):Int)=((Hr x.pre).toNat:Int)):=Ac (by rw[Hr,av,Gq (by simp[JU];omega)]);rw[Q.out]at G;have S:=Ac G;refine S.ro ?_;go_wp2_with fail;have y:=((c.Be 0 (.int .u64 (2+256*(b:Int)))).Be 1 (.int .u64 ((Hr x.pre).toNat:Int))).Be 2 (.int .u64 (x.val.toNat:Int));have J:=((z.setCell (p:=Φ a) g (.int .u64 (2+256*(b:Int)))).setCell (p:=Δ a 1) g (.int .u64 ((Hr x.pre).toNat:Int))).setCell (p:=Δ a 2) g (.int .u64 (x.val.toNat:Int));obtain⟨bB,bE,bL,bM,f⟩:=TJ bt bw bx bA f n 0 (.int .u64 (2+256*(b:Int)));obtain⟨aW,a0,a1,a2,f⟩:=TJ bB bE bL bM f n 1 (.int .u64 ((Hr x.pre).toNat:Int));obtain⟨a3,a4,a5,a6,f⟩:=TJ aW a0 a1 a2 f n 2 (.int .u64 (x.val.toNat:Int));generalize(((k.setCell (Φ a.heap.size) (.int .u64 (2+256*(b:Int)))).setCell (Δ a.heap.size 1) (.int .u64 ((Hr x.pre).toNat:Int))).setCell (Δ a.heap.size 2) (.int .u64 (x.val.toNat:Int)))=A at*;have r:Cm A a 47 ((Dj (headB x) (x.labels.take 0) (x.kids.take 0)).map wv):=by
    rw[Ahz x O,L];exact y
   have aR:i=b:=O;have bY:=Ac N;subst aR;go_wp2_with fail;go_loopw [57](λaa wr=>∃d:Nat,d<=i/\aa=.int .i64 d/\Cm wr a 47 ((Dj (headB x) (x.labels.take d) (x.kids.take d)).map wv)/\Below a A wr)(λaa _=>i-(intOf aa).toNat)
   case atStart=>exact⟨0,Bd _,rfl,r,mZ⟩
   case round=>
    obtain⟨d,cD,rfl,r,X⟩:=hrel;obtain⟨cv,cw,cx,cy,f⟩:=Ahx a3 a4 a5 a6 Y X;have P:η w wr:=J.trans (X.mono g);by_cases aw:d<i
    ·obtain⟨aD,cH,cu,rfl,_,cB⟩:=(h2.below P).at aw;obtain⟨ci,cI,cp,rfl,_,cC⟩:=(h3.below P).at aw;have cA:=dE bY aD;have m:((Dj (headB x) (x.labels.take d) (x.kids.take d)).map wv).length=32:=by simp[Qh,headB]
     have cG:=r.has (i:=4+x.labels[d].toNat) (by rw[m];omega);have cz:=r.frozen (4+x.labels[d].toNat);have aE:=r.Be (4+x.labels[d].toNat) (.int .u64 (x.kids[d].toNat:Int));rw[<-xI x d aD ci]at aE;have bV:=Ac aE;have bQ:=Ac (X.setCell (p:=Δ a (4+x.labels[d].toNat)) (Ae _) (.int .u64 (x.kids[d].toNat:Int)));go_wp2;exact⟨⟨d+1,O,by go_num,bV,bQ⟩,mz⟩
    ·have cg:d=i:=O;subst cg;have cf:(Dj (headB x) (x.labels.take d) (x.kids.take d)).map wv=(Eh x).map wv:=by
      rw[Eh,lg O,UI,Dq O,Dq O]
     rw[cf]at r;have m:((Eh x).map wv).length=32:=by rw[Df,I8,lg O]
     have bR:=Ac (r.own (B:=w) g (by rw[m];decide));have am:=Ac m;go_wp2;go_ret2;refine⟨P,?_⟩;rw[kX t.out];refine⟨_,rfl,?_⟩;have:=bR.out;rw[am.out]at this;rw[show(Eh x).length=32 by simpa using am.out];exact this
def TK(A B:Option Addr)(n m c r:Nat)(a b:List ni)(w:World)(F:n<=4294967296)(_hm:m<=4294967296)(l:Ws w A n a)(o:Ws w B m b):
 Calls prog 126 #[.slice A n c,.slice B m r] w λe u=>e=.returned (.bool (decide (a=b)))/\Dr w u:=by
 have D:=l.len;have E:=o.len;by_cases t:n=m
 ·subst t;have t1:((n:Int)!=(n:Int))=false:=by simp
  go_in;go_wp2;go_loopw [13](λk wr=>∃f:Nat,f<=n/\k=.int .i64 f/\(∀d(h1:d<a.length)(h2:d<b.length),d<f->a[d]=b[d])/\Dr w wr)(λk _=>n-(intOf k).toNat)
  case atStart=>exact⟨0,Bd _,rfl,λd _ _ h=>absurd h O,Dr.refl _⟩
  case round=>
   obtain⟨f,C,rfl,j,N,rfl⟩:=hrel;by_cases p:f<n
   ·obtain⟨I,L,K,rfl,G,x⟩:=l.at p;obtain⟨J,M,v,rfl,H,y⟩:=o.at p;by_cases g:a[f]=b[f]
    ·have t2:(((a[f].toNat:Int))!=(b[f].toNat:Int))=false:=by simp[g]
     have q:Hid (∀d(h1:d<a.length)(h2:d<b.length),d<f+1->a[d]=b[d]):=Ac λd h1 h2 z=>by
      by_cases e:d=f
      ·subst e;exact g
      ·exact j d h1 h2 O
     clear j g;go_wp2;go_quiet(fail);go_wp2;exact⟨⟨f+1,O,by go_num,q,by first|exact Dr.one _ _|exact Dr.two _ _ _⟩,mz⟩
    ·have t2:(((a[f].toNat:Int))!=(b[f].toNat:Int))=true:=by
      rw[bne_iff_ne];intro e;exact g (Eb.1 O)
     have i:Hid (decide (a=b)=false):=Ac (by rw[decide_eq_false_iff_not];intro e;subst e;exact g rfl);clear j g;go_wp2;go_quiet(fail);go_wp2;go_ret;exact⟨by rw[i.out];rfl,by first|exact Dr.one _ _|exact Dr.two _ _ _⟩
   ·have s:f=n:=O;subst s;have i:Hid (decide (a=b)=true):=Ac (by
     rw[decide_eq_true_iff];apply ER O;intro d h1 h2;exact j d h1 h2 O)
    clear j;go_wp2;go_ret;exact⟨by rw[i.out];rfl,Dr.one _ _⟩
 ·have t1:((n:Int)!=(m:Int))=true:=by simp;omega
  have i:Hid (decide (a=b)=false):=Ac (by rw[decide_eq_false_iff_not];intro e;subst e;omega);go_in;go_wp2;go_ret;exact⟨by rw[i.out];rfl,Dr.refl _⟩
def Af6(lb:List nC)(a:List ni)(w:World)(e:Ending)(w':World):Prop:=
 η w w'/\∃b d c f,e=.returned (.tuple #[.slice b lb.length d,.slice c a.length f])/\w'.ownsRow w 5 1 (.slice b lb.length d) lb.length (lb.map bv)/\w'.ownsRow w 47 1 (.slice c a.length f) a.length (a.map wv)
def Ws.sub{w:World}{A:Option Addr}{n:Nat}{l:List ni}(h:Ws w A n l){c lo hi:Nat}(h1:lo<=hi)(h2:hi<=n)(a:n<=c):Ws w (dZ A c lo) (hi-lo) ((l.drop lo).take (hi-lo)):=by
 have:=Rd.sub h h1 h2 a;rwa [<-List.map_drop,<-List.map_take]at this
def Ah0(A:Option Addr)(c:Nat)(l:List ni)(w:World)(N:8<=c)(h:Ws w A 8 l)(u:ni)(E:l[3]?=some u):
 Calls prog 223 #[.slice A 8 c] w (Af6 (Ko u.toNat (l.drop 4)).1 (Ko u.toNat (l.drop 4)).2 w):=by
 have S:=h.len;obtain⟨T,t,H,rfl,X,B⟩:=h.at (show 3<8 by decide);have F:l[3]=u:=by rw[Ag T]at E;injection E
 rw[F]at B;have G:=fJ u.toNat w (by have:=u.toNat_lt;simpa[JU]using this);have s:=Ac G;clear G F;go_in;go_wp2_with fail;refine s.mono ?_;rintro e I⟨g,i⟩;clear s B;have Y:=MH u.toNat (show 0<16 by decide);by_cases d:u.toNat/16/16^(u.toNat%16)=0
 ·rw[kX d]at i;obtain⟨Z,rfl,m⟩:=i;obtain⟨p,v,rfl,P,U⟩:=CY m;by_cases j:u.toNat%16<=4
  ·have b:Ko u.toNat (l.drop 4)=(digits (u.toNat%16) (u.toNat/16),(l.drop 4).take (u.toNat%16)):=by rw[Ko,kX ⟨d,j⟩]
   have f:=Ac b;have K:Hid (I.ownsRow w 5 1 (.slice p (u.toNat%16) v) (u.toNat%16) ((digits (u.toNat%16) (u.toNat/16)).map bv)):=Ac m;obtain⟨a,k⟩:=ε (u.toNat%16);have W:=h.below g;have o:=Ws.sub W (c:=c) (lo:=4) (hi:=4+a) O O N;rw[<-k]at P j⊢;have r:=Ac k;have D:=Af1 Tryz.JL (some (Δ t H)) 8 c .i64 .i64 4 (4+a) O O;rw[show 4+a-4=a by omega]at D o;have C:=fH (dZ (some (Δ t H)) c 4) a (c-4) _ I O o;have q:=Ac C;have x:((4:Nat):Int)=4:=rfl;have y:((4+a:Nat):Int)=4+(a:Int):=O;simp only[x,y]at D;have d4:decide (4<(a:Int))=false:=by simp;omega
   clear d b m U k C o x y;go_wp2_with(refine q.out.mono ?_;rintro e ab⟨aa,rfl,n,z⟩;obtain⟨J,M,rfl,Q,V⟩:=CY n;have L:=Ac (FI n g.size);clear q n V Q);go_ret2;have R:((l.drop 4).take a).length=a:=by simp[S];omega
   refine⟨τ g z,?_⟩;rw[f.out]
   dsimp only
   rw[<-r.out,digits_length,R];refine⟨p,v,J,M,rfl,?_,L⟩;have:=own_below K z;rw[<-r.out]at this;exact this
  ·have b:Ko u.toNat (l.drop 4)=([],[]):=by rw[Ko,lg (λe=>j e.2)]
   have f:=Ac b;have d4:decide (4<((u.toNat%16:Nat):Int))=true:=by simp;omega
   generalize u.toNat%16=a at*;clear d b;go_wp2;go_ret2;refine⟨g,?_⟩;rw[f.out];exact⟨none,0,none,0,rfl,Ce _ _ _ _,Ce _ _ _ _⟩
 ·rw[lg d]at i;subst i;have b:Ko u.toNat (l.drop 4)=([],[]):=by rw[Ko,lg (λe=>d e.1)]
  have f:=Ac b;clear d b;go_wp2;go_ret2;refine⟨g,?_⟩;rw[f.out];exact⟨none,0,none,0,rfl,Ce _ _ _ _,Ce _ _ _ _⟩
def Aq0(A:Option Addr)(c:Nat)(l:List ni)(w:World)(aa:32<=c)(h:Ws w A 32 l):
 Calls prog 224 #[.slice A 32 c] w (Af6 (La 0 ((l.drop 4).take 16)) (MI ((l.drop 4).take 16)) w):=by
 obtain⟨_,j,n,rfl,_,_⟩:=h.at (show 0<32 by decide);have H:=Af1 Tryz.JL (some (Δ j n)) 32 c .i64 .i64 4 20 O O;have u:dZ (some (Δ j n)) c 4=some (Δ j (n+4)):=by rw[dZ,lg O];simp[Addr.add_lit]
 rw[u]at H;have E:((4:Nat):Int)=4:=rfl;have C:((20:Nat):Int)=20:=rfl;simp only[E,C]at H;have J:Ws w (some (Δ j (n+4))) 16 ((l.drop 4).take 16):=by
  have:=Ws.sub h (c:=c) (lo:=4) (hi:=20) O O aa;rwa [u]at this
 clear u E C;generalize(l.drop 4).take 16=t at*;have aW:=J.len;go_in;go_wp2;go_loopw [4,5,11](λav aw x wr=>∃a:Nat,a<=16/\x=.int .i64 a/\wr.ownsRow w 5 1 av (La 0 (t.take a)).length ((La 0 (t.take a)).map bv)/\wr.ownsRow w 47 1 aw (MI (t.take a)).length ((MI (t.take a)).map wv)/\η w wr)(λ_ _ x _=>16-(intOf x).toNat)
 case atStart=>exact⟨0,Bd _,rfl,Ce _ _ _ _,Ce _ _ _ _,mZ⟩
 case round=>
  obtain⟨a,aI,rfl,b,d,i⟩:=hrel;have I:=i.size;by_cases ah:a<16
  ·have v:=J.below i;obtain⟨an,az,a0,s,_,aG⟩:=v.at ah;injection s with s
   injection s with T V D
   subst T V;have m:t.take (a+1)=t.take a++[t[a]]:=BH an;have e:=eX 0 (t.take a) t[a];have f:=Ab7 (t.take a) t[a];rw[<-m,Cc,EI O,Du]at e;rw[<-m]at f;have ae:(MI (t.take a)).length<=16:=by have:=eY (t.take a);simp at this;omega
   have aL:(La 0 (t.take a)).length<=16:=by rw[QQ];exact ae
   by_cases g:t[a].toNat=0
   ·rw[kX g,EN]at e f;have t1:((t[a].toNat:Int)!=0)=false:=by simp[g]
    obtain⟨o,p,r,q⟩:=lL e f b d;clear e f g b d v D m;go_wp2;exact⟨⟨a+1,O,by go_num,by rw[o.out];exact r,by rw[p.out];exact q,i⟩,mz⟩
   ·rw[lg g]at e f;have t1:((t[a].toNat:Int)!=0)=true:=by simp;omega
    have o:=Ac e;have p:=Ac f;have K:AA .u8 (a:Int)=bv (UInt8.ofNat a):=by simp only[bv,UInt8.toNat_ofNat'];congr 1;omega
    have Q:=Ac K;have F:=PQ b d U;have Y:∀k,u5.ownBlock=some k->u4.ownBlock≠some k:=λk X W=>F k W X
    generalize al:(La 0 (t.take a)).length=aq at*;generalize am:(MI (t.take a)).length=ar at*;clear e f g v D m K F;go_wp2_with(first
     |(at_builtin
       refine Jy rfl (.tmp 18) (.tmp 21) 22 rfl Tryz.Jq wr w u4 aq ((La 0 (t.take a)).map bv) [.int .u8 (a:Int)] rfl b rfl rfl rfl rfl 1 1 rfl rfl (by simp[Aqc]) (by simp;omega) U I ?_;intro a1 L z G ab;have B:=Qj d ab Y;have au:w.heap.size<=L:=AZ I G.size)
     |(at_builtin
       refine Jy rfl (.tmp 23) (.tmp 25) 76 rfl Tryz.JL L w u5 ar ((MI (t.take a)).map wv) [.int .u64 (t[a].toNat:Int)] rfl B rfl rfl rfl rfl 1 1 rfl rfl (by simp[Aqc]) (by simp;omega) U au ?_;intro a2 a3 P Z ac;have y:=Qj z ac (PQ z B U)))
    go_roundw
    case rel=>
     refine⟨a+1,O,by go_num,?_,?_,i.trans (G.trans Z)⟩
     ·rw[o.out,AO,al,CJ];rw[Q.out]at y;exact y
     ·rw[p.out,AO,am,CJ];exact P
    case measure=>simp[intOf];omega
  ·have ad:a=16:=O;subst ad;rw[Dq O]at b d;obtain⟨M,R,ao,aD,aM⟩:=CY b;obtain⟨N,S,ap,aE,aR⟩:=CY d;subst ao ap;have r:=Ac b;have q:=Ac d;clear b d;go_wp2;go_ret2;exact⟨i,M,R,N,S,rfl,r,q⟩
def WZ{w:World}{a base' size n:Nat}{e:TypeId}{v:Value}{xs:List Value}(h:w.ownsRow a e size v n xs)(f:base'<=a):w.ownsRow base' e size v n xs:=
 ⟨h.1,h.2.elim Or.inl (λ⟨d,b,c,i,g,j⟩=>Or.inr ⟨d,b,c,i,AZ f g,j⟩)⟩
def dG(l:List ni)(w:World)(e:Ending)(w':World):Prop:=
 η w w'/\(if JK l then∃a d b f c g,e=.returned (.tuple #[.agg #[.slice a (FY l).pre.length d,.int .u64 ((FY l).val.toNat:Int),.slice b (FY l).labels.length f,.slice c (FY l).kids.length g],true])/\
  (FY l).pre.length<=d/\(FY l).labels.length<=f/\(FY l).kids.length<=g/\Bs w' a (FY l).pre.length (FY l).pre/\Bs w' b (FY l).labels.length (FY l).labels/\Ws w' c (FY l).kids.length (FY l).kids/\w'.ownsRow w 5 1 (.slice a (FY l).pre.length d) (FY l).pre.length ((FY l).pre.map bv)/\w'.ownsRow w 5 1 (.slice b (FY l).labels.length f) (FY l).labels.length ((FY l).labels.map bv)/\w'.ownsRow w 47 1 (.slice c (FY l).kids.length g) (FY l).kids.length ((FY l).kids.map wv)
  else e=.returned (.tuple #[.agg #[.slice none 0 0,.int .u64 0,.slice none 0 0,.slice none 0 0],false]))
def af(u:Nat)(w:World)(k:u<18446744073709551616):
 Calls prog 225 #[.int .u64 (u:Int)] w λe f=>η w f/\∃a b i,e=.returned (.tuple #[.slice a (EM u).length b,.bool i])/\f.ownsRow w 5 1 (.slice a (EM u).length b) (EM u).length ((EM u).map bv):=by
 refine(fJ u w k).mono ?_;rintro e f⟨j,h⟩;refine⟨j,?_⟩;by_cases c:u/16/16^(u%16)=0
 ·rw[kX c]at h;obtain⟨n,rfl,g⟩:=h;obtain⟨a,b,rfl,l,m⟩:=CY g;have d:EM u=digits (u%16) (u/16):=by rw[EM,kX c]
  rw[d,digits_length];exact⟨a,b,true,rfl,g⟩
 ·rw[lg c]at h;subst h;have d:EM u=[]:=by rw[EM,lg c]
  rw[d];exact⟨none,0,false,rfl,Ce _ _ _ _⟩
def blk4{w:World}{g:Nat}{e:TypeId}{a b c d:Value}(h:Cm w g e [a,b,c,d]):
 w.cell? (Φ g)=some a/\w.cell? (Δ g 1)=some b/\w.cell? (Δ g 2)=some c/\w.cell? (Δ g 3)=some d/\
 w.frozen? (Φ g)=false/\w.frozen? (Δ g 1)=false/\w.frozen? (Δ g 2)=false/\w.frozen? (Δ g 3)=false:=
 ⟨h.cell 0,h.cell 1,h.cell 2,h.cell 3,h.frozen 0,h.frozen 1,h.frozen 2,h.frozen 3⟩
def Cm.far{w:World}{g g':Nat}{e:TypeId}{xs:List Value}(h:Cm w g e xs)(a:g≠g')(i:Nat)(u:Value):Cm (w.setCell (Δ g' i) u) g e xs:=
 (Below.heap_setCell w (Δ g' i) u g a).trans h
def YY(w:World)(t:TypeId)(z:Value)(y:Value):∃a,a=(w.alloc (.cells #[z,y,z,z] t)).alloc (.cells #[z,y,z,z] t)/\Cm a w.heap.size t [z,y,z,z]/\Cm a (w.heap.size+1) t [z,y,z,z]/\
 η w a/\a.heap.size=w+2:=by
 refine⟨_,rfl,?_,?_,(mZ.alloc (Ae _) _).alloc Θ _,by simp⟩
 ·have:Cm (w.alloc (.cells #[z,y,z,z] t)) w t [z,y,z,z]:=heap_alloc_new w _;exact(Below.heap_alloc _ _ _ Θ).trans this
 ·have:Cm ((w.alloc (.cells #[z,y,z,z] t)).alloc (.cells #[z,y,z,z] t)) (w.alloc (.cells #[z,y,z,z] t)).heap.size t [z,y,z,z]:=heap_alloc_new _ _;simpa using this
def Aq1(A:Option Addr)(c:Nat)(l:List ni)(w:World)(bd:8<=c)(h:Ws w A 8 l):
 Calls prog 198 #[.slice A 8 c] w (dG l w):=by
 have aG:=h.len;obtain⟨bs,y,B,rfl,az,be⟩:=h.at (show 1<8 by decide);go_in;go_wp2_with(go_at_call 197;refine(KO 1 _).mono ?_;rintro e bL⟨rfl,rfl⟩;rw[show Oa 1=8 from rfl]);obtain⟨a6,bc,ah,P,aD,bw⟩:=YY w 211 (.slice none 0 0) (.int .u64 0);rw[<-bc];have bi:3<l.length:=O;have bh:=Ah0 (some (Δ y B)) c l a6 bd (h.below aD) l[3] (Ag bi);have a3:=Ac bh;refine a3.mono ?_;rintro e ar⟨S,b,i,d,j,rfl,ap,aq⟩;have a4:=Ac ap;have a5:=Ac aq;replace ah:=ah.below S O;replace P:=P.below S O;obtain⟨s,t,u,x,f0,f1,f2,f3⟩:=blk4 P;have au:=τ aD S;have bx:ar.cell? (Δ y (B+1))=some (.int .u64 (l[1].toNat:Int)):=(au.cell (p:=Δ y (B+1)) az).trans be;go_wp2_with fail;have F:FY l={pre:=EM l[1].toNat,val:=l[2],labels:=(Ko l[3].toNat (l.drop 4)).1,kids:=(Ko l[3].toNat (l.drop 4)).2}:=by
  rw[FY,kX aG,Aly];simp[XC,show 1<l.length by omega,show 2<l.length by omega,show 3<l.length by omega]
 have bq:(Ko l[3].toNat (l.drop 4)).1.length<=15:=by unfold Ko;split<;>simp[digits_length];omega
 have bo:(Ko l[3].toNat (l.drop 4)).2.length<=15:=by unfold Ko;split<;>simp;omega
 have ap:=a4.out;have aq:=a5.out;generalize(Ko l[3].toNat (l.drop 4)).1=m at*;generalize(Ko l[3].toNat (l.drop 4)).2=k at*;have br:=oh l[1].toNat;have Q:=(P.Be 2 (.slice b m.length i)).Be 3 (.slice d k.length j);have al:=(ah.far (g':=w+1) O 2 (.slice b m.length i)).far (g':=w+1) O 3 (.slice d k.length j);have a0:=(au.setCell (p:=Δ (w+1) 2) Θ (.slice b m.length i)).setCell (p:=Δ (w+1) 3) Θ (.slice d k.length j);have bk:=AV (AV ap (g:=w+1) O 2 (.slice b m.length i)) (g:=w+1) O 3 (.slice d k.length j);have bl:=AV (AV aq (g:=w+1) O 2 (.slice b m.length i)) (g:=w+1) O 3 (.slice d k.length j);have bt:w+2<=((ar.setCell (Δ (w+1) 2) (.slice b m.length i)).setCell (Δ (w+1) 3) (.slice d k.length j)).heap.size:=by
  have:=S.size;simp only[DL,RN];omega
 generalize(ar.setCell (Δ (w.heap.size+1) 2) (.slice b m.length i)).setCell (Δ (w.heap.size+1) 3) (.slice d k.length j)=a7 at*;refine(af l[1].toNat a7 (by have:=l[1].toNat_lt;simpa[JU]using this)).mono ?_;rintro e aR⟨H,a,f,bp,rfl,bj⟩;replace al:=al.ξ H;replace Q:=Q.ξ H;have av:=τ a0 H;obtain⟨s,t,u,x,f0,f1,f2,f3⟩:=blk4 Q;have bA:aR.cell? (Δ y (B+2))=some (.int .u64 (l[2].toNat:Int)):=(av.cell (p:=Δ y (B+2)) az).trans (h.cellAt U O);go_wp2_with fail;have o:=(Q.Be 0 (.slice a (EM l[1].toNat).length f)).Be 1 (.int .u64 (l[2].toNat:Int));have n:=(al.far (g':=w+1) O 0 (.slice a (EM l[1].toNat).length f)).far (g':=w+1) O 1 (.int .u64 (l[2].toNat:Int));have bb:=(av.setCell (p:=Φ (w+1)) Θ (.slice a (EM l[1].toNat).length f)).setCell (p:=Δ (w+1) 1) Θ (.int .u64 (l[2].toNat:Int));have aL:=AV (AV (own_below bk H) (g:=w+1) O 0 (.slice a (EM l[1].toNat).length f)) (g:=w+1) O 1 (.int .u64 (l[2].toNat:Int));have aM:=AV (AV (own_below bl H) (g:=w+1) O 0 (.slice a (EM l[1].toNat).length f)) (g:=w+1) O 1 (.int .u64 (l[2].toNat:Int));have aI:=AV (AV bj (g:=w+1) O 0 (.slice a (EM l[1].toNat).length f)) (g:=w+1) O 1 (.int .u64 (l[2].toNat:Int));generalize(aR.setCell (Φ (w.heap.size+1)) (.slice a (EM l[1].toNat).length f)).setCell (Δ (w.heap.size+1) 1) (.int .u64 (l[2].toNat:Int))=a8 at*;have aE:=UK a b d (EM l[1].toNat).length f m.length i k.length j (FY l) a8 O O O (by rw[F];exact(Dk aI).2) (by rw[F];exact(Dk aL).2) (by rw[F];exact(Dk aM).2);rw[show(FY l).val=l[2]by rw[F]]at aE;have a2:=Ac aE;have a1:=Ac F;obtain⟨s,t,u,x,f0,f1,f2,f3⟩:=blk4 o;go_wp2_with fail;refine a2.mono ?_;rintro e aa⟨z,R⟩;replace n:=n.ξ z;replace o:=o.ξ z;obtain⟨s,t,u,x,f0,f1,f2,f3⟩:=blk4 o;obtain⟨ab,ac,ad,ae,V,W,X,Y⟩:=blk4 n;have r:=τ bb z;cases G:CG (FY l)with
 |false=>
  rw[G]at R;subst R;have D:Hid (JK l=false):=Ac (by rw[JK,G];simp);go_wp2_with fail;have C:=((((n.Be 0 (Ad none 0 0)).Be 1 (AA .u64 0)).Be 2 (Ad none 0 0)).Be 3 (Ad none 0 0));have NM:=(((r.setCell (p:=Φ w) (Ae _) (Ad none 0 0)).setCell (p:=Δ w 1) (Ae _) (AA .u64 0)).setCell (p:=Δ w 2) (Ae _) (Ad none 0 0)).setCell (p:=Δ w 3) (Ae _) (Ad none 0 0);generalize(((aa.setCell (Φ w.heap.size) (Ad none 0 0)).setCell (Δ w.heap.size 1) (AA .u64 0)).setCell (Δ w.heap.size 2) (Ad none 0 0)).setCell (Δ w.heap.size 3) (Ad none 0 0)=aw at*;obtain⟨J,K,L,M,_⟩:=blk4 C;refine bodyPost_ret (v:=.tuple #[.agg #[Ad none 0 0,AA .u64 0,Ad none 0 0,Ad none 0 0],false]) (by simp[results,results198,go_sem,J,K,L,M]) rfl ?_;exact⟨NM,by rw[D.out];rfl⟩
 |true=>
  rw[G,kX rfl]at R;obtain⟨bE,rfl,a9⟩:=R;obtain⟨aW,ba,rfl,_,bm⟩:=CY a9;have bg:=TK aW (some (Δ y B)) (Eh (FY l)).length 8 ba c (Eh (FY l)) l aa (by rw[I8];split<;>decide) U bm (h.below r);generalize(Eh (FY l)).length=bB at*;have Z:=Ac bg;by_cases T:Eh (FY l)=l
  ·have D:Hid (JK l=true):=Ac (by rw[JK,G];simp[aG,T]);have E:Hid (decide (Eh (FY l)=l)=true):=Ac (by simp[T]);go_wp2_with(refine Z.out.mono ?_;rintro e N⟨rfl,I⟩;have q:η aa N:=I.below _;replace n:=n.ξ q;replace o:=o.ξ q;replace r:=τ r q;clear s t u x f0 f1 f2 f3 ab ac ad ae V W X Y I;obtain⟨s,t,u,x,f0,f1,f2,f3⟩:=blk4 o;obtain⟨ab,ac,ad,ae,V,W,X,Y⟩:=blk4 n;rw[E.out];clear Z E);have C:=((((n.Be 0 (Ad a (EM l[1].toNat).length f)).Be 1 (AA .u64 (l[2].toNat:Int))).Be 2 (Ad b m.length i)).Be 3 (Ad d k.length j));have NM:=(((r.setCell (p:=Φ w) (Ae _) (Ad a (EM l[1].toNat).length f)).setCell (p:=Δ w 1) (Ae _) (AA .u64 (l[2].toNat:Int))).setCell (p:=Δ w 2) (Ae _) (Ad b m.length i)).setCell (p:=Δ w 3) (Ae _) (Ad d k.length j);have am:=AV (AV (AV (AV (own_below (own_below aI z) q) (g:=w) O 0 (Ad a (EM l[1].toNat).length f)) (g:=w) O 1 (AA .u64 (l[2].toNat:Int))) (g:=w) O 2 (Ad b m.length i)) (g:=w) O 3 (Ad d k.length j);have an:=AV (AV (AV (AV (own_below (own_below aL z) q) (g:=w) O 0 (Ad a (EM l[1].toNat).length f)) (g:=w) O 1 (AA .u64 (l[2].toNat:Int))) (g:=w) O 2 (Ad b m.length i)) (g:=w) O 3 (Ad d k.length j);have ao:=AV (AV (AV (AV (own_below (own_below aM z) q) (g:=w) O 0 (Ad a (EM l[1].toNat).length f)) (g:=w) O 1 (AA .u64 (l[2].toNat:Int))) (g:=w) O 2 (Ad b m.length i)) (g:=w) O 3 (Ad d k.length j);generalize(((N.setCell (Φ w.heap.size) (Ad a (EM l[1].toNat).length f)).setCell (Δ w.heap.size 1) (AA .u64 (l[2].toNat:Int))).setCell (Δ w.heap.size 2) (Ad b m.length i)).setCell (Δ w.heap.size 3) (Ad d k.length j)=aw at*;obtain⟨J,K,L,M,_⟩:=blk4 C;refine bodyPost_ret (v:=.tuple #[.agg #[Ad a (EM l[1].toNat).length f,AA .u64 (l[2].toNat:Int),Ad b m.length i,Ad d k.length j],true]) (by simp[results,results198,go_sem,J,K,L,M]) rfl ?_;refine⟨NM,?_⟩;rw[D.out,kX rfl,a1.out];exact⟨a,f,b,i,d,j,rfl,(Dk am).1,(Dk an).1,(Dk ao).1,(Dk am).2,(Dk an).2,(Dk ao).2,WZ am O,WZ an O,WZ ao O⟩
  ·have D:Hid (JK l=false):=Ac (by rw[JK,G];simp[T]);have E:Hid (decide (Eh (FY l)=l)=false):=Ac (by simp[T]);go_wp2_with(refine Z.out.mono ?_;rintro e N⟨rfl,I⟩;have q:η aa N:=I.below _;replace n:=n.ξ q;replace o:=o.ξ q;replace r:=τ r q;clear s t u x f0 f1 f2 f3 ab ac ad ae V W X Y I;obtain⟨s,t,u,x,f0,f1,f2,f3⟩:=blk4 o;obtain⟨ab,ac,ad,ae,V,W,X,Y⟩:=blk4 n;rw[E.out];clear Z E);have C:=((((n.Be 0 (Ad none 0 0)).Be 1 (AA .u64 0)).Be 2 (Ad none 0 0)).Be 3 (Ad none 0 0));have NM:=(((r.setCell (p:=Φ w) (Ae _) (Ad none 0 0)).setCell (p:=Δ w 1) (Ae _) (AA .u64 0)).setCell (p:=Δ w 2) (Ae _) (Ad none 0 0)).setCell (p:=Δ w 3) (Ae _) (Ad none 0 0);generalize(((N.setCell (Φ w.heap.size) (Ad none 0 0)).setCell (Δ w.heap.size 1) (AA .u64 0)).setCell (Δ w.heap.size 2) (Ad none 0 0)).setCell (Δ w.heap.size 3) (Ad none 0 0)=aw at*;obtain⟨J,K,L,M,_⟩:=blk4 C;refine bodyPost_ret (v:=.tuple #[.agg #[Ad none 0 0,AA .u64 0,Ad none 0 0,Ad none 0 0],false]) (by simp[results,results198,go_sem,J,K,L,M]) rfl ?_;exact⟨NM,by rw[D.out];rfl⟩
def Al4(A:Option Addr)(c:Nat)(l:List ni)(w:World)(bk:32<=c)(h:Ws w A 32 l):
 Calls prog 198 #[.slice A 32 c] w (dG l w):=by
 have bm:=h.len;obtain⟨bw,B,E,rfl,aW,bl⟩:=h.at (show 1<32 by decide);go_in;go_wp2_with(first|(go_at_call_of 197(AA IntKind.i64 1);refine(KO 1 _).mono ?_;rintro e bq⟨rfl,rfl⟩;rw[show Oa 1=8 from rfl])|(go_at_call_of 197(AA IntKind.i64 2);refine(KO 2 _).mono ?_;rintro e bq⟨rfl,rfl⟩;rw[show Oa 2=32 from rfl]));obtain⟨be,aR,W,F,a0,bA⟩:=YY w 211 (.slice none 0 0) (.int .u64 0);rw[<-aR];clear aR;have a2:=Aq0 (some (Δ B E)) c l be bk (h.below a0);have aE:=Ac a2;clear a2;refine aE.mono ?_;rintro e aw⟨K,b,i,d,j,rfl,S,T⟩;have aG:=Ac S;have aI:=Ac T;clear S T;clear aE;replace W:=W.below K O;replace F:=F.below K O;obtain⟨r,s,t,u,f0,f1,f2,f3⟩:=blk4 F;have ao:=τ a0 K;have bo:aw.cell? (Δ B (E+1))=some (.int .u64 (l[1].toNat:Int)):=(ao.cell (p:=Δ B (E+1)) aW).trans bl;go_wp2_with fail;have z:FY l={pre:=EM l[1].toNat,val:=l[2],labels:=(La 0 ((l.drop 4).take 16)),kids:=(MI ((l.drop 4).take 16))}:=by
  rw[FY,lg O,Ab8];simp[XC,show 1<l.length by omega,show 2<l.length by omega]
 have bc:(MI ((l.drop 4).take 16)).length<=16:=by have:=eY ((l.drop 4).take 16);simp at this;omega
 have bs:(La 0 ((l.drop 4).take 16)).length<=16:=by rw[QQ];exact bc
 have S:=aG.out;have T:=aI.out;clear aG aI;generalize(La 0 ((l.drop 4).take 16))=m at*;generalize(MI ((l.drop 4).take 16))=k at*;have bt:=oh l[1].toNat;have G:=(F.Be 2 (.slice b m.length i)).Be 3 (.slice d k.length j);have X:=(W.far (g':=w+1) O 2 (.slice b m.length i)).far (g':=w+1) O 3 (.slice d k.length j);have az:=(ao.setCell (p:=Δ (w+1) 2) Θ (.slice b m.length i)).setCell (p:=Δ (w+1) 3) Θ (.slice d k.length j);have a4:=AV (AV S (g:=w+1) O 2 (.slice b m.length i)) (g:=w+1) O 3 (.slice d k.length j);have a5:=AV (AV T (g:=w+1) O 2 (.slice b m.length i)) (g:=w+1) O 3 (.slice d k.length j);have bx:w+2<=((aw.setCell (Δ (w+1) 2) (.slice b m.length i)).setCell (Δ (w+1) 3) (.slice d k.length j)).heap.size:=by
  have:=K.size;simp only[DL,RN];omega
 clear S T W F ao r s t u f0 f1 f2 f3 bo K;generalize(aw.setCell (Δ (w.heap.size+1) 2) (.slice b m.length i)).setCell (Δ (w.heap.size+1) 3) (.slice d k.length j)=bg at*;refine(af l[1].toNat bg (by have:=l[1].toNat_lt;simpa[JU]using this)).mono ?_;rintro e a9⟨L,a,f,br,rfl,a3⟩;replace X:=X.ξ L;replace G:=G.ξ L;have ap:=τ az L;obtain⟨r,s,t,u,f0,f1,f2,f3⟩:=blk4 G;have bp:a9.cell? (Δ B (E+2))=some (.int .u64 (l[2].toNat:Int)):=(ap.cell (p:=Δ B (E+2)) aW).trans (h.cellAt U O);go_wp2_with fail;have o:=(G.Be 0 (.slice a (EM l[1].toNat).length f)).Be 1 (.int .u64 (l[2].toNat:Int));have n:=(X.far (g':=w+1) O 0 (.slice a (EM l[1].toNat).length f)).far (g':=w+1) O 1 (.int .u64 (l[2].toNat:Int));have bj:=(ap.setCell (p:=Φ (w+1)) Θ (.slice a (EM l[1].toNat).length f)).setCell (p:=Δ (w+1) 1) Θ (.int .u64 (l[2].toNat:Int));have a7:=AV (AV (own_below a4 L) (g:=w+1) O 0 (.slice a (EM l[1].toNat).length f)) (g:=w+1) O 1 (.int .u64 (l[2].toNat:Int));have a8:=AV (AV (own_below a5 L) (g:=w+1) O 0 (.slice a (EM l[1].toNat).length f)) (g:=w+1) O 1 (.int .u64 (l[2].toNat:Int));have a6:=AV (AV a3 (g:=w+1) O 0 (.slice a (EM l[1].toNat).length f)) (g:=w+1) O 1 (.int .u64 (l[2].toNat:Int));clear a3 a4 a5 X G az ap r s t u f0 f1 f2 f3 bp;generalize(a9.setCell (Φ (w.heap.size+1)) (.slice a (EM l[1].toNat).length f)).setCell (Δ (w.heap.size+1) 1) (.int .u64 (l[2].toNat:Int))=bh at*;have av:=UK a b d (EM l[1].toNat).length f m.length i k.length j (FY l) bh O O O (by rw[z];exact(Dk a6).2) (by rw[z];exact(Dk a7).2) (by rw[z];exact(Dk a8).2);rw[show(FY l).val=l[2]by rw[z]]at av;have aD:=Ac av;have bd:=Ac z;clear av z;obtain⟨r,s,t,u,f0,f1,f2,f3⟩:=blk4 o;go_wp2_with fail;refine aD.mono ?_;rintro e ae⟨C,Y⟩;clear aD r s t u f0 f1 f2 f3;replace n:=n.ξ C;replace o:=o.ξ C;obtain⟨r,s,t,u,f0,f1,f2,f3⟩:=blk4 o;obtain⟨ah,al,am,an,Z,aa,ab,ac⟩:=blk4 n;have x:=τ bj C;cases y:CG (FY l)with
 |false=>
  rw[y]at Y;subst Y;have I:Hid (JK l=false):=Ac (by rw[JK,y];simp);clear y;go_wp2_with fail;have H:=((((n.Be 0 (Ad none 0 0)).Be 1 (AA .u64 0)).Be 2 (Ad none 0 0)).Be 3 (Ad none 0 0));have NM:=(((x.setCell (p:=Φ w) (Ae _) (Ad none 0 0)).setCell (p:=Δ w 1) (Ae _) (AA .u64 0)).setCell (p:=Δ w 2) (Ae _) (Ad none 0 0)).setCell (p:=Δ w 3) (Ae _) (Ad none 0 0);generalize(((ae.setCell (Φ w.heap.size) (Ad none 0 0)).setCell (Δ w.heap.size 1) (AA .u64 0)).setCell (Δ w.heap.size 2) (Ad none 0 0)).setCell (Δ w.heap.size 3) (Ad none 0 0)=aL at*;obtain⟨N,P,Q,R,_⟩:=blk4 H;refine bodyPost_ret (v:=.tuple #[.agg #[Ad none 0 0,AA .u64 0,Ad none 0 0,Ad none 0 0],false]) (by simp[results,results198,go_sem,N,P,Q,R]) rfl ?_;exact⟨NM,by rw[I.out];rfl⟩
 |true=>
  rw[y,kX rfl]at Y;obtain⟨bE,rfl,aM⟩:=Y;obtain⟨bb,bi,rfl,_,ba⟩:=CY aM;have a1:=TK bb (some (Δ B E)) (Eh (FY l)).length 32 bi c (Eh (FY l)) l ae (by rw[I8];split<;>decide) U ba (h.below x);generalize(Eh (FY l)).length=bB at*;have ad:=Ac a1;clear a1 aM ba;by_cases D:Eh (FY l)=l
  ·have I:Hid (JK l=true):=Ac (by rw[JK,y];simp[bm,D]);have J:Hid (decide (Eh (FY l)=l)=true):=Ac (by simp[D]);clear D y;go_wp2_with(refine ad.out.mono ?_;rintro e V⟨rfl,M⟩;have q:η ae V:=M.below _;replace n:=n.ξ q;replace o:=o.ξ q;replace x:=τ x q;clear r s t u f0 f1 f2 f3 ah al am an Z aa ab ac M;obtain⟨r,s,t,u,f0,f1,f2,f3⟩:=blk4 o;obtain⟨ah,al,am,an,Z,aa,ab,ac⟩:=blk4 n;rw[J.out];clear ad J);have H:=((((n.Be 0 (Ad a (EM l[1].toNat).length f)).Be 1 (AA .u64 (l[2].toNat:Int))).Be 2 (Ad b m.length i)).Be 3 (Ad d k.length j));have NM:=(((x.setCell (p:=Φ w) (Ae _) (Ad a (EM l[1].toNat).length f)).setCell (p:=Δ w 1) (Ae _) (AA .u64 (l[2].toNat:Int))).setCell (p:=Δ w 2) (Ae _) (Ad b m.length i)).setCell (p:=Δ w 3) (Ae _) (Ad d k.length j);have aq:=AV (AV (AV (AV (own_below (own_below a6 C) q) (g:=w) O 0 (Ad a (EM l[1].toNat).length f)) (g:=w) O 1 (AA .u64 (l[2].toNat:Int))) (g:=w) O 2 (Ad b m.length i)) (g:=w) O 3 (Ad d k.length j);have ar:=AV (AV (AV (AV (own_below (own_below a7 C) q) (g:=w) O 0 (Ad a (EM l[1].toNat).length f)) (g:=w) O 1 (AA .u64 (l[2].toNat:Int))) (g:=w) O 2 (Ad b m.length i)) (g:=w) O 3 (Ad d k.length j);have au:=AV (AV (AV (AV (own_below (own_below a8 C) q) (g:=w) O 0 (Ad a (EM l[1].toNat).length f)) (g:=w) O 1 (AA .u64 (l[2].toNat:Int))) (g:=w) O 2 (Ad b m.length i)) (g:=w) O 3 (Ad d k.length j);generalize(((V.setCell (Φ w.heap.size) (Ad a (EM l[1].toNat).length f)).setCell (Δ w.heap.size 1) (AA .u64 (l[2].toNat:Int))).setCell (Δ w.heap.size 2) (Ad b m.length i)).setCell (Δ w.heap.size 3) (Ad d k.length j)=aL at*;obtain⟨N,P,Q,R,_⟩:=blk4 H;refine bodyPost_ret (v:=.tuple #[.agg #[Ad a (EM l[1].toNat).length f,AA .u64 (l[2].toNat:Int),Ad b m.length i,Ad d k.length j],true]) (by simp[results,results198,go_sem,N,P,Q,R]) rfl ?_;refine⟨NM,?_⟩;rw[I.out,kX rfl,bd.out];exact⟨a,f,b,i,d,j,rfl,(Dk aq).1,(Dk ar).1,(Dk au).1,(Dk aq).2,(Dk ar).2,(Dk au).2,WZ aq O,WZ ar O,WZ au O⟩
  ·have I:Hid (JK l=false):=Ac (by rw[JK,y];simp[D]);have J:Hid (decide (Eh (FY l)=l)=false):=Ac (by simp[D]);clear D y;go_wp2_with(refine ad.out.mono ?_;rintro e V⟨rfl,M⟩;have q:η ae V:=M.below _;replace n:=n.ξ q;replace o:=o.ξ q;replace x:=τ x q;clear r s t u f0 f1 f2 f3 ah al am an Z aa ab ac M;obtain⟨r,s,t,u,f0,f1,f2,f3⟩:=blk4 o;obtain⟨ah,al,am,an,Z,aa,ab,ac⟩:=blk4 n;rw[J.out];clear ad J);have H:=((((n.Be 0 (Ad none 0 0)).Be 1 (AA .u64 0)).Be 2 (Ad none 0 0)).Be 3 (Ad none 0 0));have NM:=(((x.setCell (p:=Φ w) (Ae _) (Ad none 0 0)).setCell (p:=Δ w 1) (Ae _) (AA .u64 0)).setCell (p:=Δ w 2) (Ae _) (Ad none 0 0)).setCell (p:=Δ w 3) (Ae _) (Ad none 0 0);generalize(((V.setCell (Φ w.heap.size) (Ad none 0 0)).setCell (Δ w.heap.size 1) (AA .u64 0)).setCell (Δ w.heap.size 2) (Ad none 0 0)).setCell (Δ w.heap.size 3) (Ad none 0 0)=aL at*;obtain⟨N,P,Q,R,_⟩:=blk4 H;refine bodyPost_ret (v:=.tuple #[.agg #[Ad none 0 0,AA .u64 0,Ad none 0 0,Ad none 0 0],false]) (by simp[results,results198,go_sem,N,P,Q,R]) rfl ?_;exact⟨NM,by rw[I.out];rfl⟩
def sS(A:Option Addr)(n c:Nat)(l:List ni)(w:World)(_hn:n<=1000000)(h:Ws w A n l)(d:n≠8)(b:n≠32):
 Calls prog 198 #[.slice A n c] w (dG l w):=by
 have m:=h.len;have g:Hid (JK l=false):=Ac (by rw[JK,m];simp[d,b]);have t8:((n:Int)==8)=false:=by simp;omega
 have t32:((n:Int)==32)=false:=by simp;omega
 obtain⟨j,e,a,t,k,x⟩:=YY w 211 (.slice none 0 0) (.int .u64 0);obtain⟨D,E,F,G,y,z,B,C⟩:=blk4 a;have i:=Ac e;clear e d b;go_in;go_wp2_with(first|(rw[<-i.out];refine(KO 1 _).ro ?_;rw[show Oa 1=8 from rfl])|(refine(KO 2 _).ro ?_;rw[show Oa 2=32 from rfl]));have f:=((((a.Be 0 (Ad none 0 0)).Be 1 (AA .u64 0)).Be 2 (Ad none 0 0)).Be 3 (Ad none 0 0));have NM:=(((k.setCell (p:=Φ w) (Ae _) (Ad none 0 0)).setCell (p:=Δ w 1) (Ae _) (AA .u64 0)).setCell (p:=Δ w 2) (Ae _) (Ad none 0 0)).setCell (p:=Δ w 3) (Ae _) (Ad none 0 0);generalize(((j.setCell (Φ w.heap.size) (Ad none 0 0)).setCell (Δ w.heap.size 1) (AA .u64 0)).setCell (Δ w.heap.size 2) (Ad none 0 0)).setCell (Δ w.heap.size 3) (Ad none 0 0)=u at*;obtain⟨o,q,r,s,_⟩:=blk4 f;refine bodyPost_ret (v:=.tuple #[.agg #[Ad none 0 0,AA .u64 0,Ad none 0 0,Ad none 0 0],false]) (by simp[results,results198,go_sem,o,q,r,s]) rfl ?_;exact⟨NM,by rw[g.out];rfl⟩
def decode_any(A:Option Addr)(n c:Nat)(l:List ni)(w:World)(e:n<=1000000)(d:n<=c)(h:Ws w A n l):
 Calls prog 198 #[.slice A n c] w (dG l w):=by
 by_cases b:n=8
 ·subst b;exact Aq1 A c l w d h
 ·by_cases a:n=32
  ·subst a;exact Al4 A c l w d h
  ·exact sS A n c l w e h b a
def bP(x:Nd)(b:nC):Value:=
 match x.labels.findIdx? (λc=>c.toNat==b.toNat)with
 |some a=>if CG x then .tuple #[.int .u64 ((x.kids.getD a 0).toNat:Int),.int .i64 (if x.kids.length<=4 then 4+(a:Int)else 4+(b.toNat:Int)),true]else .tuple #[.int .u64 0,.int .i64 0,false]
 |none=>.tuple #[.int .u64 0,.int .i64 0,false]
def Al5(p j k:Option Addr)(n z i r f s:Nat)(x:Nd)(a:nC)(w:World)(U:n<=1000000)(V:i<=1000000)(W:f<=1000000)(h1:Bs w p n x.pre)(h2:Bs w j i x.labels)(h3:Ws w k f x.kids):
 Calls prog 161 #[.agg #[.slice p n z,x.val,.slice j i r,.slice k f s],a] w λe ab=>e=.returned (bP x a)/\η w ab:=by
 have al:=h2.len;have Z:=h3.len;have am:a.toNat<256:=a.toNat_lt;obtain⟨G,L,H,I,J,K,g,ap⟩:=Al3 w 211 (.slice p n z) (.int .u64 (x.val.toNat:Int)) (.slice j i r) (.slice k f s);have N:=WY j i r x.labels a G O (h2.below g);have T:=Ob p j k n z i r f s x G U V W (h1.below g) (h2.below g) (h3.below g);obtain⟨F,y,E⟩:=l9 L N T;clear L N T;cases d:x.labels.findIdx? (λo=>o.toNat==a.toNat)with
 |none=>
  have m:placeOf (λo=>o.toNat==a.toNat) x.labels= -1:=by rw[placeOf,d]
  have c:Hid (bP x a=.tuple #[.int .u64 0,.int .i64 0,false]):=Ac (by rw[bP,d]);have q:=Ac m;clear m d;go_in;go_wp2_with(rw[<-F.out];refine y.ro ?_;rw[q.out]);go_ret3;exact⟨by rw[c.out];rfl,g⟩
 |some b=>
  have ah:decide ((b:Int)<0)=false:=by simp
  have m:placeOf (λo=>o.toNat==a.toNat) x.labels=(b:Int):=by rw[placeOf,d]
  have X:b<i:=by
   rw[NG]at d;obtain⟨X,_⟩:=d;omega
  have q:=Ac m;have D:=Ac d;clear m d;go_in;go_wp2_with(rw[<-F.out];refine y.ro ?_;rw[q.out];clear y q);refine E.mono ?_;rintro e ac⟨rfl,A⟩;obtain⟨P,Q,R,S,aa⟩:=Sm H I J K O A;have v:=τ g A;clear E H I J K g A;cases l:CG x with
  |false=>
   have c:Hid (bP x a=.tuple #[.int .u64 0,.int .i64 0,false]):=Ac (by rw[bP,D.out];simp[l]);clear l;go_wp2;go_ret3;exact⟨by rw[c.out];rfl,v⟩
  |true=>
   have an:=((BD x).1 l).2.2.1;have Y:b<f:=O;have M:x.kids.getD b 0=x.kids[b]' O:=by simp[XC,show b<x.kids.length by omega]
   have C:bP x a=.tuple #[.int .u64 ((x.kids.getD b 0).toNat:Int),.int .i64 (if x.kids.length<=4 then 4+(b:Int)else 4+(a.toNat:Int)),true]:=by rw[bP,D.out];simp[l]
   rw[Z,M]at C;clear M;have c:=Ac C;clear C l;go_wp2_with fail;refine(YW _ _ _ k f s ac O).mono ?_;rintro e aD⟨rfl,B⟩;obtain⟨au,av,aw,az,aq⟩:=Sm P Q R S aa B;have u:=τ v B;clear P Q R S v B;obtain⟨ao,ad,ar,rfl,_,ae⟩:=(h3.below u).at Y;by_cases t:f<=4
   ·rw[kX t]at c;rw[kX t];go_wp2;go_ret3;exact⟨by rw[c.out];rfl,u⟩
   ·rw[lg t]at c;rw[lg t];go_wp2;go_ret3;exact⟨by rw[c.out];rfl,u⟩
def FK(g:Nat)(e:TypeId)(c:Nat×Nat):∀(vs:List Value)(o:Nat)(w:World)(cur:Array Value),w.heap[g]?=some (.cells cur e c)->o+vs.length<=cur.size->
 ∃b:Array Value,(w.setCells g o vs).heap[g]?=some (.cells b e c)/\b.size=cur.size/\∀a:Nat,b[a]?=if o<=a/\a<o+vs.length then vs[a-o]? else cur[a]?
 |[],o,w,cur,h,_=>⟨cur,h,rfl,λa=>by rw[lg (by simp only[CV];omega)]⟩
 |d::j,o,w,cur,h,i=>by
  have k:(w.setCell (Δ g o) d).heap[g]?=some (.cells (cur.setIfInBounds o d) e c):=by
   simp[DL,Ov,h]
  obtain⟨b,l,m,n⟩:=FK g e c j (o+1) (w.setCell (Δ g o) d) (cur.setIfInBounds o d) k (by simp at i⊢;omega);refine⟨b,l,by rw[m];simp,λa=>?_⟩;rw[n a];simp only[Bg]at i⊢;by_cases p:a=o
  ·subst p;rw[lg O,kX O,Bh,kX rfl,kX O];simp
  ·by_cases f:o+1<=a/\a<o+1+j.length
   ·rw[kX f,kX O];rw[show a-o=(a-(o+1))+1 by omega];simp
   ·rw[lg f,lg O,Bh,lg O]
def setCells_size(w:World)(g o:Nat)(vs:List Value):(w.setCells g o vs).heap.size=w:=by
 induction vs generalizing w o with
 |nil=>rfl
 |cons c b a=>rw[QH,a];simp[DL]
def EC(w:World)(g o:Nat)(vs:List Value):(w.setCells g o vs).tape=w.tape:=by
 induction vs generalizing w o with
 |nil=>rfl
 |cons c b a=>rw[QH,a];rfl
def FM(w:World)(g o:Nat)(vs:List Value):(w.setCells g o vs).os=w.os:=by
 induction vs generalizing w o with
 |nil=>rfl
 |cons c b a=>rw[QH,a];rfl
def Ec(w:World)(g o:Nat)(vs:List Value):(w.setCells g o vs).output=w.output:=by
 induction vs generalizing w o with
 |nil=>rfl
 |cons c b a=>rw[QH,a];rfl
def Kr(w:World)(g o:Nat)(vs:List Value){k:Nat}(a:k≠g):(w.setCells g o vs).heap[k]?=w.heap[k]?:=by
 induction vs generalizing w o with
 |nil=>rfl
 |cons c d b=>rw[QH,b];exact Below.heap_setCell w (Δ g o) c k (λh=>a h)
def XW(xs:List Value)(i:Nat)(u:Value):List Value:=xs.take i++u::xs.drop i
def xM(xs:List Value)(i:Nat)(u:Value)(hi:i<=xs.length)(j:Nat):(XW xs i u)[j]?=if j<i then xs[j]? else if j=i then some u else xs[j-1]?:=by
 unfold XW;by_cases a:j<i
 ·rw[kX a,DK (by simp;omega),Dh,kX a]
 ·rw[lg a,Ez (by simp;omega)];simp only[Cc,EI hi];by_cases b:j=i
  ·subst b;simp
  ·rw[lg b,show j-i=(j-1-i)+1 by omega,List.getElem?_cons_succ,DX];congr 1;omega
def ag(xs:List Value)(i:Nat)(u:Value)(hi:i<=xs.length):(XW xs i u).length=xs.length+1:=by
 unfold XW;simp;omega
def o5{w:World}{j g n c i:Nat}{e:TypeId}{xs:List Value}{u:Value}(h:w.ownsRow j e 1 (.slice (some (Φ g)) n c) n xs)(hi:i<=n)(z:n+1<=c):
 ((w.setCells g (i+1) (xs.drop i)).setCells g i [u]).ownsRow j e 1 (.slice (some (Φ g)) (n+1) c) (n+1) (XW xs i u):=by
 obtain⟨H,d⟩:=h;rcases d with⟨d,_⟩|⟨G,F,k,o,y,B,J,A,I,C⟩
 ·cases d
 simp only[Value.slice.injEq,Option.some.injEq,Addr.mk.injEq,and_true,true_and]at o;obtain⟨rfl,rfl⟩:=o;obtain⟨p,r,D,s⟩:=FK g e (0,0) (xs.drop i) (i+1) w k B (by simp;omega);obtain⟨b,t,E,v⟩:=FK g e (0,0) [u] i _ p r (by simp;omega);refine⟨by rw[ag xs i u O];omega,.inr ⟨g,c,b,rfl,y,t,z,A,O,?_⟩⟩;apply KE;intro a;rw[xM xs i u O a,Dh];have q:∀a,a<n->k[a]?=xs[a]?:=λa f=>by rw[<-C,Dh,kX O];simp
 by_cases f:a<(n+1)*1
 ·rw[kX f];have x:b.toList[a]?=b[a]?:=by simp
  rw[x,v a];simp only[Bg,CV,Du];by_cases l:a=i
  ·subst l;rw[kX O,lg O,kX rfl];simp
  ·rw[lg O,s a];by_cases m:a<i
   ·rw[lg O,kX m,q a O]
   ·rw[kX (by simp;omega),lg m,lg l,DX];congr 1;omega
 ·rw[lg f,lg O,lg O,FO O]
def o6{w:World}{g G:Nat}{e:TypeId}{xs zs:List Value}{i:Nat}{u:Value}(b:Array Value)(t:g<=w.heap.size)(hi:i<=xs.length)(r:xs.length+1<=G)(s:G<=maxLen)(B:b.size=G)(x:∀a,a<i->b[a]?=xs[a]?)(y:zs=xs.drop i):
 ((((w.alloc (.cells b e)).drew.setCells w.heap.size i [u]).drew).setCells w.heap.size (i+1) zs).ownsRow g e 1 (.slice (some (Φ w)) (xs.length+1) G) (xs.length+1) (XW xs i u):=by
 subst y;have v:((w.alloc (.cells b e)).drew).heap[w.heap.size]?=some (.cells b e (0,0)):=by
  show(w.heap.push _)[w.heap.size]?=_;simp
 obtain⟨f,l,z,n⟩:=FK w.heap.size e (0,0) [u] i _ b v (by simp;omega);have m:(((w.alloc (.cells b e)).drew.setCells w.heap.size i [u]).drew).heap[w.heap.size]?=some (.cells f e (0,0)):=l;obtain⟨c,o,A,p⟩:=FK w.heap.size e (0,0) (xs.drop i) (i+1) _ f m (by simp;omega);refine⟨by rw[ag xs i u hi];omega,.inr ⟨w,G,c,rfl,t,o,r,s,O,?_⟩⟩;apply KE;intro a;rw[xM xs i u hi a,Dh];by_cases j:a<(xs.length+1)*1
 ·rw[kX j];have q:c.toList[a]?=c[a]?:=by simp
  rw[q,p a,n a];simp only[Bg,CV,Du,AU];by_cases k:a=i
  ·subst k;rw[lg O,kX O,lg O,kX rfl];simp
  ·by_cases d:a<i
   ·rw[lg O,lg O,kX d,x a d]
   ·rw[kX O,lg d,lg k,DX];congr 1;omega
 ·rw[lg j,lg O,lg O,FO O]
def sU(xs:List Value)(i:Nat):List Value:=xs.take i++xs.drop (i+1)
def Al6(xs:List Value)(i:Nat)(hi:i<xs.length)(j:Nat):(sU xs i)[j]?=if j<i then xs[j]? else xs[j+1]?:=by
 unfold sU;by_cases a:j<i
 ·rw[kX a,DK (by simp;omega),Dh,kX a]
 ·rw[lg a,Ez (by simp;omega)];simp only[Cc,EI (Lh hi)];rw[DX];congr 1;omega
def xN(xs:List Value)(i:Nat)(hi:i<xs.length):(sU xs i).length=xs.length-1:=by
 unfold sU;simp;omega
def ai{w:World}{j g n c i:Nat}{e:TypeId}{xs zs:List Value}(h:w.ownsRow j e 1 (.slice (some (Φ g)) n c) n xs)(hi:i<n)(H:zs.length=1):
 ((w.setCells g i (xs.drop (i+1))).setCells g (n-1) zs).ownsRow j e 1 (.slice (some (Φ g)) (n-1) c) (n-1) (sU xs i):=by
 obtain⟨E,d⟩:=h;rcases d with⟨d,_⟩|⟨D,C,k,m,v,y,G,x,F,z⟩
 ·cases d
 simp only[Value.slice.injEq,Option.some.injEq,Addr.mk.injEq,and_true,true_and]at m;obtain⟨rfl,rfl⟩:=m;obtain⟨o,q,A,r⟩:=FK g e (0,0) (xs.drop (i+1)) i w k y (by simp;omega);obtain⟨b,s,B,t⟩:=FK g e (0,0) zs (n-1) _ o q O;refine⟨by rw[xN xs i O];omega,.inr ⟨g,c,b,rfl,v,s,O,x,O,?_⟩⟩;apply KE;intro a;rw[Al6 xs i O a,Dh];have p:∀a,a<n->k[a]?=xs[a]?:=λa f=>by rw[<-z,Dh,kX O];simp
 by_cases f:a<(n-1)*1
 ·rw[kX f];have u:b.toList[a]?=b[a]?:=by simp
  rw[u,t a,lg O,r a];by_cases l:a<i
  ·rw[lg O,kX l,p a O]
  ·rw[kX (by simp;omega),lg l,DX];congr 1;omega
 ·rw[lg f,lg O,FO O]
def Kept.refl(w:World)(row:Option Nat):Kept w w row:=⟨Ae _,λ_ _ _=>rfl⟩
def Kept.setCells{w w':World}{g:Nat}(h:Kept w w' (some g))(o:Nat)(vs:List Value):Kept w (w'.setCells g o vs) (some g):=
 ⟨by rw[setCells_size];exact h.1,λc b a=>by rw[Kr _ _ _ _ (λe=>a (by rw[e]))];exact h.2 c b a⟩
def Kept.drew{w w':World}{row:Option Nat}(h:Kept w w' row):Kept w w'.drew row:=h
def Kept.below{w w':World}{row:Option Nat}{B:Nat}(h:Kept w w' row)(i:B<=w)(c:w'.os=w.os)(g:w'.tape=w.tape)(d:w'.output=w.output)(f:∀a,row=some a->B<=a):Below B w w':=
 ⟨c,g,d,h.1,λb j=>h.2 b O (λe=>Ω (f b e.symm))⟩
def Xa{P:Program}{t e:TypeId}{z:Value}{bytes:Nat}(T:OA P t e z bytes)(y:TypeId){w:World}{d:Nat}{v:Value}{n:Nat}{xs a:List Value}
 (k:w.ownsRow d e 1 v n xs){A:Option Addr}{m:Nat}(g:Rd w A m a)
 (h1:∀j∈a,j.oneCell'=true)(G:n+m<=1000000000)(C:bytes<=64)(u:d<=w)(c:Nat):
 ∃l b,(Builtin.append_ #[t,t] y #[v,.slice A m c]).run P w=.ok l b/\b.ownsRow d e 1 l (n+m) (xs++a)/\Below d w b/\Kept w b v.ownBlock:=by
 obtain⟨Q,p,L,M,N⟩:=info_parts T.hi;rcases A with _|s
 ·have f:m=0:=by
   rcases I4 m with f|f
   ·exact f
   ·obtain⟨_,_,e,_⟩:=g.2 f;cases e
  subst f;have H:a=[]:=Cj g.1;subst H;refine⟨v,w,?_,by simpa using k,mZ,Kept.refl _ _⟩;rcases k.2 with⟨rfl,rfl⟩|⟨W,S,V,rfl,_,_,I,_⟩
  ·simp[Builtin.append_,run_underlying T.ht,sizeOf,typeInfo,p,Builtin.lenOf,Builtin.firstCells]
  ·simp[Builtin.append_,run_underlying T.ht,sizeOf,typeInfo,p,Builtin.lenOf,Builtin.firstCells,I,storeCells]
 ·have E:∀i j,a[i]?=some j->w.cell? (s.add i)=some j:=by
   intro i j x;have F:i<m:=by
    have:=(Cf.1 x).1;have:=g.1;omega
   obtain⟨R,Y,e,_,D⟩:=g.2 O;injection e with e
   subst e;rw[Addr.add_lit,D i F,x]
  have X:(n+m)*bytes<=1000000000*64:=I5 G C;obtain⟨l,b,K,B,o,_⟩:=run_append_own (P:=P) w d t y e Q z 1 bytes T.ht p L M N T.hz U v n xs k s m c a (by simp[g.1]) E h1
   (by unfold maxLen;omega) O u
  exact⟨l,b,K,B,mZ.grown o u (λr q=>(k.lt r q).1),o.size,λr q J=>o.block r q (λh=>J h)⟩
structure Touch(F:Nat->Prop)(w w':World):Prop where
 os:w'.os=w.os
 tape:w'.tape=w.tape
 output:w'.output=w.output
 size:w.heap.size<=w'.heap.size
 block:∀k,k<w.heap.size->¬F k->w'.heap[k]?=w.heap[k]?
def Touch.refl(F:Nat->Prop)(w:World):Touch F w w:=⟨rfl,rfl,rfl,Ae _,λ_ _ _=>rfl⟩
def mP{F:Nat->Prop}{w:Go.World}:Touch F w w:=Touch.refl _ _
def Touch.mono{F G:Nat->Prop}{w w':World}(h:Touch F w w')(b:∀k,F k->G k):Touch G w w':=
 ⟨h.os,h.tape,h.output,h.size,λk c d=>h.block k c (λa=>d (b k a))⟩
def Touch.of_below{F:Nat->Prop}{w w':World}(h:η w w'):Touch F w w':=
 ⟨h.os,h.tape,h.output,h.size,λk a _=>h.block k a⟩
def mD{F:Nat->Prop}{w w':Go.World}(h:Below w.heap.size w w'):Touch F w w':=Touch.of_below h
def Touch.below{F:Nat->Prop}{w w':World}(h:Touch F w w'){B:Nat}(b:B<=w.heap.size)(hF:∀k,F k->B<=k):Below B w w':=
 ⟨h.os,h.tape,h.output,h.size,λk c=>h.block k O (λa=>Ω (hF k a))⟩
def Touch.trans{F G:Nat->Prop}{w w' d:World}(h:Touch F w w')(k:Touch G w' d)(e:∀a,G a->F a\/w.heap.size<=a):Touch F w d:=
 ⟨k.os.trans h.os,k.tape.trans h.tape,k.output.trans h.output,AZ h.size k.size,λa b c=>by
  rw[k.block a (Bc b h.size) (λf=>(e a f).elim c (λg=>O))];exact h.block a b c⟩
def Touch.setCell{F:Nat->Prop}{w w':World}(h:Touch F w w'){p:Addr}(f:F p.block\/w.heap.size<=p.block)(u:Value):Touch F w (w'.setCell p u):=
 ⟨h.os,h.tape,h.output,by simpa[DL]using h.size,λa c b=>by
  rw[Below.heap_setCell w' p u a (λe=>f.elim (λd=>b (e▸d)) (λg=>O))];exact h.block a c b⟩
def Touch.alloc{F:Nat->Prop}{w w':World}(h:Touch F w w')(o:Obj):Touch F w (w'.alloc o):=
 ⟨h.os,h.tape,h.output,by have:=h.size;simp;omega,λa b c=>by
  rw[Below.heap_alloc w' o a (Ω h.size)];exact h.block a b c⟩
def Touch.drew{F:Nat->Prop}{w w':World}(h:Touch F w w'):Touch F w w'.drew:=⟨h.os,h.tape,h.output,h.size,h.block⟩
def Cm.touch{w w':World}{F:Nat->Prop}{g:Nat}{e:TypeId}{xs:List Value}(h:Cm w g e xs)(t:Touch F w w')(a:¬F g):Cm w' g e xs:=(t.block g h.lt a).trans h
def Rd.touch{w w':World}{F:Nat->Prop}{A:Option Addr}{n:Nat}{xs:List Value}(h:Rd w A n xs)(t:Touch F w w')(hF:∀a,A=some a->¬F a.block):Rd w' A n xs:=
 ⟨h.1,λg=>by
   obtain⟨b,j,e,c,d⟩:=h.2 g;exact⟨b,j,e,Bc c t.size,λi f=>(BQ (w:=w) (t.block b c (hF _ e))).trans (d i f)⟩⟩
def Ie{w w':World}{F:Nat->Prop}{b:Nat}{e:TypeId}{v:Value}{n:Nat}{xs:List Value}{size:Nat}(h:w.ownsRow b e size v n xs)(t:Touch F w w')(hF:∀a,v.ownBlock=some a->¬F a):w'.ownsRow b e size v n xs:=by
 refine⟨h.1,?_⟩;rcases h.2 with h|⟨a,f,g,c,i,d,j⟩
 ·exact .inl h
 ·exact .inr ⟨a,f,g,c,i,(t.block a (AL.1 d).1 (hF a (by rw[c];rfl))).trans d,j⟩
def QS{w:World}{b g n c i:Nat}{e:TypeId}{xs:List Value}{u:Value}(h:w.ownsRow b e 1 (.slice (some (Φ g)) n c) n xs)(_:i<n):
 (w.setCell (Δ g i) u).ownsRow b e 1 (.slice (some (Φ g)) n c) n (xs.set i u):=by
 obtain⟨k,a⟩:=h;rcases a with⟨a,_⟩|⟨t,s,j,d,l,p,q,m,o,r⟩
 ·cases a
 simp only[Value.slice.injEq,Option.some.injEq,Addr.mk.injEq,and_true,true_and]at d;obtain⟨rfl,rfl⟩:=d;have f:(w.setCell (Δ g i) u).heap[g]?=some (.cells (j.setIfInBounds i u) e (0,0)):=by
  simp[DL,Ov,p]
 refine⟨by simpa using k,.inr ⟨g,c,_,rfl,l,f,q,m,by simpa using o,?_⟩⟩;rw[Array.toList_setIfInBounds,List.take_set,r]
def XX{w:World}{b g n c i:Nat}{e:TypeId}{xs:List Value}(h:w.ownsRow b e 1 (.slice (some (Φ g)) n c) n xs)(hi:i<n):
 (∃j,w.cell? (Δ g i)=some j)/\w.frozen? (Δ g i)=false:=by
 refine⟨dY h hi,?_⟩;rcases h.2 with⟨d,_⟩|⟨m,k,l,a,o,f,_⟩
 ·cases d
 ·simp only[Value.slice.injEq,Option.some.injEq,Addr.mk.injEq,and_true,true_and]at a;obtain⟨rfl,rfl⟩:=a;simp[Ij,f]
def Qk{w:World}{b n c:Nat}{A:Option Addr}{e:TypeId}{xs:List Value}(h:w.ownsRow b e 1 (.slice A n c) n xs)(o:0<n):∃a,A=some (Φ a)/\b<=a/\a<w.heap.size:=by
 rcases h.2 with⟨m,l⟩|⟨f,j,k,d,g,i,_⟩
 ·omega
 ·simp only[Value.slice.injEq]at d;exact⟨f,d.1,g,(AL.1 i).1⟩
def Af7(A:Option Addr)(n c k:Nat)(w:World)(f:n<=1000000000)(b:k%8=0)(d:k+8<=n):
 Calls prog 83 #[.slice A n c,k] w λe a=>e=.returned true/\w=a:=by
 have t2:((k:Int)%8==0)=true:=by rw[beq_iff_eq];omega
 have t3:=dT ((k:Int)<=(n:Int) -8);go_in;go_wp2;go_ret;exact⟨rfl,rfl⟩
def sV(j:Nat):2^(8*j)=256^j:=by rw[Nat.pow_mul]
def Ah1(j:Nat)(a:j<8):256^j<=72057594037927936:=by
 have:256^j<=256^7:=Gm U O;exact AZ this U
def Af8(X b j:Nat)(l:b<256)(i:j<8):bits .or .u64 ((X:Int)%256^j) (IntKind.u64.wrap (IntKind.u64.wrap (b:Int)*2^(8*j)))=((X%256^j+b*256^j:Nat):Int):=by
 have f:X%256^j<256^j:=MH _ (Wl U);have g:=Ah1 j i;have k:b*256^j<=255*72057594037927936:=I5 O g;have a:((X:Int)%256^j)=((X%256^j:Nat):Int):=by rw[Int.natCast_emod,JJ];rfl
 have c:IntKind.u64.wrap (b:Int)=(b:Int):=by rw[IntKind.wrap_u64];omega
 have d:(b:Int)*2^(8*j)=((b*256^j:Nat):Int):=by rw[<-sV,Ib,JJ];rfl
 have e:IntKind.u64.wrap ((b*256^j:Nat):Int)=((b*256^j:Nat):Int):=by rw[IntKind.wrap_u64];omega
 rw[a,c,d,e,u64_or_nat _ _ O O,Nat.or_comm,nat_join (8*j) _ _ (by rw[sV];exact Nat.mul_mod_left _ _) (by rw[sV];exact f)];congr 1;omega
def xO(A:Option Addr)(n c k:Nat)(l:List ni)(w:World)(x:n<=1000000)(h:Bs w A n (leBytes l))(q:k<l.length):
 Calls prog 93 #[.slice A n c,.int .i64 ((8*k:Nat):Int)] w λe u=>e=.returned (.tuple #[.int .u64 (l[k].toNat:Int),true])/\w=u:=by
 have r:=h.len;rw[leBytes_length]at r;have g:=Af7 A n c (8*k) w O O O;have f:=Ac g;have j:=Ac (JZ l k · q ·);clear g;go_in;go_wp2_with(refine f.out.ro ?_;clear f);go_loop [6,12](λt d=>∃a:Nat,a<=8/\d=.int .i64 a/\t=.int .u64 ((l[k].toNat%256^a:Nat):Int))(λ_ d=>8-(intOf d).toNat)
 case atStart=>exact⟨0,O,rfl,by simp⟩
 case round=>
  obtain⟨a,v,rfl,rfl⟩:=hrel;by_cases i:a<8
  ·obtain⟨s,B,z,rfl,y,o⟩:=h.at (show 8*k+a<n by omega);have b:=j a i;rw[Ag s]at b;injection b with b
   rw[b]at o;have m:Hid (bits .or .u64 ((l[k].toNat:Int)%256^a) (IntKind.u64.wrap (IntKind.u64.wrap ((leB l[k] a).toNat:Int)*2^(8*a)))=((l[k].toNat%256^(a+1):Nat):Int)):=Ac (by
    rw[Af8 _ _ _ (leB l[k] a).toNat_lt i,le_step])
   go_wp2;go_round
   case rel=>exact⟨a+1,O,by go_num,by rw[m.out]⟩
   case measure=>simp[intOf];omega
  ·have p:a=8:=O;subst p;rw[Au6];go_wp2;go_ret2;exact⟨rfl,rfl⟩
def xP(x:ni)(j:Nat):(x.toNat:Int)/2^(8*j)%256=((leB x j).toNat:Int):=by
 have e:(x.toNat:Int)/2^(8*j)=((x.toNat/256^j:Nat):Int):=by
  rw[Aqd,<-sV,JJ];rfl
 rw[YS,e];rfl
def aj(A:Option Addr)(n c k:Nat)(l:List ni)(x:ni)(w:World)(G:n<=1000000)(h:Bs w A n (leBytes l))(r:k<l.length):
 Calls prog 43 #[.slice A n c,.int .i64 ((8*k:Nat):Int),x] w λe s=>∃b o,e=.returned (.tuple #[.slice (some (Φ b)) n o,true])/\s.ownsRow w 5 1 (.slice (some (Φ b)) n o) n ((leBytes (l.set k x)).map bv)/\η w s:=by
 have E:=h.len;rw[leBytes_length]at E;obtain⟨v,m,u⟩:=l9 (Ahs l k x · r ·) (Ahr l k x) (xy l k x r);go_in;go_wp2_with(first|(refine(WX A n c (leBytes l) w G h).mono ?_;rintro e H⟨Q,rfl,f,B⟩;obtain⟨I,g,rfl,J,_⟩:=CY f;obtain⟨b,rfl,C,L⟩:=Qk f O;have j:=Ac (Af7 A n c (8*k) H O O O);rw[<-m.out]at f;clear m)|(refine j.ro ?_;clear j));go_loopw [17](λi wr=>∃a:Nat,a<=8/\i=.int .i64 a/\wr.ownsRow w 5 1 (.slice (some (Φ b)) n g) n ((bK l k x a).map bv)/\η w wr)(λi _=>8-(intOf i).toNat)
 case atStart=>exact⟨0,O,rfl,f,B⟩
 case round=>
  obtain⟨a,M,rfl,d,q⟩:=hrel;by_cases F:a<8
  ·obtain⟨⟨P,N⟩,K⟩:=XX d (show 8*k+a<n by omega);have y:Hid ((wr.setCell (Δ b (8*k+a)) (.int .u8 ((leB x a).toNat:Int))).ownsRow w 5 1 (.slice (some (Φ b)) n g) n ((bK l k x (a+1)).map bv)):=Ac (by
    rw[<-v.out a F,O9];exact QS d O)
   have t:=Ac (q.setCell (p:=Δ b (8*k+a)) C (.int .u8 ((leB x a).toNat:Int)));have z:=Ac (xP x a);clear d;go_wp2;rw[z.out];exact⟨⟨a+1,O,by go_num,y,t⟩,mz⟩
  ·have D:a=8:=O;subst D;rw[u.out]at d;go_wp2;go_ret2;exact⟨b,g,rfl,d,q⟩
def Jz(ws:Nat->ni)(i:Nat):List ni:=(Ea 8).map λt=>ws (8*i+t)
def PG(ws:Nat->ni)(i:Nat):(Jz ws i).length=8:=by simp[Jz]
def PR(ws:Nat->ni)(i k:Nat)(a:k<(Jz ws i).length):(Jz ws i)[k]=ws (8*i+k):=by simp[Jz]
def Ah2(ws:Nat->ni)(i k:Nat)(x:ni)(_:k<8):(Jz ws i).set k x=Jz (λb=>if b=8*i+k then x else ws b) i:=by
 apply ER
 ·simp[Jz]
 ·intro t c d;rw[MX,PR,PR];by_cases a:k=t
  ·rw[kX a,kX O]
  ·rw[lg a,lg O]
def xQ(ws:Nat->ni)(i a k:Nat)(x:ni)(e:k<8)(f:a≠i):Jz (λb=>if b=8*i+k then x else ws b) a=Jz ws a:=by
 apply ER
 ·simp[Jz]
 ·intro t c d;have:t<8:=by simpa[Jz]using c
  rw[PR,PR,lg O]
structure Mode where
 bQ:Nat->List (Nat×ni)
 lf:Int
def Mode.len(m:Mode)(i:Nat):Nat:=(m.bQ i).length
instance:CoeFun Mode (λ_=>Nat->Nat):=⟨Mode.len⟩
abbrev MU(lf:Int):Mode:=⟨λ_=>[],lf⟩
abbrev M0:Mode:=MU (-1)
def Mode.tick(m:Mode):Mode:=⟨m.bQ,if 0<m.lf then m.lf-1 else m.lf⟩
def Mode.note(m:Mode)(i:Nat)(c:Nat×ni):Mode:=⟨λa=>if a=i then m.bQ i++[c]else m.bQ a,m.lf⟩
def Mode.wipe(m:Mode)(i:Nat):Mode:=⟨λa=>if a=i then[]else m.bQ a,m.lf⟩
def Mode.UL(m:Mode)(i:Nat)(c:Nat×ni)(k:Nat):(m.note i c).len k=if k=i then m.len i+1 else m.len k:=by
 unfold Mode.note Mode.len;simp only;split
 ·simp
 ·rfl
def Mode.fO(m:Mode)(i k:Nat):(m.wipe i).len k=if k=i then 0 else m.len k:=by
 unfold Mode.wipe Mode.len;simp only;split<;>rfl
def chV:List (Nat×ni)->List Value
 |[]=>[]
 |a::b=>.int .i64 (a.1:Nat):: .int .u64 (a.2.toNat:Nat)::chV b
def xR(i:Nat):List (Nat×ni)->(Nat->ni)->Nat->ni
 |[],a=>a
 |b::d,a=>λc=>if c=8*i+b.1/8 then b.2 else xR i d a c
def xU(m:Mode)(a:Nat->Nat)(ws:Nat->ni)(q:Nat):ni:=xR (q/8) ((m.bQ (q/8)).drop (a (q/8))) ws q
def Af9:∀(a b:List (Nat×ni)),chV (a++b)=chV a++chV b
 |[],_=>rfl
 |c::a,b=>by simp only[BM,chV,Af9 a b]
def fP(w:World)(A:Option Addr)(a:List (Nat×ni))(c:Nat)(b:Option Nat):Prop:=
 (b=none/\a=[]/\c=0)\/∃h,b=some h/\A=some (Φ h)/\w.ownsRow 0 235 2 (.slice A a.length c) a.length (chV a)
structure Dz(w:World)(d L:Nat)(ws:Nat->ni)(len:Mode)(o7:Nat->Nat)(g:Nat)(hb:Nat->Option Nat):Prop where
 box:∃st:Int,Cm w d 70 [.slice (some (Φ g)) L L,.bool (decide (len.lf=0)),len.lf,st]
 lfr: -1<=len.lf/\len.lf<=1000000000
 gd:g≠d
 blk:∃cur:Array Value,w.heap[g]?=some (.cells cur 178 (0,0))/\cur.size=66*L/\
  (∀i,i<L->∀k,k<64->cur[66*i+k]?=(leBytes (Jz ws i))[k]?.map bv)/\
  ∀i,i<L->∃A c,cur[66*i+64]?=some (.slice A (len i) c)/\cur[66*i+65]?=some (.int .i64 (o7 i:Int))/\fP w A (len.bQ i) c (hb i)
 bd:∀i,i<L->∀h,hb i=some h->h≠g/\h≠d
 inj:∀i j,i<L->j<L->i≠j->∀h,hb i=some h->hb j≠some h
 mrk:∀i,i<L->o7 i<=len i+1
def FZ(c L g:Nat)(d:Nat->Option Nat)(b:Nat):Prop:=b=c\/b=g\/∃a,a<L/\d a=some b
def Dev(w:World)(b L:Nat)(ws:Nat->ni)(len:Mode)(o7:Nat->Nat)(own:Nat->Prop):Prop:=
 ∃c d,Dz w b L ws len o7 c d/\∀a,own a<->FZ b L c d a
def fP.keep{w w':World}{A:Option Addr}{i:List (Nat×ni)}{c:Nat}{f:Option Nat}(h:fP w A i c f)(r:∀a,f=some a->a<w->w'.heap[a]?=w.heap[a]?):fP w' A i c f:=by
 rcases h with h|⟨l,j,k,⟨q,e⟩⟩
 ·exact .inl h
 ·refine .inr ⟨l,j,k,⟨q,?_⟩⟩;rcases e with e|⟨d,o,p,b,m,g,n⟩
  ·exact .inl e
  ·refine .inr ⟨d,o,p,b,m,?_,n⟩;have:d=l:=by
    simp only[Value.slice.injEq]at b;have:=b.1.symm.trans k;simpa using this
   subst this;rw[r d j (AL.1 g).1];exact g
def fP.lt{w:World}{A:Option Addr}{j:List (Nat×ni)}{c:Nat}{g:Option Nat}(h:fP w A j c g):∀d,g=some d->d<w:=by
 intro d a;rcases h with⟨h,_⟩|⟨n,k,f,⟨s,b⟩⟩
 ·rw[h]at a;cases a
 ·rcases b with⟨b,_⟩|⟨m,q,r,e,o,i,p⟩
  ·simp only[Value.slice.injEq]at b;rw[f]at b;cases b.1
  ·have l:m=n:=by
    simp only[Value.slice.injEq]at e;have:=e.1.symm.trans f;simpa using this
   rw[k]at a;injection a with a
   subst l a;exact(AL.1 i).1
def Dz.keep{w w':World}{d L:Nat}{ws:Nat->ni}{len:Mode}{o7:Nat->Nat}{g:Nat}{hb:Nat->Option Nat}(h:Dz w d L ws len o7 g hb)
 (b:∀a,FZ d L g hb a->a<w->w'.heap[a]?=w.heap[a]?):Dz w' d L ws len o7 g hb:=by
 obtain⟨st,e⟩:=h.box;obtain⟨cur,f,r,m,n⟩:=h.blk;refine⟨⟨st,(b d (.inl rfl) e.lt).trans e⟩,h.lfr,h.gd,⟨cur,(b g (.inr (.inl rfl)) (AL.1 f).1).trans f,r,m,λi j=>?_⟩,h.bd,h.inj,h.mrk⟩;obtain⟨A,c,k,l,p⟩:=n i j;exact⟨A,c,k,l,p.keep (λa o q=>b a (.inr (.inr ⟨i,j,o⟩)) q)⟩
def Dev.touch{w w':World}{b L:Nat}{ws:Nat->ni}{len:Mode}{o7:Nat->Nat}{own F:Nat->Prop}(h:Dev w b L ws len o7 own)(t:Touch F w w')(hF:∀a,own a->¬F a):Dev w' b L ws len o7 own:=by
 obtain⟨d,e,g,c⟩:=h;exact⟨d,e,g.keep (λa i f=>t.block a f (hF a ((c a).2 i))),c⟩
def Dev.below{w w':World}{a L:Nat}{ws:Nat->ni}{len:Mode}{o7:Nat->Nat}{own:Nat->Prop}(h:Dev w a L ws len o7 own)(d:η w w'):Dev w' a L ws len o7 own:=by
 obtain⟨c,e,i,g⟩:=h;exact⟨c,e,i.keep (λb _ f=>d.block b f),g⟩
def Dz.lt{w:World}{d L:Nat}{ws:Nat->ni}{len:Mode}{o7:Nat->Nat}{g:Nat}{hb:Nat->Option Nat}(h:Dz w d L ws len o7 g hb):∀a,FZ d L g hb a->a<w:=by
 intro a e;obtain⟨st,f⟩:=h.box;obtain⟨cur,k,o,n,b⟩:=h.blk;rcases e with rfl|rfl|⟨i,m,l⟩
 ·exact f.lt
 ·exact(AL.1 k).1
 ·obtain⟨A,c,_,_,j⟩:=b i m;exact j.lt a l
def Dev.lt{w:World}{b L:Nat}{ws:Nat->ni}{len:Mode}{o7:Nat->Nat}{own:Nat->Prop}(h:Dev w b L ws len o7 own):∀a,own a->a<w:=by
 obtain⟨f,g,e,d⟩:=h;exact λa c=>e.lt a ((d a).1 c)
def Dz.line{w:World}{d L:Nat}{ws:Nat->ni}{len:Mode}{o7:Nat->Nat}{g:Nat}{hb:Nat->Option Nat}(h:Dz w d L ws len o7 g hb)(i:Nat)(hi:i<L):Bs w (some (Δ g (66*i))) 64 (leBytes (Jz ws i)):=by
 obtain⟨cur,a,f,b,e⟩:=h.blk;refine⟨by rw[Df,leBytes_length,PG],λ_=>⟨g,66*i,rfl,(AL.1 a).1,λj c=>?_⟩⟩;rw[cell_of_row w g _ cur _ (0,0) a,b i hi j c,CP]
def fQ{P:Program}(w:World)(b off:Nat)(a:TypeId)(vs:List Value)(e:TypeDesc)(k:P.underlying a=some e)(n:(match e with| .struct _| .array _ _=>true|_=>false)=true)
 (hi:(P.info? a).map (·.size)=some vs.length)(h:∀c d,vs[c]?=some d->w.cell? (Δ b (off+c))=some d):(loadVar a (Δ b off)).run P w=.ok (.agg vs.toArray) w:=by
 have i:(loadCells (Δ b off) vs.length).run P w=.ok vs.toArray w:=
  run_loadCells_list (P:=P) w (Δ b off) vs (λc d l=>by rw[Addr.add_lit];exact h c d l)
 cases f:P.info? a with
 |none=>simp[f]at hi
 |some m=>
  have j:m.size=vs.length:=by simpa[f]using hi
  have g:(isAgg a).run P w=.ok true w:=by
   unfold isAgg;rw[Sem.run_bind,run_underlying k w];cases e<;>simp_all
  simp[loadVar,Sem.run_bind,g,sizeOf,typeInfo,f,j,i]
def UM{P:Program}{g:Array Oper}{nM:List Oper}{o:Oper}{a:Act}{w:World}{e:Exit->Act->World->Prop}(m:o.guard=none)(c:TypeId)(x:Operand)(n:o.op=.load c x)
 (b off:Nat)(q:a.eval x=.pointer (some (Δ b off)))(vs:List Value)(d:TypeDesc)(p:P.underlying c=some d)(l:(match d with| .struct _| .array _ _=>true|_=>false)=true)
 (hi:(P.info? c).map (·.size)=some vs.length)(k:∀f i,vs[f]?=some i->w.cell? (Δ b (off+f))=some i)
 (h:wpList P g e nM (a.put o.dst (.agg vs.toArray)) w):wpList P g e (o::nM) a w:=by
 refine wpList_plain m λr j=>?_
 unfold Oper.wp execOp;simp only[n,q,Instr.loadAt,Instr.sureAddr,Sem.run_bind,Sem.run_pure,Result.andThen_ok,fQ w b off c vs d p l hi k];exact j _ _ h
def bT{P:Program}(w:World)(b off:Nat)(d:TypeId)(vs:List Value)(hi:(P.info? d).map (·.size)=some vs.length)(f:∀a,a<vs.length->(w.cell? (Δ b (off+a))).isSome=true)
 (g:∀a,a<vs.length->w.frozen? (Δ b (off+a))=false)(h1:∀k∈vs,k.oneCell'=true):(storeVar d (Δ b off) (.agg vs.toArray)).run P w=.ok () (w.setCells b off vs):=by
 have e:=run_storeCells_cells (P:=P) b off vs 0 w (by simpa using f) (by simpa using g) h1;cases c:P.info? d with
 |none=>simp[c]at hi
 |some j=>
  have i:j.size=vs.length:=by simpa[c]using hi
  simp only[Axt]at e;simp[storeVar,Sem.run_bind,sizeOf,typeInfo,c,i,Aby,e]
def bU{P:Program}{f:Array Oper}{nM:List Oper}{o:Oper}{a:Act}{w:World}{e:Exit->Act->World->Prop}(k:o.guard=none)(d:TypeId)(x y:Operand)(l:o.op=.store d x y)
 (b off:Nat)(m:a.eval x=.pointer (some (Δ b off)))(vs:List Value)(hy:a.eval y=.agg vs.toArray)(hi:(P.info? d).map (·.size)=some vs.length)(i:∀c,c<vs.length->(w.cell? (Δ b (off+c))).isSome=true)
 (j:∀c,c<vs.length->w.frozen? (Δ b (off+c))=false)(h1:∀n∈vs,n.oneCell'=true)
 (h:wpList P f e nM (a.put o.dst undef) (w.setCells b off vs)):wpList P f e (o::nM) a w:=by
 refine wpList_plain k λp g=>?_
 unfold Oper.wp execOp;simp only[l,m,hy,Instr.storeAt,Instr.sureAddr,Sem.run_bind,Sem.run_pure,Result.andThen_ok,bT w b off d vs hi i j h1];exact g _ _ h
structure IK(P:Program)(t e:TypeId)(z:Value)(k bytes:Nat):Prop where
 ht:P.underlying t=some (.slice e)
 hi:(P.info? e).map (λi=>(i.zero,i.size,i.bytes))=some (some z,k,bytes)
 hz:z.cells.size=k
def fU{P:Program}{t e:TypeId}{z:Value}{k bytes:Nat}(T:IK P t e z k bytes)(r:TypeId){w:World}{g:Nat}{v:Value}{n:Nat}{xs d:List Value}
 (q:w.ownsRow g e k v n xs)(b:Nat)(y:Cm w b e d)(o:d.length=k)(D:0<k)(h1:∀j∈d,j.oneCell'=true)(M:n<=1000000)(A:bytes<=1000)(p:g<=w)(c:Nat):
 ∃a l f,(Builtin.append_ #[t,t] r #[v,.slice (some (Φ b)) 1 c]).run P w=.ok (.slice (some (Φ a)) (n+1) l) f/\f.ownsRow g e k (.slice (some (Φ a)) (n+1) l) (n+1) (xs++d)/\Below g w f/\Kept w f v.ownBlock/\(v.ownBlock=some a\/a=w):=by
 obtain⟨K,B,H,I,J⟩:=info_parts T.hi;have E:∀i j,d[i]?=some j->w.cell? (((Φ b):Addr).add i)=some j:=λi j G=>by
  rw[Addr.add_lit,Du,y.cell,G]
 have N:(n+1)*bytes<=1000001*1000:=I5 O A;obtain⟨a,l,f,s,u,m,x,L⟩:=run_append_lies (P:=P) w t r g e K z k bytes T.ht B H I J T.hz D v n xs q (Φ b) 1 c d (by rw[o,Nat.one_mul]) E h1 U (by unfold maxLen;omega) O p _ rfl;exact⟨a,l,f,s,u,mZ.grown m p (λk o=>(q.lt k o).1),⟨m.size,λi C F=>m.block i C F⟩,x⟩
def BU{P:Program}{B:Array Oper}{nM:List Oper}{o:Oper}{a:Act}{w:World}{r:Exit->Act->World->Prop}(I:o.guard=none)(s x:Operand)(t:TypeId)
 (M:o.op=.call {callee:=.builtin .append,args:= #[s,x],argTypes:= #[t,t]}){e:TypeId}{z:Value}{k bytes:Nat}(T:IK P t e z k bytes)
 (wr:World)(j:Nat)(v:Value)(n:Nat)(xs g:List Value)(R:a.eval s=v)(y:wr.ownsRow j e k v n xs)(S:w=wr.alloc (.cells g.toArray e))(b c:Nat)(U:a.eval x=.slice (some (Φ b)) 1 c)(F:b=wr)
 (J:g.length=k)(K:0<k)(h1:∀V∈g,V.oneCell'=true)(L:n<=1000000)(H:bytes<=1000)(G:j<=wr)
 (h:∀d f i,i.ownsRow j e k (.slice (some (Φ d)) (n+1) f) (n+1) (xs++g)->Below j wr i->Kept wr i v.ownBlock->(v.ownBlock=some d\/wr<=d)->wpList P B r nM (a.put o.dst (.slice (some (Φ d)) (n+1) f)) i):wpList P B r (o::nM) a w:=by
 refine wpList_plain I λW E=>?_
 subst S F;have l:η wr (wr.alloc (.cells g.toArray e)):=mZ.alloc (Ae _) _;have N:(wr.alloc (.cells g.toArray e)).ownsRow j e k v n xs:=by
  refine⟨y.1,?_⟩;rcases y.2 with h|⟨d,f,C,h1,q,m,p⟩
  ·exact .inl h
  ·exact .inr ⟨d,f,C,h1,q,by rw[l.block d (AL.1 m).1];exact m,p⟩
 obtain⟨d,f,i,Q,q,m,p,D⟩:=fU T o.type N wr (heap_alloc_new wr _) J K h1 L H (by simp;omega) c;unfold Oper.wp execOp;simp only[M,resolve,invoke,builtin,Sem.run_bind,Sem.run_pure,Result.andThen_ok,Jl,Ci,FW,R,U,Q];refine E _ _ (h d f i q ((l.mono G).trans m) ⟨AZ l.size p.1,λA u O=>(p.2 A (Bc u l.size) O).trans (l.block A u)⟩ (D.imp id (λe=>by rw[e];simp)))
def sZ(size:Nat)(h:size<=32):2^size-1<4294967296:=by
 have:2^size<=2^32:=Gm U h;omega
def Ack(low:Nat)(h:low<=31):2^low<=2147483648:=Gm U h
def Al7(x low size:Nat)(c:x<18446744073709551616)(b:size<=32):bits .and .u64 ((x:Int)/2^low) ((2^size-1:Nat):Int)=(fieldN x low size:Nat):=by
 have a:(x:Int)/2^low=((x/2^low:Nat):Int):=by rw[Aqd,JJ];rfl
 have:=sZ size b;rw[a,u64_and_nat _ _ (KF (A40 _ _) c) O,Nat.and_two_pow_sub_one_eq_mod];rfl
def Aq2(x low size v:Nat)(j:x<18446744073709551616)(i:v<18446744073709551616)(g:size<=32)(f:low<=31):
 bits .or .u64 (bits .andNot .u64 (x:Int) (IntKind.u64.wrap (((2^size-1:Nat):Int)*2^low))) (IntKind.u64.wrap (bits .and .u64 (v:Int) ((2^size-1:Nat):Int)*2^low))=(Fa x low size v:Nat):=by
 have k:=sZ size g;have a:=Ack low f;have l:(2^size-1)*2^low<=4294967295*2147483648:=I5 O a;have m:v&&&(2^size-1)<=2^size-1:=Aqe;have n:(v&&&(2^size-1))*2^low<=4294967295*2147483648:=I5 O a;have b:((2^size-1:Nat):Int)*2^low=(((2^size-1)*2^low:Nat):Int):=by rw[Ib,JJ];rfl
 have c:IntKind.u64.wrap (((2^size-1)*2^low:Nat):Int)=(((2^size-1)*2^low:Nat):Int):=by rw[IntKind.wrap_u64];omega
 have d:((v&&&(2^size-1):Nat):Int)*2^low=(((v&&&(2^size-1))*2^low:Nat):Int):=by rw[Ib,JJ];rfl
 have e:IntKind.u64.wrap (((v&&&(2^size-1))*2^low:Nat):Int)=(((v&&&(2^size-1))*2^low:Nat):Int):=by rw[IntKind.wrap_u64];omega
 have o:x&&&(18446744073709551615-(2^size-1)*2^low)<=x:=Aqm;rw[b,c,u64_andNot_nat _ _ j O,u64_and_nat _ _ i O,d,e,u64_or_nat _ _ O O];rfl
def xX(low size:Nat)(w:World)(g:low+size<=64)(b:size<=32):
 Calls prog 173 #[low,size] w λe c=>e=.returned (.tuple #[low,.int .u64 ((2^size-1:Nat):Int)])/\Dr w c:=by
 have f:=sZ size b;have i:0<2^size:=Wl U;have a:((2^size:Nat):Int)=(2:Int)^size:=by rw[JJ];rfl
 have d:IntKind.u64.wrap (IntKind.u64.wrap ((2:Int)^size) -1)=((2^size-1:Nat):Int):=by
  rw[IntKind.wrap_u64,IntKind.wrap_u64,<-a];omega
 go_in;go_wp2_with fail;go_quiet(fail);go_wp2;go_ret2;exact⟨by simp;omega,_,rfl⟩
def V4(x low size:Nat)(w:World)(f:x<18446744073709551616)(d:low+size<=64)(a:size<=32):
 Calls prog 129 #[.int .u64 (x:Int),low,size] w λe b=>e=.returned (.int .u64 (fieldN x low size:Nat))/\Dr w b:=by
 have c:=Ac (Al7 x low size f a);go_in;go_wp2_with(refine(xX low size w d a).mono ?_;rintro e b⟨rfl,g,rfl⟩);rw[c.out];go_ret;exact⟨rfl,_,rfl⟩
def UN(x low size v:Nat)(w:World)(d:x<18446744073709551616)(c:v<18446744073709551616)(f:low+size<=31):
 Calls prog 130 #[.int .u64 (x:Int),low,size,.int .u64 (v:Int)] w λe a=>e=.returned (.int .u64 (Fa x low size v:Nat))/\Dr w a:=by
 have b:=Ac (Aq2 x low size v d c O O);go_in;go_wp2_with(refine(xX low size w O O).mono ?_;rintro e a⟨rfl,g,rfl⟩);go_quiet(fail);go_wp2_with fail;rw[b.out];go_ret;exact⟨rfl,Dr.two _ _ _⟩
def oC(x low size:Nat):fieldN x low size<2^size:=MH _ (Wl U)
def fV(x:Nat):Ew x<4:=oC x 16 2
def Ah3(x:Nat):LU x<65536:=oC x 0 16
def Kt(c:Nat):BG c<=16:=by unfold BG;split<;>omega
def oD(c:Nat):Bq c<=4:=by unfold Bq;split<;>omega
def Sr(x low size v:Nat)(d:x<18446744073709551616)(g:low+size<=64):Fa x low size v<18446744073709551616:=by
 unfold Fa;have b:x&&&(rZ-(2^size-1)*2^low)<2^64:=KF Aqm d;have c:(v&&&(2^size-1))*2^low<2^64:=by
  have e:v&&&(2^size-1)<=2^size-1:=Aqe;have f:0<2^size:=Wl U;have a:(v&&&(2^size-1))*2^low<2^size*2^low:=Nat.mul_lt_mul_of_pos_right O (Wl U);rw[<-Nat.pow_add]at a;exact Bc a (Gm U O)
 exact Nat.or_lt_two_pow b c
def Ik(c:Nat)(w:World)(f:c<1000000):Calls prog 127 #[c] w λe d=>e=.returned (.int .i64 (BG c:Nat))/\w=d:=by
 by_cases a:c=1
 ·subst a;go_in;go_wp2;go_ret;exact⟨rfl,rfl⟩
 ·by_cases b:c=2
  ·subst b;go_in;go_wp2;go_ret;exact⟨rfl,rfl⟩
  ·have t1:((c:Int)==1)=false:=ζ O;have t2:((c:Int)==2)=false:=ζ O;have e:BG c=0:=by unfold BG;split<;>first|omega|rfl
   rw[e];go_in;go_wp2;go_ret;exact⟨rfl,rfl⟩
def Rw(c:Nat)(w:World)(f:c<1000000):Calls prog 192 #[c] w λe d=>e=.returned (.int .i64 (Bq c:Nat))/\w=d:=by
 by_cases a:c=1
 ·subst a;go_in;go_wp2;go_ret;exact⟨rfl,rfl⟩
 ·by_cases b:c=2
  ·subst b;go_in;go_wp2;go_ret;exact⟨rfl,rfl⟩
  ·have t1:((c:Int)==1)=false:=ζ O;have t2:((c:Int)==2)=false:=ζ O;have e:Bq c=0:=by unfold Bq;split<;>first|omega|rfl
   rw[e];go_in;go_wp2;go_ret;exact⟨rfl,rfl⟩
def XY(x:Nat)(w:World)(d:x<18446744073709551616):Calls prog 128 #[.int .u64 (x:Int)] w λe b=>e=.returned (.int .i64 (Ew x:Nat))/\Dr w b:=by
 have a:=Dr.refl w;have g:=fV x;have f:IntKind.i64.wrap (Ew x:Int)=(Ew x:Int):=by rw[IntKind.wrap_i64];omega
 go_in;go_wp2_with(refine(V4 x 16 2 _ d U U).mono ?_;rintro e b⟨rfl,c⟩;replace a:=a.trans c;rw[show fieldN x 16 2=Ew x from rfl]);go_ret;exact⟨rfl,a⟩
def oG(x:Nat)(w:World)(d:x<18446744073709551616):Calls prog 195 #[.int .u64 (x:Int)] w λe b=>e=.returned (.int .u64 (LU x:Nat))/\Dr w b:=by
 have a:=Dr.refl w;go_in;go_wp2_with(refine(V4 x 0 16 _ d U U).mono ?_;rintro e b⟨rfl,c⟩;replace a:=a.trans c;rw[show fieldN x 0 16=LU x from rfl]);go_ret;exact⟨rfl,a⟩
def Xb(x:Nat)(w:World)(g:x<18446744073709551616):Calls prog 88 #[.int .u64 (x:Int)] w λe c=>e=.returned (.bool (Hw x))/\Dr w c:=by
 have a:=Dr.refl w;have t:=fV x;have s:=Kt (Ew x);by_cases k:x=0
 ·subst k;rw[show Hw 0=true from rfl];go_in;go_wp2;go_ret;exact⟨rfl,a⟩
 ·have t0:((x:Int)==0)=false:=ζ O;have i:=Ac (λd=>V4 x 0 (BG (Ew x)) d g O O);have r:=Sr x 0 (BG (Ew x)) 0 g O;have m:=Ac (λd=>UN x 0 (BG (Ew x)) 0 d g U O);have n:=Ac (λd=>UN (Fa x 0 (BG (Ew x)) 0) 16 2 0 d r U U);by_cases f:fieldN x 0 (BG (Ew x))=0
  ·have j:Hid (Hw x=false):=Ac (by simp[Hw,k,f]);have t1:(((fieldN x 0 (BG (Ew x)):Nat):Int)!=0)=false:=by rw[f];rfl
   generalize fieldN x 0 (BG (Ew x))=q at i t1;clear f;go_in;go_wp2_with fail;refine(XY x _ g).mono ?_;rintro e c⟨rfl,b⟩;replace a:=a.trans b;go_wp2_with fail;refine(Ik (Ew x) _ O).ro ?_;go_wp2_with fail;refine(i _).mono ?_;rintro e c⟨rfl,b⟩;replace a:=a.trans b;go_wp2_with fail;rw[j.out];go_ret;exact⟨rfl,a⟩
  ·have j:Hid (Hw x=(Fa (Fa x 0 (BG (Ew x)) 0) 16 2 0==0)):=Ac (by
    have o:(x==0)=false:=ζ k;have p:(fieldN x 0 (BG (Ew x))!=0)=true:=by rw[bne_iff_ne];exact f
    rw[Hw,o,p];rfl)
   have t1:(((fieldN x 0 (BG (Ew x)):Nat):Int)!=0)=true:=by rw[bne_iff_ne];omega
   have l:Hid ((((Fa (Fa x 0 (BG (Ew x)) 0) 16 2 0:Nat):Int)==0)=(Fa (Fa x 0 (BG (Ew x)) 0) 16 2 0==0)):=Ac (by
    rw[Bool.eq_iff_iff,beq_iff_eq,beq_iff_eq];omega)
   generalize fieldN x 0 (BG (Ew x))=q at i t1;clear f;go_in;go_wp2_with fail;refine(XY x _ g).mono ?_;rintro e c⟨rfl,b⟩;replace a:=a.trans b;go_wp2_with fail;refine(Ik (Ew x) _ O).ro ?_;go_wp2_with fail;refine(i _).mono ?_;rintro e c⟨rfl,b⟩;replace a:=a.trans b;go_wp2_with fail;refine(m _).mono ?_;rintro e c⟨rfl,b⟩;replace a:=a.trans b;go_wp2_with fail;refine(n _).mono ?_;rintro e c⟨rfl,b⟩;replace a:=a.trans b;go_wp2_with fail;rw[j.out,l.out];go_ret;exact⟨rfl,a⟩
def PS(x:Nat):Bj x<4:=by unfold Bj;split;exact fV x;decide
def IL(x:Nat)(w:World)(g:x<18446744073709551616):Calls prog 146 #[.int .u64 (x:Int)] w λe f=>e=.returned (.int .i64 (Bj x:Nat))/\Dr w f:=by
 have a:=Dr.refl w;have d:=Ac (λi=>Xb x i g);cases b:Hw x
 ·rw[show Bj x=0 by simp[Bj,b]];rw[b]at d;clear b;go_in;go_wp2_with(refine(d.out _).mono ?_;rintro e f⟨rfl,c⟩;replace a:=a.trans c);go_ret;exact⟨rfl,a⟩
 ·rw[show Bj x=Ew x by simp[Bj,b]];rw[b]at d;clear b;go_in;go_wp2_with(first|(refine(d.out _).mono ?_;rintro e f⟨rfl,c⟩;replace a:=a.trans c)|(refine(XY x _ g).mono ?_;rintro e f⟨rfl,c⟩;replace a:=a.trans c));go_ret;exact⟨rfl,a⟩
def UO(x a:Nat)(w:World)(f:x<18446744073709551616)(l:a<1000000):Calls prog 176 #[.int .u64 (x:Int),a] w λe d=>e=.returned (.bool (Fj x a))/\Dr w d:=by
 have b:=Dr.refl w;have n:=PS x;have m:=Kt (Bj x);by_cases g:a<BG (Bj x)
 ·have i:=Ac (λk=>V4 x a 1 k f O O);have t1:=dT ((a:Int)<((BG (Bj x):Nat):Int));have j:Hid ((((fieldN x a 1:Nat):Int)==1)=Fj x a):=Ac (by
   rw[Bool.eq_iff_iff,beq_iff_eq];simp[Fj,g];omega)
  go_in;go_wp2_with(first|(refine(IL x _ f).mono ?_;rintro e d⟨rfl,c⟩;replace b:=b.trans c)|(refine(Ik (Bj x) _ O).ro ?_)|(refine(i _).mono ?_;rintro e d⟨rfl,c⟩;replace b:=b.trans c));rw[j.out];go_ret;exact⟨rfl,b⟩
 ·have t1:=dF ((a:Int)<((BG (Bj x):Nat):Int));rw[show Fj x a=false by simp[Fj,g]];go_in;go_wp2_with(first|(refine(IL x _ f).mono ?_;rintro e d⟨rfl,c⟩;replace b:=b.trans c)|(refine(Ik (Bj x) _ O).ro ?_));go_ret;exact⟨rfl,b⟩
def EU(a:World)(r:Nat)(b:Array MapEntry)(c:Nat):World:={a with heap:=a.heap.setIfInBounds r (.map b c)}
def ak(a:World)(r:Nat)(b:Array MapEntry)(c:Nat):(EU a r b c).heap.size=a:=by simp[EU]
def PT(a:World)(r:Nat)(b:Array MapEntry)(c:Nat)(h:r<a):(EU a r b c).heap[r]?=some (.map b c):=by simp[EU,h]
def KP(a:World)(r:Nat)(b:Array MapEntry)(c:Nat):Touch (·=r) a (EU a r b c):=
 ⟨rfl,rfl,rfl,by simp[EU],λg f d=>by
  simp only[EU];rw[Bh,lg (λe=>d e.symm)]⟩
def Oe{P:Program}{w:World}{r:Nat}{a:Array MapEntry}{c:Nat}(b:w.heap[r]?=some (.map a c)):(getObj r).run P w=.ok (.map a c) w:=by simp[getObj,Sem.run,b]
def Xc{P:Program}{w:World}{r:Nat}{a:Array MapEntry}{c:Nat}(o:Obj)(b:w.heap[r]?=some (.map a c)):(setObj r o).run P w=.ok () {w with heap:=w.heap.setIfInBounds r o}:=by simp[setObj,Sem.run,b]
def run_makeMap{P:Program}(t:TypeId)(w:World):(Instr.makeMap t none).run P w=.ok (.map (some w)) (w.alloc (.map #[] 0)):=by
 simp[Instr.makeMap,Result.andThen]
def KQ{P:Program}{a:TypeId}{c:IntKind}(d:P.underlying a=some (.int c))(b:Bool)(n:Nat)(q:IntKind)(k:Int)(w:World):(Instr.checkKey b (n+1) a (.int q k)).run P w=.ok () w:=by
 simp[Instr.checkKey,run_underlying d,Result.andThen]
def dH{P:Program}{t f g:TypeId}{a:IntKind}(p:P.underlying t=some (.map f g))(e:P.underlying f=some (.int a))(b:World)(r:Nat)(d:Array MapEntry)(c:Nat)(k:Int)(v:Value)
 (h:b.heap[r]?=some (.map d c))(o:Instr.findNow (.int a) (.int a k) d.toList 0=some none):
 (Instr.mapUpdate t (.map (some r)) (.int a k) v).run P b=.ok () (EU b r (d.push {key:=.int a k,val:=v,born:=c}) (c+1)):=by
 have i:=run_underlying (P:=P) p;have j:=run_underlying (P:=P) e;have l:=λs=>KQ (P:=P) e false 9999 a k s
 have m:=Oe (P:=P) h;have n:=λq=>Xc (P:=P) q h
 simp[Instr.mapUpdate,i,j,l,m,n,Instr.findKey,o,EU,Result.andThen]
def Ql{P:Program}{t f j:TypeId}{a:IntKind}(q:P.underlying t=some (.map f j))(e:P.underlying f=some (.int a))(b:World)(r:Nat)(d:Array MapEntry)(c:Nat)(k:Int)(i:Nat)(v:Value)
 (h:b.heap[r]?=some (.map d c))(p:Instr.findNow (.int a) (.int a k) d.toList 0=some (some (i,v))):
 (Instr.lookup t (.map (some r)) (.int a k) false).run P b=.ok v b:=by
 have l:=run_underlying (P:=P) q;have m:=run_underlying (P:=P) e;have n:=λg s=>KQ (P:=P) e g 9999 a k s
 have o:=Oe (P:=P) h;simp[Instr.lookup,l,m,n,o,Instr.findKey,p,Result.andThen]
def Aq3(w:World):Prop:=∀a,a<16->w.cell? (Δ 0 a)=some (.int .u32 (NU.getD a 0:Nat))
def Al8(j:Nat):NU.getD j 0<4294967296:=by
 rcases JO j 16 with h|h
 ·have b:∀a:Fin 16,NU.getD a.val 0<4294967296:=by decide
  exact b ⟨j,h⟩
 ·rw[List.getD_eq_getElem?_getD,FO (by simpa[NU]using h)];decide
def Aga(y:Nat)(hy:y<4294967296):bits .and .u32 (y:Int) 15=((y%16:Nat):Int):=by
 rw[show(15:Int)=((15:Nat):Int)from rfl,u32_and_nat _ _ hy U,nat_mask4]
def Agb(y:Nat)(hy:y<4294967296):bits .xor .u32 ((y:Int)/16) ((NU.getD (y%16) 0:Nat):Int)=(TD y:Nat):=by
 rw[show(y:Int)/16=((y/16:Nat):Int)by omega,u32_xor_nat _ _ O (Al8 _)];rfl
def xY(b:Nat)(A:Option Addr)(n c:Nat)(l:List nC)(w:World)(p:b<4294967296)(N:n<=1000000)(h:Bs w A n l)(o:Aq3 w):
 Calls prog 84 #[.int .u32 (b:Int),.slice A n c] w λe x=>e=.returned (.int .u32 (Oz b l:Nat))/\w=x:=by
 have v:=h.len;have H:bits .xor .u32 IntKind.u32.max (b:Int)=((Sl b l 0:Nat):Int):=by
  rw[show IntKind.u32.max=((4294967295:Nat):Int)from rfl,u32_xor_nat _ _ U p,fC,Axq]
 have s:=Ac h;clear h;go_in;go_wp2_with fail;go_loop [5,12](λd k=>∃a:Nat,a<=n/\k=.int .i64 a/\d=.int .u32 ((Sl b l a:Nat):Int))(λ_ k=>n-(intOf k).toNat)
 case atStart=>exact⟨0,Bd _,rfl,rfl⟩
 case round=>
  obtain⟨a,M,rfl,rfl⟩:=hrel;have i:=fE b l p a O;by_cases g:a<n
  ·obtain⟨u,f,P,rfl,J,K⟩:=s.at g;have L:l[a].toNat<256:=UInt8.toNat_lt _;have t:=Ac (fD b l a u);generalize Sl b l a=d at*;generalize l[a].toNat=f at*;have j:d^^^f<4294967296:=YK (n:=32) i O;have y:bits .xor .u32 (d:Int) (f:Int)=((d^^^f:Nat):Int):=u32_xor_nat _ _ i O;have B:=Aga _ j;have C:=Agb _ j;have F:=o ((d^^^f)%16) (MH _ U);have r:Hid (Vy d f=TD (TD (d^^^f))):=Ac rfl;generalize d^^^f=m at*;have q:=WV m j;generalize TD m=z at*;have D:=Aga _ q;have E:=Agb _ q;have G:=o (z%16) (MH _ U);generalize NU.getD (m%16) 0=f1 at*;generalize NU.getD (z%16) 0=f2 at*;go_wp2
   trace_state
   go_round
   case rel=>exact⟨a+1,O,by go_num,by rw[t.out,r.out]⟩
   case measure=>simp[intOf];omega
  ·have g:a=n:=O;subst g;have I:bits .xor .u32 IntKind.u32.max ((Sl b l a:Nat):Int)=(Oz b l:Nat):=by
    rw[show IntKind.u32.max=((4294967295:Nat):Int)from rfl,u32_xor_nat _ _ U i,Axq,<-v,Ahw]
   go_wp2;go_ret;exact⟨rfl,rfl⟩
def Acl(A:Option Addr)(n c:Nat)(l:List nC)(w:World)(d:n<=1000000)(h:Bs w A n l)(b:Aq3 w):
 Calls prog 44 #[.slice A n c] w λe f=>e=.returned (.int .u32 (Oz 0 l:Nat))/\w=f:=by
 have a:=Ac (xY 0 A n c l w U d h b);go_in;go_wp2_with(refine a.out.ro ?_);go_ret;exact⟨rfl,rfl⟩
def PH{P:Program}{D:Array Oper}{o:Oper}{a:Act}{w:World}{K:Act->World->Prop}{F:Exit->Act->World->Prop}{E:Prop}(L:o.guard=none)(s x:Operand)(t:TypeId)
 (R:o.op=.call {callee:=.builtin .append,args:= #[s,x],argTypes:= #[t,t]}){e:TypeId}{z:Value}{k bytes:Nat}(T:IK P t e z k bytes)
 (wr:World)(i:Nat)(v:Value)(n:Nat)(xs j:List Value)(Y:a.eval s=v)(B:wr.ownsRow i e k v n xs)(q:w.heap=wr.heap.push (.cells j.toArray e))
 (S:w.os=wr.os)(Z:w.tape=wr.tape)(U:w.output=wr.output)(r c:Nat)(ab:a.eval x=.slice (some (Φ r)) 1 c)(M:wr=r)
 (A:j.length=k)(N:0<k)(h1:∀ac∈j,ac.oneCell'=true)(Q:n<=1000000)(J:bytes<=1000)(u:i<=wr)
 (h:∀b f g,g.ownsRow i e k (.slice (some (Φ b)) (n+1) f) (n+1) (xs++j)->Below i wr g->Kept wr g v.ownBlock->(v.ownBlock=some b\/wr<=b)->K (a.put o.dst (.slice (some (Φ b)) (n+1) f)) g):
 if Region.wanted o (yielded D a.tmps)=true then Oper.wp P o a w K F else E:=by
 have aa:Region.wanted o (yielded D a.tmps)=true:=by simp[Region.wanted,L]
 rw[kX aa];subst M;have d:η wr w:=⟨S,Z,U,by rw[q];simp,λk A=>by rw[q,Ff,lg O]⟩;have V:w.ownsRow i e k v n xs:=by
  refine⟨B.1,?_⟩;rcases B.2 with h|⟨b,f,G,h1,p,l,m⟩
  ·exact .inl h
  ·exact .inr ⟨b,f,G,h1,p,by rw[d.block b (AL.1 l).1];exact l,m⟩
 have I:Cm w wr e j:=by unfold Cm;rw[q,Ff,kX rfl]
 obtain⟨b,f,g,X,p,l,m,H⟩:=fU T o.type V wr I A N h1 Q J (AZ u d.size) c;unfold Oper.wp execOp;simp only[R,resolve,invoke,builtin,Sem.run_bind,Sem.run_pure,Result.andThen_ok,Jl,Ci,FW,Y,ab,X];exact h b f g p ((d.mono u).trans l) ⟨AZ d.size m.1,λC y W=>(m.2 C (Bc y d.size) W).trans (d.block C y)⟩ (H.imp id (λe=>by rw[e];exact d.size))
def Agc(w w':World)(e:TypeId)(A b:Option Addr)(m:Nat):Prop:=(b=A/\m=0)\/∃a c,b=some (Φ a)/\w<=a/\w'.heap[a]?=some (.cells c e (0,0))
def Acm{P:Program}{t e:TypeId}{z:Value}{bytes:Nat}(T:OA P t e z bytes)(D:TypeId){w:World}{A:Option Addr}{n:Nat}{xs q:List Value}(s:Rd w A n xs)(S:∀u,A=some u->∃k,u=Φ k)(K:A=none->n=0)
 {B:Option Addr}{m:Nat}(p:Rd w B m q)(h1:∀d∈q,d.oneCell'=true)(X:n+m<=1000000)(J:bytes<=64)(c:Nat):
 ∃i r g,(Builtin.append_ #[t,t] D #[.slice A n n,.slice B m c]).run P w=.ok (.slice i (n+m) r) g/\n+m<=r/\Rd g i (n+m) (xs++q)/\η w g/\Agc w g e A i m:=by
 obtain⟨L,C,aa,ab,ac⟩:=info_parts T.hi;rcases B with _|E
 ·have f:m=0:=by
   rcases I4 m with f|f
   ·exact f
   ·obtain⟨_,_,e,_⟩:=p.2 f;cases e
  subst f;have o:q=[]:=Cj p.1;subst o;refine⟨A,n,w,?_,Ae _,by simpa using s,mZ,.inl ⟨rfl,rfl⟩⟩;rcases A with _|u
  ·have o:=K rfl;subst o;simp[Builtin.append_,run_underlying T.ht,sizeOf,typeInfo,C,Builtin.lenOf,Builtin.firstCells]
  ·simp[Builtin.append_,run_underlying T.ht,sizeOf,typeInfo,C,Builtin.lenOf,Builtin.firstCells,storeCells]
 ·have V:∀b d,q[b]?=some d->w.cell? (E.add b)=some d:=by
   intro b d y;have H:b<m:=by
    have:=(Cf.1 y).1;have:=p.1;omega
   obtain⟨M,ad,e,_,l⟩:=p.2 O;injection e with e
   subst e;rw[Addr.add_lit,l b H,y]
  rcases A with _|u
  ·have o:=K rfl;subst o;have Z:xs=[]:=Cj s.1;subst Z;obtain⟨ae,g,x,v,G,ah⟩:=Xa T D (Ce w w e 1) p h1 O J (Ae _) c;obtain⟨i,r,rfl,l,I⟩:=CY v;refine⟨i,r,g,x,l,I,G,?_⟩;rcases v.2 with⟨a,j⟩|⟨k,N,Q,a,j,F,_⟩
   ·simp only[Value.slice.injEq]at a;exact .inl ⟨a.1,O⟩
   ·simp only[Value.slice.injEq]at a;exact .inr ⟨k,_,a.1,j,F⟩
  ·obtain⟨k,rfl⟩:=S u rfl;rcases I4 m with f|f
   ·subst f;have o:q=[]:=Cj p.1;subst o;have x:=run_append_room_cells (P:=P) w t D e L T.ht C k 0 n n E 0 c [] Θ Θ Θ O Θ Θ;exact⟨_,n,w,x,Ae _,by simpa using s,mZ,.inl ⟨rfl,rfl⟩⟩
   ·have Y:∀b d,xs[b]?=some d->w.cell? (((Φ k):Addr).add b)=some d:=by
     intro b d y;have H:b<n:=by
      have:=(Cf.1 y).1;have:=s.1;omega
     obtain⟨M,ad,e,_,l⟩:=s.2 O;injection e with e
     injection e with a j
     subst a j;rw[Addr.add_lit,l b H,y]
    have al:(n+m)*bytes<=1000000*64:=I5 X J;obtain⟨ae,g,x,v,G⟩:=run_append_arg_grows (P:=P) w t D e L z 1 bytes T.ht C aa ab ac T.hz U (Φ k) n n xs (Ω s.1) Y E m c q (Ω p.1) V O (by unfold maxLen;omega) O;obtain⟨i,r,rfl,l,I⟩:=CY v;refine⟨i,r,g,x,l,I,mZ.grown G (Ae _) (λam W=>nomatch W),?_⟩;rcases v.2 with⟨a,j⟩|⟨R,N,Q,a,j,F,_⟩
    ·omega
    ·simp only[Value.slice.injEq]at a;exact .inr ⟨R,_,a.1,j,F⟩
def Ns{P:Program}{i:Array Oper}{o:Oper}{a:Act}{w:World}{K:Act->World->Prop}{k:Exit->Act->World->Prop}{j:Prop}(D:o.guard=none)(s x:Operand)(t:TypeId)
 (G:o.op=.call {callee:=.builtin .append,args:= #[s,x],argTypes:= #[t,t]}){e:TypeId}{z:Value}{bytes:Nat}(T:OA P t e z bytes)
 (A:Option Addr)(n:Nat)(xs:List Value)(J:a.eval s=.slice A n n)(v:Rd w A n xs)(y:∀a,A=some a->∃l,a=Φ l)(F:A=none->n=0)
 (B:Option Addr)(m c:Nat)(g:List Value)(M:a.eval x=.slice B m c)(H:Rd w B m g)(h1:∀N∈g,N.oneCell'=true)(E:n+m<=1000000)(C:bytes<=64)
 (h:∀d f b,n+m<=f->Rd b d (n+m) (xs++g)->η w b->Agc w b e A d m->K (a.put o.dst (.slice d (n+m) f)) b):
 if Region.wanted o (yielded i a.tmps)=true then Oper.wp P o a w K k else j:=by
 have L:Region.wanted o (yielded i a.tmps)=true:=by simp[Region.wanted,D]
 rw[kX L];obtain⟨d,f,b,I,p,q,r,u⟩:=Acm T o.type v y F H h1 E C c;unfold Oper.wp execOp;simp only[G,resolve,invoke,builtin,Sem.run_bind,Sem.run_pure,Result.andThen_ok,Jl,Ci,FW,J,M,I];exact h d f b p q r u
def Wx{P:Program}{S:Array Oper}{o:Oper}{a:Act}{w:World}{K:Act->World->Prop}{q:Exit->Act->World->Prop}{p:Prop}(F:o.guard=none)(s x:Operand)(t:TypeId)
 (J:o.op=.call {callee:=.builtin .append,args:= #[s,x],argTypes:= #[t,t]}){e:TypeId}{z:Value}{bytes:Nat}(T:OA P t e z bytes)
 (wr:World)(A:Option Addr)(n:Nat)(xs:List Value)(N:a.eval s=.slice A n n)(B:Rd wr A n xs)(C:∀a,A=some a->∃g,a=Φ g)(I:A=none->n=0)
 (u:Value)(k:w.heap=wr.heap.push (.cells #[u] e))(L:w.os=wr.os)(Q:w.tape=wr.tape)(M:w.output=wr.output)(l c:Nat)(R:a.eval x=.slice (some (Φ l)) 1 c)(G:wr=l)
 (h1:u.oneCell'=true)(H:n+1<=1000000)(E:bytes<=64)
 (h:∀d f b,n+1<=f->Rd b d (n+1) (xs++[u])->η wr b->Agc wr b e A d 1->K (a.put o.dst (.slice d (n+1) f)) b):
 if Region.wanted o (yielded S a.tmps)=true then Oper.wp P o a w K q else p:=by
 subst G;have j:η wr w:=⟨L,Q,M,by rw[k];simp,λZ Y=>by rw[k,Ff,lg O]⟩;have D:Cm w wr e [u]:=by unfold Cm;rw[k,Ff,kX rfl]
 refine Ns F s x t J T A n xs N (Rd.below B j) C I (some (Φ wr)) 1 c [u] R D.rd (λaa m=>by rw[List.mem_singleton]at m;exact m▸h1) H E ?_;intro d f b U V W X;refine h d f b U V (τ j W) ?_;rcases X with i|⟨g,r,i,v,y⟩
 ·exact .inl i
 ·exact .inr ⟨g,r,i,AZ j.size v,y⟩
def fZ{P:Program}{t e:TypeId}{z:Value}{k bytes:Nat}(T:IK P t e z k bytes)(x:0<k)(B:TypeId){w:World}{d:Nat}{v:Value}{n:Nat}{xs a:List Value}
 (l:w.ownsRow d e k v n xs){A:Option Addr}{m:Nat}(g:Rd w A (m*k) a)
 (h1:∀j∈a,j.oneCell'=true)(H:n+m<=1000000)(D:bytes<=1000)(u:d<=w)(c:Nat):
 ∃o b,(Builtin.append_ #[t,t] B #[v,.slice A m c]).run P w=.ok o b/\b.ownsRow d e k o (n+m) (xs++a)/\Below d w b/\Kept w b v.ownBlock:=by
 obtain⟨R,q,M,N,Q⟩:=info_parts T.hi;rcases A with _|s
 ·have f:m=0:=by
   rcases I4 m with f|f
   ·exact f
   ·obtain⟨_,_,e,_⟩:=g.2 (Nat.mul_pos f x);cases e
  subst f;have I:a=[]:=Cj (Ω g.1);subst I;refine⟨v,w,?_,by simpa using l,mZ,Kept.refl _ _⟩;rcases l.2 with⟨rfl,rfl⟩|⟨W,U,V,rfl,_,_,J,_⟩
  ·simp[Builtin.append_,run_underlying T.ht,sizeOf,typeInfo,q,Builtin.lenOf,Builtin.firstCells]
  ·simp[Builtin.append_,run_underlying T.ht,sizeOf,typeInfo,q,Builtin.lenOf,Builtin.firstCells,J,storeCells]
 ·have F:∀i j,a[i]?=some j->w.cell? (s.add i)=some j:=by
   intro i j y;have G:i<m*k:=by
    have:=(Cf.1 y).1;have:=g.1;omega
   obtain⟨S,Y,e,_,E⟩:=g.2 O;injection e with e
   subst e;rw[Addr.add_lit,E i G,y]
  have X:(n+m)*bytes<=1000000*1000:=I5 H D;obtain⟨o,b,L,C,p,_⟩:=run_append_own (P:=P) w d t B e R z k bytes T.ht q M N Q T.hz x v n xs l s m c a g.1 F h1
   (by unfold maxLen;omega) O u
  exact⟨o,b,L,C,mZ.grown p u (λk r=>(l.lt k r).1),p.size,λk r K=>p.block k r (λh=>K h)⟩
def Fq{P:Program}{j:Array Oper}{nM:List Oper}{o:Oper}{a:Act}{w:World}{i:Exit->Act->World->Prop}(B:o.guard=none)(s x:Operand)(t:TypeId)
 (E:o.op=.call {callee:=.builtin .append,args:= #[s,x],argTypes:= #[t,t]}){e:TypeId}{z:Value}{k bytes:Nat}(T:IK P t e z k bytes)(C:0<k)
 (d:Nat)(v:Value)(n:Nat)(xs:List Value)(I:a.eval s=v)(F:w.ownsRow d e k v n xs)(A:Option Addr)(m c:Nat)(g:List Value)(J:a.eval x=.slice A m c)(G:Rd w A (m*k) g)
 (h1:∀K∈g,K.oneCell'=true)(D:n+m<=1000000)(y:bytes<=1000)(u:d<=w)
 (h:∀f b,b.ownsRow d e k f (n+m) (xs++g)->Below d w b->Kept w b v.ownBlock->wpList P j i nM (a.put o.dst f) b):wpList P j i (o::nM) a w:=by
 refine wpList_plain B λL r=>?_
 obtain⟨f,b,H,l,p,q⟩:=fZ T C o.type F G h1 D y u c;unfold Oper.wp execOp;simp only[E,resolve,invoke,builtin,Sem.run_bind,Sem.run_pure,Result.andThen_ok,Jl,Ci,FW,I,J,H];exact r _ _ (h f b l p q)
def xZ{P:Program}{o:Oper}{a:Act}{w:World}{K:Act->World->Prop}{i:Exit->Act->World->Prop}(s x:Operand)(t:TypeId)
 (B:o.op=.call {callee:=.builtin .append,args:= #[s,x],argTypes:= #[t,t]}){e:TypeId}{z:Value}{k bytes:Nat}(T:IK P t e z k bytes)(u:0<k)
 (d:Nat)(v:Value)(n:Nat)(xs:List Value)(F:a.eval s=v)(C:w.ownsRow d e k v n xs)(A:Option Addr)(m c:Nat)(g:List Value)(G:a.eval x=.slice A m c)(D:Rd w A (m*k) g)
 (h1:∀H∈g,H.oneCell'=true)(y:n+m<=1000000)(r:bytes<=1000)(q:d<=w)
 (h:∀f b,b.ownsRow d e k f (n+m) (xs++g)->Below d w b->Kept w b v.ownBlock->K (a.put o.dst f) b):
 Oper.wp P o a w K i:=by
 obtain⟨f,b,E,j,l,p⟩:=fZ T u o.type C D h1 y r q c;unfold Oper.wp execOp;simp only[B,resolve,invoke,builtin,Sem.run_bind,Sem.run_pure,Result.andThen_ok,Jl,Ci,FW,F,G,E];exact h f b j l p
