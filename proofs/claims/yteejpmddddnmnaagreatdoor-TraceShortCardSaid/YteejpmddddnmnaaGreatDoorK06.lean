import Derived.RangeFuncNested
import Derived.RangeFuncBound
import Derived.Shelf.RegionOpen
import Derived.OwnWalkIn
import Derived.LoopNIn
import Derived.LoopIn
import Derived.Test.YteejpmddddnmnaaGreatDoorK05
set_option linter.defProp false
set_option maxHeartbeats 32000000
set_option maxRecDepth 100000
open Nat renaming mul_comm->KD,testBit_two_pow_mul->wZ,testBit_two_pow_sub_one->lZ,lt_pow_two_of_testBit->rU,testBit_and->Aqo,lt_or_ge->JO,testBit_lt_two_pow->Abt,lt_of_lt_of_le->Bc,pow_le_pow_right->Gm,testBit_or->NK,add_zero->Axt,mod_lt->MH,zero_testBit->Lp,zero_add->Du,eq_of_testBit_eq->Aft,lt_trans->Axu,min_eq_left->EI,add_sub_cancel->YM,le_refl->Ae,mul_le_mul_left->XD,mul_add->Afu,mul_one->NJ,mul_assoc->PO,lt_trichotomy->Alp,succ_eq_add_one->Ahk
open UInt64 renaming toNat_ofNat_of_lt'->Gq,size->JU,ofNat->Az,toNat_inj->Eb
open List renaming mem_cons->Cb,mem_map->CU,map_cons->Ci,getElem?_set->H9,eq_nil_of_length_eq_zero->Cj,all_eq_true->ED,getElem_of_mem->CW,getElem?_take->Dh,getElem?_drop->DX,getElem?_append_right->Ez,length_cons->Bg,length_nil->CV,getD->XC,getElem_mem->BO,getElem_cons_succ->Ak,append_assoc->Ba,getElem?_append_left->DK,getElem?_eq_getElem->Ag,take_append_drop->DY,length_take->Cc,getElem?_cons_succ->Ai,mem_append->AP,getElem?_cons_zero->Af,length_append->AO,prefix_refl->Alo,nil_append->DR,cons_append->BM,find?_some->dX,getD_eq_getElem?_getD->Bv,mem_of_find?_eq_some->nZ,mem_range->GH,length_set->Di,map_congr_left->Afv,mem_cons_self->Bf,mem_cons_of_mem->Bi,mem_singleton->BB,pairwise_append->WL,nodup_append->DF,mem_append_left->BK,mem_append_right->BA,map_append->CJ,length_drop->AU,drop_eq_getElem_cons->BX,map_nil->FW,take_length->I7,perm_middle->Alq
open Option renaming getD_some->RV
open Go.Value renaming ownBlock->AY
open Go.Lib renaming hid->Ac
open Go.World renaming cell?_of_block->BQ
open Int renaming toNat_natCast->BC,ofNat->Gt
open Go.Value renaming slice->fM,int->gz,tuple->iJ
open Go.Ending renaming returned->iO
open Go.IntKind renaming i64->iU,u64->iV
open Option renaming some->jm
open Bool renaming true->jO,false->jS
open Go renaming World->jT,Value->ku
namespace Go.Proofs.YteejpmddddnmnaaGreatDoor
open Go.Proofs.Tryz
section
def OM(n low size v i:Nat)(h:low+size<=64)(p:n<2^64):(Fa n low size v).testBit i=if low<=i/\i<low+size then v.testBit (i-low)else n.testBit i:=by
 have f:∀j,((2^size-1)*2^low).testBit j=(decide (low<=j)&&decide (j-low<size)):=λj=>by
  rw[KD,wZ,lZ]
 have l:(2^size-1)*2^low<2^64:=by
  refine rU _ λj q=>?_
  rw[f j];simp;omega
 have m:(rZ-(2^size-1)*2^low).testBit i=(decide (i<64)&& !((2^size-1)*2^low).testBit i):=by
  rw[<-Nat.testBit_two_pow_sub_succ l];unfold rZ;congr 1;omega
 have o:((v&&&(2^size-1))*2^low).testBit i=(decide (low<=i)&&(v.testBit (i-low)&&decide (i-low<size))):=by
  rw[KD,wZ,Aqo,lZ]
 have g:n.testBit i=jO->i<64:=λk=>by
  rcases JO i 64 with a|a
  ·exact a
  ·rw[Abt (Bc p (Gm U a))]at k;cases k
 unfold Fa;rw[NK,Aqo,m,o,f];by_cases b:low<=i
 ·by_cases e:i<low+size
  ·have c:i-low<size:=O;simp[b,e,c]
  ·have c:¬i-low<size:=O;simp only[b,e,c,decide_true,decide_false,Bool.and_false,Bool.not_false,Bool.and_true,Bool.or_false,and_false,if_false];cases d:n.testBit i
   ·rfl
   ·simp[g d]
 ·simp only[b,decide_false,Bool.false_and,Bool.not_false,Bool.and_true,Bool.or_false,false_and,if_false];cases d:n.testBit i
  ·rfl
  ·simp[g d]
def Qx(n low size v:Nat)(h:low+size<=64)(a:n<2^64):Fa n low size v<2^64:=by
 refine rU _ λc b=>?_
 rw[OM n low size v c h a,lg O];exact Abt (Bc a (Gm U b))
def PY(n low size i:Nat):(fieldN n low size).testBit i=(decide (i<size)&&n.testBit (low+i)):=by
 unfold fieldN;rw[Nat.testBit_mod_two_pow,Nat.testBit_div_two_pow,Nat.add_comm]
def Aoa(n a:Nat):(fieldN n a 1==1)=n.testBit a:=by
 have h:=PY n a 1 0;simp only[Nat.zero_lt_one,decide_true,Bool.true_and,Axt]at h;rw[<-h];have c:fieldN n a 1<2:=MH _ U;have b:fieldN n a 1=0\/fieldN n a 1=1:=O;rcases b with b|b<;>rw[b]<;>rfl
def Xu(n size:Nat):fieldN n 0 size=0<->∀a,a<size->n.testBit a=false:=by
 constructor
 ·intro h a b;have:=PY n 0 size a;rw[h,Lp,Du]at this;simpa[b]using this.symm
 ·intro h;refine Aft λa=>?_
  rw[PY,Lp,Du];by_cases b:a<size
  ·simp[h a b]
  ·simp[b]
structure SW(w c:Nat):Prop where
 lt:w<2^64
 cls:c=1\/c=2
 kind:Ew w=c
 some:∃i,i<BG c/\w.testBit i=jO
 only:∀i,w.testBit i=jO->i<BG c\/i=16\/i=17
def SV(w:Nat):Ew w=(if w.testBit 16 then 1 else 0)+(if w.testBit 17 then 2 else 0):=by
 have b:(fieldN w 16 2).testBit 0=w.testBit 16:=(PY w 16 2 0).trans (by rfl);have c:(fieldN w 16 2).testBit 1=w.testBit 17:=(PY w 16 2 1).trans (by rfl);have e:fieldN w 16 2<4:=MH _ U;unfold Ew;rw[<-b,<-c];generalize fieldN w 16 2=a at e;have d:a=0\/a=1\/a=2\/a=3:=O;rcases d with rfl|rfl|rfl|rfl<;>decide
def qi(w:Nat)(e:w<2^64):Hw w=jO<->w=0\/∃g,SW w g:=by
 unfold Hw;simp only[Bool.or_eq_true,beq_iff_eq,Bool.and_eq_true,bne_iff_ne];by_cases i:w=0
 ·simp[i]
 ·simp only[i,false_or];have b:BG (Ew w)<=16:=by
   unfold BG;split<;>omega
  have n:Fa (Fa w 0 (BG (Ew w)) 0) 16 2 0=0<->∀a,w.testBit a=jO->a<BG (Ew w)\/a=16\/a=17:=by
   constructor
   ·intro h a c;have d:=OM (Fa w 0 (BG (Ew w)) 0) 16 2 0 a U (Qx _ _ _ _ O e);rw[h,Lp,OM w 0 _ 0 a O e]at d;by_cases j:16<=a/\a<16+2
    ·omega
    ·rw[lg j]at d;by_cases k:0<=a/\a<0+BG (Ew w)
     ·omega
     ·rw[lg k,c]at d;cases d
   ·intro h;refine Aft λa=>?_
    rw[OM _ 16 2 0 a U (Qx _ _ _ _ O e),OM w 0 _ 0 a O e];simp only[Lp];split
    ·rfl
    ·split
     ·rfl
     ·cases b:w.testBit a
      ·rfl
      ·have:=h a b;omega
  have l:fieldN w 0 (BG (Ew w))≠0<->∃a,a<BG (Ew w)/\w.testBit a=true:=by
   rw[ne_eq,Xu];constructor
   ·intro h;apply Classical.byContradiction;intro m;refine h λa c=>?_
    cases b:w.testBit a
    ·rfl
    ·exact absurd ⟨a,c,b⟩ m
   ·rintro⟨a,c,b⟩h;rw[h a c]at b;cases b
  rw[n,l];constructor
  ·rintro⟨⟨a,c,b⟩,d⟩;refine⟨Ew w,e,?_,rfl,⟨a,c,b⟩,d⟩;unfold BG at c;split at c
   ·rename_i f;exact .inl f
   ·rename_i f;exact .inr f
   ·omega
  ·rintro⟨g,h⟩;obtain rfl:=h.kind;exact⟨h.some,h.only⟩
def SW.right{w c:Nat}(h:SW w c):Hw w=true:=(qi w h.lt).2 (.inr ⟨c,h⟩)
def SW.class{w c:Nat}(h:SW w c):Bj w=c:=by unfold Bj;rw[kX h.right,h.kind]
def SW.ne{w c:Nat}(h:SW w c):w≠0:=by
 obtain⟨i,_,a⟩:=h.some;intro b;rw[b,Lp]at a;cases a
def Aef:Bj 0=0:=by decide
def SW.has{w c:Nat}(h:SW w c)(a:Nat):Fj w a=(decide (a<BG c)&&w.testBit a):=by unfold Fj;rw[h.class,Aoa]
def GX(a:Nat):Fj 0 a=false:=by unfold Fj;rw[Aef];simp[BG]
def SW.nT{w c:Nat}(h:SW w c):0<BG c/\BG c<=16:=by
 rcases h.cls with rfl|rfl<;>decide
def SW.bits{w c:Nat}(h:SW w c):w.testBit 16=c.testBit 0/\w.testBit 17=c.testBit 1:=by
 have a:=h.kind;rw[SV]at a;rcases h.cls with rfl|rfl<;>cases b:w.testBit 16<;>cases d:w.testBit 17<;>simp[b,d]at a⊢<;>decide
def OkW(w:Nat):Prop:=w=0\/∃a,SW w a
def OkW.lt{w:Nat}(h:OkW w):w<2^64:=by
 rcases h with rfl|⟨a,h⟩
 ·decide
 ·exact h.lt
def OkW.right{w:Nat}(h:OkW w):Hw w=true:=(qi w h.lt).2 h
def OkW.jF{w a:Nat}(h:OkW w)(b:Fj w a=jO):∃c,SW w c/\a<BG c/\w.testBit a=true:=by
 rcases h with rfl|⟨c,h⟩
 ·rw[GX]at b;cases b
 ·rw[h.has a,Bool.and_eq_true,decide_eq_true_eq]at b;exact⟨c,h,b.1,b.2⟩
def qj{w c a:Nat}(h:OkW w)(m:c=1\/c=2)(f:w=0\/SW w c)(s:a<BG c)(x:Fj w a=jS):
 (GM w c a).2=jO/\SW (GM w c a).1 c/\∀b,Fj (GM w c a).1 b=(Fj w b||decide (b=a)):=by
 have t:0<BG c/\BG c<=16:=by rcases m with rfl|rfl<;>decide
 have v:NV w c=true:=by
  unfold NV;rw[h.right];simp only[Bool.true_and,Bool.and_eq_true,decide_eq_true_eq,Bool.or_eq_true,beq_iff_eq];exact⟨t.1,f.imp id (λh=>h.kind)⟩
 have u:GM w c a=(Fa (Fa w a 1 1) 16 2 c,jO):=by
  unfold GM;rw[v,x,decide_eq_false (by omega:¬BG c<=a)];rfl
 have q:=h.lt;have r:Fa w a 1 1<2^64:=Qx _ _ _ _ O q;have i:∀d,(Fa (Fa w a 1 1) 16 2 c).testBit d=if d=16 then c.testBit 0 else if d=17 then c.testBit 1 else if d=a then jO else w.testBit d:=λd=>by
  rw[OM _ 16 2 c d U r,OM w a 1 1 d O q];by_cases j:d=16
  ·subst j;simp
  ·by_cases k:d=17
   ·subst k;simp
   ·rw[lg O,lg j,lg k];by_cases e:d=a
    ·subst e;rw[kX O,kX rfl];simp
    ·rw[lg O,lg e]
 have p:SW (Fa (Fa w a 1 1) 16 2 c) c:=by
  refine⟨Qx _ _ _ _ U r,m,?_,⟨a,s,?_⟩,λd g=>?_⟩
  ·have n:=i 16;have o:=i 17;rw[kX rfl]at n;rw[lg U,kX rfl]at o;rw[SV,n,o];rcases m with rfl|rfl<;>decide
  ·rw[i,lg O,lg O,kX rfl]
  ·rw[i]at g;by_cases j:d=16
   ·omega
   ·by_cases k:d=17
    ·omega
    ·rw[lg j,lg k]at g;by_cases e:d=a
     ·omega
     ·rw[lg e]at g;rcases f with rfl|f
      ·rw[Lp]at g;cases g
      ·exact f.only d g
 rw[u];refine⟨rfl,p,λb=>?_⟩;rw[p.has];rw[i];by_cases l:b<BG c
 ·rw[lg O,lg O];by_cases e:b=a
  ·subst e;simp[l]
  ·rw[lg e];rcases f with rfl|f
   ·rw[GX];simp[e]
   ·rw[f.has];simp[e]
 ·have e:b≠a:=O;rcases f with rfl|f
  ·rw[GX];simp[l,e]
  ·rw[f.has];simp[l,e]
def ql{w a:Nat}(h:OkW w)(m:Fj w a=jO):
 (EL w a).2=jO/\OkW (EL w a).1/\(∀b,Fj (EL w a).1 b=(Fj w b&& !decide (b=a)))/\(Bj (EL w a).1=Bj w\/(EL w a).1=0):=by
 obtain⟨k,e,s,i⟩:=h.jF m;have t:=e.nT;have n:=e.lt;have r:Fa w a 1 0<2^64:=Qx _ _ _ _ O n;have i:∀d,(Fa w a 1 0).testBit d=if d=a then jS else w.testBit d:=λd=>by
  rw[OM w a 1 0 d O n];by_cases c:d=a
  ·subst c;rw[kX O,kX rfl];simp
  ·rw[lg O,lg c]
 unfold EL;rw[m];simp only[Bool.not_true,Bool.false_eq_true,if_false];by_cases g:LU (Fa w a 1 0)=0
 ·rw[kX g];refine⟨rfl,.inl rfl,λb=>?_,.inr rfl⟩;rw[GX,e.has];unfold LU at g;rw[Xu]at g;by_cases f:b<BG k
  ·have:=g b O;rw[i]at this;by_cases c:b=a
   ·simp[c]
   ·rw[lg c]at this;simp[this]
  ·simp[f]
 ·rw[lg g];have l:SW (Fa w a 1 0) k:=by
   refine⟨r,e.cls,?_,?_,λd j=>?_⟩
   ·have o:(Fa w a 1 0).testBit 16=w.testBit 16:=by rw[i,lg O]
    have p:(Fa w a 1 0).testBit 17=w.testBit 17:=by rw[i,lg O]
    rw[SV,o,p,<-SV,e.kind]
   ·unfold LU at g;rw[Xu]at g;apply Classical.byContradiction;intro q;refine g λd j=>?_
    cases f:(Fa w a 1 0).testBit d
    ·rfl
    ·refine absurd ⟨d,?_,f⟩ q;rw[i]at f;by_cases c:d=a
     ·rw[kX c]at f;cases f
     ·rw[lg c]at f;have:=e.only d f;omega
   ·rw[i]at j;by_cases c:d=a
    ·rw[kX c]at j;cases j
    ·rw[lg c]at j;exact e.only d j
  refine⟨rfl,.inr ⟨k,l⟩,λb=>?_,.inl (by rw[l.class,e.class])⟩;rw[l.has,e.has,i];by_cases c:b=a
  ·simp[c]
  ·simp[c]
def Ajm{t h:Nat}(a:OkW t)(b:OkW h)(n:t=0\/h=0\/Bj t=Bj h):OkW (t|||h)/\(∀c,Fj (t|||h) c=(Fj t c||Fj h c))/\(t≠0->Bj (t|||h)=Bj t)/\(h≠0->Bj (t|||h)=Bj h):=by
 rcases a with rfl|⟨e,a⟩
 ·rw[Nat.zero_or];exact⟨b,λc=>by rw[GX];rfl,λh=>absurd rfl h,λ_=>rfl⟩
 ·rcases b with rfl|⟨d,b⟩
  ·rw[Nat.or_zero];exact⟨.inr ⟨e,a⟩,λc=>by rw[GX,Bool.or_false],λ_=>rfl,λh=>absurd rfl h⟩
  ·have l:e=d:=by
    rcases n with h|h|h
    ·exact absurd h a.ne
    ·exact absurd h b.ne
    ·rw[a.class,b.class]at h;exact h
   subst l;have f:SW (t|||h) e:=by
    refine⟨Nat.or_lt_two_pow a.lt b.lt,a.cls,?_,?_,λi g=>?_⟩
    ·have j:=a.bits;have k:=b.bits;rw[SV,NK,NK,j.1,j.2,k.1,k.2];rcases a.cls with rfl|rfl<;>decide
    ·obtain⟨i,g,m⟩:=a.some;exact⟨i,g,by rw[NK,m];rfl⟩
    ·rw[NK,Bool.or_eq_true]at g;exact g.elim (a.only i) (b.only i)
   refine⟨.inr ⟨e,f⟩,λc=>?_,λ_=>by rw[f.class,a.class],λ_=>by rw[f.class,b.class]⟩;rw[f.has,a.has,b.has,NK];cases decide (c<BG e)<;>simp
def jG(l:List nC)(a:l.length<=15)(h:l.all DW=jO):EM (Hr l).toNat=l:=by
 obtain⟨u1,u2,u3,u4,u5⟩:=unpack_pack l a h;rw[Hr,Gq (by simpa[JU]using u5),EM,u1,u2,kX u3,u4]
def look:List nC->List ni->Nat->ni
 |a::b,c::d,j=>if a.toNat=j then c else look b d j
 |_,_,_=>0
def Zr:∀(a:List nC)(d:List ni)(j:Nat),(∀c∈a,c.toNat≠j)->look a d j=0
 |c::a,f::d,j,h=>by rw[look,lg (h c Θ),Zr a d j (λb e=>h b (by simp[e]))]
 |[],_,_,_=>rfl
 |_::_,[],_,_=>rfl
def MP{a:nC}{c:List nC}(h:Es (a::c)=jO):Es c=jO/\∀b∈c,a.toNat<b.toNat:=by
 induction c generalizing a with
 |nil=>exact⟨rfl,by simp⟩
 |cons b c g=>
  simp only[Es,Bool.and_eq_true,decide_eq_true_eq]at h;obtain⟨i,f⟩:=g h.2;refine⟨h.2,λe d=>?_⟩;rcases Cb.1 d with rfl|d
  ·exact h.1
  ·exact Axu h.1 (f e d)
def Ui:∀(a:List nC)(c:List ni)(row:List ni)(j:Nat),a.length=c.length->Es a=jO->4+j<row.length->
 (Dj row a c)[4+j]?=if j∈a.map UInt8.toNat then jm (look a c j)else row[4+j]?
 |[],c,row,j,_,_,_=>by simp[Dj]
 |e::a,[],row,j,g,_,_=>by simp at g
 |e::a,q::c,row,j,g,p,n=>by
  obtain⟨k,l⟩:=MP p;rw[Dj,Ui a c (row.set (4+e.toNat) q) j (by simpa using g) k (by simpa using n)];by_cases d:j∈a.map UInt8.toNat
  ·have o:e.toNat≠j:=by
    obtain⟨b,m,rfl⟩:=CU.1 d;exact Nat.ne_of_lt (l b m)
   rw[kX d,kX (by simp only[Ci,Cb];exact .inr d),look,lg o]
  ·rw[lg d];by_cases f:e.toNat=j
   ·rw[kX (by simp[f]),look,kX f,H9,kX O,kX O]
   ·rw[lg (by simp only[Ci,Cb,not_or];exact⟨λi=>f i.symm,d⟩),H9,lg O]
def Ve:∀(a:List nC)(b:List ni)(row:List ni)(i:Nat),i<4->(Dj row a b)[i]?=row[i]?
 |[],_,row,i,_=>by simp[Dj]
 |_::_,[],row,i,_=>by simp[Dj]
 |d::a,e::b,row,i,c=>by rw[Dj,Ve a b _ i c,H9,lg O]
def Uj:∀(n i:Nat)(a:List nC)(c:List ni)(t:List ni),t.length=n->a.length=c.length->Es a=jO->(∀e∈a,i<=e.toNat/\e.toNat<i+n)->i+n<=256->(∀q∈c,q.toNat≠0)->
 (∀j,j<n->t[j]?=jm (look a c (i+j)))->La i t=a/\MI t=c
 |0,i,a,c,t,k,o,_,l,_,_,_=>by
  have r:t=[]:=Cj k;have d:a=[]:=by
   rcases a with _|⟨e,a⟩
   ·rfl
   ·have:=l e Θ;omega
  subst r d;have s:c=[]:=Cj (by simpa using o.symm);subst s;exact⟨rfl,rfl⟩
 |n+1,i,a,c,[],k,_,_,_,_,_,_=>by simp at k
 |n+1,i,a,c,x::t,k,o,B,l,I,v,p=>by
  have w:x=look a c i:=by have:=p 0 O;simpa using this
  rcases a with _|⟨e,a⟩
  ·have s:c=[]:=Cj (by simpa using o.symm);subst s;have f:x.toNat=0:=by rw[w];rfl
   have g:=Uj n (i+1) [] [] t (by simpa using k) rfl rfl Θ O Θ (λj A=>by
    have:=p (j+1) O;rw[show i+1+j=i+(j+1)by omega];simpa using this)
   simp only[La,kX f,g.1];refine⟨trivial,?_⟩;have d:=g.2;unfold MI at d⊢;simp[f,d]
  ·rcases c with _|⟨q,c⟩
   ·simp at o
   ·obtain⟨r,d⟩:=MP B;by_cases u:e.toNat=i
    ·have F:x=q:=by rw[w,look,kX u]
     subst F;have f:x.toNat≠0:=v x Θ;have g:=Uj n (i+1) a c t (by simpa using k) (by simpa using o) r (λb m=>Ψ (d b m) (l b (by simp[m]))) O (λG E=>v G (by simp[E])) (λj A=>by
      have:=p (j+1) O;rw[look,lg O]at this;rw[show i+1+j=i+(j+1)by omega];simpa using this)
     have C:UInt8.ofNat i=e:=by apply UInt8.toNat_inj.1;rw[<-u];simp
     simp only[La,lg f,g.1,C];refine⟨trivial,?_⟩;have d:=g.2;unfold MI at d⊢;simp[f,d]
    ·have H:i+1<=e.toNat:=Ω (l e Θ);have f:x.toNat=0:=by
      rw[w,look,lg u,Zr a c i (λb m=>Ω (d b m))];rfl
     have g:=Uj n (i+1) (e::a) (q::c) t (by simpa using k) o B (λb m=>by
      rcases Cb.1 m with rfl|y
      ·have:=l b Θ;omega
      ·have:=d b y;have:=l b (by simp[y]);omega) O v (λj A=>by
      have:=p (j+1) O;rw[show i+1+j=i+(j+1)by omega];simpa using this)
     simp only[La,kX f,g.1];refine⟨trivial,?_⟩;have d:=g.2;unfold MI at d⊢;simp[f,d]
def Nd.ext'{x y:Nd}(h1:x.pre=y.pre)(h2:x.val=y.val)(h3:x.labels=y.labels)(h4:x.kids=y.kids):x=y:=by
 cases x;cases y;simp_all
def zJ(x:Nd)(h:CG x=jO):FY (Eh x)=x:=by
 obtain⟨k,l,b,c,m,s⟩:=(BD x).1 h;by_cases g:x.kids.length<=4
 ·have e:=ZX x g;rw[Eh,kX g,FY,kX e];obtain⟨u1,u2,u3,u4,u5⟩:=unpack_pack x.labels O c;have p:(Hr x.labels).toNat=x.labels.length+16*FX x.labels:=by rw[Hr,Gq (by simpa[JU]using u5)]
  have t:(encS x).drop 4=x.kids++List.replicate (4-x.kids.length) 0:=by simp[encS]
  have n:Ko (Hr x.labels).toNat ((encS x).drop 4)=(x.labels,x.kids):=by
   rw[t,Ko,p,u1,u2,kX ⟨u3,O⟩,u4,b,List.take_left' rfl]
  apply Nd.ext'
  ·show EM ((encS x).getD 1 0).toNat=x.pre;rw[show(encS x).getD 1 0=Hr x.pre by simp[encS],jG x.pre k l]
  ·show(encS x).getD 2 0=x.val;simp[encS]
  ·show(Ko ((encS x).getD 3 0).toNat ((encS x).drop 4)).1=x.labels;rw[show(encS x).getD 3 0=Hr x.labels by simp[encS],n]
  ·show(Ko ((encS x).getD 3 0).toNat ((encS x).drop 4)).2=x.kids;rw[show(encS x).getD 3 0=Hr x.labels by simp[encS],n]
 ·have e:=ZY x;rw[Eh,lg g,FY,lg O];have q:(UI x)[1]?=jm (Hr x.pre):=by rw[UI,Ve _ _ _ 1 U];simp[headB]
  have r:(UI x)[2]?=jm x.val:=by rw[UI,Ve _ _ _ 2 U];simp[headB]
  have y:(((UI x).drop 4).take 16).length=16:=by simp[e]
  have i:=Uj 16 0 x.labels x.kids (((UI x).drop 4).take 16) y b m (λa d=>by
   rw[ED]at c;have:=c a d;simp only[DW,decide_eq_true_eq]at this;omega) U (λB w=>by
   obtain⟨A,u,rfl⟩:=CW w;exact s A u) (λj v=>by
   rw[Dh,kX v,DX,UI,Ui _ _ _ j b m (by simp[headB];omega),Du];by_cases f:j∈x.labels.map UInt8.toNat
   ·rw[kX f]
   ·rw[lg f,Zr _ _ _ (λa d o=>f (CU.2 ⟨a,d,o⟩))];rw[headB,Ez (by simp only[Bg,CV];omega),List.getElem?_replicate,kX (by simp only[Bg,CV];omega)])
  apply Nd.ext'
  ·show EM ((UI x).getD 1 0).toNat=x.pre;rw[XC,q];exact jG x.pre k l
  ·show(UI x).getD 2 0=x.val;rw[XC,r];rfl
  ·exact i.1
  ·exact i.2
def Ajn(x:Nd)(h:CG x=jO):JK (Eh x)=true:=by
 have d:=I8 x;have c:=zJ x h;have b:(Eh x).length=8\/(Eh x).length=32:=by rw[d];split<;>simp
 rw[JK,c,h];rcases b with a|a<;>simp[a]
def Ajo(l:List ni)(h:JK l=jO):CG (FY l)=jO/\Eh (FY l)=l:=by
 simp only[JK,Bool.and_eq_true,decide_eq_true_eq]at h;exact h.2
def RG(x:Nd)(i:Nat):Nat:=if x.kids.length<=4 then 4+i else 4+(x.labels.getD i 0).toNat
def qm(l:List nC)(h:Es l=jO):∀(d i:Nat)(a:i+d+1<l.length),l[i].toNat<l[i+d+1].toNat
 |0,i,a=>(IJ l).1 h i a
 |d+1,i,a=>Axu (qm l h d i O) ((IJ l).1 h (i+d+1) O)
def Jt(l:List nC)(h:Es l=jO)(i j:Nat)(b:i<j)(c:j<l.length):l[i].toNat<l[j].toNat:=by
 have:=qm l h (j-i-1) i O;have a:i+(j-i-1)+1=j:=O;simp only[a]at this;exact this
def Aeg(l:List nC)(h:Es l=jO)(i:Nat)(hi:i<l.length):l.findIdx? (λb=>b.toNat==l[i].toNat)=jm i:=by
 rw[List.findIdx?_eq_some_iff_getElem];refine⟨hi,by simp,λj a=>?_⟩;have:=Jt l h j i a hi;simp;omega
def Ag0:∀(a:List nC)(b:List ni)(i:Nat)(h1:i<a.length)(h2:i<b.length),Es a=jO->look a b a[i].toNat=b[i]
 |c::a,f::b,0,_,_,_=>by simp[look]
 |c::a,f::b,i+1,h1,h2,e=>by
  obtain⟨t1,t2⟩:=MP e;have d:i<a.length:=by simpa using h1
  have:=t2 a[i] (BO d);rw[Ak,Ak,look,lg O];exact Ag0 a b i (by simpa using h1) (by simpa using h2) t1
 |[],_,_,h1,_,_=>by simp at h1
 |_::_,[],_,_,h2,_=>by simp at h2
def Ag1(x:Nd)(h:CG x=jO)(i:Nat)(hi:i<x.kids.length):(Eh x)[RG x i]?=jm x.kids[i]:=by
 obtain⟨f,g,d,e,c,j⟩:=(BD x).1 h;unfold Eh RG;by_cases b:x.kids.length<=4
 ·rw[kX b,kX b,encS,Ba,Ez Θ,DK (by simp;omega)];simp only[Bg,CV];rw[show 4+i-(0+1+1+1+1)=i by omega,Ag hi]
 ·have a:i<x.labels.length:=O;have k:=dE e a;rw[lg b,lg b,UI,XC,Ag a,RV,Ui _ _ _ _ d c (by simp[headB];omega),
   kX (CU.2 ⟨_,BO a,rfl⟩),Ag0 _ _ i a hi c]
def Aeh(x:Nd)(h:CG x=jO)(i:Nat)(hi:i<x.kids.length):4<=RG x i/\RG x i<(Eh x).length/\∀j,j<i->RG x j≠RG x i:=by
 obtain⟨d,e,f,g,a,k⟩:=(BD x).1 h;have b:=Ag1 x h i hi;refine⟨by unfold RG;split<;>omega,(List.getElem?_eq_some_iff.1 b).1,λj c=>?_⟩;unfold RG;split
 ·omega
 ·have:=Jt x.labels a j i c O;simp only[XC,Ag (show j<x.labels.length by omega),Ag (show i<x.labels.length by omega),RV];omega
def jH(l:List nC)(x:nC):He l x<=l.length:=List.countP_le_length
def Ri{a:Type}(xs:List a)(i:Nat)(u:a)(h:i<=xs.length):(Lt xs i u).length=xs.length+1:=by simp[Lt];omega
def zK(l:List nC)(x:nC)(i:Nat)(hi:i<=l.length)(h1:∀t(h:t<l.length),t<i->l[t].toNat<x.toNat)(h2:∀t(h:t<l.length),i<=t->x.toNat<=l[t].toNat):He l x=i:=by
 unfold He
 conv=>lhs;rw[<-DY i l]
 rw[List.countP_append];have e:(l.take i).countP (λc=>decide (c.toNat<x.toNat))=i:=by
  have:(l.take i).length=i:=by simp;omega
  conv=>rhs;rw[<-this]
  rw[List.countP_eq_length];intro d a;obtain⟨t,b,rfl⟩:=CW a;simp at b;simpa using h1 t O O
 have f:(l.drop i).countP (λc=>decide (c.toNat<x.toNat))=0:=by
  rw[List.countP_eq_zero];intro d a;obtain⟨t,b,rfl⟩:=CW a;simp at b;have:=h2 (i+t) O O;simp;omega
 omega
def LC{c:Type}(xs:List c)(i:Nat)(u:c)(hi:i<=xs.length)(j:Nat):(Lt xs i u)[j]?=if j<i then xs[j]? else if j=i then jm u else xs[j-1]?:=by
 unfold Lt;by_cases a:j<i
 ·rw[kX a,DK (by simp;omega),Dh,kX a]
 ·rw[lg a,Ez (by simp;omega)];simp only[Cc,EI hi];by_cases b:j=i
  ·subst b;simp
  ·rw[lg b,show j-i=(j-1-i)+1 by omega,Ai,DX];congr 1;omega
def qo{a:Type}(xs:List a)(i:Nat)(u:a)(hi:i<=xs.length):Lj (Lt xs i u) i=xs:=by
 unfold Lj Lt;rw[List.take_append_of_le_length (by simp;omega),List.take_take,Nat.min_self,List.drop_append,Cc,EI hi,show i+1-i=1 by omega,List.drop_of_length_le (by simp;omega)];simp
def zL{a:Type}(xs:List a)(i:Nat)(u y:a)(h:y∈Lt xs i u):y=u\/y∈xs:=by
 unfold Lt at h;rw[AP,Cb]at h;rcases h with h|h|h
 ·exact .inr (List.mem_of_mem_take h)
 ·exact .inl h
 ·exact .inr (List.mem_of_mem_drop h)
def uP(l:List nC)(x:nC)(n:Es l=jO):(∀t(h:t<l.length),t<He l x->l[t].toNat<x.toNat)/\(∀t(h:t<l.length),He l x<=t->x.toNat<=l[t].toNat):=by
 obtain⟨a,b⟩:=ε (l.findIdx (λd=>decide (x.toNat<=d.toNat)));have m:a<=l.length:=by rw[b];exact List.findIdx_le_length
 have e:∀t(h:t<l.length),t<a->l[t].toNat<x.toNat:=by
  intro t h c;rw[b]at c;have:=List.not_of_lt_findIdx c;simpa using this
 have f:∀t(h:t<l.length),a<=t->x.toNat<=l[t].toNat:=by
  intro t h c;have k:a<l.length:=O;have j:x.toNat<=l[a].toNat:=by
   have:=List.findIdx_getElem (p:=λd:nC=>decide (x.toNat<=d.toNat)) (xs:=l) (w:=by rw[<-b];exact k);simpa[<-b]using this
  rcases JO a t with g|g
  ·have:=Jt l n a t g h;omega
  ·obtain rfl:t=a:=O;exact j
 have i:=zK l x a m e f;rw[i];exact⟨e,f⟩
def Vf(l:List nC)(x:nC)(h:RY l x=jS):∀t(h:t<l.length),l[t].toNat≠x.toNat:=by
 intro t b a;unfold RY at h;rw[List.any_eq_true.2 ⟨l[t],BO _,by simpa using a⟩]at h;cases h
def zM(l:List nC)(x:nC)(e:Es l=jO)(k:RY l x=jS):Es (Lt l (He l x) x)=true:=by
 obtain⟨i,j⟩:=uP l x e;have d:=jH l x;have o:=Vf l x k;generalize He l x=p at*;rw[IJ];intro c m;have n:(Lt l p x).length=l.length+1:=Ri l p x d;have a:=LC l p x d c;have b:=LC l p x d (c+1);rw[Ag O]at a b;rw[n]at m;rcases JO (c+1) p with h|h
 ·rw[kX O,Ag O]at a b;injection a with a;injection b with b
  rw[a,b];exact(IJ l).1 e c O
 ·rcases JO c p with f|f
  ·obtain rfl:p=c+1:=O;rw[kX O,Ag O]at a;rw[lg O,kX rfl]at b;injection a with a;injection b with b
   rw[a,b];exact i c O O
  ·rw[lg O,lg O,YM,Ag O]at b;injection b with b
   rw[b];rcases Nat.eq_or_lt_of_le f with g|g
   ·subst g;rw[lg O,kX rfl]at a;injection a with a
    rw[a];have:=j p O (Ae _);have:=o p O;omega
   ·rw[lg O,lg O,Ag O]at a;injection a with a
    rw[a];have:=(IJ l).1 e (c-1) O;simp only[show c-1+1=c by omega]at this;exact this
structure Aei(x:Nd)(label:nC)(kid:ni):Prop where
 right:CG (Ja x label kid)=jO
 place:He x.labels label<=x.labels.length
 len:(Ja x label kid).labels.length=x.labels.length+1
 A0b:(Ja x label kid).kids.length=x.kids.length+1
 A20:(Ja x label kid).labels[He x.labels label]?=jm label
 A21:(Ja x label kid).kids[He x.labels label]?=jm kid
 find:Kq (Ja x label kid).labels label=jm (He x.labels label)
 out:UJ (Ja x label kid) (He x.labels label)=x
 old:∀i(h:i<x.labels.length)(hk:i<x.kids.length),∃j,j<x.labels.length+1/\(Ja x label kid).labels[j]?=jm x.labels[i]/\(Ja x label kid).kids[j]?=jm x.kids[i]
def Vg(x:Nd)(a:nC)(b:ni):KN x a b=jO<->CG x=jO/\a.toNat<16/\b.toNat≠0/\RY x.labels a=false:=by
 unfold KN;simp only[Bool.and_eq_true,decide_eq_true_eq,Bool.not_eq_true',beq_eq_false_iff_ne,and_assoc,ne_eq]
def zN(x:Nd)(a:nC)(b:ni)(h:KN x a b=jO):Aei x a b:=by
 obtain⟨p,o,r,q⟩:=(Vg x a b).1 h;obtain⟨v,w,E,y,A,B⟩:=(BD x).1 p;have c:=jH x.labels a;have n:(Lt x.labels (He x.labels a) a).length=x.labels.length+1:=Ri _ _ _ c;have u:(Lt x.kids (He x.labels a) b).length=x.kids.length+1:=Ri _ _ _ O;have m:CG (Ja x a b)=true:=by
  rw[BD];refine⟨v,w,?_,?_,zM _ _ A q,?_⟩
  ·show(Lt _ _ _).length=(Lt _ _ _).length;omega
  ·rw[ED];intro C e;rcases zL _ _ _ _ e with rfl|e
   ·exact YR o
   ·exact(ED.1 y) C e
  ·intro g f;rcases zL _ _ _ _ (BO f)with i|e
   ·rw[i];exact r
   ·obtain⟨t,s,i⟩:=CW e;rw[<-i];exact B t s
 have d:(Ja x a b).labels[He x.labels a]?=jm a:=by
  show(Lt _ _ _)[_]?=_;rw[LC _ _ _ c,lg O,kX rfl]
 refine⟨m,c,n,u,d,?_,?_,?_,?_⟩
 ·show(Lt _ _ _)[_]?=_;rw[LC _ _ _ O,lg O,kX rfl]
 ·have l:He x.labels a<(Ja x a b).labels.length:=by rw[show(Ja x a b).labels.length=x.labels.length+1 from n];omega
  have:=Aeg _ ((BD _).1 m).2.2.2.2.1 _ l;rw[Ag l]at d;injection d with d
  rw[d]at this;exact this
 ·show({pre:=x.pre,val:=x.val,labels:=Lj (Lt _ _ _) _,kids:=Lj (Lt _ _ _) _}:Nd)=x;rw[qo _ _ _ c,qo _ _ _ O]
 ·intro g f j;by_cases k:g<He x.labels a
  ·refine⟨g,O,?_,?_⟩
   ·show(Lt _ _ _)[_]?=_;rw[LC _ _ _ c,kX k,Ag f]
   ·show(Lt _ _ _)[_]?=_;rw[LC _ _ _ O,kX k,Ag j]
  ·refine⟨g+1,O,?_,?_⟩
   ·show(Lt _ _ _)[_]?=_;rw[LC _ _ _ c,lg O,lg O,YM,Ag f]
   ·show(Lt _ _ _)[_]?=_;rw[LC _ _ _ O,lg O,lg O,YM,Ag j]
open Go.RowKit
section
variable{w w':jT}{x d p L:Nat}{s:St}{F:Nat->Prop}
def Tryz.Asi:IK prog 226 388 (.agg #[gz iV 0,gz iV 0]) 2 16:=⟨underlying226,by kernel_rfl,rfl⟩
end
def Ag2(q:ni×ni):List Value:=[q.1,q.2]
def Zt(l:List (ni×ni)):List Value:=(l.map Ag2).flatten
def Aej(l:List (ni×ni))(a:ni×ni):Zt (l++[a])=Zt l++Ag2 a:=by simp[Zt]
structure FU(m:DJ)(w:jT)(pI jb x d p L:Nat)(s:St)(nK:ni)(vs:ku)(l:List Wr)(ps:List (ni×ni))(over:Bool)(en:Int)(F:Nat->Prop)(v:ku):Prop where
 ix:KH m w x d p L s F
 box:Cm w jb 228 (EH x d p nK vs v over en)
 row:w.ownsRow pI 388 2 v ps.length (Zt ps)
 set:FP w (λb=>F b\/b=jb\/v.ownBlock=jm b) vs l
 fj:¬F jb
 bj:pI<=jb
 bx:x<pI
 bt:0<pI/\1<pI
 mj:v.ownBlock≠jm jb
 mF:∀b,v.ownBlock=jm b->¬F b
def JG(F:Nat->Prop)(jb:Nat)(v:ku)(b:Nat):Prop:=F b\/b=jb\/v.ownBlock=jm b
section
variable{m0:DJ}{w w':jT}{pI jb x d p L:Nat}{s:St}{nK:ni}{vs:ku}{l:List Wr}{ps:List (ni×ni)}{over:Bool}{en:Int}{F:Nat->Prop}{v:ku}
def FU.xj(h:FU m0 w pI jb x d p L s nK vs l ps over en F v):x≠jb:=Ψ h.bj h.bx
def FU.gj(h:FU m0 w pI jb x d p L s nK vs l ps over en F v):0≠jb/\1≠jb:=Ψ h.bj h.bt
def FU.mlt(h:FU m0 w pI jb x d p L s nK vs l ps over en F v):∀b,v.ownBlock=jm b->pI<=b/\b<w:=by
 intro b c;rcases h.row.2 with⟨a,_⟩|⟨g,i,j,a,e,f,_⟩
 ·subst a;simp[AY]at c
 ·subst a;simp only[AY,Option.some.injEq]at c;subst c;exact⟨e,(Array.getElem?_eq_some_iff.1 f).1⟩
def FU.mx(h:FU m0 w pI jb x d p L s nK vs l ps over en F v):v.ownBlock≠jm x:=λa=>Ψ ((h.mlt x a).1) h.bx
def FU.below(h:FU m0 w pI jb x d p L s nK vs l ps over en F v)(k:η w w'):FU m0 w' pI jb x d p L s nK vs l ps over en F v:=
 ⟨h.ix.below k,h.box.ξ k,FN h.row (Kept.of_below (r:=jm jb) k) (.inl (λa=>h.mj a.symm)),h.set.below k,h.fj,h.bj,h.bx,h.bt,h.mj,h.mF⟩
def FU.b(h:FU m0 w pI jb x d p L s nK vs l ps over en F v):Wh w jb x d p nK vs v over en F:=⟨h.box,h.fj⟩
def FU.move(h:FU m0 w pI jb x d p L s nK vs l ps over en F v){m1:DJ}{s':St}{a:Nat->Prop}(j:KH m1 w' x d p L s' a)(m:AQ F a w w'):FU m1 w' pI jb x d p L s' nK vs l ps over en a v/\AQ (JG F jb v) (JG a jb v) w w':=by
 have k:=h.box.lt;have g:AQ (JG F jb v) (JG a jb v) w w':=⟨m.touch.mono (λb=>.inl),λb c=>by
  rcases c with f|f
  ·exact(m.own b f).imp .inl id
  ·exact .inl (.inr f)⟩
 exact⟨⟨j,h.box.touch m.touch h.fj,Ie h.row m.touch h.mF,h.set.moved g,λe=>(m.own _ e).elim h.fj (λi=>O),h.bj,h.bx,h.bt,h.mj,λb c e=>(m.own _ e).elim (h.mF b c) (λi=>Ω ((h.mlt b c).2))⟩,g⟩
def FU.app(h:FU m0 w pI jb x d p L s nK vs l ps over en F v)(q:ni×ni){g c:Nat}{e:jT}
 (C:e.ownsRow pI 388 2 (fM (jm (Φ g)) (ps.length+1) c) (ps.length+1) (Zt ps++Ag2 q))(j:Below pI w e)(m:Kept w e v.ownBlock)(k:v.ownBlock=jm g\/w<=g):
 FU m0 (e.setCell (Δ jb 5) (fM (jm (Φ g)) (ps.length+1) c)) pI jb x d p L s nK vs l (ps++[q]) over en F (fM (jm (Φ g)) (ps.length+1) c)/\
  AQ (JG F jb v) (JG F jb (fM (jm (Φ g)) (ps.length+1) c)) w (e.setCell (Δ jb 5) (fM (jm (Φ g)) (ps.length+1) c)):=by
 have B:=h.box.lt;have t:g≠jb:=by
  rintro rfl;rcases k with a|a
  ·exact h.mj a
  ·omega
 have A:¬F g:=by
  intro r;rcases k with a|a
  ·exact h.mF g a r
  ·have:=h.ix.sys.lt g r;omega
 have t1:Touch (λb=>v.ownBlock=jm b) w e:=⟨j.os,j.tape,j.output,m.1,λb f n=>m.2 b f (λa=>n a.symm)⟩;have t2:Touch (λb=>b=jb\/v.ownBlock=jm b) w (e.setCell (Δ jb 5) (fM (jm (Φ g)) (ps.length+1) c)):=(t1.mono (λb=>.inr)).setCell (p:=Δ jb 5) (.inl (.inl rfl)) _;have u:∀{b:Nat},b<pI->¬(b=jb\/v.ownBlock=jm b):=by
  intro b f a;rcases a with rfl|a
  ·have:=h.bj;omega
  ·have:=(h.mlt b a).1;omega
 have o:AQ (JG F jb v) (JG F jb (fM (jm (Φ g)) (ps.length+1) c)) w (e.setCell (Δ jb 5) (fM (jm (Φ g)) (ps.length+1) c)):=⟨t2.mono (λb=>.inr),λb f=>by
  rcases f with i|i|i
  ·exact .inl (.inl i)
  ·exact .inl (.inr (.inl i))
  ·simp only[AY,Option.some.injEq]at i;rcases k with a|a
   ·exact .inl (.inr (.inr (i▸a)))
   ·exact .inr (i▸a)⟩
 have E:Fg m0 (e.setCell (Δ jb 5) (fM (jm (Φ g)) (ps.length+1) c)) d p L s F:=h.ix.sys.keep t2 (λb f n=>n.elim (λa=>h.fj (a▸f)) (λa=>h.mF b a f)) (u h.bt.1) (u h.bt.2);have y:Cm e jb 228 (EH x d p nK vs v over en):=(m.2 jb B (λa=>h.mj a.symm)).trans h.box;refine⟨⟨⟨E,h.ix.box.touch t2 (λa=>a.elim h.xj h.mx),h.ix.out⟩,y.Be 5 _,?_,h.set.moved o,h.fj,h.bj,h.bx,h.bt,by simp[AY,t],?_⟩,o⟩
 ·have:=FN C (Kept.Be e jb 5 (fM (jm (Φ g)) (ps.length+1) c)) (.inl (by simp[AY,Ne.symm t]));rw[Aej];simpa using this
 ·intro b f;simp only[AY,Option.some.injEq]at f;exact f▸A
def Aob{m1:DJ}(h:FU m0 w pI jb x d p L s nK vs l ps jS en F v)(B:ps.length<l.length)(a6:l.length<=100000){s2:St}{j i:ni}
 (T:∀J,η w J->Calls prog 276 #[AB jb,OY l[ps.length]] J λk ab=>k=iO (iJ #[.agg #[j,i],gz iU 0])/\
  ∃n,KH m1 ab x d p L s2 n/\Wh ab jb x d p nK vs v jS en n/\AQ F n J ab):
 Calls prog 274 #[AB jb] w λk w'=>k=iO (iJ #[jS,gz iU 0])/\
  ∃n aw,FU m1 w' pI jb x d p L s2 nK vs l (ps++[(j,i)]) jS en n aw/\AQ (JG F jb v) (JG n jb aw) w w':=by
 have ad:=Ac (uO jb _ h.box);have au:=h.box.c6;have W:=h.box.c5;have V:=h.box.c4;have aL:=Ac h;obtain⟨bs,bA,S,bd,_⟩:=C9 h.row;obtain⟨bW,ar⟩:=ε (l[ps.length]);obtain⟨bw,bS,bx,R,bc,bM,bi,Y,Z,aa⟩:=h.set.at ps.length B;rw[<-ar]at Y Z aa T;obtain⟨bl,P⟩:=ε ps.length;obtain⟨bR,ao⟩:=ε l.length;rw[<-ao]at R a6 B;rw[<-P]at S Y Z aa B bd;unfold EH at V W au;rw[R]at V;rw[S]at W;have bO:=XH B;have H:=Ac T;unfold OY at H;have bN:=h.box.lt;have G:Hid (¬F w.heap.size):=Ac (λbe=>absurd (h.ix.sys.lt _ be) O);have aE:Hid (0≠w.heap.size/\1≠w.heap.size):=Ac (Ω h.ix.sys.tabs.lt);have a1:Hid (x≠w.heap.size):=Ac (Ω h.ix.box.lt);have ac:=Ac P;clear h T bc bi P ao ar R S;go_in;go_wp2_with(refine ad.out.ro ?_);go_region
 all_goals(go_wp2_with fail)
 all_goals(
  go_region_with(go_at_call 276;refine(H _ (by first|exact((Dr.drew w).trans (Dr.drew _)).below _|exact(((Dr.drew w).trans (Dr.drew _)).below _).alloc (Ae _) _|exact(((mX w).alloc (Ae _) _).drew))).mono ?_;rintro k f⟨rfl,m,r,ah,q⟩;try(have t:Cm f w.heap.size 388 [.int .u64 0,.int .u64 0]:=(q.touch.block w.heap.size Θ G.out).trans (heap_alloc_new _ _);have az:=t.cell 0;have aD:=t.cell 1;have a4:=t.frozen 0;have a5:=t.frozen 1;simp only[Af,Ai]at az aD)))
 all_goals(
  first
  |(have A:η w _:=((Dr.drew w).trans (Dr.drew _)).below w.heap.size
    have u:AQ F m w f:=(mW A).trans q;obtain⟨a,c⟩:=ε (f.alloc (.cells #[j,i] 388));rw[<-c];have N:η f a:=c▸ mZ.alloc (Ae _) _;have o:Cm a f.heap.size 388 [j,i]:=c▸heap_alloc_new _ _;have K:=r.below N;have I:AQ F m w a:=u.below N;obtain⟨g,y⟩:=ε f.heap.size;rw[<-y]at o⊢;clear A u c N y r ah q)
  |(have A:η w _:=(((Below.refl w.heap.size w).alloc (Ae _) (.cells #[gz iV 0,gz iV 0] 388)).drew).drew
    have u:AQ F m w f:=(mW A).trans q;obtain⟨a,c⟩:=ε ((f.setCell (Δ w.heap.size 0) (gz iV (j.toNat:Int))).setCell (Δ w 1) (gz iV (i.toNat:Int)));rw[<-c];have t6:Touch (·=w.heap.size) f a:=c▸((Touch.refl (·=w.heap.size) f).setCell (p:=Δ w 0) (.inl rfl) _).setCell (p:=Δ w 1) (.inl rfl) _;have o:Cm a w.heap.size 388 [j,i]:=by rw[c];exact(t.Be 0 (gz iV (j.toNat:Int))).Be 1 (gz iV (i.toNat:Int))
    have ap:¬m w.heap.size:=λa7=>(q.own _ a7).elim G.out (λbk=>absurd bk Θ)
    have K:KH m1 a x d p L s2 m:=⟨r.sys.keep t6 (λb ba k=>ap (k▸ba)) aE.1 aE.2,r.box.touch t6 a1.out,r.out⟩;have I:AQ F m w a:=by rw[c];exact(u.set (p:=Δ w 0) (.inr (Ae _)) _).set (p:=Δ w 1) (.inr (Ae _)) _
    obtain⟨g,y⟩:=ε w.heap.size;rw[<-y]at o⊢;clear A u c t6 ap y r ah q t az aD a4 a5))
 all_goals(
  obtain⟨e,al⟩:=aL.move K I;have bp:=o.c0;have bq:=o.c1;have X:=e.box.c5;have a3:v.ownBlock≠jm jb:=e.mj;obtain⟨bt,bB,C,_,_⟩:=C9 e.row;have Q:=e.row;have bb:pI<=a.heap.size:=Nat.le_of_lt (Nat.lt_of_le_of_lt e.bj e.box.lt);unfold EH at X;rw[<-ac.out]at C Q;rw[C]at X;obtain⟨aG,aR,bm,a0⟩:=lL e al Q C;have bg:=e.box.lt;have a2:=Ac e.box;clear K I o V W au Y Z aa H ad G e al Q C;go_wp2_with fail)
 all_goals(
  go_region_law(refine PH rfl (.tmp 53) (.tmp 55) 226 rfl Tryz.Asi a pI v bl (Zt ps) [j,i] a0.symm bm.out rfl rfl rfl rfl a.heap.size 1 rfl rfl rfl U (by intro bV aq;simp at aq;rcases aq with rfl|rfl<;>rfl) O U bb ?_;intro bL bE br am ae M an;have E:Cm br jb 228 (EH x d p nK vs v false en):=(M.2 jb bg (λk=>a3 k.symm)).trans a2.out;have av:=E.cell 5;have bQ:=E.frozen 5;unfold EH at av;simp only[Af,Ai]at av))
 all_goals(
  obtain⟨aW,bo,aM,aI⟩:=lL am ae M an;clear bp bq X am ae M an E;go_wp2_with fail;go_ret2;have bh:=ac.out;subst bh;obtain⟨a8,a9⟩:=aG.app (j,i) aW.out bo.out aM.out aI.out;exact⟨rfl,m,_,a8,aR.trans a9⟩)
end
def KW(w:jT)(b:Nat):Prop:=∃a,w.heap[b]?=jm a/\a.isCells=jO
def cells_of_cell{w:jT}{a:Addr}{v:ku}(h:w.cell? a=jm v):KW w a.block:=by
 unfold World.cell? at h;cases b:w.heap[a.block]? with
 |none=>simp[b]at h
 |some c=>
  refine⟨c,b,?_⟩;cases c with
  |cells=>rfl
  |_=>simp[b]at h
def Ef{w:jT}{b:Nat}{e:TypeId}{xs:List ku}(h:Cm w b e xs):KW w b:=⟨_,h,rfl⟩
def cells_of_row{w:jT}{pI n k:Nat}{e:TypeId}{v:ku}{xs:List ku}(h:w.ownsRow pI e k v n xs){b:Nat}(c:v.ownBlock=jm b):KW w b:=by
 rcases h.2 with⟨a,_⟩|⟨g,f,i,a,_,d,_⟩
 ·subst a;cases c
 ·subst a;simp only[AY,Option.some.injEq]at c;subst c;exact⟨_,d,rfl⟩
def Fg.cells{len:DJ}{w:jT}{d p L:Nat}{s:St}{F:Nat->Prop}(h:Fg len w d p L s F){b:Nat}(m:F b):KW w b:=by
 obtain⟨I,E,H,B,A,own,e,hF⟩:=h;obtain⟨_,_,_,g,C,i,t⟩:=e.dev.rep;rcases(hF b).1 m with k|rfl|rfl|rfl
 ·rcases(t b).1 k with rfl|rfl|⟨v,r,j⟩
  ·obtain⟨st,n⟩:=i.box;exact Ef n
  ·obtain⟨f,q,_⟩:=i.blk;exact⟨_,q,rfl⟩
  ·obtain⟨f,_,_,_,c⟩:=i.blk;obtain⟨x,y,_,_,o⟩:=c v r;rcases o with⟨a,_⟩|⟨G,a,l,u⟩
   ·rw[j]at a;cases a
   ·rw[j]at a;injection a with a
    subst a;exact cells_of_row u (by rw[l];rfl)
 ·exact Ef e.box
 ·obtain⟨f,c,_⟩:=e.tk;exact⟨_,c,rfl⟩
 ·obtain⟨f,c,_⟩:=e.hd;exact⟨_,c,rfl⟩
def aN:List TypeId:=[70,178,235,183,47]
def Fg.type{len:DJ}{w:jT}{d p L:Nat}{s:St}{F:Nat->Prop}(h:Fg len w d p L s F){b:Nat}(r:F b):∃e k n,w.heap[b]?=jm (.cells e k n)/\k∈aN:=by
 obtain⟨Q,N,P,I,H,own,i,hF⟩:=h;obtain⟨_,_,_,g,M,j,y⟩:=i.dev.rep;rcases(hF b).1 r with o|rfl|rfl|rfl
 ·rcases(y b).1 o with rfl|rfl|⟨B,x,l⟩
  ·obtain⟨st,t⟩:=j.box;exact⟨_,_,_,t,by simp[aN]⟩
  ·obtain⟨e,v,_⟩:=j.blk;exact⟨_,_,_,v,by simp[aN]⟩
  ·obtain⟨e,_,_,_,f⟩:=j.blk;obtain⟨C,G,_,_,u⟩:=f B x;rcases u with⟨a,_⟩|⟨O,a,m,A⟩
   ·rw[l]at a;cases a
   ·rw[l]at a;injection a with a
    subst a;rcases A.2 with⟨c,_⟩|⟨K,J,E,c,_,q,_⟩
    ·rw[m]at c;cases c
    ·rw[m]at c;simp only[Value.slice.injEq,Option.some.injEq,Addr.mk.injEq,and_true]at c;exact⟨_,_,_,c.1▸q,by simp[aN]⟩
 ·exact⟨_,_,_,i.box,by simp[aN]⟩
 ·obtain⟨e,f,_⟩:=i.tk;exact⟨_,_,_,f,by simp[aN]⟩
 ·obtain⟨e,f,_⟩:=i.hd;exact⟨_,_,_,f,by simp[aN]⟩
def Fg.uQ{len:DJ}{w:jT}{d p L:Nat}{s:St}{F:Nat->Prop}(h:Fg len w d p L s F){b:Nat}{e:TypeId}{xs:List ku}(f:Cm w b e xs)(g:e∉aN):¬F b:=λi=>by
 obtain⟨j,k,l,a,c⟩:=h.type i;rw[show w.heap[b]?=_ from f]at a;injection a with a
 injection a with _ a _
 exact g (a▸c)
def Tabs.cells{w:jT}(h:Tabs w):KW w 0/\KW w 1:=
 ⟨cells_of_cell (h.fours 0 U),cells_of_cell (h.tV 0 U)⟩
section
variable{w w':jT}{pI jb x d p L:Nat}{s:St}{nK:ni}{vs:ku}{l:List Wr}{ps:List (ni×ni)}{over:Bool}{en:Int}{F:Nat->Prop}{v:ku}{row:Option Nat}
def Gi(c:w.grownBy w' row):Touch (λb=>row=jm b) w w':=Touch.gy c (λ_ a=>a)
def FU.abide{m0:DJ}(h:FU m0 w pI jb x d p L s nK vs l ps over en F v)(y:w.grownBy w' row)(A:∀m,row=jm m->¬KW w m):FU m0 w' pI jb x d p L s nK vs l ps over en F v:=by
 have t:=Gi y;have a:∀b,KW w b->¬row=jm b:=λb i f=>A b f i
 refine⟨⟨h.ix.sys.keep t (λb g=>a b (h.ix.sys.cells g)) (a _ h.ix.sys.tabs.cells.1) (a _ h.ix.sys.tabs.cells.2),h.ix.box.touch t (a _ (Ef h.ix.box)),h.ix.out⟩,h.box.touch t (a _ (Ef h.box)),Ie h.row t (λb g=>a b (cells_of_row h.row g)),?_,h.fj,h.bj,h.bx,h.bt,h.mj,h.mF⟩;obtain⟨n,o,f,i,j,r⟩:=h.set;refine⟨n,o,f,i,?_,r⟩;by_cases e:0<l.length*3
 ·refine Rd.touch j t (λB q=>a _ ?_);obtain⟨b,C,c,_,u⟩:=j.2 e;rw[q]at c;injection c with c
  subst c;have k:=u 0 e;rw[Ag (by rw[Qv];exact e)]at k;exact cells_of_cell k
 ·exact⟨j.1,λh=>absurd h e⟩
end
end
section
open Go.RowKit Go.Shelf
attribute [local go_sem]Oper.semAt_some
abbrev Below'(m:Nat):={i:Nat//i<m}
def Dl(m:Nat):Nat->List (Below' m)
 |0=>[]
 |a+1=>Dl m a++(if h:a<m then[⟨m-1-a,O⟩]else[])
def OO(m k:Nat)(h:k<m):Dl m (k+1)=Dl m k++[⟨m-1-k,O⟩]:=by
 rw[Dl,dif_pos h]
def Xv(m:Nat):∀a,a<=m->(Dl m a).length=a
 |0,_=>rfl
 |a+1,h=>by rw[OO m a O,AO,Xv m a O];rfl
def Xw(m:Nat):∀a b,a<=b->Dl m a<+:Dl m b
 |a,0,h=>by rw[show a=0 by omega];exact Alo _
 |a,b+1,h=>by
  by_cases c:a=b+1
  ·rw[c];exact Alo _
  ·rw[Dl];exact(Xw m a b O).trans (List.prefix_append _ _)
def Yz(d a:Nat)(b c:jT):Prop:=c.heap[d]?=b.heap[d]?/\c.heap[a]?=b.heap[a]?
def jI(q:ni×ni):Value:=.agg #[q.1,q.2]
def Asj(F:Fence)(n:Nat)(ac:F.fn 282)(al:F.round=none)(aD:1<=n)(e d c:Nat)(A:Option Addr)(ps:List (ni×ni))(aE:ps.length<=100000)(Z:0<ps.length->A=jm (Φ d))(w:jT)
 (q:w.cell? (Φ e)=jm (fM A ps.length c))(t:∀b(h:b<ps.length),w.cell? (Δ d (b*2))=jm (gz iV (ps[b].1.toNat:Int))/\w.cell? (Δ d (b*2+1))=jm (gz iV (ps[b].2.toNat:Int)))(ah:d<w):
 SeqStopsK F n prog 282 #[AB e] (λx:Below' ps.length=> #[x.1,jI (ps[x.1]'x.2)]) (Yz d e) (λan=>an=Dl ps.length ps.length) (λam=>am<+:Dl ps.length ps.length) ps.length w:=λl J V g s av aw I Y=>by
 have aa:=World.block_lt_of_cell? w _ q;have R:g.heap[e]?=w.heap[e]?:=s.block e aa;have u:g.heap[d]?=w.heap[d]?:=s.block d ah;have v:∀f:jT,f.heap[e]?=g.heap[e]?->f.cell? (Φ e)=jm (fM A ps.length c):=λf i=>(BQ (w:=w) (i.trans R)).trans q
 have S:∀f:jT,f.heap[d]?=g.heap[d]?->∀b(h:b<ps.length),f.cell? (Δ d (b*2))=jm (gz iV (ps[b].1.toNat:Int))/\f.cell? (Δ d (b*2+1))=jm (gz iV (ps[b].2.toNat:Int)):=λf i b h=>⟨(BQ (w:=w) (i.trans u)).trans (t b h).1,(BQ (w:=w) (i.trans u)).trans (t b h).2⟩
 obtain⟨W,X,U⟩:=l9 v S I;have aM:=v g rfl;have aq:=wR ((ps.length:Int) -1);clear q t I R u v S s;refine callsIn_of_wp func282 rfl ac ?_ al;simp only[ntmps282,List.size_toArray,Bg,CV,Nat.reduceAdd,Nat.reduceSub,Array.replicate_succ,Array.replicate_zero,List.push_toArray,List.append_toArray,DR,BM];gi_wp2
 gi_loopw [3](λp wr=>∃a,a<=ps.length/\p=gz iU ((ps.length:Int) -1-(a:Int))/\J (Dl ps.length a) wr/\wr.heap[d]?=g.heap[d]?/\wr.heap[e]?=g.heap[e]?)(λp _=>(intOf p+1).toNat)
 case atStart=>exact⟨0,Nat.zero_le _,by simp,Y,rfl,rfl⟩
 case round=>
  obtain⟨a,az,rfl,r,C,E⟩:=hrel;by_cases ad:a<ps.length
  ·have N:a<ps.length:=ad;obtain rfl:=Z O;obtain⟨j,L⟩:=ε (ps.length-1-a);have m:j<ps.length:=O;have ae:((ps.length:Int) -1-(a:Int))=(j:Int):=O;rw[ae];have K:=Ac (OO ps.length a N);obtain⟨au,aL,ao,ap,Q,ab⟩:=U (Dl ps.length a) ⟨j,m⟩ wr r (by rw[Xv _ _ O];exact N);have aR:=W wr E;obtain⟨aW,a0⟩:=X wr C j m;have aG:(j:Int)<(ps.length:Int):=O;have ar:=wR ((j:Int) -1);unfold jI at Q
   dsimp only at Q
   generalize ps[j]=aI at*;have k:=Ac L;clear L;gi_wp2;refine ab.mono ?_;rintro i B(⟨rfl,G,M⟩|⟨rfl,H⟩)
   ·have o:Hid (J (Dl ps.length (a+1)) B):=Ac (by
     rw[K.out];have:(⟨ps.length-1-a,O⟩:Below' ps.length)=⟨j,m⟩:=Subtype.ext k.symm;rw[this];exact G)
    have y:=Ac M;clear G M;gi_wp2;go_roundw
    case rel=>exact⟨a+1,O,by have:=k.out;congr 1;omega,o,y.1.trans C,y.2.trans E⟩
    case measure=>have:=k.out;simp[intOf]
   ·have o:Hid (V (Dl ps.length (a+1)) B):=Ac (by
     rw[K.out];have:(⟨ps.length-1-a,O⟩:Below' ps.length)=⟨j,m⟩:=Subtype.ext k.symm;rw[this];exact H)
    clear H;gi_wp2;refine bodyPost_ret (results_none rfl _ _ _) rfl ?_;exact⟨⟨_,rfl⟩,.inr ⟨Dl ps.length (a+1),Xw _ _ _ O,o⟩⟩
  ·have P:a=ps.length:=O;rw[show((ps.length:Int) -1-(a:Int))= -1 by omega];have T:Hid (J (Dl ps.length ps.length) wr):=Ac (P▸r);clear r P;gi_wp2;go_end0;exact⟨⟨_,rfl⟩,.inl ⟨Dl ps.length ps.length,rfl,T⟩⟩
end
section
open Go.RowKit
def CZ(d p x tt:Nat)(oV:ni)(jv:ku)(id:Int)(sv:ku)(st:ni):List Value:=
 [AB d,AB p,AB x,AB tt,oV,jv,id,sv,st]
structure CB(m:DJ)(w:jT)(g d p x tt bk L:Nat)(s:St)(b:Bk)(t:Tb)(F J:Nat->Prop)(oV:ni)(jv:ku)(id:Int)(sv:ku)(st:ni):Prop where
 ix:KH m w x d p L s F
 tb:Hm w (λk=>F k\/J k) tt bk b t
 jg:J g
 jl:∀k,J k->k<w
 box:Cm w g 90 (CZ d p x tt oV jv id sv st)
 fg:¬F g
 g1:g≠tt
 g2:g≠bk
 g3:g≠b.nt
 g4:g≠x
 x1:x≠bk
 x2:x≠b.nt
 c1:bk≠0/\bk≠1
 c2:b.nt≠0/\b.nt≠1
 c3:g≠0/\g≠1
abbrev Ag3:=CB (.up M0)
section
variable{m0:DJ}{w w':jT}{g d p x tt bk L:Nat}{s:St}{b:Bk}{t:Tb}{F J:Nat->Prop}{oV:ni}{jv:ku}{id:Int}{sv:ku}{st:ni}
def CB.below(h:CB m0 w g d p x tt bk L s b t F J oV jv id sv st)(k:η w w'):CB m0 w' g d p x tt bk L s b t F J oV jv id sv st:=
 ⟨h.ix.below k,h.tb.below k,h.jg,λj a=>Bc (h.jl j a) k.size,h.box.ξ k,h.fg,h.g1,h.g2,h.g3,h.g4,h.x1,h.x2,h.c1,h.c2,h.c3⟩
def CB.book(h:CB m0 w g d p x tt bk L s b t F J oV jv id sv st){c:Bk}{f:Tb}(i:Hm w' (λk=>F k\/J k) tt bk c f)(e:c.nt=b.nt)(k:Touch (·=bk) w w'):CB m0 w' g d p x tt bk L s c f F J oV jv id sv st:=
 ⟨⟨h.ix.sys.keep k (λn l a=>h.tb.fb (a▸.inl l)) (λa=>h.c1.1 a.symm) (λa=>h.c1.2 a.symm),h.ix.box.touch k h.x1,h.ix.out⟩,i,h.jg,λj m=>Bc (h.jl j m) k.size,h.box.touch k h.g2,h.fg,h.g1,h.g2,by rw[e];exact h.g3,h.g4,h.x1,by rw[e];exact h.x2,h.c1,by rw[e];exact h.c2,h.c3⟩
def Vh(h:CB m0 w g d p x tt bk L s b t F J oV jv id sv st):Calls prog 51 #[AB g] w λc w'=>c=iO jS/\w=w':=by
 have a:=h.box.c0;unfold CZ at a;clear h;go_in;go_wp2;go_ret;exact⟨rfl,rfl⟩
def aO(h:CB m0 w g d p x tt bk L s b t F J oV jv id sv st)(i:Int):Calls prog 54 #[AB g,i] w λj w'=>j=iO (gz iU (if Ey t.wt i=jO then 0 else 2))/\w=w':=by
 have f:=h.box.c3;unfold CZ at f;have c:=Ac (Vh h);have a:=Ac (Yv h.tb i);unfold atV at a;clear h;cases e:Ey t.wt i with
 |false=>
  rw[e,lg Bool.false_ne_true]at a;go_in;go_wp2_with(first|(refine c.out.ro ?_)|(refine a.out.ro ?_));go_ret;exact⟨rfl,rfl⟩
 |true=>
  rw[e,kX rfl]at a;go_in;go_wp2_with(first|(refine c.out.ro ?_)|(refine a.out.ro ?_));go_ret;exact⟨rfl,rfl⟩
def Awc(h:CB m0 w g d p x tt bk L s b t F J oV .nilIface id sv st):Calls prog 63 #[AB g] w λc w'=>c=iO jS/\w=w':=by
 have a:=h.box.c5;unfold CZ at a;clear h;go_wp2;go_ret;exact⟨rfl,rfl⟩
end
section
variable{m0:DJ}{w w':jT}{g d p x tt bk L:Nat}{s:St}{b:Bk}{t:Tb}{F J:Nat->Prop}{oV:ni}{jv:ku}{id:Int}{sv:ku}{st:ni}
def OnV(jv:ku)(id:Int):Option Nat->Prop
 |none=>jv=.nilIface
 |some a=>id=(a:Int)/\∃jb,jv=.iface 162 (AB jb)
def VG(h:CB m0 w g d p x tt bk L s b t F J oV jv id sv st){o:Option Nat}(c:OnV jv id o):Calls prog 63 #[AB g] w λa w'=>a=iO o.isSome/\w=w':=by
 have e:=h.box.c5;unfold CZ at e;clear h;cases o with
 |none=>
  have a:jv=.nilIface:=c;subst a;go_wp2;go_ret;exact⟨rfl,rfl⟩
 |some f=>
  obtain⟨_,jb,rfl⟩:=c;go_wp2;go_ret;exact⟨rfl,rfl⟩
def U5(t:Wt)(o:Option Nat)(i:Int):Int:=if Ey t i=jO then(match o with|some a=>if(a:Int)=i then 11 else 0|none=>0)else 2
def dN(h:CB m0 w g d p x tt bk L s b t F J oV jv id sv st){o:Option Nat}(k:OnV jv id o)(i:Int):Calls prog 68 #[AB g,i] w λm w'=>m=iO (gz iU (U5 t.wt o i))/\w=w':=by
 have a:=Ac (aO h i);have e:=Ac (VG h k);have l:=h.box.c6;unfold CZ at l;unfold U5;clear h;cases j:Ey t.wt i with
 |false=>
  rw[j,lg Bool.false_ne_true]at a;go_in;go_wp2_with(refine a.out.ro ?_);go_ret;exact⟨rfl,rfl⟩
 |true=>
  rw[j,kX rfl]at a;cases o with
  |none=>
   go_in;go_wp2_with(first|(refine a.out.ro ?_)|(refine e.out.ro ?_));go_ret;exact⟨rfl,rfl⟩
  |some f=>
   obtain⟨rfl,-⟩:=k;by_cases c:(f:Int)=i
   ·have n:((f:Int)==i)=true:=by rw[c];exact beq_self_eq_true i
    simp only[if_true,kX c];clear c;go_in;go_wp2_with(first|(refine a.out.ro ?_)|(refine e.out.ro ?_));go_ret;exact⟨rfl,rfl⟩
   ·have n:((f:Int)==i)=false:=beq_eq_false_iff_ne.2 c;simp only[if_true,lg c];clear c;go_in;go_wp2_with(first|(refine a.out.ro ?_)|(refine e.out.ro ?_));go_ret;exact⟨rfl,rfl⟩
def Asl(h:CB m0 w g d p x tt bk L s b t F J oV jv id sv st){i:Nat}(m:MM t.wt=jm i):
 Calls prog 26 #[AB g] w λk w'=>k=iO (iJ #[i,gz iU 0])/\
  ∃c,(b.many<16->c.many=b.many+1)/\c.nt=b.nt/\c.st i=fM none 0 0/\CB m0 w' g d p x tt bk L s c (Zm t i oV) F J oV jv id sv st/\Touch (·=bk) w w':=by
 have f:=h.box.c3;have j:=h.box.c4;unfold CZ at f j;have v:=Ac (Vh h);have q:=Ac (λy(e:η w y)=>zo (h.tb.below e) m oV);have u:Hid (∀a,Touch (·=bk) w a->a.cell? (Δ g 3)=jm (AB tt)/\a.cell? (Δ g 4)=jm (gz iV (oV.toNat:Int))):=Ac (λa e=>⟨(h.box.touch e h.g2).cell 3,(h.box.touch e h.g2).cell 4⟩);have r:=Ac h;clear h m;go_in;go_wp2_with(refine v.out.ro ?_);go_region_held3(λw'=>w'.cell? (Δ g 3)=jm (AB tt)/\w'.cell? (Δ g 4)=jm (gz iV (oV.toNat:Int)))
  (first|exact⟨f,j⟩|exact u _ ((mD (mX w)).trans n (λ_=>.inl)))
  ((first|(go_at_call 52;refine(q _ (mX w)).mono ?_;rintro k G⟨rfl,A,C,l,E,B,n⟩)))
 all_goals(go_wp2)
 all_goals(go_ret2)
 all_goals(
  have o:Touch (·=bk) w G:=(mD (mX w)).trans n (λ_=>.inl);exact⟨rfl,A,C,l,E,r.book B l o,o⟩)
def uS(h:CB m0 w g d p x tt bk L s b t F J oV jv id sv st)(k:MM t.wt=none):
 Calls prog 26 #[AB g] w λi w'=>i=iO (iJ #[gz iU 0,gz iU 6])/\η w w':=by
 have e:=h.box.c3;have f:=h.box.c4;unfold CZ at e f;have n:=Ac (Vh h);have l:=Ac (λo(c:η w o)=>WE (h.tb.below c) k oV.toNat);have m:Hid (∀a,η w a->a.cell? (Δ g 3)=jm (AB tt)/\a.cell? (Δ g 4)=jm (gz iV (oV.toNat:Int))):=Ac (λa c=>⟨(h.box.ξ c).cell 3,(h.box.ξ c).cell 4⟩);clear h k;go_in;go_wp2_with(refine n.out.ro ?_);go_region_held3(λw'=>w'.cell? (Δ g 3)=jm (AB tt)/\w'.cell? (Δ g 4)=jm (gz iV (oV.toNat:Int)))
  (first|exact⟨e,f⟩|exact m _ j)
  ((first|(go_at_call 52;have j:η w w.drew:=mX w;refine(l _ j).mono ?_;rintro i q⟨rfl,rfl⟩)))
 all_goals(go_wp2)
 all_goals(go_ret2)
 all_goals(exact⟨rfl,mX w⟩)
end
section
variable{w w':jT}{g d p x tt bk L:Nat}{s:St}{b:Bk}{t:Tb}{F J:Nat->Prop}{oV:ni}{jv:ku}{id:Int}{sv:ku}{st:ni}
def EF(F J:Nat->Prop)(bk a jb:Nat)(k:Nat):Prop:=F k\/J k\/k=bk\/k=a\/k=jb
end
def jJ(f:Nat)(a:Addr)(w:jT):(method (f+1) 162 (.pointer (jm a)) "Step").run prog w=.ok (274,.pointer (jm a)) w:=by kernel_rfl
section
variable{m0:DJ}{w w':jT}{g d p x tt bk L:Nat}{s s2:St}{b:Bk}{t:Tb}{F J:Nat->Prop}{oV:ni}{jv:ku}{id:Int}{sv:ku}{st:ni}{jb:Nat}
def Aoc(h:CB m0 w g d p x tt bk L s b t F J oV (.iface 162 (AB jb)) id sv st):Calls prog 63 #[AB g] w λc w'=>c=iO jO/\w=w':=by
 have a:=h.box.c5;unfold CZ at a;clear h;go_wp2;go_ret;exact⟨rfl,rfl⟩
def Awd(h:CB m0 w g d p x tt bk L s b t F J oV (.iface 162 (AB jb)) id sv st)(R:jT->Prop){G:Nat->Prop}(o:∀y,G y->y<w)
 (r:∀a,η w a->Calls prog 274 #[AB jb] a λf w'=>f=iO (iJ #[jS,gz iU 0])/\R w'/\Touch G a w')(P:∃c j e,sv=fM c j e):
 Calls prog 32 #[AB g] w λf w'=>f=iO (iJ #[id,jS,gz iU 0])/\R w':=by
 have T:=λM a=>jJ M (Φ jb) a
 obtain⟨c,j,e,rfl⟩:=P;obtain⟨H,A,E⟩:=l9 (Vh h) (Aoc h) r;have k:=h.box.c5;have l:=h.box.c6;have m:=h.box.c7;have n:=h.box.c8;unfold CZ at k l m n;obtain⟨a,i⟩:=ε (w.alloc (.cells #[.iface 162 (AB jb),id,fM c j e,st] 88));have Q:Hid (Cm a w 88 [.iface 162 (AB jb),id,fM c j e,st]):=Ac (i▸heap_alloc_new _ _);have B:Hid (η w a):=Ac (i▸ mZ.alloc (Ae _) _);have K:=Ac i;have C:Hid (¬G w):=Ac (λN=>absurd (o _ N) O);clear h r i o;go_in;go_wp2_with(first|(refine H.out.ro ?_)|(refine A.out.ro ?_)|(rw[<-K.out];refine(E a B).mono ?_;rintro f U⟨rfl,q,u⟩;have S:=(Q.touch u C).cell 1;simp only[Af,Ai]at S;have I:=Ac q;clear q u k l m n));refine bodyPost_ret (v:=iJ #[id,jS,gz iU 0]) (by simp[results,results32,go_sem]) rfl ?_;exact⟨rfl,I⟩
end
def Asm{n a k:Nat}(h:su n a=jm k):n.testBit k=false:=by
 unfold su at h;have:=dX h;simpa using this
structure BZ(L:Nat)(s:St):Prop where
 sh:mV L s.sh
 L1:L<=1024
 TL:s.tk.length=s.sh.CE
 nhd:s.hd.length=s.sh.CE
 tk:∀i,i<s.sh.CE->OkW (Iu s i)
 hd:∀i,i<s.sh.CE->OkW (hdN s i)
 cls:∀i,i<s.sh.CE->Iu s i=0\/hdN s i=0\/Bj (Iu s i)=Bj (hdN s i)
 VH:∀i a,i<s.sh.CE->Fj (Iu s i) a=jO->Fj (hdN s i) a=jS
 tab:∀i,i<s.sh.CE->s.ws (16+i)=s.tk.getD i 0
def AX(s:St)(off c:Nat):Prop:=∃a b,a<s.sh.CE/\Fj (Iu s a) b=jO/\Bj (Iu s a)=c/\off=D7 s.sh a c b
def EK(s:St)(off c:Nat):Prop:=∃a b,a<s.sh.CE/\Fj (hdN s a) b=jO/\Bj (hdN s a)=c/\off=D7 s.sh a c b
def Hz{c:Nat}(h:c=1\/c=2):Bq c*BG c=16/\0<Bq c/\0<BG c/\Bq c<=4:=by
 rcases h with rfl|rfl<;>decide
def Qy{sh:Sh}{i c a:Nat}(f:c=1\/c=2)(e:a<BG c):sh.data+1024*i<=D7 sh i c a/\D7 sh i c a+64*Bq c<=sh.data+1024*(i+1):=by
 obtain⟨b,g,j,_⟩:=Hz f;unfold D7;have d:Bq c*(a+1)<=16:=by rw[<-b];exact XD _ e
 rw[Afu,NJ]at d;rw[PO];omega
def Zu{sh:Sh}{i j c d a b:Nat}(f:c=1\/c=2)(g:d=1\/d=2)(k:a<BG c)(l:b<BG d)(h:D7 sh i c a=D7 sh j d b):i=j:=by
 have m:=Qy (sh:=sh) (i:=i) f k;have n:=Qy (sh:=sh) (i:=j) g l;have o:=(Hz f).2.1;have p:=(Hz g).2.1;rcases Alp i j with e|e|e
 ·omega
 ·exact e
 ·omega
def Xx{sh:Sh}{i c a b:Nat}(d:c=1\/c=2)(h:D7 sh i c a=D7 sh i c b):a=b:=by
 unfold D7 at h;have e:=(Hz d).2.1;have:64*Bq c*a=64*Bq c*b:=O;exact Nat.eq_of_mul_eq_mul_left O this
def aP{sh:Sh}{i j c d a b:Nat}(n:c=1\/c=2)(p:d=1\/d=2)(k:a<BG c)(m:b<BG d)(o:i=j->c=d)(h:D7 sh i c a≠D7 sh j d b):
 D7 sh i c a+64*Bq c<=D7 sh j d b\/D7 sh j d b+64*Bq d<=D7 sh i c a:=by
 have q:=Qy (sh:=sh) (i:=i) n k;have r:=Qy (sh:=sh) (i:=j) p m;rcases Alp i j with e|e|e
 ·omega
 ·subst e;obtain rfl:=o rfl;have l:a≠b:=λg=>h (by rw[g])
  unfold D7;rcases Nat.lt_or_gt_of_ne l with f|f
  ·have:=XD (64*Bq c) f;rw[Ahk,Afu,NJ]at this;omega
  ·have:=XD (64*Bq c) f;rw[Ahk,Afu,NJ]at this;omega
 ·omega
section
variable{L:Nat}{s:St}
def BZ.both(b:BZ L s){i:Nat}(hi:i<s.sh.CE):OkW (Iu s i|||hdN s i)/\(∀a,Fj (Iu s i|||hdN s i) a=(Fj (Iu s i) a||Fj (hdN s i) a))/\(Iu s i≠0->Bj (Iu s i|||hdN s i)=Bj (Iu s i))/\(hdN s i≠0->Bj (Iu s i|||hdN s i)=Bj (hdN s i)):=Ajm (b.tk i hi) (b.hd i hi) (b.cls i hi)
def BZ.RH(d:BZ L s){i a:Nat}(hi:i<s.sh.CE)(e:Fj (Iu s i) a=jO):∃b,SW (Iu s i) b/\Bj (Dc s i)=b/\a<BG b:=by
 obtain⟨b,c,f,_⟩:=(d.tk i hi).jF e;exact⟨b,c,by unfold Dc;rw[(d.both hi).2.2.1 c.ne,c.class],f⟩
def BZ.jK(d:BZ L s){i a:Nat}(hi:i<s.sh.CE)(e:Fj (hdN s i) a=jO):∃b,SW (hdN s i) b/\Bj (Dc s i)=b/\a<BG b:=by
 obtain⟨b,c,f,_⟩:=(d.hd i hi).jF e;exact⟨b,c,by unfold Dc;rw[(d.both hi).2.2.2 c.ne,c.class],f⟩
def Xy(j:BZ L s){i c a:Nat}(hi:i<s.sh.CE)(g:Bj (Dc s i)=c)(b:c=1\/c=2)(f:a<BG c):Jg s (D7 s.sh i c a:Nat)=jm (i,a):=by
 have k:=Qy (sh:=s.sh) (i:=i) b f;obtain⟨l,m,n,o⟩:=Hz b;have p:=j.TL;have d:(D7 s.sh i c a-s.sh.data)/1024=i:=O;have e:(D7 s.sh i c a-s.sh.data)%1024=64*Bq c*a:=by
  have:D7 s.sh i c a-s.sh.data=1024*i+64*Bq c*a:=by unfold D7;omega
  omega
 unfold Jg;rw[lg O];simp only[BC,d,e,g];rw[lg (by rw[Nat.mul_mod_right];omega),Nat.mul_div_cancel_left _ O]
def zO(l:BZ L s){off:Int}{i a:Nat}(h:Jg s off=jm (i,a)):i<s.sh.CE/\(Bj (Dc s i)=1\/Bj (Dc s i)=2)/\a<BG (Bj (Dc s i))/\off=(D7 s.sh i (Bj (Dc s i)) a:Nat):=by
 have r:=l.TL;unfold Jg at h;split at h
 ·cases h
 ·rename_i m;split at h
  ·cases h
  ·rename_i c;simp only[Option.some.injEq,Prod.mk.injEq]at h;obtain⟨rfl,rfl⟩:=h;have g:(off.toNat-s.sh.data)/1024<s.sh.CE:=O;generalize q:Bj (Dc s ((off.toNat-s.sh.data)/1024))=b at c⊢;have d:b=1\/b=2:=by
    unfold Bq at c;split at c
    ·exact .inl rfl
    ·exact .inr rfl
    ·simp at c
   obtain⟨f,n,o,p⟩:=Hz d;have e:=Nat.div_add_mod ((off.toNat-s.sh.data)%1024) (64*Bq b);have k:(off.toNat-s.sh.data)%1024%(64*Bq b)=0:=O;have j:(off.toNat-s.sh.data)%1024<1024:=MH _ U;refine⟨g,d,?_,?_⟩
   ·refine Nat.div_lt_of_lt_mul ?_;rw[PO,f];exact j
   ·unfold D7;rw[k,Axt]at e;rw[e];omega
def AX.cls(e:BZ L s){off c:Nat}(h:AX s off c):c=1\/c=2:=by
 obtain⟨g,f,d,b,rfl,_⟩:=h;obtain⟨c,a,_,_⟩:=e.RH d b;rw[a.class];exact a.cls
def AX.class(a:BZ L s){off c:Nat}(h:AX s off c):Ed s off=c:=by
 have i:=h.cls a;obtain⟨n,m,f,b,e,rfl⟩:=h;obtain⟨d,j,k,l⟩:=a.RH f b;have g:c=d:=by rw[<-e,j.class]
 subst g;unfold Ed;rw[Xy a f k i l];simp only[b,if_true,e]
def jL(g:BZ L s){off:Int}{c:Nat}(h:Ed s off=c)(a:c≠0):∃f:Nat,off=f/\AX s f c:=by
 unfold Ed at h;split at h
 ·exact absurd h.symm a
 ·rename_i n i m;obtain⟨e,o,p,l⟩:=zO g m;split at h
  ·rename_i b;obtain⟨d,j,k,_⟩:=g.RH e b;refine⟨_,l,n,i,e,b,h,?_⟩;rw[k,<-h,j.class]
  ·exact absurd h.symm a
def AX.bounds(a:BZ L s){off c:Nat}(h:AX s off c):s.sh.data<=off/\off+64*Bq c<=64*L/\off%64=0:=by
 have e:=h.cls a;obtain⟨l,m,j,g,i,rfl⟩:=h;obtain⟨d,f,o,k⟩:=a.RH j g;have b:c=d:=by rw[<-i,f.class]
 subst b;have n:=Qy (sh:=s.sh) (i:=l) e k;have:=a.sh.fits;have:=a.sh.data;refine⟨O,O,?_⟩;unfold D7;rw[PO];omega
def EK.cls(e:BZ L s){off c:Nat}(h:EK s off c):c=1\/c=2:=by
 obtain⟨g,f,d,b,rfl,_⟩:=h;obtain⟨c,a,_,_⟩:=e.jK d b;rw[a.class];exact a.cls
def EK.bounds(a:BZ L s){off c:Nat}(h:EK s off c):s.sh.data<=off/\off+64*Bq c<=64*L/\off%64=0:=by
 have e:=h.cls a;obtain⟨l,m,j,g,i,rfl⟩:=h;obtain⟨d,f,o,k⟩:=a.jK j g;have b:c=d:=by rw[<-i,f.class]
 subst b;have n:=Qy (sh:=s.sh) (i:=l) e k;have:=a.sh.fits;have:=a.sh.data;refine⟨O,O,?_⟩;unfold D7;rw[PO];omega
def zQ(a:BZ L s){o p c d:Nat}(h:AX s o c)(k:AX s p d)(w:o≠p):o+64*Bq c<=p\/p+64*Bq d<=o:=by
 have m:=h.cls a;have k12:=k.cls a;obtain⟨B,x,r,n,g,rfl⟩:=h;obtain⟨j,b,t,q,i,rfl⟩:=k;obtain⟨y,e,_,u⟩:=a.RH r n;obtain⟨A,f,_,v⟩:=a.RH t q;rw[e.class]at g;rw[f.class]at i;subst g i;refine aP m k12 u v (λl=>?_) w;subst l;rw[<-e.class,<-f.class]
def Qz(a:BZ L s){o p c d:Nat}(h:EK s o c)(k:AX s p d):o≠p/\(o+64*Bq c<=p\/p+64*Bq d<=o):=by
 have f:=h.cls a;have k12:=k.cls a;obtain⟨i,l,v,g,r,rfl⟩:=h;obtain⟨j,b,E,q,u,rfl⟩:=k;obtain⟨m,B,F,w⟩:=a.jK v g;obtain⟨n,C,A,x⟩:=a.RH E q;rw[B.class]at r;rw[C.class]at u;subst r u;have t:i=j->m=n:=λe=>by subst e;rw[<-F,<-A]
 have y:D7 s.sh i m l≠D7 s.sh j n b:=λe=>by
  obtain rfl:=Zu f k12 w x e;obtain rfl:=t rfl;obtain rfl:=Xx f e;rw[a.VH i l v q]at g;cases g
 exact⟨y,aP f k12 w x t y⟩
end
def DN{n:Nat}(h:n<2^64):(Az n).toNat=n:=by
 rw[UInt64.toNat_ofNat'];exact Nat.mod_eq_of_lt h
def SX{b:Type}(l:List b)(i j:Nat)(x a:b)(hi:i<l.length):(l.set i x).getD j a=if j=i then x else l.getD j a:=by
 rw[Bv,Bv,H9];by_cases h:i=j
 ·subst h;simp[hi]
 ·rw[lg h,lg (λc=>h c.symm)]
section
variable{L:Nat}{s:St}
def BZ.table(a:BZ L s):s.sh.table=128:=a.sh.table
def BZ.words(a:BZ L s){ws':Nat->ni}(h:∀i,i<s.sh.CE->ws' (16+i)=s.ws (16+i)):BZ L {s with ws:=ws'}:=
 ⟨a.sh,a.L1,a.TL,a.nhd,a.tk,a.hd,a.cls,a.VH,λi b=>(h i b).trans (a.tab i b)⟩
def IE(off c j:Nat):Prop:=off/8<=j/\j<off/8+8*Bq c
def Rj{o p c d j:Nat}(h:o+64*Bq c<=p\/p+64*Bq d<=o)(a:o%64=0)(b:p%64=0)(k:IE o c j):¬IE p d j:=by
 unfold IE at*;omega
def BZ.DU(a:BZ L s){off c j:Nat}(h1:s.sh.data<=off)(h2:IE off c j):16+s.sh.CE<=j:=by
 have:=a.sh.Qo;unfold IE at h2;omega
def uT{c i a:Nat}(h:O0 s c=jm i)(h2:Nl (Dc s i) c=jm a):i<s.tk.length/\(Bj (Dc s i)=c\/Bj (Dc s i)=0):=by
 unfold O0 at h;split at h
 ·rename_i j e;injection h with h;subst h
  unfold NW at e;have b:=dX e;have d:=nZ e;rw[Bool.and_eq_true,decide_eq_true_eq]at b;exact⟨GH.1 d,.inl b.1⟩
 ·unfold NW at h;have b:=dX h;have d:=nZ h;rw[Bool.and_eq_true,decide_eq_true_eq]at b;exact⟨GH.1 d,.inr b.1⟩
def Q7(g:BZ L s){c off:Nat}{s1:St}(C:c=1\/c=2)(h:Ei s c=jm (off,s1)):
 BZ L s1/\s1.ws=s.ws/\s1.sh=s.sh/\s1.tk=s.tk/\EK s1 off c/\(∀m d,EK s m d->EK s1 m d)/\(∀m d,EK s1 m d->EK s m d\/m=off)/\∀m d,AX s1 m d<->AX s m d:=by
 unfold Ei at h;split at h
 ·cases h
 ·rename_i a N;split at h
  ·cases h
  ·rename_i k t;simp only[Option.some.injEq,Prod.mk.injEq]at h;obtain⟨rfl,rfl⟩:=h;obtain⟨O,E⟩:=uT N t;have u:a<s.sh.CE:=by rw[<-g.TL];exact O
   obtain⟨V,J,M,G⟩:=g.both u;have B:k<BG c/\(LU (Dc s a)).testBit k=false:=by
    unfold Nl at t;split at t
    ·exact⟨uf t,Asm t⟩
    ·cases t
   have U:BG c<=16:=by rcases C with rfl|rfl<;>decide
   have K:(Dc s a).testBit k=false:=by
    have:=B.2;unfold LU at this;rw[PY,Du,Bool.and_eq_false_iff,decide_eq_false_iff_not]at this;rcases this with h|h
    ·omega
    ·exact h
   have P:Fj (Dc s a) k=false:=by
    unfold Fj;rw[Aoa,K,Bool.and_false]
   have A:=J k;rw[show Iu s a|||hdN s a=Dc s a from rfl,P]at A;obtain⟨R,Q⟩:Fj (Iu s a) k=jS/\Fj (hdN s a) k=false:=by
    cases i:Fj (Iu s a) k<;>cases n:Fj (hdN s a) k<;>rw[i,n]at A<;>first|exact⟨rfl,rfl⟩|cases A
   have y:hdN s a=0\/SW (hdN s a) c:=by
    rcases g.hd a u with i|⟨d,i⟩
    ·exact .inl i
    ·have e:=G i.ne;rw[show Iu s a|||hdN s a=Dc s a from rfl,i.class]at e;have:=i.cls;rcases E with n|n
     ·rw[e]at n;subst n;exact .inr i
     ·omega
   have S:Iu s a=0\/Bj (Iu s a)=c:=by
    rcases g.tk a u with i|⟨d,i⟩
    ·exact .inl i
    ·have e:=M i.ne;rw[show Iu s a|||hdN s a=Dc s a from rfl,i.class]at e;have:=i.cls;rcases E with n|n
     ·rw[e]at n;subst n;exact .inr i.class
     ·omega
   obtain⟨_,r,w⟩:=qj (g.hd a u) C y B.1 Q;have T:=DN r.lt;have p:∀j,hdN {s with hd:=s.hd.set a (Az (GM (hdN s a) c k).1)} j=if j=a then(GM (hdN s a) c k).1 else hdN s j:=λj=>by
    show((s.hd.set a _).getD j 0).toNat=_;rw[SX _ _ _ _ _ (by rw[g.nhd];exact u)];split
    ·exact T
    ·rfl
   have F:∀j,Iu {s with hd:=s.hd.set a (Az (GM (hdN s a) c k).1)} j=Iu s j:=λj=>rfl
   refine⟨⟨g.sh,g.L1,g.TL,by simp[g.nhd],g.tk,λj l=>?_,λj l=>?_,λj b l f=>?_,g.tab⟩,rfl,rfl,rfl,⟨a,k,u,?_,?_,rfl⟩,?_,?_,λm d=>Iff.rfl⟩
   ·rw[p];split
    ·exact .inr ⟨c,r⟩
    ·exact g.hd j l
   ·rw[p,F];by_cases e:j=a
    ·subst e;rw[kX rfl,r.class];exact S.imp id .inr
    ·rw[lg e];exact g.cls j l
   ·rw[p];rw[F]at f;by_cases e:j=a
    ·subst e;rw[kX rfl,w b,g.VH j b l f,Bool.false_or,decide_eq_false_iff_not];intro I;subst I;rw[R]at f;cases f
    ·rw[lg e];exact g.VH j b l f
   ·rw[p,kX rfl,w k];simp
   ·rw[p,kX rfl,r.class]
   ·rintro m d⟨j,b,l,f,o,v⟩;refine⟨j,b,l,?_,?_,v⟩
    ·rw[p];by_cases e:j=a
     ·subst e;rw[kX rfl,w b,f];rfl
     ·rw[lg e];exact f
    ·rw[p];by_cases e:j=a
     ·subst e;obtain⟨H,x,_,_⟩:=(g.hd j l).jF f;rw[kX rfl,r.class,<-o];rcases y with q|q
      ·exact absurd q x.ne
      ·exact q.class.symm
     ·rw[lg e];exact o
   ·rintro m d⟨j,b,l,f,o,v⟩;rw[p]at f o;by_cases e:j=a
    ·subst e;rw[kX rfl]at f o;rw[w b,Bool.or_eq_true,decide_eq_true_eq]at f;rw[r.class]at o;subst o;rcases f with f|rfl
     ·obtain⟨H,x,_,_⟩:=(g.hd j l).jF f;refine .inl ⟨j,b,l,f,?_,v⟩;rcases y with q|q
      ·exact absurd q x.ne
      ·exact q.class
     ·exact .inr v
    ·rw[lg e]at f o;exact .inl ⟨j,b,l,f,o,v⟩
def uU(i:BZ L s){c off:Nat}(h:EK s off c):
 ∃o,Np s off=(o,0)/\BZ L o/\o.sh=s.sh/\(∀j,(j<16\/16+s.sh.CE<=j)->o.ws j=s.ws j)/\
  (∀r d,AX o r d<->AX s r d\/(r=off/\d=c))/\(∀r d,EK o r d<->EK s r d/\r≠off):=by
 have H:=h.cls i;have W:=h;obtain⟨e,q,p,F,I,rfl⟩:=W;obtain⟨y,x,ad,M⟩:=i.jK p F;have f:y=c:=by rw[<-I,x.class]
 subst f;have aa:Fj (Iu s e) q=false:=by
  cases a:Fj (Iu s e) q
  ·rfl
  ·rw[i.VH e q p a]at F;cases F
 have N:Iu s e=0\/SW (Iu s e) y:=by
  rcases i.tk e p with l|⟨d,l⟩
  ·exact .inl l
  ·rcases i.cls e p with A|A|A
   ·exact absurd A l.ne
   ·exact absurd A x.ne
   ·rw[l.class,x.class]at A;subst A;exact .inr l
 obtain⟨_,B,G⟩:=qj (i.tk e p) H N M aa;obtain⟨_,Q,E,J⟩:=ql (i.hd e p) F;have ab:=DN B.lt;have ac:=DN Q.lt;have P:e<s.tk.length:=by rw[i.TL];exact p
 have U:e<s.hd.length:=by rw[i.nhd];exact p
 obtain⟨o,t⟩:∃o,o=({YU s e (Az (GM (Iu s e) (Bj (hdN s e)) q).1)with hd:=s.hd.set e (Az (EL (hdN s e) q).1)}:St):=⟨_,rfl⟩;have u:∀j,Iu o j=if j=e then(GM (Iu s e) y q).1 else Iu s j:=λj=>by
  rw[t];show((s.tk.set e _).getD j 0).toNat=_;rw[SX _ _ _ _ _ P,I];split
  ·exact ab
  ·rfl
 have C:∀j,hdN o j=if j=e then(EL (hdN s e) q).1 else hdN s j:=λj=>by
  rw[t];show((s.hd.set e _).getD j 0).toNat=_;rw[SX _ _ _ _ _ U];split
  ·exact ac
  ·rfl
 have n:o.sh=s.sh:=by rw[t];rfl
 have T:∀j,o.ws j=if j=16+e then Az (GM (Iu s e) y q).1 else s.ws j:=λj=>by
  rw[t];show DD s.ws (s.sh.table/8+e) _ j=_;rw[i.table,I];rfl
 refine⟨o,?_,⟨by rw[n];exact i.sh,i.L1,by rw[t];show(s.tk.set e _).length=_;rw[Di];exact i.TL,by rw[t];show(s.hd.set e _).length=_;rw[Di];exact i.nhd,λj g=>?_,λj g=>?_,λj g=>?_,λj b g a=>?_,λj g=>?_⟩,n,λj g=>?_,λr d=>?_,λr d=>?_⟩
 ·unfold Np;rw[Xy i p ad H M];simp only[F,if_true];rw[t]
 ·rw[u];split
  ·exact .inr ⟨_,B⟩
  ·exact i.tk j (by rw[<-n];exact g)
 ·rw[C];split
  ·exact Q
  ·exact i.hd j (by rw[<-n];exact g)
 ·rw[u,C];by_cases f:j=e
  ·rw[kX f,kX f,B.class];rcases J with l|l
   ·exact .inr (.inr (by rw[l,x.class]))
   ·exact .inr (.inl l)
  ·rw[lg f,lg f];exact i.cls j (by rw[<-n];exact g)
 ·rw[u]at a;rw[C];by_cases f:j=e
  ·subst f;rw[kX rfl]at a⊢;rw[G,Bool.or_eq_true,decide_eq_true_eq]at a;rw[E];rcases a with a|rfl
   ·rw[i.VH j b p a];rfl
   ·simp
  ·rw[lg f]at a⊢;exact i.VH j b (by rw[<-n];exact g) a
 ·rw[T,t];show _=(s.tk.set e _).getD j 0;rw[SX _ _ _ _ _ P,I];by_cases f:j=e
  ·rw[kX O,kX f]
  ·rw[lg O,lg f];exact i.tab j (by rw[<-n];exact g)
 ·rw[T,lg O]
 ·constructor
  ·rintro⟨j,b,g,a,k,m⟩;rw[n]at g m;rw[u]at a k;by_cases f:j=e
   ·subst f;rw[kX rfl]at a k;rw[B.class]at k;subst k;rw[G,Bool.or_eq_true,decide_eq_true_eq]at a;rcases a with a|rfl
    ·left;refine⟨j,b,g,a,?_,m⟩;rcases N with w|w
     ·rw[w,GX]at a;cases a
     ·exact w.class
    ·exact .inr ⟨m,rfl⟩
   ·rw[lg f]at a k;exact .inl ⟨j,b,g,a,k,m⟩
  ·rintro(⟨j,b,g,a,k,m⟩|⟨rfl,rfl⟩)
   ·refine⟨j,b,by rw[n];exact g,?_,?_,by rw[n];exact m⟩
    ·rw[u];by_cases f:j=e
     ·subst f;rw[kX rfl,G,a];rfl
     ·rw[lg f];exact a
    ·rw[u];by_cases f:j=e
     ·subst f;rw[kX rfl,B.class,<-k];rcases N with w|w
      ·rw[w,GX]at a;cases a
      ·exact w.class.symm
     ·rw[lg f];exact k
   ·exact⟨e,q,by rw[n];exact p,by rw[u,kX rfl,G];simp,by rw[u,kX rfl,B.class],by rw[n]⟩
 ·constructor
  ·rintro⟨j,b,g,a,k,m⟩;rw[n]at g m;rw[C]at a k;by_cases f:j=e
   ·subst f;rw[kX rfl]at a k;rw[E,Bool.and_eq_true,Bool.not_eq_true',decide_eq_false_iff_not]at a;have X:d=y:=by
     rcases J with l|l
     ·rw[l,x.class]at k;exact k.symm
     ·have:=E b;rw[l,GX,a.1]at this;simp[a.2]at this
    subst X;refine⟨⟨j,b,g,a.1,x.class,m⟩,λv=>?_⟩;rw[m]at v;exact a.2 (Xx H v)
   ·rw[lg f]at a k;refine⟨⟨j,b,g,a,k,m⟩,λv=>?_⟩;obtain⟨V,R,ae,Y⟩:=i.jK g a;have K:V=d:=by rw[<-k,R.class]
    subst K;rw[m]at v;exact f (Zu R.cls H Y M v)
  ·rintro⟨⟨j,b,g,a,k,m⟩,Z⟩;have S:j=e->b≠q:=λf v=>by
    subst f v;have K:d=y:=by rw[<-k,x.class]
    subst K;exact Z m
   refine⟨j,b,by rw[n];exact g,?_,?_,by rw[n];exact m⟩
   ·rw[C];by_cases f:j=e
    ·subst f;rw[kX rfl,E,a];simp[S rfl]
    ·rw[lg f];exact a
   ·rw[C];by_cases f:j=e
    ·subst f;rw[kX rfl];rcases J with l|l
     ·rw[l];exact k
     ·have:=E b;rw[l,GX,a]at this;simp[S rfl]at this
    ·rw[lg f];exact k
def dO(g:BZ L s){c off:Nat}(h:AX s off c):
 ∃k,GG s off=(k,0)/\BZ L k/\k.sh=s.sh/\k.hd=s.hd/\(∀j,(j<16\/16+s.sh.CE<=j)->k.ws j=s.ws j)/\
  (∀y d,AX k y d<->AX s y d/\y≠off):=by
 have E:=h.cls g;obtain⟨e,q,t,F,S,rfl⟩:=h;obtain⟨B,x,Y,M⟩:=g.RH t F;have a:B=c:=by rw[<-S,x.class]
 subst a;have W:Fj (hdN s e) q=false:=g.VH e q t F;obtain⟨R,I,v,A⟩:=ql (g.tk e t) F;have X:=DN I.lt;have H:e<s.tk.length:=by rw[g.TL];exact t
 obtain⟨k,o⟩:=ε (YU s e (Az (EL (Iu s e) q).1));have u:∀j,Iu k j=if j=e then(EL (Iu s e) q).1 else Iu s j:=λj=>by
  rw[o];show((s.tk.set e _).getD j 0).toNat=_;rw[SX _ _ _ _ _ H];split
  ·exact X
  ·rfl
 have G:∀j,hdN k j=hdN s j:=λj=>by rw[o];rfl
 have n:k.sh=s.sh:=by rw[o];rfl
 have N:∀j,k.ws j=if j=16+e then Az (EL (Iu s e) q).1 else s.ws j:=λj=>by
  rw[o];show DD s.ws (s.sh.table/8+e) _ j=_;rw[g.table];rfl
 refine⟨k,?_,⟨by rw[n];exact g.sh,g.L1,by rw[o];show(s.tk.set e _).length=_;rw[Di];exact g.TL,by rw[o];exact g.nhd,λj i=>?_,λj i=>?_,λj i=>?_,λj b i f=>?_,λj i=>?_⟩,n,by rw[o];rfl,λj i=>?_,λy d=>?_⟩
 ·unfold GG;rw[Xy g t Y E M];have Q:(EL (hdN s e) q).2=false:=by unfold EL;rw[W];rfl
  simp only[Q,R,if_true,Bool.false_eq_true,if_false];rw[o]
 ·rw[u];split
  ·exact I
  ·exact g.tk j (by rw[<-n];exact i)
 ·rw[G];exact g.hd j (by rw[<-n];exact i)
 ·rw[u,G];by_cases a:j=e
  ·rw[kX a,a];rcases A with l|l
   ·rw[l];rcases g.cls e t with w|w|w
    ·exact absurd w x.ne
    ·exact .inr (.inl w)
    ·exact .inr (.inr w)
   ·exact .inl l
  ·rw[lg a];exact g.cls j (by rw[<-n];exact i)
 ·rw[u]at f;rw[G];by_cases a:j=e
  ·subst a;rw[kX rfl,v,Bool.and_eq_true]at f;exact g.VH j b t f.1
  ·rw[lg a]at f;exact g.VH j b (by rw[<-n];exact i) f
 ·rw[N,o];show _=(s.tk.set e _).getD j 0;rw[SX _ _ _ _ _ H];by_cases a:j=e
  ·rw[kX O,kX a]
  ·rw[lg O,lg a];exact g.tab j (by rw[<-n];exact i)
 ·rw[N,lg O]
 ·constructor
  ·rintro⟨j,b,i,f,m,p⟩;rw[n]at i p;rw[u]at f m;by_cases a:j=e
   ·subst a;rw[kX rfl]at f m;rw[v,Bool.and_eq_true,Bool.not_eq_true',decide_eq_false_iff_not]at f;have T:d=B:=by
     rcases A with l|l
     ·rw[l,x.class]at m;exact m.symm
     ·have:=v b;rw[l,GX,f.1]at this;simp[f.2]at this
    subst T;refine⟨⟨j,b,i,f.1,x.class,p⟩,λr=>?_⟩;rw[p]at r;exact f.2 (Xx E r)
   ·rw[lg a]at f m;refine⟨⟨j,b,i,f,m,p⟩,λr=>?_⟩;obtain⟨P,J,Z,U⟩:=g.RH i f;have C:P=d:=by rw[<-m,J.class]
    subst C;rw[p]at r;exact a (Zu J.cls E U M r)
  ·rintro⟨⟨j,b,i,f,m,p⟩,V⟩;have K:j=e->b≠q:=λa r=>by
    subst a r;have C:d=B:=by rw[<-m,x.class]
    subst C;exact V p
   refine⟨j,b,by rw[n];exact i,?_,?_,by rw[n];exact p⟩
   ·rw[u];by_cases a:j=e
    ·subst a;rw[kX rfl,v,f];simp[K rfl]
    ·rw[lg a];exact f
   ·rw[u];by_cases a:j=e
    ·subst a;rw[kX rfl];rcases A with l|l
     ·rw[l];exact m
     ·have:=v b;rw[l,GX,f]at this;simp[K rfl]at this
    ·rw[lg a];exact m
end
abbrev Kv:=List nC×ni
structure Part where
 nJ:List Kv
 nT:List Nat
def CS(a:Nd):List Kv:=if a.val≠0 then[(a.pre,a.val)]else[]
def Gx(pre:List nC)(lb:nC)(l:List Kv):List Kv:=l.map λa=>(pre++lb::a.1,a.2)
def BI(pre:List nC):List nC->List Part->List Kv
 |a::b,p::ps=>Gx pre a p.nJ++BI pre b ps
 |_,_=>[]
def Bl(ps:List Part):List Nat:=(ps.map Part.nT).flatten
inductive Ep(s:St):Nat->ni->List Kv->List Nat->Prop
 |mk(r:Nat)(name:ni)(nd:Nd)(nN:List Part)(hrd:Gu s name=jm nd)(hpre:nd.pre.length<=r)(PL:nd.kids≠[]->nd.pre.length+1<=r)(hlen:nN.length=nd.kids.length)
  (hk:∀i(h1:i<nd.kids.length)(h2:i<nN.length),Ep s (r-nd.pre.length-1) nd.kids[i] nN[i].nJ nN[i].nT):
  Ep s r name (CS nd++BI nd.pre nd.labels nN) ((Bz name).toNat::Bl nN)
section
variable{L:Nat}{s s':St}
def zS{c d:Nat}(a:c=1\/c=2)(b:d=1\/d=2)(h:Bq c=Bq d):c=d:=by
 rcases a with rfl|rfl<;>rcases b with rfl|rfl<;>first|rfl|(simp[Bq]at h)
def PZ(x:Nd):DI x=1\/DI x=2:=by unfold DI;split<;>simp
def Kw(x:Nd):(Eh x).length=8*Bq (DI x):=by
 rw[I8];unfold DI;split<;>rfl
def JC(i:BZ L s){d:ni}{a:Nd}(h:Gu s d=jm a):
 ∃c:Nat,Bz d=c/\AX s c (DI a)/\CG a=jO/\wordsAt s.ws (c/8) (8*Bq (DI a))=Eh a:=by
 unfold Gu at h;split at h
 ·cases h
 ·rename_i k;split at h
  ·rename_i o;injection h with h
   have m:Ed s (Bz d)≠0:=λj=>k (by rw[j];rfl)
   obtain⟨c,g,e⟩:=jL i rfl m;obtain⟨f,b⟩:=Ajo _ o;rw[h]at f b;have l:=e.cls i;have n:Ed s (Bz d)=DI a:=by
    refine zS l (PZ a) ?_;have:=congrArg List.length b;rw[Kw]at this;simp[wordsAt]at this;omega
   rw[n]at e b;rw[g,BC]at b;exact⟨c,g,e,f,b.symm⟩
  ·cases h
def dP(j:BZ L s){c:ni}{a:Nd}{o:Nat}(f:Bz c=o)(g:AX s o (DI a))(b:CG a=jO)(i:wordsAt s.ws (o/8) (8*Bq (DI a))=Eh a):Gu s c=jm a:=by
 have e:=g.class j;have d:=PZ a;unfold Gu;rw[f,e,BC,i,lg (Ω ((Hz d).2.1)),kX (Ajn a b),zJ a b]
def DV(s s':St)(B:Nat->Prop):Prop:=∀a b,B a->AX s a b->AX s' a b/\∀j,IE a b j->s'.ws j=s.ws j
def DV.mono{B C:Nat->Prop}(h:DV s s' B)(k:∀a,C a->B a):DV s s' C:=λa b c d=>h a b (k a c) d
def DV.trans{e:St}{B:Nat->Prop}(h:DV s s' B)(k:DV s' e B):DV s e B:=λd a b i=>by
 obtain⟨f,g⟩:=h d a b i;obtain⟨l,m⟩:=k d a b f;exact⟨l,λj c=>(m j c).trans (g j c)⟩
def DV.refl(s:St)(B:Nat->Prop):DV s s B:=λ_ _ _ h=>⟨h,λ_ _=>rfl⟩
def Uk{o c:Nat}(h:∀j,IE o c j->s'.ws j=s.ws j):wordsAt s'.ws (o/8) (8*Bq c)=wordsAt s.ws (o/8) (8*Bq c):=by
 unfold wordsAt;refine Afv λt a=>?_
 have:=GH.1 a;exact h _ ⟨O,O⟩
def Ajp(m:BZ L s)(n:BZ L s'){B:Nat->Prop}(k:DV s s' B){a:ni}{d:Nd}(b:B (Bz a).toNat)(h:Gu s a=jm d):Gu s' a=jm d:=by
 obtain⟨l,c,i,g,j⟩:=JC m h;rw[c,BC]at b;obtain⟨e,f⟩:=k l _ b i;exact dP n c e g ((Uk f).trans j)
def WG{ps:List Part}{i:Nat}(h:i<ps.length){o:Nat}(a:o∈ps[i].nT):o∈Bl ps:=by
 unfold Bl;exact List.mem_flatten.2 ⟨_,CU.2 ⟨_,BO h,rfl⟩,a⟩
def Ep.keep(g:BZ L s)(j:BZ L s'){B:Nat->Prop}(k:DV s s' B){r:Nat}{name:ni}{d:List Kv}{a:List Nat}(h:Ep s r name d a)(c:∀b∈a,B b):Ep s' r name d a:=by
 induction h with
 |mk r name nd nN hrd hpre PL hlen hk f=>
  refine .mk r name nd nN (Ajp g j k (c _ (Bf ..)) hrd) hpre PL hlen λi h1 h2=>f i h1 h2 λb e=>c b (Bi _ (WG h2 e))
def Fz{pre:List nC}:∀{d:List nC}{ps:List Part}{c:Kv},c∈BI pre d ps->∃(b:Nat)(g:b<d.length)(i:b<ps.length)(a:Kv),a∈ps[b].nJ/\c=(pre++d[b]::a.1,a.2)
 |[],_,c,h=>by simp[BI]at h
 |_::_,[],c,h=>by simp[BI]at h
 |j::d,p::ps,c,h=>by
  rw[BI]at h;rcases AP.1 h with h|h
  ·obtain⟨a,f,e⟩:=CU.1 h;exact⟨0,by simp,by simp,a,f,e.symm⟩
  ·obtain⟨b,g,i,a,f,e⟩:=Fz h;exact⟨b+1,by simp;omega,by simp;omega,a,f,e⟩
def Gj{a:Nd}{b:Kv}(h:b∈CS a):b=(a.pre,a.val)/\a.val≠0:=by
 unfold CS at h;split at h
 ·rename_i c;exact⟨BB.1 h,c⟩
 ·cases h
def Ep.nib(t:BZ L s){r:Nat}{name:ni}{d:List Kv}{e:List Nat}(h:Ep s r name d e):∀a∈d,a.1.all DW=jO/\a.1.length<=r/\a.2≠0:=by
 induction h with
 |mk r name nd nN hrd hpre PL hlen hk p=>
  obtain⟨y,w,x,o,_⟩:=JC t hrd;have b:=(BD nd).1 o;intro a n;rcases AP.1 n with h1|h1
  ·obtain⟨rfl,g⟩:=Gj h1;exact⟨b.2.1,hpre,g⟩
  ·obtain⟨i,h2,c,q,j,rfl⟩:=Fz h1;obtain⟨k,u,l⟩:=p i O c q j;have v:=PL (by intro f;rw[f]at hlen;exact absurd c (by rw[hlen];simp));have m:=ED.1 b.2.2.2.1 _ (BO h2);refine⟨by simp only[List.all_append,List.all_cons,b.2.1,m,k,Bool.and_self],?_,l⟩;simp only[AO,Bg];omega
def Qa(p a b:List nC):Op.bytesLess (p++a) (p++b)=Op.bytesLess a b:=by
 induction p with
 |nil=>rfl
 |cons x p c=>simp[Op.bytesLess,c]
def qp(p:List nC)(x:nC)(t:List nC):Op.bytesLess p (p++x::t)=true:=by
 induction p with
 |nil=>rfl
 |cons b p a=>simp[Op.bytesLess,a]
def Xz{x y:nC}(h:x.toNat<y.toNat)(a b:List nC):Op.bytesLess (x::a) (y::b)=true:=by
 simp only[Op.bytesLess,Bool.or_eq_true,decide_eq_true_eq];exact .inl (UInt8.lt_iff_toNat_lt.2 h)
def UpK(l:List Kv):Prop:=l.Pairwise λa b=>Op.bytesLess a.1 b.1=jO
def Ajq{pre:List nC}{lb:nC}{l:List Kv}(h:UpK l):UpK (Gx pre lb l):=by
 unfold UpK Gx;rw[List.pairwise_map];refine h.imp λ{a b}c=>?_
 show Op.bytesLess (pre++lb::a.1) (pre++lb::b.1)=jO;rw[Qa];simp[Op.bytesLess,c]
def aQ{pre:List nC}:∀{a:List nC}{ps:List Part},Es a=jO->(∀p∈ps,UpK p.nJ)->UpK (BI pre a ps)
 |[],_,_,_=>by simp[BI,UpK]
 |_::_,[],_,_=>by simp[BI,UpK]
 |n::a,p::ps,l,h=>by
  obtain⟨e,f⟩:=MP l;rw[BI];refine WL.2 ⟨Ajq (h p (Bf ..)),aQ e (λo k=>h o (Bi _ k)),λq i b j=>?_⟩;obtain⟨c,_,rfl⟩:=CU.1 i;obtain⟨m,g,r,d,_,rfl⟩:=Fz j;show Op.bytesLess (pre++n::c.1) (pre++a[m]::d.1)=jO;rw[Qa];exact Xz (f _ (BO g)) _ _
def Ep.up(m:BZ L s){r:Nat}{name:ni}{a:List Kv}{c:List Nat}(h:Ep s r name a c):UpK a:=by
 induction h with
 |mk r name nd nN hrd hpre PL hlen hk l=>
  obtain⟨w,u,v,j,_⟩:=JC m hrd;have k:=(BD nd).1 j;refine WL.2 ⟨?_,aQ k.2.2.2.2.1 (λp g=>?_),λn d b e=>?_⟩
  ·unfold CS;split<;>simp
  ·obtain⟨i,f,rfl⟩:=CW g;exact l i O f
  ·obtain⟨rfl,_⟩:=Gj d;obtain⟨i,q,t,o,_,rfl⟩:=Fz e;exact qp _ _ _
def jM{f:Nat}{o8 pre:List nC}:∀(d:List nC)(c:List ni)(ps:List Part)(a:List Kv)(m0:List Int),d.length=c.length->ps.length=c.length->
 (∀b(h1:b<d.length)(h2:b<c.length)(h3:b<ps.length)(a:List Kv)(m0:List Int),(∀e∈ps[b].nT,(e:Int)∉m0)->EJ s f c[b] (o8++pre++[d[b]]) (a,m0)=jm (a++ps[b].nJ.map (λg=>(pairs (o8++pre++d[b]::g.1),g.2)),m0++ps[b].nT.map Gt))->
 (Bl ps).Nodup->(∀e∈Bl ps,(e:Int)∉m0)->
 (d.zip c).foldlM (λst(r:nC×ni)=>EJ s f r.2 (o8++pre++[r.1]) st) (a,m0)=jm (a++(BI pre d ps).map (λg=>(pairs (o8++g.1),g.2)),m0++(Bl ps).map Gt)
 |[],c,ps,a,m0,h1,h2,_,_,_=>by
  have:c=[]:=Cj (by simpa using h1.symm);subst this;have:ps=[]:=Cj (by simpa using h2);subst this;simp[BI,Bl]
 |q::d,[],ps,a,m0,h1,_,_,_,_=>by simp at h1
 |q::d,y::c,[],a,m0,_,h2,_,_,_=>by simp at h2
 |q::d,y::c,p::ps,a,m0,h1,h2,l,o,j=>by
  have m:Bl (p::ps)=p.nT++Bl ps:=rfl;rw[m]at o j;obtain⟨A,v,w⟩:=DF.1 o;have n:=l 0 Θ Θ Θ a m0 (λe i=>j e (BK _ i));simp only[List.getElem_cons_zero]at n;rw[List.zip_cons_cons,List.foldlM_cons,n];simp only[Option.bind_eq_bind,Option.bind_some];rw[jM d c ps _ _ (by simpa using h1) (by simpa using h2) (λb h1 h2 h3 a m0 u=>?_) v (λe i=>?_)]
  ·rw[m,BI];simp[Gx,Ba,Function.comp_def]
  ·have:=l (b+1) (by simp;omega) (by simp;omega) (by simp;omega) a m0 u;simpa using this
  ·rw[AP];rintro(h|h)
   ·exact j e (BA _ i) h
   ·obtain⟨k,x,t⟩:=CU.1 h;have:k=e:=Int.ofNat.inj t;subst this;exact w k x k i rfl
def Ep.Awf(H:BZ L s){r:Nat}{name:ni}{o:List Kv}{e:List Nat}(h:Ep s r name o e):∀(f:Nat)(o8:List nC)(d:List Kv)(m0:List Int),r<f->o8.length+r<=32->e.Nodup->(∀q∈e,(q:Int)∉m0)->(∀a∈o,OB (o8++a.1)=jO)->
 EJ s f name o8 (d,m0)=jm (d++o.map (λa=>(pairs (o8++a.1),a.2)),m0++e.map Gt):=by
 induction h with
 |mk r name nd nN hrd hpre PL hlen hk j=>
  intro f o8 d m0 K J v m l;obtain⟨q,c,M,F,_⟩:=JC H hrd;have G:=(BD nd).1 F;obtain⟨f,rfl⟩:∃g,f=g+1:=⟨f-1,O⟩;obtain⟨C,n⟩:=List.nodup_cons.1 v;rw[EJ,hrd]
  dsimp only
  have u:=m (Bz name).toNat (Bf ..);rw[c,BC]at u;rw[lg (by
   rw[c];rintro(h|h)
   ·exact u (List.contains_iff_mem.1 h)
   ·simp only[AO]at h;omega)]
  rw[lg (by
   rintro⟨h1,h2⟩;have:=l (nd.pre,nd.val) (BK _ (by unfold CS;rw[kX h1];exact BB.2 rfl));rw[this]at h2;cases h2)]
  have t:∀k∈Bl nN,((k:Int))∉m0++[Bz name]:=λk w y=>by
   rcases AP.1 y with h|h
   ·exact m k (Bi _ w) h
   ·rw[BB,c]at h;refine C ?_;rw[c,BC];have:k=q:=O;exact this▸w
  rw[jM nd.labels nd.kids nN _ _ G.2.2.1 hlen (λi h1 h2 h3 d m0 A=>?_) n t]
  ·simp only[c,CJ,Ci,BC,Ba,BM,DR];unfold CS;split<;>simp
  ·have I:=PL (by intro x;rw[x]at h2;simp at h2);have E:nN[i].nT.Nodup:=by
    have:=(List.pairwise_flatten.1 n).1;exact this _ (CU.2 ⟨_,BO h3,rfl⟩)
   have:=j i h2 h3 f (o8++nd.pre++[nd.labels[i]]) d m0 O (by simp only[AO,Bg,CV];omega) E A (λa B=>?_)
   ·rw[this];simp
   ·have:=l (nd.pre++nd.labels[i]::a.1,a.2) (BA _ ?_)
    ·simpa using this
    ·clear j hk l m t v n hrd PL hlen;have:∀(b:List nC)(ps:List Part)(i:Nat)(h1:i<b.length)(h3:i<ps.length),a∈ps[i].nJ->(nd.pre++b[i]::a.1,a.2)∈BI nd.pre b ps:=by
      intro b;induction b with
      |nil=>intro ps i h1;simp at h1
      |cons N b j=>
       intro ps i h1 h3 hk;cases ps with
       |nil=>simp at h3
       |cons p ps=>
        rw[BI];cases i with
        |zero=>exact BK _ (CU.2 ⟨a,by simpa using hk,rfl⟩)
        |succ i=>exact BA _ (by simpa using j ps i (by simpa using h1) (by simpa using h3) (by simpa using hk))
     exact this _ _ i h1 h3 B
end
structure Grown(L:Nat)(s0:St)(j:Jb)(B:List Nat):Prop where
 ok:BZ L j.s
 sh:j.s.sh=s0.sh
 nh:∀o d,¬EK j.s o d
 made:j.made=B.map Gt
 nod:B.Nodup
 new:∀o∈B,∀d,¬AX s0 o d
 tk:∀o,(∃d,AX j.s o d)<->(∃d,AX s0 o d)\/o∈B
 keep:DV s0 j.s (λ_=>True)
 low:∀i,i<16->j.s.ws i=s0.ws i
def Grown.start{L:Nat}{s:St}(ok:BZ L s)(nh:∀o d,¬EK s o d):Grown L s ⟨s,[]⟩ []:=
 ⟨ok,rfl,nh,rfl,List.nodup_nil,(λ_ h=>nomatch h),(λo=>by simp),DV.refl _ _,λ_ _=>rfl⟩
def Ky{o:Nat}(h:o<=65536):Bz (Az o)=o:=by
 unfold Bz;rw[DN O];exact wrap64 _ O O
section
variable{L:Nat}{s0:St}{j:Jb}{B:List Nat}
def Q8(g:Grown L s0 j B){n:Nd}(V:CG n=jO):
 GN j n=(j,0,6)\/∃v w a,GN j n=(v,w,0)/\a∉B/\Grown L s0 v (B++[a])/\Bz w=(a:Nat)/\w≠0/\Gu v.s w=jm n/\DV j.s v.s (λ_=>True):=by
 unfold GN;rw[V];simp only[Bool.not_true,Bool.false_eq_true,if_false];cases ap:Ei j.s (DI n)with
 |none=>exact .inl rfl
 |some p=>
  obtain⟨c,l⟩:=p;right;obtain⟨H,W,av,aw,N,_,al,au⟩:=Q7 g.ok (PZ n) ap;have M:=N.bounds H;have aG:=H.sh.Qo;have aD:=g.ok.L1;have ac:=PZ n;have Q:=Kw n;obtain⟨aI,aL,aM,aR⟩:=Hz ac;have E:∀e,¬IE c (DI n) e->CQ l.ws (c/8) (Eh n) e=l.ws e:=λe i=>by
   unfold CQ;rw[lg];intro h;exact i ⟨h.1,by rw[Q]at h;exact h.2⟩
  have T:∀e,e<16+l.sh.CE->¬IE c (DI n) e:=λe i h=>by
   unfold IE at h;omega
  obtain⟨o,k⟩:∃o,o=({l with ws:=CQ l.ws (c/8) (Eh n)}:St):=⟨_,rfl⟩;have m:BZ L o:=k▸H.words (λe i=>E _ (T _ O));have x:EK o c (DI n):=by rw[k];exact N
  obtain⟨s2,J,X,aq,F,r,aa⟩:=uU m x;have Z:o.sh=l.sh:=by rw[k]
  have u:∀a d,AX o a d<->AX j.s a d:=λa d=>by rw[k];exact au a d
  have U:=Ky (o:=c) O;have P:DV j.s s2 (λ_=>True):=λa I _ ar=>by
   have G:=(u a I).2 ar;obtain⟨aE,ae⟩:=Qz m x G;have Y:=G.bounds m;refine⟨(r a I).2 (.inl G),λe i=>?_⟩;rw[F e (.inr (m.DU Y.1 i)),k];show CQ l.ws (c/8) (Eh n) e=_;rw[E e (λh=>Rj ae M.2.2 Y.2.2 h i),W]
  have S:∀d,¬AX j.s c d:=λd f=>(Qz m x ((u c d).2 f)).1 rfl
  have R:c∉B:=λh=>by
   obtain⟨d,f⟩:=(g.tk c).2 (.inr h);exact S d f
  have ao:Gu s2 (Az c)=jm n:=by
   refine dP X U ((r _ _).2 (.inr ⟨rfl,rfl⟩)) V ?_;unfold wordsAt;refine List.ext_getElem (by simp[Q]) λt q A=>?_
   simp only[List.getElem_map,List.getElem_range];have am:IE c (DI n) (c/8+t):=⟨O,O⟩;rw[F _ (.inr (m.DU (by rw[Z];exact M.1) am)),k];show CQ l.ws (c/8) (Eh n) (c/8+t)=_;unfold CQ;rw[kX ⟨O,O⟩,Nat.add_sub_cancel_left,Bv,Ag A];rfl
  refine⟨⟨s2,j.made++[(c:Int)]⟩,Az c,c,?_,R,⟨X,by rw[aq,Z,av,g.sh],λa d h=>?_,by rw[g.made];simp,?_,λa an d f=>?_,λa=>?_,g.keep.trans P,λe i=>?_⟩,U,?_,ao,P⟩
  ·rw[k]at J;simp only[J,if_true]
  ·obtain⟨q,A⟩:=(aa a d).1 h;rw[k]at q;rcases al a d q with C|C
   ·exact g.nh a d C
   ·exact A C
  ·exact DF.2 ⟨g.nod,by simp,λaz ad b K y=>by rw[BB]at K;subst K;exact R (y▸ad)⟩
  ·rcases AP.1 an with h|h
   ·exact g.new a h d f
   ·rw[BB]at h;subst h;obtain⟨ab,ah⟩:=(g.tk a).2 (.inl ⟨d,f⟩);exact S ab ah
  ·have q:(∃d,AX s2 a d)<->(∃d,AX j.s a d)\/a=c:=by
    constructor
    ·rintro⟨d,f⟩;rcases(r a d).1 f with h|h
     ·exact .inl ⟨d,(u a d).1 h⟩
     ·exact .inr h.1
    ·rintro(⟨d,f⟩|rfl)
     ·exact⟨d,(r a d).2 (.inl ((u a d).2 f))⟩
     ·exact⟨_,(r _ _).2 (.inr ⟨rfl,rfl⟩)⟩
   show(∃d,AX s2 a d)<->_;rw[q,g.tk a,AP,BB,or_assoc]
  ·show s2.ws e=_;rw[F e (.inl i),k];show CQ l.ws (c/8) (Eh n) e=_;rw[E e (T e O),W,g.low e i]
  ·intro y;have:=congrArg UInt64.toNat y;rw[DN O]at this;simp at this;omega
def Aoe(L:Nat)(s0:St)(j:Jb)(B:List Nat)(r:Nat)(l:List nC)(e:ni)(a:Jb×ni×Int):Prop:=
 (a.2.2=6/\∃d,Grown L s0 a.1 d)\/
 (a.2.2=0/\∃b c,Grown L s0 a.1 (B++b)/\DV j.s a.1.s (λ_=>True)/\a.2.1≠0/\Ep a.1.s r a.2.1 [(l,e)] c/\c.Perm b)
def Ajr{s:St}{a:ni}{l:List nC}{b:ni}{r o:Nat}(h:Gu s a=jm ⟨l,b,[],[]⟩)(e:Bz a=o)(d:l.length<=r)(f:b≠0):Ep s r a [(l,b)] [o]:=by
 have:=Ep.mk r a ⟨l,b,[],[]⟩ [] h d (λh=>absurd rfl h) rfl (λg c _=>absurd c Θ);rw[e,BC]at this;simpa[CS,BI,Bl,f]using this
def X3{pre:List nC}{val:ni}{b:nC}{a:ni}(f:pre.length<=15)(e:pre.all DW=jO)(c:DW b=jO)(k:a≠0):KN ⟨pre,val,[],[]⟩ b a=jO/\Ja ⟨pre,val,[],[]⟩ b a=⟨pre,val,[b],[a]⟩/\CG ⟨pre,val,[b],[a]⟩=jO/\CG ⟨pre,val,[],[]⟩=true:=by
 have g:CG ⟨pre,val,[],[]⟩=true:=by
  rw[BD];exact⟨f,e,rfl,rfl,rfl,λi h=>absurd h Θ⟩
 have d:a.toNat≠0:=λj=>k (Eb.1 (by simpa using j))
 refine⟨?_,rfl,?_,g⟩
 ·rw[Vg];exact⟨g,by simpa[DW]using c,d,rfl⟩
 ·rw[BD];refine⟨f,e,rfl,by simp[c],rfl,λi h=>?_⟩;simp only[Bg,CV]at h;have:i=0:=O;subst this;exact d
def zV{s:St}{a d:ni}{pre:List nC}{val:ni}{e:nC}{r o:Nat}{c:List Kv}{b:List Nat}(h:Gu s a=jm ⟨pre,val,[e],[d]⟩)(i:Bz a=o)(g:pre.length+1<=r)(j:Ep s (r-pre.length-1) d c b):
 Ep s r a ((if val≠0 then[(pre,val)]else[])++Gx pre e c) (o::b):=by
 have:=Ep.mk r a ⟨pre,val,[e],[d]⟩ [⟨c,b⟩] h (by simp only;omega) (λ_=>g) rfl (λk f l=>by
  simp only[Bg,CV]at f;have:k=0:=O;subst this;exact j)
 rw[i,BC]at this;simpa[CS,BI,Bl]using this
def dQ:∀(f:Nat){j:Jb}{B:List Nat}(_:Grown L s0 j B)(r:Nat)(l:List nC)(c:ni),l.length<f->l.length<=r->l.all DW=jO->c≠0->Aoe L s0 j B r l c (OC f j l c)
 |0,_,_,_,_,_,_,h,_,_,_=>absurd h O
 |f+1,j,B,g,r,l,c,T,H,m,y=>by
  rw[OC];by_cases n:l.length<=15
  ·rw[kX n];have K:CG ⟨l,c,[],[]⟩=true:=by
    rw[BD];exact⟨n,m,rfl,rfl,rfl,λV h=>absurd h Θ⟩
   rcases Q8 g K with a|⟨M,N,d,a,I,i,q,p,s,k⟩
   ·rw[a];exact .inl ⟨rfl,B,g⟩
   ·rw[a];exact .inr ⟨rfl,[d],[d],i,k,p,Ajr s q H y,List.Perm.refl _⟩
  ·rw[lg n];have A:=dQ f g (r-15-1) (l.drop 16) c (by rw[AU];omega) (by rw[AU];omega) (XM _ _ _ m) y;generalize OC f j (l.drop 16) c=P at A;obtain⟨W,X,a⟩:=P;simp only;unfold Jn;rcases A with⟨e,C,b⟩|⟨e,u,E,b,v,w,x,J⟩
   ·simp only at e b;subst e;rw[kX U];exact .inl ⟨rfl,C,b⟩
   ·simp only at e b v w x;subst e;rw[lg Θ];have o:(l.take 15).length=15:=by simp;omega
    have t:l.getD 15 0=l[15]' O:=by rw[Bv,Ag O];rfl
    have G:DW (l.getD 15 0)=true:=by rw[t];exact ED.1 m _ (BO _)
    obtain⟨Q,R,S,_⟩:=X3 (val:=0) (Nat.le_of_eq o) (XL _ _ 15 m) G w;rw[kX Q,R];rcases Q8 b S with a|⟨M,N,d,a,I,i,q,p,s,k⟩
    ·rw[a];exact .inl ⟨rfl,_,b⟩
    ·rw[a];refine .inr ⟨rfl,u++[d],d::E,by rw[<-Ba];exact i,v.trans k,p,?_,?_⟩
     ·have:=zV (r:=r) s q (by rw[o];omega) (by rw[o];exact x.keep b.ok i.ok k (λ_ _=>trivial));have F:l.take 15++l.getD 15 0::l.drop 16=l:=by
       rw[t]
       conv=>rhs;rw[<-DY 15 l]
       rw[BX (by omega:15<l.length)]
      rw[lg Θ,DR]at this;unfold Gx at this;simp only[Ci,FW,F]at this;exact this
     ·refine List.Perm.trans ?_ (List.perm_append_singleton d u).symm;exact List.Perm.cons _ J
end
def PM(pre:List nC):∀(a b:List nC)(c d:List Part),a.length=c.length->BI pre (a++b) (c++d)=BI pre a c++BI pre b d
 |[],b,[],d,_=>by simp[BI]
 |[],b,_::_,d,h=>by simp at h
 |_::_,b,[],d,h=>by simp at h
 |x::a,b,p::c,d,h=>by
  simp only[BM,BI,PM pre a b c d (by simpa using h),Ba]
def Vk(pre:List nC)(a:List nC)(ps:List Part)(i:Nat)(h:a.length=ps.length):BI pre a ps=BI pre (a.take i) (ps.take i)++BI pre (a.drop i) (ps.drop i):=by
 rw[<-PM _ _ _ _ _ (by simp[h]),DY,DY]
def RI(a b:List Part):Bl (a++b)=Bl a++Bl b:=by simp[Bl]
def U6(ps:List Part)(i:Nat):Bl ps=Bl (ps.take i)++Bl (ps.drop i):=by rw[<-RI,DY]
def aS{l:List nC}{k:Nat}(h:k<l.length):l.getD k 0=l[k]:=by rw[Bv,Ag h];rfl
def Asn{l:List nC}{k:Nat}(h:k<l.length):l.take k++l.getD k 0::l.drop (k+1)=l:=by
 rw[aS h,<-BX h,DY]
def Aof{x:ni}(h:x≠0):x.toNat≠0:=λa=>h (Eb.1 (by simpa using a))
section
variable{L:Nat}{s0:St}{j:Jb}{B:List Nat}
def zW(g:Grown L s0 j B){x:Nd}(J:CG x=jO){nN:List Part}(N:nN.length=x.kids.length){b:nC}(K:DW b=jO)(Q:RY x.labels b=jS){c:ni}(M:c≠0){r:Nat}(S:x.pre.length+1<=r)
 (H:∀e(h1:e<x.kids.length)(h2:e<nN.length),Ep j.s (r-x.pre.length-1) x.kids[e] nN[e].nJ nN[e].nT){k:List Kv}{f:List Nat}(U:Ep j.s (r-x.pre.length-1) c k f):
 Jn j x b c 0=(j,0,6)\/∃i m t,Jn j x b c 0=(i,m,0)/\Grown L s0 i (B++[t])/\DV j.s i.s (λ_=>True)/\m≠0/\∃C A,Ep i.s r m C A/\A.Perm (t::f++Bl nN)/\
  ∀q,q∈C<->q∈CS x++BI x.pre x.labels nN\/q∈Gx x.pre b k:=by
 have I:KN x b c=true:=(Vg _ _ _).2 ⟨J,by simpa[DW]using K,Aof M,Q⟩;have F:=zN x b c I;have Y:=(BD x).1 J;unfold Jn;rw[lg Θ,kX I];rcases Q8 g F.right with u|⟨i,m,t,u,W,n,R,P,T,o⟩
 ·exact .inl u
 ·right;obtain⟨p,w⟩:=ε (He x.labels b);have X:p<=x.labels.length:=w▸F.place;have y:=Ep.mk r m (Ja x b c) (Lt nN p ⟨k,f⟩) T (by show x.pre.length<=r;omega) (λ_=>S) (by rw[Ri _ _ _ O,F.A0b,N]) (λe h1 h2=>by
   have v:=LC x.kids p c O e;have d:=LC nN p ⟨k,f⟩ O e;have a:(Lt x.kids p c)[e]?=jm (Ja x b c).kids[e]:=(congrArg (λl=>l[e]?) (show Lt x.kids p c=(Ja x b c).kids by rw[w];rfl)).trans (Ag h1);rw[Ag h2]at d;rw[v]at a;show Ep i.s (r-x.pre.length-1) (Ja x b c).kids[e] _ _;have V:(Ja x b c).kids.length=x.kids.length+1:=F.A0b;by_cases E:e<p
   ·rw[kX E]at a d;rw[Ag O]at a d;injection a with a
    injection d with d
    rw[d];have:=(H e O O).keep g.ok n.ok o (λ_ _=>trivial);simp only[a]at this⊢
    first|exact this|(rw[<-a];exact this)
   ·rw[lg E]at a d;by_cases G:e=p
    ·rw[kX G]at a d;injection a with a
     injection d with d
     rw[d];have:=U.keep g.ok n.ok o (λ_ _=>trivial)
     first|exact a▸this|(rw[<-a];exact this)
    ·rw[lg G]at a d;rw[Ag O]at a d;injection a with a
     injection d with d
     rw[d];have:=(H (e-1) O O).keep g.ok n.ok o (λ_ _=>trivial)
     first|exact a▸this|(rw[<-a];exact this))
  rw[R,BC]at y;refine⟨i,m,t,u,n,o,P,_,_,y,?_,λq=>?_⟩
  ·refine List.Perm.cons _ ?_;unfold Lt;rw[RI,U6 nN p];show(Bl (nN.take p)++(f++Bl (nN.drop p))).Perm (f++(Bl (nN.take p)++Bl (nN.drop p)));rw[<-Ba,<-Ba];exact List.Perm.append_right _ List.perm_append_comm
  ·have v:BI x.pre (Lt x.labels p b) (Lt nN p ⟨k,f⟩)=BI x.pre (x.labels.take p) (nN.take p)++(Gx x.pre b k++BI x.pre (x.labels.drop p) (nN.drop p)):=by
    unfold Lt;rw[PM _ _ _ _ _ (by simp;omega)];rfl
   rw[show(Ja x b c).labels=Lt x.labels p b by rw[w];rfl,show(Ja x b c).pre=x.pre from rfl,show CS (Ja x b c)=CS x from rfl,v,Vk x.pre x.labels nN p O];simp only[AP]
   grind
def qw(x:Nd)(k:Nat)(e:k<x.pre.length):∀(nN:List Part),Gx (x.pre.take k) (x.pre.getD k 0) (CS {x with pre:=x.pre.drop (k+1)}++BI (x.pre.drop (k+1)) x.labels nN)=CS x++BI x.pre x.labels nN:=by
 have b:∀t,x.pre.take k++x.pre.getD k 0::(x.pre.drop (k+1)++t)=x.pre++t:=λt=>by
  rw[<-BM,<-Ba,Asn e]
 have d:x.pre.take k++x.pre.getD k 0::x.pre.drop (k+1)=x.pre:=by simpa using b []
 have h:∀(a:List nC)(ps:List Part),Gx (x.pre.take k) (x.pre.getD k 0) (BI (x.pre.drop (k+1)) a ps)=BI x.pre a ps:=by
  intro a;induction a with
  |nil=>intro ps;simp[BI,Gx]
  |cons i a f=>
   intro ps;cases ps with
   |nil=>simp[BI,Gx]
   |cons p ps=>
    have:=f ps;unfold Gx at this⊢;simp only[BI,CJ,this];congr 1;unfold Gx;rw[List.map_map];refine Afv λg _=>?_
    simp only[Function.comp_apply];rw[b]
 intro nN;have c:=h x.labels nN;unfold Gx at c⊢;rw[CJ,c];congr 1;unfold CS
 dsimp only
 split
 ·simp only[Ci,FW];rw[d]
 ·rfl
def Aog(L:Nat)(s0:St)(r:Nat)(x:Nd)(nN:List Part)(nM:List nC)(g:ni)(a:Jb×ni×Int):Prop:=
 (a.2.2=6/\∃f,Grown L s0 a.1 f)\/
 (a.2.2=0/\∃c e d,Grown L s0 a.1 c/\a.2.1≠0/\Ep a.1.s r a.2.1 e d/\d.Perm (c++Bl nN)/\∀b,b∈e<->b∈CS x++BI x.pre x.labels nN\/b=(nM,g))
def Aso(V:BZ L s0)(ba:∀f d,¬EK s0 f d){x:Nd}(ap:CG x=jO){nN:List Part}(ah:nN.length=x.kids.length){r:Nat}(bh:x.pre.length<=r)(aL:x.kids≠[]->x.pre.length+1<=r)
 (ac:∀i(h1:i<x.kids.length)(h2:i<nN.length),Ep s0 (r-x.pre.length-1) x.kids[i] nN[i].nJ nN[i].nT){nM:List nC}{p:ni}(bi:nM.length<=r)(C:nM.all DW=jO)(T:p≠0)(a3:x.pre≠nM)
 (a4:oW x.pre nM=x.pre.length->RY x.labels (nM.getD (oW x.pre nM) 0)=jS):Aog L s0 r x nN nM p (Uw ⟨s0,[]⟩ x nM p):=by
 have y:=Grown.start V ba;have o:=(BD x).1 ap;have bd:=JY x.pre nM;have aR:=LM x.pre nM;have n:=UH x.pre nM;unfold Uw;by_cases t:oW x.pre nM=x.pre.length
 ·rw[kX t];have m:x.pre.length<nM.length:=by
   rcases JO x.pre.length nM.length with h|h
   ·exact h
   ·exfalso;refine a3 ?_;rw[t,I7,List.take_of_length_le O]at n;exact n
  have al:=a4 t;rw[t]at al n⊢;rw[I7]at n;have hcut:=Asn m;rw[<-n]at hcut;have A:DW (nM.getD x.pre.length 0)=true:=by rw[aS m];exact ED.1 C _ (BO _)
  have s:=dQ (nM.length+1) y (r-x.pre.length-1) (nM.drop (x.pre.length+1)) p (by rw[AU];omega) (by rw[AU];omega) (XM _ _ _ C) T;generalize OC (nM.length+1) ⟨s0,[]⟩ (nM.drop (x.pre.length+1)) p=W at s;obtain⟨aq,v,c⟩:=W;rcases s with⟨g,F,e⟩|⟨g,l,ab,e,ad,u,an,a5⟩
  ·simp only at g e;subst g;simp only;unfold Jn;rw[kX U];exact .inl ⟨rfl,F,e⟩
  ·simp only at g e ad u an;subst g;simp only;rw[DR]at e;rcases zW (r:=r) e ap ah A al u O (λi h1 h2=>(ac i h1 h2).keep V e.ok ad (λ_ _=>trivial)) an with c|⟨a8,ar,f,c,N,a1,Q,J,I,G,R,P⟩
   ·rw[c];exact .inl ⟨rfl,_,e⟩
   ·rw[c];refine .inr ⟨rfl,l++[f],J,I,N,Q,G,R.trans ?_,λE=>?_⟩
    ·rw[Ba];refine List.Perm.trans (l₂:=f::(l++Bl nN)) (List.Perm.cons _ (List.Perm.append_right _ a5)) ?_;exact List.perm_middle.symm
    ·rw[P E];unfold Gx;simp only[Ci,FW,BB,hcut]
 ·rw[lg t];have m:oW x.pre nM<x.pre.length:=O;obtain⟨b,a0⟩:=ε (oW x.pre nM);have am:=ZU x.pre nM;rw[<-a0]at m n aR am⊢;have A:DW (x.pre.getD b 0)=true:=by rw[aS m];exact ED.1 o.2.1 _ (BO _)
  have q:(x.pre.take b).length=b:=by simp;omega
  have a2:CG {x with pre:=x.pre.drop (b+1)}=true:=by
   rw[BD];exact⟨by simp only[AU];omega,XM _ _ _ o.2.1,o.2.2.1,o.2.2.2.1,o.2.2.2.2.1,o.2.2.2.2.2⟩
  rcases Q8 y a2 with c|⟨aq,v,j,c,be,e,av,u,aD,aE⟩
  ·rw[c];simp only;split
   ·unfold Jn;rw[kX U];exact .inl ⟨rfl,_,y⟩
   ·rw[kX U];exact .inl ⟨rfl,_,y⟩
  ·rw[c];simp only;rw[DR]at e;have H:=Ep.mk (r-b-1) v {x with pre:=x.pre.drop (b+1)} nN aD (by simp only[AU];omega) (λh=>by have:=aL h;simp only[AU];omega) ah (λi h1 h2=>by
    have:=(ac i h1 h2).keep V e.ok aE (λ_ _=>trivial);have aM:r-b-1-({x with pre:=x.pre.drop (b+1)}:Nd).pre.length-1=r-x.pre.length-1:=by simp only[AU];omega
    rw[aM];exact this)
   rw[av,BC]at H;by_cases S:b=nM.length
   ·rw[kX S];have a7:nM=x.pre.take b:=by rw[n,S,I7]
    obtain⟨X,Y,Z,_⟩:=X3 (pre:=x.pre.take b) (val:=p) (by rw[q];omega) (XL _ _ _ o.2.1) A u;unfold Jn;rw[lg Θ,kX X,Y];rcases Q8 e Z with c|⟨a9,ar,au,c,bg,k,aw,B,aG,aI⟩
    ·rw[c];exact .inl ⟨rfl,_,e⟩
    ·rw[c];have aa:=zV (r:=r) aG aw (by rw[q];omega) (by rw[q];exact H.keep e.ok k.ok aI (λ_ _=>trivial));rw[qw x b m nN,kX T]at aa;refine .inr ⟨rfl,[j]++[au],_,_,k,B,aa,?_,λE=>?_⟩
     ·exact(List.Perm.swap j au _)
     ·rw[a7];simp only[BM,DR,Cb];exact Or.comm
   ·rw[lg S,lg Θ];have w:b<nM.length:=O;obtain⟨X,Y,Z,_⟩:=X3 (pre:=x.pre.take b) (val:=0) (by rw[q];omega) (XL _ _ _ o.2.1) A u;rw[kX X,Y];have az:DW (nM.getD b 0)=true:=by rw[aS w];exact ED.1 C _ (BO _)
    have s:=dQ (nM.length+1) e (r-b-1) (nM.drop (b+1)) p (by rw[AU];omega) (by rw[AU];omega) (XM _ _ _ C) T;generalize OC (nM.length+1) aq (nM.drop (b+1)) p=W at s;obtain⟨a9,bc,c⟩:=W;rcases s with⟨g,F,k⟩|⟨g,l,ab,k,ae,B,ao,a6⟩
    ·simp only at g k;subst g;simp only;unfold Jn;rw[kX U];exact .inl ⟨rfl,F,k⟩
    ·simp only at g k ae B ao;subst g;simp only;have aW:RY [x.pre.getD b 0] (nM.getD b 0)=false:=by
      have h1:=am m w;unfold RY;simp only[List.any_cons,List.any_nil,Bool.or_false,beq_eq_false_iff_ne];rw[aS m,aS w];exact λc=>h1 (UInt8.toNat_inj.1 c)
     rcases zW (r:=r) (nN:=[⟨_,_⟩]) k Z rfl az aW B (by rw[q];omega) (λi h1 h2=>by
      simp only[Bg,CV]at h1;have:i=0:=O;subst this;rw[show(⟨x.pre.take b,0,[x.pre.getD b 0],[v]⟩:Nd).pre.length=b from q];exact H.keep e.ok k.ok ae (λ_ _=>trivial)) (by rw[show(⟨x.pre.take b,0,[x.pre.getD b 0],[v]⟩:Nd).pre.length=b from q];exact ao)with c|⟨a8,ar,f,c,N,a1,Q,J,I,G,R,P⟩
     ·rw[c];exact .inl ⟨rfl,_,k⟩
     ·rw[c];refine .inr ⟨rfl,[j]++l++[f],J,I,N,Q,G,R.trans ?_,λE=>?_⟩
      ·have K:Bl [⟨CS {x with pre:=x.pre.drop (b+1)}++BI (x.pre.drop (b+1)) x.labels nN,j::Bl nN⟩]=j::Bl nN:=by simp[Bl]
       rw[K];have bb:(f::ab++j::Bl nN).Perm (f::l++j::Bl nN):=List.Perm.append_right _ (List.Perm.cons _ a6);refine bb.trans ?_;have M:[j]++l++[f]++Bl nN=j::(l++f::Bl nN):=by simp
       rw[M];refine(Alq (a:=j) (l₁:=f::l) (l₂:=Bl nN)).trans (List.Perm.cons _ ?_);exact(Alq (a:=f) (l₁:=l) (l₂:=Bl nN)).symm
      ·rw[P E];have K:CS (⟨x.pre.take b,0,[x.pre.getD b 0],[v]⟩:Nd)++BI (x.pre.take b) [x.pre.getD b 0] [⟨CS {x with pre:=x.pre.drop (b+1)}++BI (x.pre.drop (b+1)) x.labels nN,j::Bl nN⟩]=CS x++BI x.pre x.labels nN:=by
        rw[<-qw x b m nN];simp[CS,BI]
       rw[K];have M:x.pre.take b++nM.getD b 0::nM.drop (b+1)=nM:=by rw[n];exact Asn w
       unfold Gx;simp only[Ci,FW,BB,M]
end
