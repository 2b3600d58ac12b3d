import Derived.Deep.RegionHeldLaw
import Derived.RangeFuncNested
import Derived.RangeFuncBound
import Derived.Shelf.RegionOpen
import Derived.OwnWalkIn
import Derived.LoopNIn
import Derived.LoopIn
import Derived.Test.YtfmkofmaabgbkaaGreatDoorJ20
set_option linter.defProp false
set_option maxHeartbeats 32000000
set_option maxRecDepth 100000
open Nat renaming mul_comm->J3,testBit_two_pow_mul->qo,testBit_two_pow_sub_one->gp,lt_pow_two_of_testBit->lH,testBit_and->Alm,lt_or_ge->Nu,testBit_lt_two_pow->xg,lt_of_lt_of_le->Be,pow_le_pow_right->Fv,testBit_or->LV,zero_testBit->JW,zero_add->DI,eq_of_testBit_eq->Abp,lt_trans->Ar6,min_eq_left->NW,add_sub_cancel->Xf,le_refl->Ae
open UInt64 renaming toNat_ofNat_of_lt'->GY,size->KO
open List renaming mem_cons->CG,mem_map->Dk,map_cons->BM,getElem?_set->Ic,eq_nil_of_length_eq_zero->Ce,all_eq_true->EI,getElem_of_mem->Dw,getElem?_take->Di,getElem?_drop->D7,getElem?_append_right->ED,length_cons->Bv,length_nil->Dx,getD->VD,getElem_mem->Cm,getElem_cons_succ->Aj,getElem?_append_left->DK,getElem?_eq_getElem->Ah,length_take->Ed,getElem?_cons_succ->Am,getElem?_cons_zero->Ag,prefix_refl->Ag3
open Option renaming getD_some->Qk
open Go.Value renaming ownBlock->AV
open Go.Lib renaming hid->Ac
open Go.World renaming cell?_of_block->BI
open Go.Value renaming slice->fD,int->fP
open Go.IntKind renaming u64->ig
open Option renaming some->iC
open Bool renaming true->jm,false->jw
open Go renaming World->jD,Value->jL
namespace Go.Proofs.YtfmkofmaabgbkaaGreatDoor
open Go.Proofs.Tryz
section
def NF(n low size v i:Nat)(h:low+size<=64)(q:n<2^64):(EC n low size v).testBit i=if low<=i/\i<low+size then v.testBit (i-low)else n.testBit i:=by
 have j:∀a,((2^size-1)*2^low).testBit a=(decide (low<=a)&&decide (a-low<size)):=λa=>by
  rw[J3,qo,gp]
 have m:(2^size-1)*2^low<2^64:=by
  refine lH _ λa r=>?_
  rw[j a];simp;omega
 have o:(lN-(2^size-1)*2^low).testBit i=(decide (i<64)&& !((2^size-1)*2^low).testBit i):=by
  rw[<-Nat.testBit_two_pow_sub_succ m];unfold lN;congr 1;omega
 have p:((v&&&(2^size-1))*2^low).testBit i=(decide (low<=i)&&(v.testBit (i-low)&&decide (i-low<size))):=by
  rw[J3,qo,Alm,gp]
 have k:n.testBit i=jm->i<64:=λl=>by
  rcases Nu i 64 with b|b
  ·exact b
  ·rw[xg (Be q (Fv U b))]at l;cases l
 unfold EC;rw[LV,Alm,o,p,j];by_cases c:low<=i
 ·by_cases g:i<low+size
  ·have d:i-low<size:=O1;simp[c,g,d]
  ·have d:¬i-low<size:=O1;simp only[c,g,d,decide_true,decide_false,Bool.and_false,Bool.not_false,Bool.and_true,Bool.or_false,and_false,if_false];cases e:n.testBit i
   ·rfl
   ·simp[k e]
 ·simp only[c,decide_false,Bool.false_and,Bool.not_false,Bool.and_true,Bool.or_false,false_and,if_false];cases e:n.testBit i
  ·rfl
  ·simp[k e]
def OW(n low size v:Nat)(h:low+size<=64)(a:n<2^64):EC n low size v<2^64:=by
 refine lH _ λc b=>?_
 rw[NF n low size v c h a,ku O1];exact xg (Be a (Fv U b))
def O5(n low size i:Nat):(fieldN n low size).testBit i=(decide (i<size)&&n.testBit (low+i)):=by
 unfold fieldN;rw[Nat.testBit_mod_two_pow,Nat.testBit_div_two_pow,Nat.add_comm]
def Ajq(n a:Nat):(fieldN n a 1==1)=n.testBit a:=by
 have h:=O5 n a 1 0;simp only[Nat.zero_lt_one,decide_true,Bool.true_and,Nat.add_zero]at h;rw[<-h];have c:fieldN n a 1<2:=Nat.mod_lt _ U;have b:fieldN n a 1=0\/fieldN n a 1=1:=O1;rcases b with b|b<;>rw[b]<;>rfl
def V4(n size:Nat):fieldN n 0 size=0<->∀a,a<size->n.testBit a=false:=by
 constructor
 ·intro h a b;have:=O5 n 0 size a;rw[h,JW,DI]at this;simpa[b]using this.symm
 ·intro h;refine Abp λa=>?_
  rw[O5,JW,DI];by_cases b:a<size
  ·simp[h a b]
  ·simp[b]
structure SW(w c:Nat):Prop where
 lt:w<2^64
 cls:c=1\/c=2
 kind:Eb w=c
 some:∃i,i<Bi c/\w.testBit i=jm
 only:∀i,w.testBit i=jm->i<Bi c\/i=16\/i=17
def QI(w:Nat):Eb w=(if w.testBit 16 then 1 else 0)+(if w.testBit 17 then 2 else 0):=by
 have b:(fieldN w 16 2).testBit 0=w.testBit 16:=(O5 w 16 2 0).trans (by rfl);have c:(fieldN w 16 2).testBit 1=w.testBit 17:=(O5 w 16 2 1).trans (by rfl);have e:fieldN w 16 2<4:=Nat.mod_lt _ U;unfold Eb;rw[<-b,<-c];generalize fieldN w 16 2=a at e;have d:a=0\/a=1\/a=2\/a=3:=O1;rcases d with rfl|rfl|rfl|rfl<;>decide
def jT(w:Nat)(e:w<2^64):Gx w=jm<->w=0\/∃i,SW w i:=by
 unfold Gx;simp only[Bool.or_eq_true,beq_iff_eq,Bool.and_eq_true,bne_iff_ne];by_cases j:w=0
 ·simp[j]
 ·simp only[j,false_or];have b:Bi (Eb w)<=16:=by
   unfold Bi;split<;>omega
  have o:EC (EC w 0 (Bi (Eb w)) 0) 16 2 0=0<->∀a,w.testBit a=jm->a<Bi (Eb w)\/a=16\/a=17:=by
   constructor
   ·intro h a c;have d:=NF (EC w 0 (Bi (Eb w)) 0) 16 2 0 a U (OW _ _ _ _ O1 e);rw[h,JW,NF w 0 _ 0 a O1 e]at d;by_cases k:16<=a/\a<16+2
    ·omega
    ·rw[ku k]at d;by_cases l:0<=a/\a<0+Bi (Eb w)
     ·omega
     ·rw[ku l,c]at d;cases d
   ·intro h;refine Abp λa=>?_
    rw[NF _ 16 2 0 a U (OW _ _ _ _ O1 e),NF w 0 _ 0 a O1 e];simp only[JW];split
    ·rfl
    ·split
     ·rfl
     ·cases b:w.testBit a
      ·rfl
      ·have:=h a b;omega
  have m:fieldN w 0 (Bi (Eb w))≠0<->∃a,a<Bi (Eb w)/\w.testBit a=true:=by
   rw[ne_eq,V4];constructor
   ·intro h;apply Classical.byContradiction;intro n;refine h λa c=>?_
    cases b:w.testBit a
    ·rfl
    ·exact absurd ⟨a,c,b⟩ n
   ·rintro⟨a,c,b⟩h;rw[h a c]at b;cases b
  rw[o,m];constructor
  ·rintro⟨⟨a,c,b⟩,d⟩;refine⟨Eb w,e,?_,rfl,⟨a,c,b⟩,d⟩;unfold Bi at c;split at c
   ·rename_i g;exact .inl g
   ·rename_i g;exact .inr g
   ·omega
  ·rintro⟨i,h⟩;obtain rfl:=h.kind;exact⟨h.some,h.only⟩
def SW.right{w c:Nat}(h:SW w c):Gx w=true:=(jT w h.lt).2 (.inr ⟨c,h⟩)
def SW.class{w c:Nat}(h:SW w c):Ba w=c:=by unfold Ba;rw[jM h.right,h.kind]
def SW.ne{w c:Nat}(h:SW w c):w≠0:=by
 obtain⟨i,_,a⟩:=h.some;intro b;rw[b,JW]at a;cases a
def Aah:Ba 0=0:=by decide
def SW.has{w c:Nat}(h:SW w c)(a:Nat):EM w a=(decide (a<Bi c)&&w.testBit a):=by unfold EM;rw[h.class,Ajq]
def Gg(a:Nat):EM 0 a=false:=by unfold EM;rw[Aah];simp[Bi]
def SW.blocks{w c:Nat}(h:SW w c):0<Bi c/\Bi c<=16:=by
 rcases h.cls with rfl|rfl<;>decide
def SW.bits{w c:Nat}(h:SW w c):w.testBit 16=c.testBit 0/\w.testBit 17=c.testBit 1:=by
 have a:=h.kind;rw[QI]at a;rcases h.cls with rfl|rfl<;>cases b:w.testBit 16<;>cases d:w.testBit 17<;>simp[b,d]at a⊢<;>decide
def OkW(w:Nat):Prop:=w=0\/∃a,SW w a
def OkW.lt{w:Nat}(h:OkW w):w<2^64:=by
 rcases h with rfl|⟨a,h⟩
 ·decide
 ·exact h.lt
def OkW.right{w:Nat}(h:OkW w):Gx w=true:=(jT w h.lt).2 h
def OkW.dD{w a:Nat}(h:OkW w)(b:EM w a=jm):∃c,SW w c/\a<Bi c/\w.testBit a=true:=by
 rcases h with rfl|⟨c,h⟩
 ·rw[Gg]at b;cases b
 ·rw[h.has a,Bool.and_eq_true,decide_eq_true_eq]at b;exact⟨c,h,b.1,b.2⟩
def jU{w c a:Nat}(h:OkW w)(n:c=1\/c=2)(e:w=0\/SW w c)(t:a<Bi c)(y:EM w a=jw):
 (FU w c a).2=jm/\SW (FU w c a).1 c/\∀g,EM (FU w c a).1 g=(EM w g||decide (g=a)):=by
 have u:0<Bi c/\Bi c<=16:=by rcases n with rfl|rfl<;>decide
 have x:MC w c=true:=by
  unfold MC;rw[h.right];simp only[Bool.true_and,Bool.and_eq_true,decide_eq_true_eq,Bool.or_eq_true,beq_iff_eq];exact⟨u.1,e.imp id (λh=>h.kind)⟩
 have v:FU w c a=(EC (EC w a 1 1) 16 2 c,jm):=by
  unfold FU;rw[x,y,decide_eq_false (by omega:¬Bi c<=a)];rfl
 have r:=h.lt;have s:EC w a 1 1<2^64:=OW _ _ _ _ O1 r;have j:∀b,(EC (EC w a 1 1) 16 2 c).testBit b=if b=16 then c.testBit 0 else if b=17 then c.testBit 1 else if b=a then jm else w.testBit b:=λb=>by
  rw[NF _ 16 2 c b U s,NF w a 1 1 b O1 r];by_cases k:b=16
  ·subst k;simp
  ·by_cases l:b=17
   ·subst l;simp
   ·rw[ku O1,ku k,ku l];by_cases d:b=a
    ·subst d;rw[jM O1,jM rfl];simp
    ·rw[ku O1,ku d]
 have q:SW (EC (EC w a 1 1) 16 2 c) c:=by
  refine⟨OW _ _ _ _ U s,n,?_,⟨a,t,?_⟩,λb i=>?_⟩
  ·have o:=j 16;have p:=j 17;rw[jM rfl]at o;rw[ku U,jM rfl]at p;rw[QI,o,p];rcases n with rfl|rfl<;>decide
  ·rw[j,ku O1,ku O1,jM rfl]
  ·rw[j]at i;by_cases k:b=16
   ·omega
   ·by_cases l:b=17
    ·omega
    ·rw[ku k,ku l]at i;by_cases d:b=a
     ·omega
     ·rw[ku d]at i;rcases e with rfl|e
      ·rw[JW]at i;cases i
      ·exact e.only b i
 rw[v];refine⟨rfl,q,λg=>?_⟩;rw[q.has];rw[j];by_cases m:g<Bi c
 ·rw[ku O1,ku O1];by_cases d:g=a
  ·subst d;simp[m]
  ·rw[ku d];rcases e with rfl|e
   ·rw[Gg];simp[d]
   ·rw[e.has];simp[d]
 ·have d:g≠a:=O1;rcases e with rfl|e
  ·rw[Gg];simp[m,d]
  ·rw[e.has];simp[m,d]
def jV{w a:Nat}(h:OkW w)(n:EM w a=jm):
 (Em w a).2=jm/\OkW (Em w a).1/\(∀d,EM (Em w a).1 d=(EM w d&& !decide (d=a)))/\(Ba (Em w a).1=Ba w\/(Em w a).1=0):=by
 obtain⟨l,e,t,j⟩:=h.dD n;have u:=e.blocks;have o:=e.lt;have s:EC w a 1 0<2^64:=OW _ _ _ _ O1 o;have j:∀c,(EC w a 1 0).testBit c=if c=a then jw else w.testBit c:=λc=>by
  rw[NF w a 1 0 c O1 o];by_cases b:c=a
  ·subst b;rw[jM O1,jM rfl];simp
  ·rw[ku O1,ku b]
 unfold Em;rw[n];simp only[Bool.not_true,Bool.false_eq_true,if_false];by_cases i:KA (EC w a 1 0)=0
 ·rw[jM i];refine⟨rfl,.inl rfl,λd=>?_,.inr rfl⟩;rw[Gg,e.has];unfold KA at i;rw[V4]at i;by_cases g:d<Bi l
  ·have:=i d O1;rw[j]at this;by_cases b:d=a
   ·simp[b]
   ·rw[ku b]at this;simp[this]
  ·simp[g]
 ·rw[ku i];have m:SW (EC w a 1 0) l:=by
   refine⟨s,e.cls,?_,?_,λc k=>?_⟩
   ·have p:(EC w a 1 0).testBit 16=w.testBit 16:=by rw[j,ku O1]
    have q:(EC w a 1 0).testBit 17=w.testBit 17:=by rw[j,ku O1]
    rw[QI,p,q,<-QI,e.kind]
   ·unfold KA at i;rw[V4]at i;apply Classical.byContradiction;intro r;refine i λc k=>?_
    cases g:(EC w a 1 0).testBit c
    ·rfl
    ·refine absurd ⟨c,?_,g⟩ r;rw[j]at g;by_cases b:c=a
     ·rw[jM b]at g;cases g
     ·rw[ku b]at g;have:=e.only c g;omega
   ·rw[j]at k;by_cases b:c=a
    ·rw[jM b]at k;cases k
    ·rw[ku b]at k;exact e.only c k
  refine⟨rfl,.inr ⟨l,m⟩,λd=>?_,.inl (by rw[m.class,e.class])⟩;rw[m.has,e.has,j];by_cases b:d=a
  ·simp[b]
  ·simp[b]
def Afd{t h:Nat}(a:OkW t)(b:OkW h)(o:t=0\/h=0\/Ba t=Ba h):OkW (t|||h)/\(∀c,EM (t|||h) c=(EM t c||EM h c))/\(t≠0->Ba (t|||h)=Ba t)/\(h≠0->Ba (t|||h)=Ba h):=by
 rcases a with rfl|⟨e,a⟩
 ·rw[Nat.zero_or];exact⟨b,λc=>by rw[Gg];rfl,λh=>absurd rfl h,λ_=>rfl⟩
 ·rcases b with rfl|⟨d,b⟩
  ·rw[Nat.or_zero];exact⟨.inr ⟨e,a⟩,λc=>by rw[Gg,Bool.or_false],λ_=>rfl,λh=>absurd rfl h⟩
  ·have m:e=d:=by
    rcases o with h|h|h
    ·exact absurd h a.ne
    ·exact absurd h b.ne
    ·rw[a.class,b.class]at h;exact h
   subst m;have g:SW (t|||h) e:=by
    refine⟨Nat.or_lt_two_pow a.lt b.lt,a.cls,?_,?_,λj i=>?_⟩
    ·have k:=a.bits;have l:=b.bits;rw[QI,LV,LV,k.1,k.2,l.1,l.2];rcases a.cls with rfl|rfl<;>decide
    ·obtain⟨j,i,n⟩:=a.some;exact⟨j,i,by rw[LV,n];rfl⟩
    ·rw[LV,Bool.or_eq_true]at i;exact i.elim (a.only j) (b.only j)
   refine⟨.inr ⟨e,g⟩,λc=>?_,λ_=>by rw[g.class,a.class],λ_=>by rw[g.class,b.class]⟩;rw[g.has,a.has,b.has,LV];cases decide (c<Bi e)<;>simp
def dE(l:List UInt8)(a:l.length<=15)(h:l.all DV=jm):En (Gv l).toNat=l:=by
 obtain⟨u1,u2,u3,u4,u5⟩:=unpack_pack l a h;rw[Gv,GY (by simpa[KO]using u5),En,u1,u2,jM u3,u4]
def look:List UInt8->List UInt64->Nat->UInt64
 |b::c,d::e,a=>if b.toNat=a then d else look c e a
 |_,_,_=>0
def XF:∀(a:List UInt8)(c:List UInt64)(j:Nat),(∀b∈a,b.toNat≠j)->look a c j=0
 |b::a,g::c,j,h=>by rw[look,ku (h b Θ),XF a c j (λd e=>h d (by simp[e]))]
 |[],_,_,_=>rfl
 |_::_,[],_,_=>rfl
def KW{a:UInt8}{b:List UInt8}(h:DY (a::b)=jm):DY b=jm/\∀d∈b,a.toNat<d.toNat:=by
 induction b generalizing a with
 |nil=>exact⟨rfl,by simp⟩
 |cons d b i=>
  simp only[DY,Bool.and_eq_true,decide_eq_true_eq]at h;obtain⟨j,g⟩:=i h.2;refine⟨h.2,λe c=>?_⟩;rcases CG.1 c with rfl|c
  ·exact h.1
  ·exact Ar6 h.1 (g e c)
def RU:∀(a:List UInt8)(b:List UInt64)(row:List UInt64)(j:Nat),a.length=b.length->DY a=jm->4+j<row.length->
 (CO row a b)[4+j]?=if j∈a.map UInt8.toNat then iC (look a b j)else row[4+j]?
 |[],b,row,j,_,_,_=>by simp[CO]
 |d::a,[],row,j,g,_,_=>by simp at g
 |d::a,r::b,row,j,g,q,o=>by
  obtain⟨l,m⟩:=KW q;rw[CO,RU a b (row.set (4+d.toNat) r) j (by simpa using g) l (by simpa using o)];by_cases c:j∈a.map UInt8.toNat
  ·have p:d.toNat≠j:=by
    obtain⟨i,n,rfl⟩:=Dk.1 c;exact Nat.ne_of_lt (m i n)
   rw[jM c,jM (by simp only[BM,CG];exact .inr c),look,ku p]
  ·rw[ku c];by_cases e:d.toNat=j
   ·rw[jM (by simp[e]),look,jM e,Ic,jM O1,jM O1]
   ·rw[ku (by simp only[BM,CG,not_or];exact⟨λk=>e k.symm,c⟩),Ic,ku O1]
def TI:∀(a:List UInt8)(b:List UInt64)(row:List UInt64)(i:Nat),i<4->(CO row a b)[i]?=row[i]?
 |[],_,row,i,_=>by simp[CO]
 |_::_,[],row,i,_=>by simp[CO]
 |d::a,e::b,row,i,c=>by rw[CO,TI a b _ i c,Ic,ku O1]
def RV:∀(n i:Nat)(a:List UInt8)(c:List UInt64)(t:List UInt64),t.length=n->a.length=c.length->DY a=jm->(∀e∈a,i<=e.toNat/\e.toNat<i+n)->i+n<=256->(∀r∈c,r.toNat≠0)->
 (∀b,b<n->t[b]?=iC (look a c (i+b)))->JL i t=a/\KP t=c
 |0,i,a,c,t,l,p,_,m,_,_,_=>by
  have s:t=[]:=Ce l;have d:a=[]:=by
   rcases a with _|⟨e,a⟩
   ·rfl
   ·have:=m e Θ;omega
  subst s d;have u:c=[]:=Ce (by simpa using p.symm);subst u;exact⟨rfl,rfl⟩
 |n+1,i,a,c,[],l,_,_,_,_,_,_=>by simp at l
 |n+1,i,a,c,x::t,l,p,B,m,H,w,q=>by
  have y:x=look a c i:=by have:=q 0 O1;simpa using this
  rcases a with _|⟨e,a⟩
  ·have u:c=[]:=Ce (by simpa using p.symm);subst u;have j:x.toNat=0:=by rw[y];rfl
   have k:=RV n (i+1) [] [] t (by simpa using l) rfl rfl Θ O1 Θ (λb A=>by
    have:=q (b+1) O1;rw[show i+1+b=i+(b+1)by omega];simpa using this)
   simp only[JL,jM j,k.1];refine⟨trivial,?_⟩;have d:=k.2;unfold KP at d⊢;simp[j,d]
  ·rcases c with _|⟨r,c⟩
   ·simp at p
   ·obtain⟨s,d⟩:=KW B;by_cases v:e.toNat=i
    ·have E:x=r:=by rw[y,look,jM v]
     subst E;have j:x.toNat≠0:=w x Θ;have k:=RV n (i+1) a c t (by simpa using l) (by simpa using p) s (λg o=>Ψ (d g o) (m g (by simp[o]))) O1 (λF D=>w F (by simp[D])) (λb A=>by
      have:=q (b+1) O1;rw[look,ku O1]at this;rw[show i+1+b=i+(b+1)by omega];simpa using this)
     have C:UInt8.ofNat i=e:=by apply UInt8.toNat_inj.1;rw[<-v];simp
     simp only[JL,ku j,k.1,C];refine⟨trivial,?_⟩;have d:=k.2;unfold KP at d⊢;simp[j,d]
    ·have G:i+1<=e.toNat:=Ω (m e Θ);have j:x.toNat=0:=by
      rw[y,look,ku v,XF a c i (λg o=>Ω (d g o))];rfl
     have k:=RV n (i+1) (e::a) (r::c) t (by simpa using l) p B (λg o=>by
      rcases CG.1 o with rfl|z
      ·have:=m g Θ;omega
      ·have:=d g z;have:=m g (by simp[z]);omega) O1 w (λb A=>by
      have:=q (b+1) O1;rw[show i+1+b=i+(b+1)by omega];simpa using this)
     simp only[JL,jM j,k.1];refine⟨trivial,?_⟩;have d:=k.2;unfold KP at d⊢;simp[j,d]
def Nd.ext'{x y:Nd}(h1:x.pre=y.pre)(h2:x.val=y.val)(h3:x.labels=y.labels)(h4:x.kids=y.kids):x=y:=by
 cases x;cases y;simp_all
def uK(x:Nd)(h:BU x=jm):Fb (DL x)=x:=by
 obtain⟨k,l,b,c,m,t⟩:=(Bh x).1 h;by_cases i:x.kids.length<=4
 ·have e:=Yh x i;rw[DL,jM i,Fb,jM e];obtain⟨u1,u2,u3,u4,u5⟩:=unpack_pack x.labels O1 c;have q:(Gv x.labels).toNat=x.labels.length+16*Fa x.labels:=by rw[Gv,GY (by simpa[KO]using u5)]
  have u:(encS x).drop 4=x.kids++List.replicate (4-x.kids.length) 0:=by simp[encS]
  have n:Jp (Gv x.labels).toNat ((encS x).drop 4)=(x.labels,x.kids):=by
   rw[u,Jp,q,u1,u2,jM ⟨u3,O1⟩,u4,b,List.take_left' rfl]
  apply Nd.ext'
  ·show En ((encS x).getD 1 0).toNat=x.pre;rw[show(encS x).getD 1 0=Gv x.pre by simp[encS],dE x.pre k l]
  ·show(encS x).getD 2 0=x.val;simp[encS]
  ·show(Jp ((encS x).getD 3 0).toNat ((encS x).drop 4)).1=x.labels;rw[show(encS x).getD 3 0=Gv x.labels by simp[encS],n]
  ·show(Jp ((encS x).getD 3 0).toNat ((encS x).drop 4)).2=x.kids;rw[show(encS x).getD 3 0=Gv x.labels by simp[encS],n]
 ·have e:=Yi x;rw[DL,ku i,Fb,ku O1];have r:(SY x)[1]?=iC (Gv x.pre):=by rw[SY,TI _ _ _ 1 U];simp[headB]
  have s:(SY x)[2]?=iC x.val:=by rw[SY,TI _ _ _ 2 U];simp[headB]
  have z:(((SY x).drop 4).take 16).length=16:=by simp[e]
  have j:=RV 16 0 x.labels x.kids (((SY x).drop 4).take 16) z b m (λa d=>by
   rw[EI]at c;have:=c a d;simp only[DV,decide_eq_true_eq]at this;omega) U (λB y=>by
   obtain⟨A,v,rfl⟩:=Dw y;exact t A v) (λo w=>by
   rw[Di,jM w,D7,SY,RU _ _ _ o b m (by simp[headB];omega),DI];by_cases g:o∈x.labels.map UInt8.toNat
   ·rw[jM g]
   ·rw[ku g,XF _ _ _ (λa d p=>g (Dk.2 ⟨a,d,p⟩))];rw[headB,ED (by simp only[Bv,Dx];omega),List.getElem?_replicate,jM (by simp only[Bv,Dx];omega)])
  apply Nd.ext'
  ·show En ((SY x).getD 1 0).toNat=x.pre;rw[VD,r];exact dE x.pre k l
  ·show(SY x).getD 2 0=x.val;rw[VD,s];rfl
  ·exact j.1
  ·exact j.2
def Afe(x:Nd)(h:BU x=jm):Jd (DL x)=true:=by
 have d:=Hm x;have c:=uK x h;have b:(DL x).length=8\/(DL x).length=32:=by rw[d];split<;>simp
 rw[Jd,c,h];rcases b with a|a<;>simp[a]
def Aff(l:List UInt64)(h:Jd l=jm):BU (Fb l)=jm/\DL (Fb l)=l:=by
 simp only[Jd,Bool.and_eq_true,decide_eq_true_eq]at h;exact h.2
def Qa(x:Nd)(i:Nat):Nat:=if x.kids.length<=4 then 4+i else 4+(x.labels.getD i 0).toNat
def jW(l:List UInt8)(h:DY l=jm):∀(d i:Nat)(a:i+d+1<l.length),l[i].toNat<l[i+d+1].toNat
 |0,i,a=>(Hz l).1 h i a
 |d+1,i,a=>Ar6 (jW l h d i O1) ((Hz l).1 h (i+d+1) O1)
def I8(l:List UInt8)(h:DY l=jm)(i j:Nat)(b:i<j)(c:j<l.length):l[i].toNat<l[j].toNat:=by
 have:=jW l h (j-i-1) i O1;have a:i+(j-i-1)+1=j:=O1;simp only[a]at this;exact this
def Aai(l:List UInt8)(h:DY l=jm)(i:Nat)(hi:i<l.length):l.findIdx? (λc=>c.toNat==l[i].toNat)=iC i:=by
 rw[List.findIdx?_eq_some_iff_getElem];refine⟨hi,by simp,λb a=>?_⟩;have:=I8 l h b i a hi;simp;omega
def Acu:∀(a:List UInt8)(b:List UInt64)(i:Nat)(h1:i<a.length)(h2:i<b.length),DY a=jm->look a b a[i].toNat=b[i]
 |c::a,g::b,0,_,_,_=>by simp[look]
 |c::a,g::b,i+1,h1,h2,e=>by
  obtain⟨t1,t2⟩:=KW e;have d:i<a.length:=by simpa using h1
  have:=t2 a[i] (Cm d);rw[Aj,Aj,look,ku O1];exact Acu a b i (by simpa using h1) (by simpa using h2) t1
 |[],_,_,h1,_,_=>by simp at h1
 |_::_,[],_,_,h2,_=>by simp at h2
def Acv(x:Nd)(h:BU x=jm)(i:Nat)(hi:i<x.kids.length):(DL x)[Qa x i]?=iC x.kids[i]:=by
 obtain⟨g,j,d,e,c,k⟩:=(Bh x).1 h;unfold DL Qa;by_cases b:x.kids.length<=4
 ·rw[jM b,jM b,encS,List.append_assoc,ED Θ,DK (by simp;omega)];simp only[Bv,Dx];rw[show 4+i-(0+1+1+1+1)=i by omega,Ah hi]
 ·have a:i<x.labels.length:=O1;have l:=Zg e a;rw[ku b,ku b,SY,VD,Ah a,Qk,RU _ _ _ _ d c (by simp[headB];omega),
   jM (Dk.2 ⟨_,Cm a,rfl⟩),Acu _ _ i a hi c]
def Aaj(x:Nd)(h:BU x=jm)(i:Nat)(hi:i<x.kids.length):4<=Qa x i/\Qa x i<(DL x).length/\∀a,a<i->Qa x a≠Qa x i:=by
 obtain⟨e,g,j,k,b,l⟩:=(Bh x).1 h;have c:=Acv x h i hi;refine⟨by unfold Qa;split<;>omega,(List.getElem?_eq_some_iff.1 c).1,λa d=>?_⟩;unfold Qa;split
 ·omega
 ·have:=I8 x.labels b a i d O1;simp only[VD,Ah (show a<x.labels.length by omega),Ah (show i<x.labels.length by omega),Qk];omega
def dF(l:List UInt8)(x:UInt8):Gi l x<=l.length:=List.countP_le_length
def PL{a:Type}(xs:List a)(i:Nat)(u:a)(h:i<=xs.length):(Ko xs i u).length=xs.length+1:=by simp[Ko];omega
def uM(l:List UInt8)(x:UInt8)(i:Nat)(hi:i<=l.length)(h1:∀a(h:a<l.length),a<i->l[a].toNat<x.toNat)(h2:∀a(h:a<l.length),i<=a->x.toNat<=l[a].toNat):Gi l x=i:=by
 unfold Gi
 conv=>lhs;rw[<-List.take_append_drop i l]
 rw[List.countP_append];have g:(l.take i).countP (λd=>decide (d.toNat<x.toNat))=i:=by
  have:(l.take i).length=i:=by simp;omega
  conv=>rhs;rw[<-this]
  rw[List.countP_eq_length];intro e b;obtain⟨a,c,rfl⟩:=Dw b;simp at c;simpa using h1 a O1 O1
 have j:(l.drop i).countP (λd=>decide (d.toNat<x.toNat))=0:=by
  rw[List.countP_eq_zero];intro e b;obtain⟨a,c,rfl⟩:=Dw b;simp at c;have:=h2 (i+a) O1 O1;simp;omega
 omega
def Kt{c:Type}(xs:List c)(i:Nat)(u:c)(hi:i<=xs.length)(j:Nat):(Ko xs i u)[j]?=if j<i then xs[j]? else if j=i then iC u else xs[j-1]?:=by
 unfold Ko;by_cases a:j<i
 ·rw[jM a,DK (by simp;omega),Di,jM a]
 ·rw[ku a,ED (by simp;omega)];simp only[Ed,NW hi];by_cases b:j=i
  ·subst b;simp
  ·rw[ku b,show j-i=(j-1-i)+1 by omega,Am,D7];congr 1;omega
def jX{a:Type}(xs:List a)(i:Nat)(u:a)(hi:i<=xs.length):JS (Ko xs i u) i=xs:=by
 unfold JS Ko;rw[List.take_append_of_le_length (by simp;omega),List.take_take,Nat.min_self,List.drop_append,Ed,NW hi,show i+1-i=1 by omega,List.drop_of_length_le (by simp;omega)];simp
def uN{a:Type}(xs:List a)(i:Nat)(u y:a)(h:y∈Ko xs i u):y=u\/y∈xs:=by
 unfold Ko at h;rw[List.mem_append,CG]at h;rcases h with h|h|h
 ·exact .inr (List.mem_of_mem_take h)
 ·exact .inl h
 ·exact .inr (List.mem_of_mem_drop h)
def ou(l:List UInt8)(x:UInt8)(q:DY l=jm):(∀a(h:a<l.length),a<Gi l x->l[a].toNat<x.toNat)/\(∀a(h:a<l.length),Gi l x<=a->x.toNat<=l[a].toNat):=by
 obtain⟨b,c⟩:=ε (l.findIdx (λe=>decide (x.toNat<=e.toNat)));have o:b<=l.length:=by rw[c];exact List.findIdx_le_length
 have g:∀a(h:a<l.length),a<b->l[a].toNat<x.toNat:=by
  intro a h d;rw[c]at d;have:=List.not_of_lt_findIdx d;simpa using this
 have i:∀a(h:a<l.length),b<=a->x.toNat<=l[a].toNat:=by
  intro a h d;have n:b<l.length:=O1;have m:x.toNat<=l[b].toNat:=by
   have:=List.findIdx_getElem (p:=λe:UInt8=>decide (x.toNat<=e.toNat)) (xs:=l) (w:=by rw[<-c];exact n);simpa[<-c]using this
  rcases Nu b a with j|j
  ·have:=I8 l q b a j h;omega
  ·obtain rfl:a=b:=O1;exact m
 have k:=uM l x b o g i;rw[k];exact⟨g,i⟩
def TJ(l:List UInt8)(x:UInt8)(h:Qm l x=jw):∀a(h:a<l.length),l[a].toNat≠x.toNat:=by
 intro a c b;unfold Qm at h;rw[List.any_eq_true.2 ⟨l[a],Cm _,by simpa using b⟩]at h;cases h
def uO(l:List UInt8)(x:UInt8)(e:DY l=jm)(m:Qm l x=jw):DY (Ko l (Gi l x) x)=true:=by
 obtain⟨j,k⟩:=ou l x e;have d:=dF l x;have q:=TJ l x m;generalize Gi l x=p at*;rw[Hz];intro c n;have o:(Ko l p x).length=l.length+1:=PL l p x d;have a:=Kt l p x d c;have b:=Kt l p x d (c+1);rw[Ah O1]at a b;rw[o]at n;rcases Nu (c+1) p with h|h
 ·rw[jM O1,Ah O1]at a b;injection a with a;injection b with b
  rw[a,b];exact(Hz l).1 e c O1
 ·rcases Nu c p with g|g
  ·obtain rfl:p=c+1:=O1;rw[jM O1,Ah O1]at a;rw[ku O1,jM rfl]at b;injection a with a;injection b with b
   rw[a,b];exact j c O1 O1
  ·rw[ku O1,ku O1,Xf,Ah O1]at b;injection b with b
   rw[b];rcases Nat.eq_or_lt_of_le g with i|i
   ·subst i;rw[ku O1,jM rfl]at a;injection a with a
    rw[a];have:=k p O1 (Ae _);have:=q p O1;omega
   ·rw[ku O1,ku O1,Ah O1]at a;injection a with a
    rw[a];have:=(Hz l).1 e (c-1) O1;simp only[show c-1+1=c by omega]at this;exact this
structure Aak(x:Nd)(label:UInt8)(kid:UInt64):Prop where
 right:BU (Ie x label kid)=jm
 place:Gi x.labels label<=x.labels.length
 len:(Ie x label kid).labels.length=x.labels.length+1
 Auq:(Ie x label kid).kids.length=x.kids.length+1
 Awz:(Ie x label kid).labels[Gi x.labels label]?=iC label
 Aw0:(Ie x label kid).kids[Gi x.labels label]?=iC kid
 find:Jq (Ie x label kid).labels label=iC (Gi x.labels label)
 out:Tc (Ie x label kid) (Gi x.labels label)=x
 old:∀i(h:i<x.labels.length)(hk:i<x.kids.length),∃j,j<x.labels.length+1/\(Ie x label kid).labels[j]?=iC x.labels[i]/\(Ie x label kid).kids[j]?=iC x.kids[i]
def TK(x:Nd)(a:UInt8)(b:UInt64):JA x a b=jm<->BU x=jm/\a.toNat<16/\b.toNat≠0/\Qm x.labels a=false:=by
 unfold JA;simp only[Bool.and_eq_true,decide_eq_true_eq,Bool.not_eq_true',beq_eq_false_iff_ne,and_assoc,ne_eq]
def uP(x:Nd)(a:UInt8)(b:UInt64)(h:JA x a b=jm):Aak x a b:=by
 obtain⟨q,p,s,r⟩:=(TK x a b).1 h;obtain⟨v,w,D,y,z,A⟩:=(Bh x).1 q;have c:=dF x.labels a;have o:(Ko x.labels (Gi x.labels a) a).length=x.labels.length+1:=PL _ _ _ c;have u:(Ko x.kids (Gi x.labels a) b).length=x.kids.length+1:=PL _ _ _ O1;have n:BU (Ie x a b)=true:=by
  rw[Bh];refine⟨v,w,?_,?_,uO _ _ z r,?_⟩
  ·show(Ko _ _ _).length=(Ko _ _ _).length;omega
  ·rw[EI];intro C e;rcases uN _ _ _ _ e with rfl|e
   ·exact Xn p
   ·exact(EI.1 y) C e
  ·intro i g;rcases uN _ _ _ _ (Cm g)with j|e
   ·rw[j];exact s
   ·obtain⟨B,t,j⟩:=Dw e;rw[<-j];exact A B t
 have d:(Ie x a b).labels[Gi x.labels a]?=iC a:=by
  show(Ko _ _ _)[_]?=_;rw[Kt _ _ _ c,ku O1,jM rfl]
 refine⟨n,c,o,u,d,?_,?_,?_,?_⟩
 ·show(Ko _ _ _)[_]?=_;rw[Kt _ _ _ O1,ku O1,jM rfl]
 ·have m:Gi x.labels a<(Ie x a b).labels.length:=by rw[show(Ie x a b).labels.length=x.labels.length+1 from o];omega
  have:=Aai _ ((Bh _).1 n).2.2.2.2.1 _ m;rw[Ah m]at d;injection d with d
  rw[d]at this;exact this
 ·show({pre:=x.pre,val:=x.val,labels:=JS (Ko _ _ _) _,kids:=JS (Ko _ _ _) _}:Nd)=x;rw[jX _ _ _ c,jX _ _ _ O1]
 ·intro i g k;by_cases l:i<Gi x.labels a
  ·refine⟨i,O1,?_,?_⟩
   ·show(Ko _ _ _)[_]?=_;rw[Kt _ _ _ c,jM l,Ah g]
   ·show(Ko _ _ _)[_]?=_;rw[Kt _ _ _ O1,jM l,Ah k]
  ·refine⟨i+1,O1,?_,?_⟩
   ·show(Ko _ _ _)[_]?=_;rw[Kt _ _ _ c,ku O1,ku O1,Xf,Ah g]
   ·show(Ko _ _ _)[_]?=_;rw[Kt _ _ _ O1,ku O1,ku O1,Xf,Ah k]
open Go.RowKit
section
variable{w w':jD}{x d p L:Nat}{s:St}{F:Nat->Prop}
def Tryz.Anh:Ig prog 192 363 (.agg #[fP ig 0,fP ig 0]) 2 16:=⟨underlying192,by kernel_rfl,rfl⟩
end
def Acw(q:UInt64×UInt64):List jL:=[fP ig (q.1.toNat:Int),fP ig (q.2.toNat:Int)]
def XG(l:List (UInt64×UInt64)):List jL:=(l.map Acw).flatten
def Aal(l:List (UInt64×UInt64))(a:UInt64×UInt64):XG (l++[a])=XG l++Acw a:=by simp[XG]
structure EZ(m:Dq)(w:jD)(base jb x d p L:Nat)(s:St)(stamp:UInt64)(vs:jL)(l:List Wr)(ps:List (UInt64×UInt64))(over:Bool)(en:Int)(F:Nat->Prop)(v:jL):Prop where
 ix:J6 m w x d p L s F
 box:CB w jb 194 (Eh x d p stamp vs v over en)
 row:w.ownsRow base 363 2 v ps.length (XG ps)
 set:FI w (λb=>F b\/b=jb\/v.ownBlock=iC b) vs l
 fj:¬F jb
 bj:base<=jb
 bx:x<base
 bt:0<base/\1<base
 mj:v.ownBlock≠iC jb
 mF:∀b,v.ownBlock=iC b->¬F b
def JG(F:Nat->Prop)(jb:Nat)(v:jL)(b:Nat):Prop:=F b\/b=jb\/v.ownBlock=iC b
section
variable{m0:Dq}{w w':jD}{base jb x d p L:Nat}{s:St}{stamp:UInt64}{vs:jL}{l:List Wr}{ps:List (UInt64×UInt64)}{over:Bool}{en:Int}{F:Nat->Prop}{v:jL}
def EZ.xj(h:EZ m0 w base jb x d p L s stamp vs l ps over en F v):x≠jb:=Ψ h.bj h.bx
def EZ.gj(h:EZ m0 w base jb x d p L s stamp vs l ps over en F v):0≠jb/\1≠jb:=Ψ h.bj h.bt
def EZ.mlt(h:EZ m0 w base jb x d p L s stamp vs l ps over en F v):∀b,v.ownBlock=iC b->base<=b/\b<w.heap.size:=by
 intro b c;rcases h.row.2 with⟨a,_⟩|⟨k,i,j,a,e,g,_⟩
 ·subst a;simp[AV]at c
 ·subst a;simp only[AV,Option.some.injEq]at c;subst c;exact⟨e,(Array.getElem?_eq_some_iff.1 g).1⟩
def EZ.mx(h:EZ m0 w base jb x d p L s stamp vs l ps over en F v):v.ownBlock≠iC x:=λa=>Ψ ((h.mlt x a).1) h.bx
def EZ.below(h:EZ m0 w base jb x d p L s stamp vs l ps over en F v)(k:η w w'):EZ m0 w' base jb x d p L s stamp vs l ps over en F v:=
 ⟨h.ix.below k,h.box.ξ k,Ff h.row (Kept.of_below (r:=iC jb) k) (.inl (λa=>h.mj a.symm)),h.set.below k,h.fj,h.bj,h.bx,h.bt,h.mj,h.mF⟩
def EZ.b(h:EZ m0 w base jb x d p L s stamp vs l ps over en F v):UA w jb x d p stamp vs v over en F:=⟨h.box,h.fj⟩
def EZ.move(h:EZ m0 w base jb x d p L s stamp vs l ps over en F v){m1:Dq}{s':St}{c:Nat->Prop}(k:J6 m1 w' x d p L s' c)(m:AL F c w w'):EZ m1 w' base jb x d p L s' stamp vs l ps over en c v/\AL (JG F jb v) (JG c jb v) w w':=by
 have n:=h.box.lt;have i:AL (JG F jb v) (JG c jb v) w w':=⟨m.touch.mono (λb a=>.inl a),λb a=>by
  rcases a with g|g
  ·exact(m.own b g).imp .inl id
  ·exact .inl (.inr g)⟩
 exact⟨⟨k,h.box.touch m.touch h.fj,Gj h.row m.touch h.mF,h.set.moved i,λe=>(m.own _ e).elim h.fj (λj=>O1),h.bj,h.bx,h.bt,h.mj,λb a e=>(m.own _ e).elim (h.mF b a) (λj=>Ω ((h.mlt b a).2))⟩,i⟩
def EZ.app(h:EZ m0 w base jb x d p L s stamp vs l ps over en F v)(q:UInt64×UInt64){g c:Nat}{i:jD}
 (C:i.ownsRow base 363 2 (fD (iC (Φ g)) (ps.length+1) c) (ps.length+1) (XG ps++Acw q))(k:Below base w i)(n:Kept w i v.ownBlock)(m:v.ownBlock=iC g\/w.heap.size<=g):
 EZ m0 (i.setCell (Δ jb 5) (fD (iC (Φ g)) (ps.length+1) c)) base jb x d p L s stamp vs l (ps++[q]) over en F (fD (iC (Φ g)) (ps.length+1) c)/\
  AL (JG F jb v) (JG F jb (fD (iC (Φ g)) (ps.length+1) c)) w (i.setCell (Δ jb 5) (fD (iC (Φ g)) (ps.length+1) c)):=by
 have B:=h.box.lt;have u:g≠jb:=by
  rintro rfl;rcases m with a|a
  ·exact h.mj a
  ·omega
 have A:¬F g:=by
  intro t;rcases m with a|a
  ·exact h.mF g a t
  ·have:=h.ix.sys.lt g t;omega
 have t1:Touch (λb=>v.ownBlock=iC b) w i:=⟨k.os,k.tape,k.output,n.1,λb e o=>n.2 b e (λa=>o a.symm)⟩;have t2:Touch (λb=>b=jb\/v.ownBlock=iC b) w (i.setCell (Δ jb 5) (fD (iC (Φ g)) (ps.length+1) c)):=(t1.mono (λb=>.inr)).setCell (p:=Δ jb 5) (.inl (.inl rfl)) _;have y:∀{b:Nat},b<base->¬(b=jb\/v.ownBlock=iC b):=by
  intro b e a;rcases a with rfl|a
  ·have:=h.bj;omega
  ·have:=(h.mlt b a).1;omega
 have r:AL (JG F jb v) (JG F jb (fD (iC (Φ g)) (ps.length+1) c)) w (i.setCell (Δ jb 5) (fD (iC (Φ g)) (ps.length+1) c)):=⟨t2.mono (λb e=>.inr e),λb e=>by
  rcases e with j|j|j
  ·exact .inl (.inl j)
  ·exact .inl (.inr (.inl j))
  ·simp only[AV,Option.some.injEq]at j;rcases m with a|a
   ·exact .inl (.inr (.inr (j▸a)))
   ·exact .inr (j▸a)⟩
 have D:EE m0 (i.setCell (Δ jb 5) (fD (iC (Φ g)) (ps.length+1) c)) d p L s F:=h.ix.sys.keep t2 (λb e o=>o.elim (λa=>h.fj (a▸e)) (λa=>h.mF b a e)) (y h.bt.1) (y h.bt.2);have z:CB i jb 194 (Eh x d p stamp vs v over en):=(n.2 jb B (λa=>h.mj a.symm)).trans h.box;refine⟨⟨⟨D,h.ix.box.touch t2 (λa=>a.elim h.xj h.mx),h.ix.out⟩,z.AX 5 _,?_,h.set.moved r,h.fj,h.bj,h.bx,h.bt,by simp[AV,u],?_⟩,r⟩
 ·have:=Ff C (Kept.AX i jb 5 (fD (iC (Φ g)) (ps.length+1) c)) (.inl (by simp[AV,Ne.symm u]));rw[Aal];simpa using this
 ·intro b e;simp only[AV,Option.some.injEq]at e;exact e▸A
def Ajr{m1:Dq}(h:EZ m0 w base jb x d p L s stamp vs l ps jw en F v)(A:ps.length<l.length)(a5:l.length<=100000){s2:St}{j i:UInt64}
 (V:∀K,η w K->Calls prog 258 #[ptr0 jb,OU l[ps.length]] K λg aa=>g=.returned (.tuple #[.agg #[fP ig (j.toNat:Int),fP ig (i.toNat:Int)],fP .i64 0])/\
  ∃m,J6 m1 aa x d p L s2 m/\UA aa jb x d p stamp vs v jw en m/\AL F m K aa):
 Calls prog 256 #[ptr0 jb] w λg w'=>g=.returned (.tuple #[.bool jw,fP .i64 0])/\
  ∃m aD,EZ m1 w' base jb x d p L s2 stamp vs l (ps++[(j,i)]) jw en m aD/\AL (JG F jb v) (JG m jb aD) w w':=by
 have ac:=Ac (oq jb _ h.box);have W:=h.box.cell 6;have D:=h.box.cell 5;have C:=h.box.cell 4;have aV:=Ac h;obtain⟨bo,bt,T,be,_⟩:=own_rowk h.row;obtain⟨bR,aq⟩:=ε (l[ps.length]);obtain⟨br,bL,bs,S,bd,bB,bk,X,Y,Z⟩:=h.set.at ps.length A;rw[<-aq]at X Y Z V;obtain⟨z,Q⟩:=ε ps.length;obtain⟨bJ,an⟩:=ε l.length;rw[<-an]at S a5 A;rw[<-Q]at T X Y Z A be;unfold Eh at C D W;simp only[Ag,Am]at C D W;rw[S]at C;rw[T]at D;obtain⟨bD,bE,bG⟩:=ltT A;have I:=Ac V;unfold OU at I;have bC:=h.box.lt;have H:Hid (¬F w.heap.size):=Ac (λbg=>absurd (h.ix.sys.lt _ bg) O1);have az:Hid (0≠w.heap.size/\1≠w.heap.size):=Ac (Ω h.ix.sys.tabs.lt);have a1:Hid (x≠w.heap.size):=Ac (Ω h.ix.box.lt);have ab:=Ac Q;clear h V bd bk Q an aq S T;go_enter func256,ntmps256
 go_wp2_with fail
 refine ac.mono ?_;rintro g bO⟨rfl,rfl⟩
 go_wp2_with fail
 go_region
 all_goals(go_wp2_with fail)
 all_goals(
  go_region_with(go_at_call 258;refine(I _ (by first|exact((Dr.drew w).trans (Dr.drew _)).below _|exact(((Dr.drew w).trans (Dr.drew _)).below _).alloc (Ae _) _|exact((((Dr.drew w).below _).alloc (Ae _) _).drew))).mono ?_;rintro g e⟨rfl,k,q,ae,o⟩;try(have r:CB e w.heap.size 363 [.int .u64 0,.int .u64 0]:=(o.touch.block w.heap.size Θ H.out).trans (heap_alloc_new _ _);have aE:=r.cell 0;have aF:=r.cell 1;have a3:=r.frozen 0;have a4:=r.frozen 1;simp only[Ag,Am]at aE aF)))
 all_goals(
  first
  |(have y:η w _:=((Dr.drew w).trans (Dr.drew _)).below w.heap.size
    have t:AL F k w e:=(AL.of_below y).trans o;obtain⟨a,b⟩:=ε (e.alloc (.cells #[fP ig (j.toNat:Int),fP ig (i.toNat:Int)] 363));rw[<-b];have P:η e a:=b▸(Below.refl _ _).alloc (Ae _) _;have n:CB a e.heap.size 363 [fP ig (j.toNat:Int),fP ig (i.toNat:Int)]:=b▸heap_alloc_new _ _;have M:=q.below P;have J:AL F k w a:=t.below P;obtain⟨a6,u⟩:=ε e.heap.size;rw[<-u]at n⊢;clear y t b P u q ae o)
  |(have y:η w _:=(((Below.refl w.heap.size w).alloc (Ae _) (.cells #[fP ig 0,fP ig 0] 363)).drew).drew
    have t:AL F k w e:=(AL.of_below y).trans o;obtain⟨a,b⟩:=ε ((e.setCell (Φ w.heap.size) (fP ig (j.toNat:Int))).setCell (Δ w.heap.size 1) (fP ig (i.toNat:Int)));rw[<-b];have t6:Touch (λz=>z=w.heap.size) e a:=b▸((Touch.refl (λz=>z=w.heap.size) e).setCell (p:=Φ w.heap.size) (.inl rfl) _).setCell (p:=Δ w.heap.size 1) (.inl rfl) _;have n:CB a w.heap.size 363 [fP ig (j.toNat:Int),fP ig (i.toNat:Int)]:=by rw[b];exact(r.AX 0 (fP ig (j.toNat:Int))).AX 1 (fP ig (i.toNat:Int))
    have ao:¬k w.heap.size:=λa8=>(o.own _ a8).elim H.out (λbl=>absurd bl Θ)
    have M:J6 m1 a x d p L s2 k:=⟨q.sys.keep t6 (λbq bb g=>ao (g▸bb)) az.1 az.2,q.box.touch t6 a1.out,q.out⟩;have J:AL F k w a:=by rw[b];exact(t.set (p:=Φ w.heap.size) (.inr (Ae _)) _).set (p:=Δ w.heap.size 1) (.inr (Ae _)) _
    obtain⟨a6,u⟩:=ε w.heap.size;rw[<-u]at n⊢;clear y t b t6 ao u q ae o r aE aF a3 a4))
 all_goals(
  obtain⟨c,ah⟩:=aV.move M J;have av:=n.cell 0;have aw:=n.cell 1;have E:=c.box.cell 5;have a2:v.ownBlock≠iC jb:=c.mj;obtain⟨bp,bw,B,_,_⟩:=own_rowk c.row;have R:=c.row;have bc:base<=a.heap.size:=Nat.le_of_lt (Nat.lt_of_le_of_lt c.bj c.box.lt);unfold Eh at E;simp only[Ag,Am]at av aw E;rw[<-ab.out]at B R;rw[B]at E;have aM:=Ac c;have aX:=Ac ah;have a7:=Ac R;have a0:=Ac B;have bh:=c.box.lt;have aJ:=Ac c.box;clear M J n C D W X Y Z I ac H c ah R B
  go_wp2_with fail)
 all_goals(
  go_region_law(refine Oc rfl (.tmp 53) (.tmp 55) 192 rfl Tryz.Anh a base v z (XG ps) [fP ig (j.toNat:Int),fP ig (i.toNat:Int)] a0.symm a7.out rfl rfl rfl rfl a.heap.size 1 rfl rfl rfl U (by intro bN ap;simp at ap;rcases ap with rfl|rfl<;>rfl) O1 U bc ?_;intro bA bx bm al ad N am;have G:CB bm jb 194 (Eh x d p stamp vs v false en):=(N.2 jb bh (λg=>a2 g.symm)).trans aJ.out;have ar:=G.cell 5;have bH:=G.frozen 5;unfold Eh at ar;simp only[Ag,Am]at ar))
 all_goals(
  have aZ:=Ac al;have aL:=Ac ad;have aW:=Ac N;have aR:=Ac am;clear av aw E al ad N am G
  go_wp2_with fail
  go_ret2;have bi:=ab.out;subst bi;obtain⟨a9,ba⟩:=aM.app (j,i) aZ.out aL.out aW.out aR.out;exact⟨rfl,k,_,a9,aX.trans ba⟩)
end
def Ns(w:jD)(b:Nat):Prop:=∃a,w.heap[b]?=iC a/\a.isCells=jm
def cells_of_cell{w:jD}{a:Addr}{v:jL}(h:w.cell? a=iC v):Ns w a.block:=by
 unfold World.cell? at h;cases b:w.heap[a.block]? with
 |none=>simp[b]at h
 |some c=>
  refine⟨c,b,?_⟩;cases c with
  |cells=>rfl
  |_=>simp[b]at h
def I9{w:jD}{b:Nat}{e:TypeId}{xs:List jL}(h:CB w b e xs):Ns w b:=⟨_,h,rfl⟩
def cells_of_row{w:jD}{base n k:Nat}{e:TypeId}{v:jL}{xs:List jL}(h:w.ownsRow base e k v n xs){b:Nat}(c:v.ownBlock=iC b):Ns w b:=by
 rcases h.2 with⟨a,_⟩|⟨j,g,i,a,_,d,_⟩
 ·subst a;cases c
 ·subst a;simp only[AV,Option.some.injEq]at c;subst c;exact⟨_,d,rfl⟩
def EE.cells{len:Dq}{w:jD}{d p L:Nat}{s:St}{F:Nat->Prop}(h:EE len w d p L s F){b:Nat}(m:F b):Ns w b:=by
 obtain⟨I,D,G,A,z,own,e,hF⟩:=h;obtain⟨_,_,_,B,C,i,t⟩:=e.dev.rep;rcases(hF b).1 m with k|rfl|rfl|rfl
 ·rcases(t b).1 k with rfl|rfl|⟨v,r,j⟩
  ·obtain⟨H,n⟩:=i.box;exact I9 n
  ·obtain⟨g,q,_⟩:=i.blk;exact⟨_,q,rfl⟩
  ·obtain⟨g,_,_,_,c⟩:=i.blk;obtain⟨x,y,_,_,o⟩:=c v r;rcases o with⟨a,_⟩|⟨E,a,l,u⟩
   ·rw[j]at a;cases a
   ·rw[j]at a;injection a with a
    subst a;exact cells_of_row u (by rw[l];rfl)
 ·exact I9 e.box
 ·obtain⟨g,c,_⟩:=e.tk;exact⟨_,c,rfl⟩
 ·obtain⟨g,c,_⟩:=e.hd;exact⟨_,c,rfl⟩
def Y2:List TypeId:=[83,208,259,127,40]
def EE.type{len:Dq}{w:jD}{d p L:Nat}{s:St}{F:Nat->Prop}(h:EE len w d p L s F){b:Nat}(r:F b):∃e k n,w.heap[b]?=iC (.cells e k n)/\k∈Y2:=by
 obtain⟨Q,M,O1,G,E,own,i,hF⟩:=h;obtain⟨_,_,_,I,K,j,y⟩:=i.dev.rep;rcases(hF b).1 r with o|rfl|rfl|rfl
 ·rcases(y b).1 o with rfl|rfl|⟨A,x,l⟩
  ·obtain⟨P,t⟩:=j.box;exact⟨_,_,_,t,by simp[Y2]⟩
  ·obtain⟨e,v,_⟩:=j.blk;exact⟨_,_,_,v,by simp[Y2]⟩
  ·obtain⟨e,_,_,_,g⟩:=j.blk;obtain⟨B,D,_,_,u⟩:=g A x;rcases u with⟨a,_⟩|⟨N,a,m,z⟩
   ·rw[l]at a;cases a
   ·rw[l]at a;injection a with a
    subst a;rcases z.2 with⟨c,_⟩|⟨J,H,C,c,_,q,_⟩
    ·rw[m]at c;cases c
    ·rw[m]at c;simp only[Value.slice.injEq,Option.some.injEq,Addr.mk.injEq,and_true]at c;exact⟨_,_,_,c.1▸q,by simp[Y2]⟩
 ·exact⟨_,_,_,i.box,by simp[Y2]⟩
 ·obtain⟨e,g,_⟩:=i.tk;exact⟨_,_,_,g,by simp[Y2]⟩
 ·obtain⟨e,g,_⟩:=i.hd;exact⟨_,_,_,g,by simp[Y2]⟩
def EE.oz{len:Dq}{w:jD}{d p L:Nat}{s:St}{F:Nat->Prop}(h:EE len w d p L s F){b:Nat}{e:TypeId}{xs:List jL}(g:CB w b e xs)(i:e∉Y2):¬F b:=λj=>by
 obtain⟨k,l,m,a,c⟩:=h.type j;rw[show w.heap[b]?=_ from g]at a;injection a with a
 injection a with _ a _
 exact i (a▸c)
def Tabs.cells{w:jD}(h:Tabs w):Ns w 0/\Ns w 1:=
 ⟨cells_of_cell (h.fours 0 U),cells_of_cell (h.mV 0 U)⟩
section
variable{w w':jD}{base jb x d p L:Nat}{s:St}{stamp:UInt64}{vs:jL}{l:List Wr}{ps:List (UInt64×UInt64)}{over:Bool}{en:Int}{F:Nat->Prop}{v:jL}{row:Option Nat}
def LC(c:w.grownBy w' row):Touch (λa=>row=iC a) w w':=Touch.ZY c (λ_ b=>b)
def EZ.abide{m0:Dq}(h:EZ m0 w base jb x d p L s stamp vs l ps over en F v)(z:w.grownBy w' row)(A:∀o,row=iC o->¬Ns w o):EZ m0 w' base jb x d p L s stamp vs l ps over en F v:=by
 have c:=LC z;have a:∀b,Ns w b->¬row=iC b:=λb k i=>A b i k
 refine⟨⟨h.ix.sys.keep c (λb j=>a b (h.ix.sys.cells j)) (a _ h.ix.sys.tabs.cells.1) (a _ h.ix.sys.tabs.cells.2),h.ix.box.touch c (a _ (I9 h.ix.box)),h.ix.out⟩,h.box.touch c (a _ (I9 h.box)),Gj h.row c (λb j=>a b (cells_of_row h.row j)),?_,h.fj,h.bj,h.bx,h.bt,h.mj,h.mF⟩;obtain⟨q,r,i,k,m,u⟩:=h.set;refine⟨q,r,i,k,?_,u⟩;by_cases g:0<l.length*3
 ·refine Rd.touch m c (λB t=>a _ ?_);obtain⟨b,C,e,_,y⟩:=m.2 g;rw[t]at e;injection e with e
  subst e;have n:=y 0 g;rw[Ah (by rw[OT];exact g)]at n;exact cells_of_cell n
 ·exact⟨m.1,λh=>absurd h g⟩
end
end
section
open Go.RowKit Go.Shelf
attribute [local go_sem]Oper.semAt_some
abbrev Below'(m:Nat):={i:Nat//i<m}
def Ea(m:Nat):Nat->List (Below' m)
 |0=>[]
 |a+1=>Ea m a++(if h:a<m then[⟨m-1-a,O1⟩]else[])
def TL(m k:Nat)(h:k<m):Ea m (k+1)=Ea m k++[⟨m-1-k,O1⟩]:=by
 rw[Ea,dif_pos h]
def dH(m:Nat):∀a,a<=m->(Ea m a).length=a
 |0,_=>rfl
 |a+1,h=>by rw[TL m a O1,List.length_append,dH m a O1];rfl
def dI(m:Nat):∀a b,a<=b->Ea m a<+:Ea m b
 |a,0,h=>by rw[show a=0 by omega];exact Ag3 _
 |a,b+1,h=>by
  by_cases c:a=b+1
  ·rw[c];exact Ag3 _
  ·rw[Ea];exact(dI m a b O1).trans (List.prefix_append _ _)
def uQ(d a:Nat)(b c:jD):Prop:=c.heap[d]?=b.heap[d]?/\c.heap[a]?=b.heap[a]?
def dJ(q:UInt64×UInt64):jL:=.agg #[fP ig (q.1.toNat:Int),fP ig (q.2.toNat:Int)]
def Ani(F:Fence)(n:Nat)(ab:F.fn 264)(ah:F.round=none)(aD:1<=n)(e d c:Nat)(A:Option Addr)(ps:List (UInt64×UInt64))(aE:ps.length<=100000)(Y:0<ps.length->A=iC (Φ d))(w:jD)
 (s:w.cell? (Φ e)=iC (fD A ps.length c))(v:∀b(h:b<ps.length),w.cell? (Δ d (b*2))=iC (fP ig (ps[b].1.toNat:Int))/\w.cell? (Δ d (b*2+1))=iC (fP ig (ps[b].2.toNat:Int)))(ae:d<w.heap.size):
 SeqStopsK F n prog 264 #[ptr0 e] (λx:Below' ps.length=> #[fP .i64 (x.1:Int),dJ (ps[x.1]'x.2)]) (uQ d e) (λam=>am=Ea ps.length ps.length) (λal=>al<+:Ea ps.length ps.length) ps.length w:=λl q U j u av aw I X=>by
 have Z:=World.block_lt_of_cell? w _ s;have Q:j.heap[e]?=w.heap[e]?:=u.block e Z;have y:j.heap[d]?=w.heap[d]?:=u.block d ae;have z:∀i:jD,i.heap[e]?=j.heap[e]?->i.cell? (Φ e)=iC (fD A ps.length c):=λi k=>(BI (w:=w) (k.trans Q)).trans s
 have R:∀i:jD,i.heap[d]?=j.heap[d]?->∀b(h:b<ps.length),i.cell? (Δ d (b*2))=iC (fP ig (ps[b].1.toNat:Int))/\i.cell? (Δ d (b*2+1))=iC (fP ig (ps[b].2.toNat:Int)):=λi k b h=>⟨(BI (w:=w) (k.trans y)).trans (v b h).1,(BI (w:=w) (k.trans y)).trans (v b h).2⟩
 have V:=Ac z;have W:=Ac R;have T:=Ac I;have aM:=z j rfl;have ap:IntKind.i64.wrap ((ps.length:Int) -1)=(ps.length:Int) -1:=IntWalk.i64_in _ O1;clear s v I Q y z R u;refine callsIn_of_wp func264 rfl ab ?_ ah;simp only[ntmps264,List.size_toArray,Bv,Dx,Nat.reduceAdd,Nat.reduceSub,Array.replicate_succ,Array.replicate_zero,List.push_toArray,List.append_toArray,List.nil_append,List.cons_append];gi_wp2
 gi_loopw [3](λp wr=>∃a,a<=ps.length/\p=fP .i64 ((ps.length:Int) -1-(a:Int))/\q (Ea ps.length a) wr/\wr.heap[d]?=j.heap[d]?/\wr.heap[e]?=j.heap[e]?)(λp _=>(intOf p+1).toNat)
 case atStart=>exact⟨0,Nat.zero_le _,by simp,X,rfl,rfl⟩
 case round=>
  obtain⟨a,az,rfl,t,D,E⟩:=hrel;by_cases ac:a<ps.length
  ·have M:a<ps.length:=ac;obtain rfl:=Y O1;obtain⟨g,K⟩:=ε (ps.length-1-a);have o:g<ps.length:=O1;have ad:((ps.length:Int) -1-(a:Int))=(g:Int):=O1;rw[ad];have J:=Ac (TL ps.length a M);obtain⟨ar,aL,an,ao,P,aa⟩:=T (Ea ps.length a) ⟨g,o⟩ wr t (by rw[dH _ _ O1];exact M);have aR:=V wr E;obtain⟨aV,aW⟩:=W wr D g o;have aF:(g:Int)<(ps.length:Int):=O1;have aq:IntKind.i64.wrap ((g:Int) -1)=(g:Int) -1:=IntWalk.i64_in _ O1;unfold dJ at P
   dsimp only at P
   generalize ps[g]=aJ at*;have m:=Ac K;clear K;gi_wp2;refine aa.mono ?_;rintro k C(⟨rfl,G,L⟩|⟨rfl,H⟩)
   ·have r:Hid (q (Ea ps.length (a+1)) C):=Ac (by
     rw[J.out];have:(⟨ps.length-1-a,O1⟩:Below' ps.length)=⟨g,o⟩:=Subtype.ext m.symm;rw[this];exact G)
    have B:=Ac L;clear G L;gi_wp2;go_roundw
    case rel=>exact⟨a+1,O1,by have:=m.out;congr 1;omega,r.out,B.1.trans D,B.2.trans E⟩
    case measure=>have:=m.out;simp[intOf]
   ·have r:Hid (U (Ea ps.length (a+1)) C):=Ac (by
     rw[J.out];have:(⟨ps.length-1-a,O1⟩:Below' ps.length)=⟨g,o⟩:=Subtype.ext m.symm;rw[this];exact H)
    clear H;gi_wp2;refine bodyPost_ret (results_none rfl _ _ _) rfl ?_;exact⟨⟨_,rfl⟩,.inr ⟨Ea ps.length (a+1),dI _ _ _ O1,r.out⟩⟩
  ·have N:a=ps.length:=O1;rw[show((ps.length:Int) -1-(a:Int))= -1 by omega];have S:Hid (q (Ea ps.length ps.length) wr):=Ac (N▸t);clear t N;gi_wp2;go_end0;exact⟨⟨_,rfl⟩,.inl ⟨Ea ps.length ps.length,rfl,S.out⟩⟩
end
section
open Go.RowKit
