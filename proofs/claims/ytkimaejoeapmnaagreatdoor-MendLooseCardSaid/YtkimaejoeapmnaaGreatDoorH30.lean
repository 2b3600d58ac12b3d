import Derived.Test.YtkimaejoeapmnaaGreatDoorH03
set_option linter.defProp false
open Nat renaming mul_comm->GK,testBit_two_pow_mul->nP,testBit_two_pow_sub_one->dw,lt_pow_two_of_testBit->jo,testBit_and->Aja,lt_or_ge->Il,testBit_lt_two_pow->uD,lt_of_lt_of_le->BQ,pow_le_pow_right->Fj,testBit_or->La,zero_testBit->JA,zero_add->DR,eq_of_testBit_eq->zB,lt_trans->Aqd,min_eq_left->Ny,add_sub_cancel->VU
open UInt64 renaming toNat_ofNat_of_lt'->GU,size->Kt
open List renaming mem_cons->CJ,mem_map->Ba,map_cons->Cb,getElem?_set->H9,eq_nil_of_length_eq_zero->Ci,all_eq_true->EH,getElem_of_mem->CB,getElem?_take->CW,getElem?_drop->Dl,getElem?_append_right->DZ,length_cons->BB,length_nil->Du,getD->UK,getElem_mem->BI,getElem_cons_succ->Ah,getElem?_append_left->DI,getElem?_eq_getElem->Af,length_take->Dw
open Option renaming getD_some->Pj
namespace Go.Proofs.YtkimaejoeapmnaaGreatDoor
def MQ(n low size v i:Nat)(h:low+size<=64)(hn:n<2^64):(EC n low size v).testBit i=if low<=i/\i<low+size then v.testBit (i-low)else n.testBit i:=by
 have hM:∀j,((2^size-1)*2^low).testBit j=(decide (low<=j)&&decide (j-low<size)):=λj=>by
  rw [GK,nP,dw]
 have Avn:(2^size-1)*2^low<2^64:=by
  refine jo _ λj hj=> ?_
  rw [hM j];simp;omega
 have hN:(jy- (2^size-1)*2^low).testBit i=(decide (i<64)&& !((2^size-1)*2^low).testBit i):=by
  rw [<-Nat.testBit_two_pow_sub_succ Avn];unfold jy;congr 1;omega
 have hV:((v&&&(2^size-1))*2^low).testBit i=(decide (low<=i)&&(v.testBit (i-low)&&decide (i-low<size))):=by
  rw [GK,nP,Aja,dw]
 have hi64:n.testBit i=true->i<64:=λht=>by
  rcases Il i 64 with h'| h'
  ·exact h'
  ·rw [uD (BQ hn (Fj U h'))]at ht;cases ht
 unfold EC;rw [La,Aja,hN,hV,hM];by_cases h1:low<=i
 ·by_cases h2:i<low+size
  ·have h3:i-low<size:=O
   have h4:i<64:=O
   simp [h1,h2,h3]
  ·have h3:¬i-low<size:=O
   simp only [h1,h2,h3,decide_true,decide_false,Bool.and_false,Bool.not_false,Bool.and_true,Bool.or_false,and_false,if_false];cases hb:n.testBit i
   ·rfl
   ·simp [hi64 hb]
 ·simp only [h1,decide_false,Bool.false_and,Bool.not_false,Bool.and_true,Bool.or_false,false_and,if_false];cases hb:n.testBit i
  ·rfl
  ·simp [hi64 hb]
def Oh(n low size v:Nat)(h:low+size<=64)(hn:n<2^64):EC n low size v<2^64:=by
 refine jo _ λi hi=> ?_
 rw [MQ n low size v i h hn,if_neg O];exact uD (BQ hn (Fj U hi))
def NM(n low size i:Nat):(fieldN n low size).testBit i=(decide (i<size)&&n.testBit (low+i)):=by
 unfold fieldN;rw [Nat.testBit_mod_two_pow,Nat.testBit_div_two_pow,Nat.add_comm]
def Ahe(n a:Nat):(fieldN n a 1==1)=n.testBit a:=by
 have h:=NM n a 1 0;simp only [Nat.zero_lt_one,decide_true,Bool.true_and,Nat.add_zero]at h;rw [<-h];have h2:fieldN n a 1<2:=Nat.mod_lt _ U;have h3:fieldN n a 1=0\/fieldN n a 1=1:=O
 rcases h3 with h3| h3<;>rw [h3]<;>rfl
def U5(n size:Nat):fieldN n 0 size=0<->∀i,i<size->n.testBit i=false:=by
 constructor
 ·intro h i hi;have:=NM n 0 size i;rw [h,JA,DR]at this;simpa [hi]using this.symm
 ·intro h;refine zB λi=> ?_
  rw [NM,JA,DR];by_cases hi:i<size
  ·simp [h i hi]
  ·simp [hi]
structure SW(w c:Nat):Prop where
 lt:w<2^64
 cls:c=1\/c=2
 kind:DX w=c
 some:∃i,i<Bv c/\w.testBit i=true
 only:∀i,w.testBit i=true->i<Bv c\/i=16\/i=17
def PL(w:Nat):DX w=(if w.testBit 16 then 1 else 0)+(if w.testBit 17 then 2 else 0):=by
 have h0:(fieldN w 16 2).testBit 0=w.testBit 16:=(NM w 16 2 0).trans (by rfl);have h1:(fieldN w 16 2).testBit 1=w.testBit 17:=(NM w 16 2 1).trans (by rfl);have hlt:fieldN w 16 2<4:=Nat.mod_lt _ U;unfold DX;rw [<-h0,<-h1];generalize fieldN w 16 2=f at hlt;have hf:f=0\/f=1\/f=2\/f=3:=O
 rcases hf with rfl| rfl| rfl| rfl<;>decide
def WZ(w:Nat)(hw:w<2^64):EX w=true<->w=0\/∃c,SW w c:=by
 unfold EX;simp only [Bool.or_eq_true,beq_iff_eq,Bool.and_eq_true,bne_iff_ne];by_cases h0:w=0
 ·simp [h0]
 ·simp only [h0,false_or];have hb:Bv (DX w)<=16:=by
   unfold Bv;split<;>omega
  have hz:EC (EC w 0 (Bv (DX w)) 0) 16 2 0=0<->∀i,w.testBit i=true->i<Bv (DX w)\/i=16\/i=17:=by
   constructor
   ·intro h i hi;have h2:=MQ (EC w 0 (Bv (DX w)) 0) 16 2 0 i U (Oh _ _ _ _ O hw);rw [h,JA,MQ w 0 _ 0 i O hw]at h2;by_cases h3:16<=i/\i<16+2
    ·omega
    ·rw [if_neg h3]at h2;by_cases h4:0<=i/\i<0+Bv (DX w)
     ·omega
     ·rw [if_neg h4,hi]at h2;cases h2
   ·intro h;refine zB λi=> ?_
    rw [MQ _ 16 2 0 i U (Oh _ _ _ _ O hw),MQ w 0 _ 0 i O hw];simp only [JA];split
    ·rfl
    ·split
     ·rfl
     ·cases hb:w.testBit i
      ·rfl
      ·have:=h i hb;omega
  have hf:fieldN w 0 (Bv (DX w))≠0<->∃i,i<Bv (DX w)/\w.testBit i=true:=by
   rw [ne_eq,U5];constructor
   ·intro h;apply Classical.byContradiction;intro hn;refine h λi hi=> ?_
    cases hb:w.testBit i
    ·rfl
    ·exact absurd ⟨i,hi,hb⟩ hn
   ·rintro⟨i,hi,hb⟩h;rw [h i hi]at hb;cases hb
  rw [hz,hf];constructor
  ·rintro⟨⟨i,hi,hb⟩,h2⟩;refine⟨DX w,hw,?_,rfl,⟨i,hi,hb⟩,h2⟩;unfold Bv at hi;split at hi
   ·rename_i e;exact .inl e
   ·rename_i e;exact .inr e
   ·omega
  ·rintro⟨c,h⟩;obtain rfl:=h.kind;exact⟨h.some,h.only⟩
def SW.right{w c:Nat}(h:SW w c):EX w=true:=(WZ w h.lt).2 (.inr ⟨c,h⟩)
def SW.class{w c:Nat}(h:SW w c):Bg w=c:=by unfold Bg;rw [if_pos h.right,h.kind]
def SW.ne{w c:Nat}(h:SW w c):w≠0:=by
 obtain⟨i,_,hb⟩:=h.some;intro e;rw [e,JA]at hb;cases hb
def yA:Bg 0=0:=by decide
def SW.has{w c:Nat}(h:SW w c)(a:Nat):EP w a=(decide (a<Bv c)&&w.testBit a):=by unfold EP;rw [h.class,Ahe]
def EJ(a:Nat):EP 0 a=false:=by unfold EP;rw [yA];simp [Bv]
def SW.blocks{w c:Nat}(h:SW w c):0<Bv c/\Bv c<=16:=by
 rcases h.cls with rfl| rfl<;>decide
def SW.bits{w c:Nat}(h:SW w c):w.testBit 16=c.testBit 0/\w.testBit 17=c.testBit 1:=by
 have hk:=h.kind;rw [PL]at hk;rcases h.cls with rfl| rfl<;>cases h6:w.testBit 16<;>cases h7:w.testBit 17<;>simp [h6,h7]at hk⊢<;>decide
def OkW(w:Nat):Prop:=w=0\/∃c,SW w c
def OkW.lt{w:Nat}(h:OkW w):w<2^64:=by
 rcases h with rfl| ⟨c,h⟩
 ·decide
 ·exact h.lt
def OkW.right{w:Nat}(h:OkW w):EX w=true:=(WZ w h.lt).2 h
def OkW.RZ{w a:Nat}(h:OkW w)(ha:EP w a=true):∃c,SW w c/\a<Bv c/\w.testBit a=true:=by
 rcases h with rfl| ⟨c,h⟩
 ·rw [EJ]at ha;cases ha
 ·rw [h.has a,Bool.and_eq_true,decide_eq_true_eq]at ha;exact⟨c,h,ha.1,ha.2⟩
def iD{w c a:Nat}(h:OkW w)(hc:c=1\/c=2)(hm:w=0\/SW w c)(ha:a<Bv c)(hn:EP w a=false):
 (Gt w c a).2=true/\SW (Gt w c a).1 c/\∀b,EP (Gt w c a).1 b=(EP w b|| decide (b=a)):=by
 have hb16:0<Bv c/\Bv c<=16:=by rcases hc with rfl| rfl<;>decide
 have hmt:Lp w c=true:=by
  unfold Lp;rw [h.right];simp only [Bool.true_and,Bool.and_eq_true,decide_eq_true_eq,Bool.or_eq_true,beq_iff_eq];exact⟨hb16.1,hm.imp id (λh=>h.kind)⟩
 have he:Gt w c a=(EC (EC w a 1 1) 16 2 c,true):=by
  unfold Gt;rw [hmt,hn,decide_eq_false (by omega:¬Bv c<=a)];rfl
 have hw:=h.lt;have hx:EC w a 1 1<2^64:=Oh _ _ _ _ O hw;have hbit:∀i,(EC (EC w a 1 1) 16 2 c).testBit i=if i=16 then c.testBit 0 else if i=17 then c.testBit 1 else if i=a then true else w.testBit i:=λi=>by
  rw [MQ _ 16 2 c i U hx,MQ w a 1 1 i O hw];by_cases h6:i=16
  ·subst h6;simp
  ·by_cases h7:i=17
   ·subst h7;simp
   ·rw [if_neg O,if_neg h6,if_neg h7];by_cases h8:i=a
    ·subst h8;rw [if_pos O,if_pos rfl];simp
    ·rw [if_neg O,if_neg h8]
 have hS:SW (EC (EC w a 1 1) 16 2 c) c:=by
  refine⟨Oh _ _ _ _ U hx,hc,?_,⟨a,ha,?_⟩,λi hi=> ?_⟩
  ·have b6:=hbit 16;have b7:=hbit 17;rw [if_pos rfl]at b6;rw [if_neg U,if_pos rfl]at b7;rw [PL,b6,b7];rcases hc with rfl| rfl<;>decide
  ·rw [hbit,if_neg O,if_neg O,if_pos rfl]
  ·rw [hbit]at hi;by_cases h6:i=16
   ·omega
   ·by_cases h7:i=17
    ·omega
    ·rw [if_neg h6,if_neg h7]at hi;by_cases h8:i=a
     ·omega
     ·rw [if_neg h8]at hi;rcases hm with rfl| hm
      ·rw [JA]at hi;cases hi
      ·exact hm.only i hi
 rw [he];refine⟨rfl,hS,λb=> ?_⟩;rw [hS.has];rw [hbit];by_cases hb:b<Bv c
 ·rw [if_neg O,if_neg O];by_cases h8:b=a
  ·subst h8;simp [hb]
  ·rw [if_neg h8];rcases hm with rfl| hm
   ·rw [EJ];simp [h8]
   ·rw [hm.has];simp [h8]
 ·have h8:b≠a:=O
  rcases hm with rfl| hm
  ·rw [EJ];simp [hb,h8]
  ·rw [hm.has];simp [hb,h8]
def iE{w a:Nat}(h:OkW w)(ha:EP w a=true):
 (Eh w a).2=true/\OkW (Eh w a).1/\(∀b,EP (Eh w a).1 b=(EP w b&& !decide (b=a)))/\(Bg (Eh w a).1=Bg w\/(Eh w a).1=0):=by
 obtain⟨c,hS,hac,hbit⟩:=h.RZ ha;have hb16:=hS.blocks;have hw:=hS.lt;have hx:EC w a 1 0<2^64:=Oh _ _ _ _ O hw;have hbit:∀i,(EC w a 1 0).testBit i=if i=a then false else w.testBit i:=λi=>by
  rw [MQ w a 1 0 i O hw];by_cases h8:i=a
  ·subst h8;rw [if_pos O,if_pos rfl];simp
  ·rw [if_neg O,if_neg h8]
 unfold Eh;rw [ha];simp only [Bool.not_true,Bool.false_eq_true,if_false];by_cases ht:JP (EC w a 1 0)=0
 ·rw [if_pos ht];refine⟨rfl,.inl rfl,λb=> ?_,.inr rfl⟩;rw [EJ,hS.has];unfold JP at ht;rw [U5]at ht;by_cases hb:b<Bv c
  ·have:=ht b O;rw [hbit]at this;by_cases h8:b=a
   ·simp [h8]
   ·rw [if_neg h8]at this;simp [this]
  ·simp [hb]
 ·rw [if_neg ht];have hS2:SW (EC w a 1 0) c:=by
   refine⟨hx,hS.cls,?_,?_,λi hi=> ?_⟩
   ·have b6:(EC w a 1 0).testBit 16=w.testBit 16:=by rw [hbit,if_neg O]
    have b7:(EC w a 1 0).testBit 17=w.testBit 17:=by rw [hbit,if_neg O]
    rw [PL,b6,b7,<-PL,hS.kind]
   ·unfold JP at ht;rw [U5]at ht;apply Classical.byContradiction;intro hn;refine ht λi hi=> ?_
    cases hb:(EC w a 1 0).testBit i
    ·rfl
    ·refine absurd ⟨i,?_,hb⟩ hn;rw [hbit]at hb;by_cases h8:i=a
     ·rw [if_pos h8]at hb;cases hb
     ·rw [if_neg h8]at hb;have:=hS.only i hb;omega
   ·rw [hbit]at hi;by_cases h8:i=a
    ·rw [if_pos h8]at hi;cases hi
    ·rw [if_neg h8]at hi;exact hS.only i hi
  refine⟨rfl,.inr ⟨c,hS2⟩,λb=> ?_,.inl (by rw [hS2.class,hS.class])⟩;rw [hS2.has,hS.has,hbit];by_cases h8:b=a
  ·simp [h8]
  ·simp [h8]
def Adc {t h : Nat} (ht : OkW t) (hh : OkW h) (hc : t = 0 \/ h = 0 \/ Bg t = Bg h) : OkW (t ||| h) /\ (∀ a, EP (t ||| h) a = (EP t a || EP h a)) /\ (t ≠ 0 -> Bg (t ||| h) = Bg t) /\ (h ≠ 0 -> Bg (t ||| h) = Bg h) := by
  rcases ht with rfl | ⟨c, ht⟩
  · rw [Nat.zero_or]
    exact ⟨hh, λa => by rw [EJ]; rfl, λh => absurd rfl h, λ_ => rfl⟩
  · rcases hh with rfl | ⟨d, hh⟩
    · rw [Nat.or_zero]
      exact ⟨.inr ⟨c, ht⟩, λa => by rw [EJ, Bool.or_false], λ_ => rfl, λh => absurd rfl h⟩
    · have e : c = d := by
        rcases hc with h | h | h
        · exact absurd h ht.ne
        · exact absurd h hh.ne
        · rw [ht.class, hh.class] at h; exact h
      subst e
      have hS : SW (t ||| h) c := by
        refine ⟨Nat.or_lt_two_pow ht.lt hh.lt, ht.cls, ?_, ?_, λi hi => ?_⟩
        · have h1 := ht.bits
          have h2 := hh.bits
          rw [PL, La, La, h1.1, h1.2, h2.1, h2.2]
          rcases ht.cls with rfl | rfl <;> decide
        · obtain ⟨i, hi, hb⟩ := ht.some
          exact ⟨i, hi, by rw [La, hb]; rfl⟩
        · rw [La, Bool.or_eq_true] at hi
          exact hi.elim (ht.only i) (hh.only i)
      refine ⟨.inr ⟨c, hS⟩, λa => ?_, λ_ => by rw [hS.class, ht.class], λ_ => by rw [hS.class, hh.class]⟩
      rw [hS.has, ht.has, hh.has, La]
      cases decide (a < Bv c) <;> simp
def aU(l:List UInt8)(h15:l.length<=15)(h:l.all DK=true):Em (Gm l).toNat=l:=by
 obtain⟨u1,u2,u3,u4,u5⟩:=unpack_pack l h15 h;rw [Gm,GU (by simpa [Kt]using u5),Em,u1,u2,if_pos u3,u4]
def look:List UInt8->List UInt64->Nat->UInt64
 | a::as,k::ks,j=>if a.toNat=j then k else look as ks j
 | _,_,_=>0
def Xa:∀(as:List UInt8)(ks:List UInt64)(j:Nat),(∀a∈as,a.toNat≠j)->look as ks j=0
 | a::as,k::ks,j,h=>by rw [look,if_neg (h a Θ),Xa as ks j (λb hb=>h b (by simp [hb]))]
 | [],_,_,_=>rfl
 | _::_,[],_,_=>rfl
def KC{a:UInt8}{as:List UInt8}(h:DW (a::as)=true):DW as=true/\∀b∈as,a.toNat<b.toNat:=by
 induction as generalizing a with
 | nil=>exact⟨rfl,by simp⟩
 | cons b as ih=>
   simp only [DW,Bool.and_eq_true,decide_eq_true_eq]at h;obtain⟨h1,h2⟩:=ih h.2;refine⟨h.2,λc hc=> ?_⟩;rcases CJ.1 hc with rfl| hc
   ·exact h.1
   ·exact Aqd h.1 (h2 c hc)
def QA : ∀ (as : List UInt8) (ks : List UInt64) (row : List UInt64) (j : Nat), as.length = ks.length -> DW as = true -> 4 + j < row.length ->
    (CV row as ks)[4 + j]? = if j ∈ as.map UInt8.toNat then some (look as ks j) else row[4 + j]?
  | [], ks, row, j, _, _, _ => by simp [CV]
  | a :: as, [], row, j, hl, _, _ => by simp at hl
  | a :: as, k :: ks, row, j, hl, hr, hj => by
    obtain ⟨h1, h2⟩ := KC hr
    rw [CV, QA as ks (row.set (4 + a.toNat) k) j (by simpa using hl) h1 (by simpa using hj)]
    by_cases hm : j ∈ as.map UInt8.toNat
    · have hne : a.toNat ≠ j := by
        obtain ⟨b, hb, rfl⟩ := Ba.1 hm
        exact Nat.ne_of_lt (h2 b hb)
      rw [if_pos hm, if_pos (by simp only [Cb, CJ]; exact .inr hm), look, if_neg hne]
    · rw [if_neg hm]
      by_cases he : a.toNat = j
      · rw [if_pos (by simp [he]), look, if_pos he, H9, if_pos O, if_pos O]
      · rw [if_neg (by simp only [Cb, CJ, not_or]; exact ⟨λe => he e.symm, hm⟩), H9, if_neg O]
def Si:∀(as:List UInt8)(ks:List UInt64)(row:List UInt64)(i:Nat),i<4->(CV row as ks)[i]? =row[i]?
 | [],_,row,i,_=>by simp [CV]
 | _::_,[],row,i,_=>by simp [CV]
 | a::as,k::ks,row,i,hi=>by rw [CV,Si as ks _ i hi,H9,if_neg O]
def QB:∀(n i:Nat)(as:List UInt8)(ks:List UInt64)(t:List UInt64),t.length=n->as.length=ks.length->DW as=true->(∀a∈as,i<=a.toNat/\a.toNat<i+n)->i+n<=256->(∀k∈ks,k.toNat≠0)->
 (∀j,j<n->t[j]? =some (look as ks (i+j)))->Jw i t=as/\Kw t=ks
 | 0,i,as,ks,t,ht,hl,_,hb,_,_,_=>by
   have h1:t=[]:=Ci ht;have h2:as=[]:=by
    rcases as with _| ⟨a,as⟩
    ·rfl
    ·have:=hb a Θ;omega
   subst h1 h2;have h3:ks=[]:=Ci (by simpa using hl.symm);subst h3;exact⟨rfl,rfl⟩
 | n+1,i,as,ks,[],ht,_,_,_,_,_,_=>by simp at ht
 | n+1,i,as,ks,x::t,ht,hl,hr,hb,hi,hk,hlk=>by
   have hx:x=look as ks i:=by have:=hlk 0 O;simpa using this
   rcases as with _| ⟨a,as⟩
   ·have h3:ks=[]:=Ci (by simpa using hl.symm);subst h3;have hx0:x.toNat=0:=by rw [hx];rfl
    have ih:=QB n (i+1) [] [] t (by simpa using ht) rfl rfl Θ O Θ (λj hj=>by
     have:=hlk (j+1) O;rw [show i+1+j=i+(j+1)by omega];simpa using this)
    simp only [Jw,if_pos hx0,ih.1];refine⟨trivial,?_⟩;have h2:=ih.2;unfold Kw at h2⊢;simp [hx0,h2]
   ·rcases ks with _| ⟨k,ks⟩
    ·simp at hl
    ·obtain⟨h1,h2⟩:=KC hr;by_cases he:a.toNat=i
     ·have hxk:x=k:=by rw [hx,look,if_pos he]
      subst hxk;have hx0:x.toNat≠0:=hk x Θ;have ih:=QB n (i+1) as ks t (by simpa using ht) (by simpa using hl) h1 (λb hb'=>Ψ (h2 b hb') (hb b (by simp [hb']))) O (λk' hk'=>hk k' (by simp [hk'])) (λj hj=>by
       have:=hlk (j+1) O;rw [look,if_neg O]at this;rw [show i+1+j=i+(j+1)by omega];simpa using this)
      have ea:UInt8.ofNat i=a:=by apply UInt8.toNat_inj.1;rw [<-he];simp
      simp only [Jw,if_neg hx0,ih.1,ea];refine⟨trivial,?_⟩;have h2:=ih.2;unfold Kw at h2⊢;simp [hx0,h2]
     ·have hai:i+1<=a.toNat:=Ω (hb a Θ)
      have hx0:x.toNat=0:=by
       rw [hx,look,if_neg he,Xa as ks i (λb hb'=>Ω (h2 b hb'))];rfl
      have ih:=QB n (i+1) (a::as) (k::ks) t (by simpa using ht) hl hr (λb hb'=>by
       rcases CJ.1 hb' with rfl| Asz
       ·have:=hb b Θ;omega
       ·have:=h2 b Asz;have:=hb b (by simp [Asz]);omega) O hk (λj hj=>by
       have:=hlk (j+1) O;rw [show i+1+j=i+(j+1)by omega];simpa using this)
      simp only [Jw,if_pos hx0,ih.1];refine⟨trivial,?_⟩;have h2:=ih.2;unfold Kw at h2⊢;simp [hx0,h2]
def Nd.ext'{x y:Nd}(h1:x.pre=y.pre)(h2:x.val=y.val)(h3:x.labels=y.labels)(h4:x.kids=y.kids):x=y:=by
 cases x;cases y;simp_all
def qX(x:Nd)(h:C9 x=true):EY (Ea x)=x:=by
 obtain⟨h1,h2,h3,h4,h5,h6⟩:=(Bq x).1 h;by_cases hs:x.kids.length<=4
 ·have hl:=X0 x hs;rw [Ea,if_pos hs,EY,if_pos hl];obtain⟨u1,u2,u3,u4,u5⟩:=unpack_pack x.labels O h4;have e3:(Gm x.labels).toNat=x.labels.length+16*Fa x.labels:=by rw [Gm,GU (by simpa [Kt]using u5)]
  have hd:(encS x).drop 4=x.kids++List.replicate (4-x.kids.length) 0:=by simp [encS]
  have hc:Jf (Gm x.labels).toNat ((encS x).drop 4)=(x.labels,x.kids):=by
   rw [hd,Jf,e3,u1,u2,if_pos ⟨u3,O⟩,u4,h3,List.take_left' rfl]
  apply Nd.ext'
  ·show Em ((encS x).getD 1 0).toNat=x.pre;rw [show(encS x).getD 1 0=Gm x.pre by simp [encS],aU x.pre h1 h2]
  ·show(encS x).getD 2 0=x.val;simp [encS]
  ·show(Jf ((encS x).getD 3 0).toNat ((encS x).drop 4)).1=x.labels;rw [show(encS x).getD 3 0=Gm x.labels by simp [encS],hc]
  ·show(Jf ((encS x).getD 3 0).toNat ((encS x).drop 4)).2=x.kids;rw [show(encS x).getD 3 0=Gm x.labels by simp [encS],hc]
 ·have hl:=X3 x;rw [Ea,if_neg hs,EY,if_neg O];have g1:(Rt x)[1]? =some (Gm x.pre):=by rw [Rt,Si _ _ _ 1 U];simp [headB]
  have g2:(Rt x)[2]? =some x.val:=by rw [Rt,Si _ _ _ 2 U];simp [headB]
  have ht:(((Rt x).drop 4).take 16).length=16:=by simp [hl]
  have As0:=QB 16 0 x.labels x.kids (((Rt x).drop 4).take 16) ht h3 h5 (λa ha=>by
   rw [EH]at h4;have:=h4 a ha;simp only [DK,decide_eq_true_eq]at this;omega) U (λk hk=>by
   obtain⟨i,hi,rfl⟩:=CB hk;exact h6 i hi) (λj hj=>by
   rw [CW,if_pos hj,Dl,Rt,QA _ _ _ j h3 h5 (by simp [headB];omega),DR];by_cases hm:j∈x.labels.map UInt8.toNat
   ·rw [if_pos hm]
   ·rw [if_neg hm,Xa _ _ _ (λa ha e=>hm (Ba.2 ⟨a,ha,e⟩))];rw [headB,DZ (by simp only [BB,Du];omega),List.getElem?_replicate,if_pos (by simp only [BB,Du];omega)])
  apply Nd.ext'
  ·show Em ((Rt x).getD 1 0).toNat=x.pre;rw [UK,g1];exact aU x.pre h1 h2
  ·show(Rt x).getD 2 0=x.val;rw [UK,g2];rfl
  ·exact As0.1
  ·exact As0.2
def Ade(x:Nd)(h:C9 x=true):IX (Ea x)=true:=by
 have hl:=ER x;have hc:=qX x h;have h32:(Ea x).length=8\/(Ea x).length=32:=by rw [hl];split<;>simp
 rw [IX,hc,h];rcases h32 with e| e<;>simp [e]
def Adf(l:List UInt64)(h:IX l=true):C9 (EY l)=true/\Ea (EY l)=l:=by
 simp only [IX,Bool.and_eq_true,decide_eq_true_eq]at h;exact h.2
def OY(x:Nd)(i:Nat):Nat:=if x.kids.length<=4 then 4+i else 4+(x.labels.getD i 0).toNat
def iF(l:List UInt8)(h:DW l=true):∀(d i:Nat)(hj:i+d+1<l.length),l[i].toNat<l[i+d+1].toNat
 | 0,i,hj=>(Ho l).1 h i hj
 | d+1,i,hj=>Aqd (iF l h d i O) ((Ho l).1 h (i+d+1) O)
def I8(l:List UInt8)(h:DW l=true)(i j:Nat)(hij:i<j)(hj:j<l.length):l[i].toNat<l[j].toNat:=by
 have:=iF l h (j-i-1) i O;have e:i+(j-i-1)+1=j:=O
 simp only [e]at this;exact this
def yB(l:List UInt8)(h:DW l=true)(i:Nat)(hi:i<l.length):l.findIdx? (λy=>y.toNat==l[i].toNat)=some i:=by
 rw [List.findIdx?_eq_some_iff_getElem];refine⟨hi,by simp,λj hj=> ?_⟩;have:=I8 l h j i hj hi;simp;omega
def Aar:∀(as:List UInt8)(ks:List UInt64)(i:Nat)(h1:i<as.length)(h2:i<ks.length),DW as=true->look as ks as[i].toNat=ks[i]
 | a::as,k::ks,0,_,_,_=>by simp [look]
 | a::as,k::ks,i+1,h1,h2,hr=>by
   obtain⟨t1,t2⟩:=KC hr;have hi':i<as.length:=by simpa using h1
   have:=t2 as[i] (BI hi');rw [Ah,Ah,look,if_neg O];exact Aar as ks i (by simpa using h1) (by simpa using h2) t1
 | [],_,_,h1,_,_=>by simp at h1
 | _::_,[],_,_,h2,_=>by simp at h2
def Aas(x:Nd)(h:C9 x=true)(i:Nat)(hi:i<x.kids.length):(Ea x)[OY x i]? =some x.kids[i]:=by
 obtain⟨h1,h2,h3,h4,h5,h6⟩:=(Bq x).1 h;unfold Ea OY;by_cases hs:x.kids.length<=4
 ·rw [if_pos hs,if_pos hs,encS,List.append_assoc,DZ Θ,DI (by simp;omega)];simp only [BB,Du];rw [show 4+i- (0+1+1+1+1)=i by omega,Af hi]
 ·have hl:i<x.labels.length:=O
  have hn:=Y1 h4 hl;rw [if_neg hs,if_neg hs,Rt,UK,Af hl,Pj,QA _ _ _ _ h3 h5 (by simp [headB];omega),
   if_pos (Ba.2 ⟨_,BI hl,rfl⟩),Aar _ _ i hl hi h5]
def yC(x:Nd)(h:C9 x=true)(i:Nat)(hi:i<x.kids.length):4<=OY x i/\OY x i<(Ea x).length/\∀j,j<i->OY x j≠OY x i:=by
 obtain⟨h1,h2,h3,h4,h5,h6⟩:=(Bq x).1 h;have he:=Aas x h i hi;refine⟨by unfold OY;split<;>omega,(List.getElem?_eq_some_iff.1 he).1,λj hj=> ?_⟩;unfold OY;split
 ·omega
 ·have:=I8 x.labels h5 j i hj O;simp only [UK,Af (show j<x.labels.length by omega),Af (show i<x.labels.length by omega),Pj];omega
def aV(l:List UInt8)(x:UInt8):Gh l x<=l.length:=List.countP_le_length
def OG{α:Type}(xs:List α)(i:Nat)(u:α)(h:i<=xs.length):(JD xs i u).length=xs.length+1:=by simp [JD];omega
def qY(l:List UInt8)(x:UInt8)(i:Nat)(hi:i<=l.length)(h1:∀t(h:t<l.length),t<i->l[t].toNat<x.toNat)(h2:∀t(h:t<l.length),i<=t->x.toNat<=l[t].toNat):Gh l x=i:=by
 unfold Gh
 conv=>lhs;rw [<-List.take_append_drop i l]
 rw [List.countP_append];have e1:(l.take i).countP (λy=>decide (y.toNat<x.toNat))=i:=by
  have:(l.take i).length=i:=by simp;omega
  conv=>rhs;rw [<-this]
  rw [List.countP_eq_length];intro a ha;obtain⟨t,ht,rfl⟩:=CB ha;simp at ht;simpa using h1 t O O
 have e2:(l.drop i).countP (λy=>decide (y.toNat<x.toNat))=0:=by
  rw [List.countP_eq_zero];intro a ha;obtain⟨t,ht,rfl⟩:=CB ha;simp at ht;have:=h2 (i+t) O O;simp;omega
 omega
def JI{α:Type}(xs:List α)(i:Nat)(u:α)(hi:i<=xs.length)(j:Nat):(JD xs i u)[j]? =if j<i then xs[j]? else if j=i then some u else xs[j-1]? :=by
 unfold JD;by_cases h1:j<i
 ·rw [if_pos h1,DI (by simp;omega),CW,if_pos h1]
 ·rw [if_neg h1,DZ (by simp;omega)];simp only [Dw,Ny hi];by_cases h2:j=i
  ·subst h2;simp
  ·rw [if_neg h2,show j-i=(j-1-i)+1 by omega,List.getElem?_cons_succ,Dl];congr 1;omega
def iG{α:Type}(xs:List α)(i:Nat)(u:α)(hi:i<=xs.length):J7 (JD xs i u) i=xs:=by
 unfold J7 JD;rw [List.take_append_of_le_length (by simp;omega),List.take_take,Nat.min_self,List.drop_append,Dw,Ny hi,show i+1-i=1 by omega,List.drop_of_length_le (by simp;omega)];simp
def qZ{α:Type}(xs:List α)(i:Nat)(u y:α)(h:y∈JD xs i u):y=u\/y∈xs:=by
 unfold JD at h;rw [List.mem_append,CJ]at h;rcases h with h| h| h
 ·exact .inr (List.mem_of_mem_take h)
 ·exact .inl h
 ·exact .inr (List.mem_of_mem_drop h)
def lu(l:List UInt8)(x:UInt8)(hs:DW l=true):(∀t(h:t<l.length),t<Gh l x->l[t].toNat<x.toNat)/\(∀t(h:t<l.length),Gh l x<=t->x.toNat<=l[t].toNat):=by
 obtain⟨i,hi⟩:∃i,i=l.findIdx (λy=>decide (x.toNat<=y.toNat)):=⟨_,rfl⟩;have hle:i<=l.length:=by rw [hi];exact List.findIdx_le_length
 have a1:∀t(h:t<l.length),t<i->l[t].toNat<x.toNat:=by
  intro t h ht;rw [hi]at ht;have:=List.not_of_lt_findIdx ht;simpa using this
 have a2:∀t(h:t<l.length),i<=t->x.toNat<=l[t].toNat:=by
  intro t h ht;have hil:i<l.length:=O
  have h0:x.toNat<=l[i].toNat:=by
   have:=List.findIdx_getElem (p:=λy:UInt8=>decide (x.toNat<=y.toNat)) (xs:=l) (w:=by rw [<-hi];exact hil);simpa [<-hi]using this
  rcases Il i t with h'| h'
  ·have:=I8 l hs i t h' h;omega
  ·obtain rfl:t=i:=O
   exact h0
 have e:=qY l x i hle a1 a2;rw [e];exact⟨a1,a2⟩
def Sj(l:List UInt8)(x:UInt8)(h:Pn l x=false):∀t(h:t<l.length),l[t].toNat≠x.toNat:=by
 intro t ht e;unfold Pn at h;rw [List.any_eq_true.2 ⟨l[t],BI _,by simpa using e⟩]at h;cases h
def rq(l:List UInt8)(x:UInt8)(hs:DW l=true)(hh:Pn l x=false):DW (JD l (Gh l x) x)=true:=by
 obtain⟨a1,a2⟩:=lu l x hs;have hp:=aV l x;have hne:=Sj l x hh;generalize Gh l x=p at*;rw [Ho];intro i hi;have hlen:(JD l p x).length=l.length+1:=OG l p x hp;have e1:=JI l p x hp i;have e2:=JI l p x hp (i+1);rw [Af O]at e1 e2;rw [hlen]at hi;rcases Il (i+1) p with h| h
 ·rw [if_pos O,Af O]at e1 e2;injection e1 with e1;injection e2 with e2
  rw [e1,e2];exact(Ho l).1 hs i O
 ·rcases Il i p with h'| h'
  ·obtain rfl:p=i+1:=O
   rw [if_pos O,Af O]at e1;rw [if_neg O,if_pos rfl]at e2;injection e1 with e1;injection e2 with e2
   rw [e1,e2];exact a1 i O O
  ·rw [if_neg O,if_neg O,VU,Af O]at e2;injection e2 with e2
   rw [e2];rcases Nat.eq_or_lt_of_le h' with h3| h3
   ·subst h3;rw [if_neg O,if_pos rfl]at e1;injection e1 with e1
    rw [e1];have:=a2 p O (Nat.le_refl _);have:=hne p O;omega
   ·rw [if_neg O,if_neg O,Af O]at e1;injection e1 with e1
    rw [e1];have:=(Ho l).1 hs (i-1) O;simp only [show i-1+1=i by omega]at this;exact this
structure yD(x:Nd)(label:UInt8)(kid:UInt64):Prop where
 right:C9 (Ic x label kid)=true
 place:Gh x.labels label<=x.labels.length
 len:(Ic x label kid).labels.length=x.labels.length+1
 As1:(Ic x label kid).kids.length=x.kids.length+1
 Avo:(Ic x label kid).labels[Gh x.labels label]? =some label
 Avp:(Ic x label kid).kids[Gh x.labels label]? =some kid
 find:J6 (Ic x label kid).labels label=some (Gh x.labels label)
 out:Wl (Ic x label kid) (Gh x.labels label)=x
 old:∀i(h:i<x.labels.length)(hk:i<x.kids.length),∃j,j<x.labels.length+1/\(Ic x label kid).labels[j]? =some x.labels[i]/\(Ic x label kid).kids[j]? =some x.kids[i]
def Sl(x:Nd)(label:UInt8)(kid:UInt64):Jo x label kid=true<->C9 x=true/\label.toNat<16/\kid.toNat≠0/\Pn x.labels label=false:=by
 unfold Jo;simp only [Bool.and_eq_true,decide_eq_true_eq,Bool.not_eq_true',beq_eq_false_iff_ne,and_assoc,ne_eq]
def ry(x:Nd)(label:UInt8)(kid:UInt64)(h:Jo x label kid=true):yD x label kid:=by
 obtain⟨hR,h16,hk,hh⟩:=(Sl x label kid).1 h;obtain⟨r1,r2,r3,r4,r5,r6⟩:=(Bq x).1 hR;have hp:=aV x.labels label;have l1:(JD x.labels (Gh x.labels label) label).length=x.labels.length+1:=OG _ _ _ hp;have l2:(JD x.kids (Gh x.labels label) kid).length=x.kids.length+1:=OG _ _ _ O;have hr:C9 (Ic x label kid)=true:=by
  rw [Bq];refine⟨r1,r2,?_,?_,rq _ _ r5 hh,?_⟩
  ·show(JD _ _ _).length=(JD _ _ _).length;omega
  ·rw [EH];intro y hy;rcases qZ _ _ _ _ hy with rfl| hy
   ·exact Wi h16
   ·exact(EH.1 r4) y hy
  ·intro i hi;rcases qZ _ _ _ _ (BI hi)with e| hy
   ·rw [e];exact hk
   ·obtain⟨t,ht,e⟩:=CB hy;rw [<-e];exact r6 t ht
 have hlab:(Ic x label kid).labels[Gh x.labels label]? =some label:=by
  show(JD _ _ _)[_]? =_;rw [JI _ _ _ hp,if_neg O,if_pos rfl]
 refine⟨hr,hp,l1,l2,hlab,?_,?_,?_,?_⟩
 ·show(JD _ _ _)[_]? =_;rw [JI _ _ _ O,if_neg O,if_pos rfl]
 ·have hlt:Gh x.labels label<(Ic x label kid).labels.length:=by rw [show(Ic x label kid).labels.length=x.labels.length+1 from l1];omega
  have:=yB _ ((Bq _).1 hr).2.2.2.2.1 _ hlt;rw [Af hlt]at hlab;injection hlab with hlab
  rw [hlab]at this;exact this
 ·show({pre:=x.pre,val:=x.val,labels:=J7 (JD _ _ _) _,kids:=J7 (JD _ _ _) _}:Nd)=x;rw [iG _ _ _ hp,iG _ _ _ O]
 ·intro i hi hik;by_cases hip:i<Gh x.labels label
  ·refine⟨i,O,?_,?_⟩
   ·show(JD _ _ _)[_]? =_;rw [JI _ _ _ hp,if_pos hip,Af hi]
   ·show(JD _ _ _)[_]? =_;rw [JI _ _ _ O,if_pos hip,Af hik]
  ·refine⟨i+1,O,?_,?_⟩
   ·show(JD _ _ _)[_]? =_;rw [JI _ _ _ hp,if_neg O,if_neg O,VU,Af hi]
   ·show(JD _ _ _)[_]? =_;rw [JI _ _ _ O,if_neg O,if_neg O,VU,Af hik]
