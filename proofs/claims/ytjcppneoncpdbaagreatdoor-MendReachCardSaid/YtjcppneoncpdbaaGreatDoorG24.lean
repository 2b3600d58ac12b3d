import Derived.Test.YtjcppneoncpdbaaGreatDoorG01
open Nat renaming mul_comm->IK,testBit_two_pow_mul->gX,testBit_two_pow_sub_one->YO,lt_pow_two_of_testBit->bn,testBit_and->Adg,lt_or_ge->Ho,testBit_lt_two_pow->mr,lt_of_lt_of_le->Cb,pow_le_pow_right->EN,testBit_or->KD,zero_testBit->Jm,zero_add->D6,eq_of_testBit_eq->sQ,lt_trans->Ai1,min_eq_left->MG,add_sub_cancel->U4
open UInt64 renaming toNat_ofNat_of_lt'->Gs,size->JA
open List renaming mem_cons->D9,mem_map->BX,map_cons->Cf,getElem?_set->GV,eq_nil_of_length_eq_zero->BK,all_eq_true->Em,getElem_of_mem->CG,getElem?_take->CY,getElem?_drop->Dp,getElem?_append_right->Eh,length_cons->BJ,length_nil->Dy,getD->Tz,getElem_mem->CU,getElem_cons_succ->Ap,getElem?_append_left->D5,getElem?_eq_getElem->Ag,length_take->Ed
open Option renaming getD_some->Ov
namespace Go.Proofs.YtjcppneoncpdbaaGreatDoor
theorem LK(n low size v i:Nat)(h:low+size<=64)(hn:n<2^64):(Eg n low size v).testBit i=if low<=i/\i<low+size then v.testBit (i-low)else n.testBit i:=by
 have hM:∀j,((2^size-1)*2^low).testBit j=(decide (low<=j)&&decide (j-low<size)):=fun j=>by
  rw [IK,gX,YO]
 have Ann:(2^size-1)*2^low<2^64:=by
  refine bn _ fun j hj=> ?_
  rw [hM j];simp;omega
 have hN:(bD- (2^size-1)*2^low).testBit i=(decide (i<64)&& !((2^size-1)*2^low).testBit i):=by
  rw [<-Nat.testBit_two_pow_sub_succ Ann];unfold bD;congr 1;omega
 have hV:((v&&&(2^size-1))*2^low).testBit i=(decide (low<=i)&&(v.testBit (i-low)&&decide (i-low<size))):=by
  rw [IK,gX,Adg,YO]
 have hi64:n.testBit i=true->i<64:=fun ht=>by
  rcases Ho i 64 with h'| h'
  ·exact h'
  ·rw [mr (Cb hn (EN (by decide) h'))]at ht;cases ht
 unfold Eg;rw [KD,Adg,hN,hV,hM];by_cases h1:low<=i
 ·by_cases h2:i<low+size
  ·have h3:i-low<size:=by omega
   have h4:i<64:=by omega
   simp [h1,h2,h3]
  ·have h3:¬i-low<size:=by omega
   simp only [h1,h2,h3,decide_true,decide_false,Bool.and_false,Bool.not_false,Bool.and_true,Bool.or_false,and_false,if_false];cases hb:n.testBit i
   ·rfl
   ·simp [hi64 hb]
 ·simp only [h1,decide_false,Bool.false_and,Bool.not_false,Bool.and_true,Bool.or_false,false_and,if_false];cases hb:n.testBit i
  ·rfl
  ·simp [hi64 hb]
theorem N7(n low size v:Nat)(h:low+size<=64)(hn:n<2^64):Eg n low size v<2^64:=by
 refine bn _ fun i hi=> ?_
 rw [LK n low size v i h hn,if_neg (by omega)];exact mr (Cb hn (EN (by decide) hi))
theorem MS(n low size i:Nat):(fieldN n low size).testBit i=(decide (i<size)&&n.testBit (low+i)):=by
 unfold fieldN;rw [Nat.testBit_mod_two_pow,Nat.testBit_div_two_pow,Nat.add_comm]
theorem Abs(n a:Nat):(fieldN n a 1==1)=n.testBit a:=by
 have h:=MS n a 1 0;simp only [Nat.zero_lt_one,decide_true,Bool.true_and,Nat.add_zero]at h;rw [<-h];have h2:fieldN n a 1<2:=Nat.mod_lt _ (by decide);have h3:fieldN n a 1=0\/fieldN n a 1=1:=by omega
 rcases h3 with h3| h3<;>rw [h3]<;>rfl
theorem SY(n size:Nat):fieldN n 0 size=0<->∀i,i<size->n.testBit i=false:=by
 constructor
 ·intro h i hi;have:=MS n 0 size i;rw [h,Jm,D6]at this;simpa [hi]using this.symm
 ·intro h;refine sQ fun i=> ?_
  rw [MS,Jm,D6];by_cases hi:i<size
  ·simp [h i hi]
  ·simp [hi]
structure SW(w c:Nat):Prop where
 lt:w<2^64
 cls:c=1\/c=2
 kind:DF w=c
 some:∃i,i<Bi c/\w.testBit i=true
 only:∀i,w.testBit i=true->i<Bi c\/i=16\/i=17
theorem OI(w:Nat):DF w=(if w.testBit 16 then 1 else 0)+(if w.testBit 17 then 2 else 0):=by
 have h0:(fieldN w 16 2).testBit 0=w.testBit 16:=(MS w 16 2 0).trans (by rfl);have h1:(fieldN w 16 2).testBit 1=w.testBit 17:=(MS w 16 2 1).trans (by rfl);have hlt:fieldN w 16 2<4:=Nat.mod_lt _ (by decide);unfold DF;rw [<-h0,<-h1];generalize fieldN w 16 2=f at hlt;have hf:f=0\/f=1\/f=2\/f=3:=by omega
 rcases hf with rfl| rfl| rfl| rfl<;>decide
theorem ax(w:Nat)(hw:w<2^64):FI w=true<->w=0\/∃c,SW w c:=by
 unfold FI;simp only [Bool.or_eq_true,beq_iff_eq,Bool.and_eq_true,bne_iff_ne];by_cases h0:w=0
 ·simp [h0]
 ·simp only [h0,false_or];have hb:Bi (DF w)<=16:=by
   unfold Bi;split<;>omega
  have hz:Eg (Eg w 0 (Bi (DF w)) 0) 16 2 0=0<->∀i,w.testBit i=true->i<Bi (DF w)\/i=16\/i=17:=by
   constructor
   ·intro h i hi;have h2:=LK (Eg w 0 (Bi (DF w)) 0) 16 2 0 i (by decide) (N7 _ _ _ _ (by omega) hw);rw [h,Jm,LK w 0 _ 0 i (by omega) hw]at h2;by_cases h3:16<=i/\i<16+2
    ·omega
    ·rw [if_neg h3]at h2;by_cases h4:0<=i/\i<0+Bi (DF w)
     ·omega
     ·rw [if_neg h4,hi]at h2;cases h2
   ·intro h;refine sQ fun i=> ?_
    rw [LK _ 16 2 0 i (by decide) (N7 _ _ _ _ (by omega) hw),LK w 0 _ 0 i (by omega) hw];simp only [Jm];split
    ·rfl
    ·split
     ·rfl
     ·cases hb:w.testBit i
      ·rfl
      ·have:=h i hb;omega
  have hf:fieldN w 0 (Bi (DF w))≠0<->∃i,i<Bi (DF w)/\w.testBit i=true:=by
   rw [ne_eq,SY];constructor
   ·intro h;apply Classical.byContradiction;intro hn;refine h fun i hi=> ?_
    cases hb:w.testBit i
    ·rfl
    ·exact absurd ⟨i,hi,hb⟩ hn
   ·rintro⟨i,hi,hb⟩h;rw [h i hi]at hb;cases hb
  rw [hz,hf];constructor
  ·rintro⟨⟨i,hi,hb⟩,h2⟩;refine⟨DF w,hw,?_,rfl,⟨i,hi,hb⟩,h2⟩;unfold Bi at hi;split at hi
   ·rename_i e;exact .inl e
   ·rename_i e;exact .inr e
   ·omega
  ·rintro⟨c,h⟩;obtain rfl:=h.kind;exact⟨h.some,h.only⟩
theorem SW.right{w c:Nat}(h:SW w c):FI w=true:=(ax w h.lt).2 (.inr ⟨c,h⟩)
theorem SW.class{w c:Nat}(h:SW w c):Bd w=c:=by unfold Bd;rw [if_pos h.right,h.kind]
theorem SW.ne{w c:Nat}(h:SW w c):w≠0:=by
 obtain⟨i,_,hb⟩:=h.some;intro e;rw [e,Jm]at hb;cases hb
theorem qM:Bd 0=0:=by decide
theorem SW.has{w c:Nat}(h:SW w c)(a:Nat):EF w a=(decide (a<Bi c)&&w.testBit a):=by unfold EF;rw [h.class,Abs]
theorem Fq(a:Nat):EF 0 a=false:=by unfold EF;rw [qM];simp [Bi]
theorem SW.blocks{w c:Nat}(h:SW w c):0<Bi c/\Bi c<=16:=by
 rcases h.cls with rfl| rfl<;>decide
theorem SW.bits{w c:Nat}(h:SW w c):w.testBit 16=c.testBit 0/\w.testBit 17=c.testBit 1:=by
 have hk:=h.kind;rw [OI]at hk;rcases h.cls with rfl| rfl<;>cases h6:w.testBit 16<;>cases h7:w.testBit 17<;>simp [h6,h7]at hk⊢<;>decide
def OkW(w:Nat):Prop:=w=0\/∃c,SW w c
theorem OkW.lt{w:Nat}(h:OkW w):w<2^64:=by
 rcases h with rfl| ⟨c,h⟩
 ·decide
 ·exact h.lt
theorem OkW.right{w:Nat}(h:OkW w):FI w=true:=(ax w h.lt).2 h
theorem OkW.QA{w a:Nat}(h:OkW w)(ha:EF w a=true):∃c,SW w c/\a<Bi c/\w.testBit a=true:=by
 rcases h with rfl| ⟨c,h⟩
 ·rw [Fq]at ha;cases ha
 ·rw [h.has a,Bool.and_eq_true,decide_eq_true_eq]at ha;exact⟨c,h,ha.1,ha.2⟩
theorem ay{w c a:Nat}(h:OkW w)(hc:c=1\/c=2)(hm:w=0\/SW w c)(ha:a<Bi c)(hn:EF w a=false):
 (Gh w c a).2=true/\SW (Gh w c a).1 c/\∀b,EF (Gh w c a).1 b=(EF w b|| decide (b=a)):=by
 have hb16:0<Bi c/\Bi c<=16:=by rcases hc with rfl| rfl<;>decide
 have hmt:KL w c=true:=by
  unfold KL;rw [h.right];simp only [Bool.true_and,Bool.and_eq_true,decide_eq_true_eq,Bool.or_eq_true,beq_iff_eq];exact⟨hb16.1,hm.imp id (fun h=>h.kind)⟩
 have he:Gh w c a=(Eg (Eg w a 1 1) 16 2 c,true):=by
  unfold Gh;rw [hmt,hn,decide_eq_false (by omega:¬Bi c<=a)];rfl
 have hw:=h.lt;have hx:Eg w a 1 1<2^64:=N7 _ _ _ _ (by omega) hw;have hbit:∀i,(Eg (Eg w a 1 1) 16 2 c).testBit i=if i=16 then c.testBit 0 else if i=17 then c.testBit 1 else if i=a then true else w.testBit i:=fun i=>by
  rw [LK _ 16 2 c i (by decide) hx,LK w a 1 1 i (by omega) hw];by_cases h6:i=16
  ·subst h6;simp
  ·by_cases h7:i=17
   ·subst h7;simp
   ·rw [if_neg (by omega),if_neg h6,if_neg h7];by_cases h8:i=a
    ·subst h8;rw [if_pos (by omega),if_pos rfl];simp
    ·rw [if_neg (by omega),if_neg h8]
 have hS:SW (Eg (Eg w a 1 1) 16 2 c) c:=by
  refine⟨N7 _ _ _ _ (by decide) hx,hc,?_,⟨a,ha,?_⟩,fun i hi=> ?_⟩
  ·have b6:=hbit 16;have b7:=hbit 17;rw [if_pos rfl]at b6;rw [if_neg (by decide),if_pos rfl]at b7;rw [OI,b6,b7];rcases hc with rfl| rfl<;>decide
  ·rw [hbit,if_neg (by omega),if_neg (by omega),if_pos rfl]
  ·rw [hbit]at hi;by_cases h6:i=16
   ·omega
   ·by_cases h7:i=17
    ·omega
    ·rw [if_neg h6,if_neg h7]at hi;by_cases h8:i=a
     ·omega
     ·rw [if_neg h8]at hi;rcases hm with rfl| hm
      ·rw [Jm]at hi;cases hi
      ·exact hm.only i hi
 rw [he];refine⟨rfl,hS,fun b=> ?_⟩;rw [hS.has];rw [hbit];by_cases hb:b<Bi c
 ·rw [if_neg (by omega),if_neg (by omega)];by_cases h8:b=a
  ·subst h8;simp [hb]
  ·rw [if_neg h8];rcases hm with rfl| hm
   ·rw [Fq];simp [h8]
   ·rw [hm.has];simp [h8]
 ·have h8:b≠a:=by omega
  rcases hm with rfl| hm
  ·rw [Fq];simp [hb,h8]
  ·rw [hm.has];simp [hb,h8]
theorem az{w a:Nat}(h:OkW w)(ha:EF w a=true):
 (Eu w a).2=true/\OkW (Eu w a).1/\(∀b,EF (Eu w a).1 b=(EF w b&& !decide (b=a)))/\(Bd (Eu w a).1=Bd w\/(Eu w a).1=0):=by
 obtain⟨c,hS,hac,hbit⟩:=h.QA ha;have hb16:=hS.blocks;have hw:=hS.lt;have hx:Eg w a 1 0<2^64:=N7 _ _ _ _ (by omega) hw;have hbit:∀i,(Eg w a 1 0).testBit i=if i=a then false else w.testBit i:=fun i=>by
  rw [LK w a 1 0 i (by omega) hw];by_cases h8:i=a
  ·subst h8;rw [if_pos (by omega),if_pos rfl];simp
  ·rw [if_neg (by omega),if_neg h8]
 unfold Eu;rw [ha];simp only [Bool.not_true,Bool.false_eq_true,if_false];by_cases ht:Jz (Eg w a 1 0)=0
 ·rw [if_pos ht];refine⟨rfl,.inl rfl,fun b=> ?_,.inr rfl⟩;rw [Fq,hS.has];unfold Jz at ht;rw [SY]at ht;by_cases hb:b<Bi c
  ·have:=ht b (by omega);rw [hbit]at this;by_cases h8:b=a
   ·simp [h8]
   ·rw [if_neg h8]at this;simp [this]
  ·simp [hb]
 ·rw [if_neg ht];have hS2:SW (Eg w a 1 0) c:=by
   refine⟨hx,hS.cls,?_,?_,fun i hi=> ?_⟩
   ·have b6:(Eg w a 1 0).testBit 16=w.testBit 16:=by rw [hbit,if_neg (by omega)]
    have b7:(Eg w a 1 0).testBit 17=w.testBit 17:=by rw [hbit,if_neg (by omega)]
    rw [OI,b6,b7,<-OI,hS.kind]
   ·unfold Jz at ht;rw [SY]at ht;apply Classical.byContradiction;intro hn;refine ht fun i hi=> ?_
    cases hb:(Eg w a 1 0).testBit i
    ·rfl
    ·refine absurd ⟨i,?_,hb⟩ hn;rw [hbit]at hb;by_cases h8:i=a
     ·rw [if_pos h8]at hb;cases hb
     ·rw [if_neg h8]at hb;have:=hS.only i hb;omega
   ·rw [hbit]at hi;by_cases h8:i=a
    ·rw [if_pos h8]at hi;cases hi
    ·rw [if_neg h8]at hi;exact hS.only i hi
  refine⟨rfl,.inr ⟨c,hS2⟩,fun b=> ?_,.inl (by rw [hS2.class,hS.class])⟩;rw [hS2.has,hS.has,hbit];by_cases h8:b=a
  ·simp [h8]
  ·simp [h8]
theorem xO {t h : Nat} (ht : OkW t) (hh : OkW h) (hc : t = 0 \/ h = 0 \/ Bd t = Bd h) : OkW (t ||| h) /\ (∀ a, EF (t ||| h) a = (EF t a || EF h a)) /\ (t ≠ 0 -> Bd (t ||| h) = Bd t) /\ (h ≠ 0 -> Bd (t ||| h) = Bd h) := by
  rcases ht with rfl | ⟨c, ht⟩
  · rw [Nat.zero_or]
    exact ⟨hh, fun a => by rw [Fq]; rfl, fun h => absurd rfl h, fun _ => rfl⟩
  · rcases hh with rfl | ⟨d, hh⟩
    · rw [Nat.or_zero]
      exact ⟨.inr ⟨c, ht⟩, fun a => by rw [Fq, Bool.or_false], fun _ => rfl, fun h => absurd rfl h⟩
    · have e : c = d := by
        rcases hc with h | h | h
        · exact absurd h ht.ne
        · exact absurd h hh.ne
        · rw [ht.class, hh.class] at h; exact h
      subst e
      have hS : SW (t ||| h) c := by
        refine ⟨Nat.or_lt_two_pow ht.lt hh.lt, ht.cls, ?_, ?_, fun i hi => ?_⟩
        · have h1 := ht.bits
          have h2 := hh.bits
          rw [OI, KD, KD, h1.1, h1.2, h2.1, h2.2]
          rcases ht.cls with rfl | rfl <;> decide
        · obtain ⟨i, hi, hb⟩ := ht.some
          exact ⟨i, hi, by rw [KD, hb]; rfl⟩
        · rw [KD, Bool.or_eq_true] at hi
          exact hi.elim (ht.only i) (hh.only i)
      refine ⟨.inr ⟨c, hS⟩, fun a => ?_, fun _ => by rw [hS.class, ht.class], fun _ => by rw [hS.class, hh.class]⟩
      rw [hS.has, ht.has, hh.has, KD]
      cases decide (a < Bi c) <;> simp
theorem Yy(l:List UInt8)(h15:l.length<=15)(h:l.all DR=true):DW (FN l).toNat=l:=by
 obtain⟨u1,u2,u3,u4,u5⟩:=unpack_pack l h15 h;rw [FN,Gs (by simpa [JA]using u5),DW,u1,u2,if_pos u3,u4]
def look:List UInt8->List UInt64->Nat->UInt64
 | a::as,k::ks,j=>if a.toNat=j then k else look as ks j
 | _,_,_=>0
theorem Vd:∀(as:List UInt8)(ks:List UInt64)(j:Nat),(∀a∈as,a.toNat≠j)->look as ks j=0
 | a::as,k::ks,j,h=>by rw [look,if_neg (h a (by simp)),Vd as ks j (fun b hb=>h b (by simp [hb]))]
 | [],_,_,_=>rfl
 | _::_,[],_,_=>rfl
theorem JJ{a:UInt8}{as:List UInt8}(h:DD (a::as)=true):DD as=true/\∀b∈as,a.toNat<b.toNat:=by
 induction as generalizing a with
 | nil=>exact⟨rfl,by simp⟩
 | cons b as ih=>
   simp only [DD,Bool.and_eq_true,decide_eq_true_eq]at h;obtain⟨h1,h2⟩:=ih h.2;refine⟨h.2,fun c hc=> ?_⟩;rcases D9.1 hc with rfl| hc
   ·exact h.1
   ·exact Ai1 h.1 (h2 c hc)
theorem PO : ∀ (as : List UInt8) (ks : List UInt64) (row : List UInt64) (j : Nat), as.length = ks.length -> DD as = true -> 4 + j < row.length ->
    (CO row as ks)[4 + j]? = if j ∈ as.map UInt8.toNat then some (look as ks j) else row[4 + j]?
  | [], ks, row, j, _, _, _ => by simp [CO]
  | a :: as, [], row, j, hl, _, _ => by simp at hl
  | a :: as, k :: ks, row, j, hl, hr, hj => by
    obtain ⟨h1, h2⟩ := JJ hr
    rw [CO, PO as ks (row.set (4 + a.toNat) k) j (by simpa using hl) h1 (by simpa using hj)]
    by_cases hm : j ∈ as.map UInt8.toNat
    · have hne : a.toNat ≠ j := by
        obtain ⟨b, hb, rfl⟩ := BX.1 hm
        exact Nat.ne_of_lt (h2 b hb)
      rw [if_pos hm, if_pos (by simp only [Cf, D9]; exact .inr hm), look, if_neg hne]
    · rw [if_neg hm]
      by_cases he : a.toNat = j
      · rw [if_pos (by simp [he]), look, if_pos he, GV, if_pos (by omega), if_pos (by omega)]
      · rw [if_neg (by simp only [Cf, D9, not_or]; exact ⟨fun e => he e.symm, hm⟩), GV, if_neg (by omega)]
theorem QB:∀(as:List UInt8)(ks:List UInt64)(row:List UInt64)(i:Nat),i<4->(CO row as ks)[i]? =row[i]?
 | [],_,row,i,_=>by simp [CO]
 | _::_,[],row,i,_=>by simp [CO]
 | a::as,k::ks,row,i,hi=>by rw [CO,QB as ks _ i hi,GV,if_neg (by omega)]
theorem PQ:∀(n i:Nat)(as:List UInt8)(ks:List UInt64)(t:List UInt64),t.length=n->as.length=ks.length->DD as=true->(∀a∈as,i<=a.toNat/\a.toNat<i+n)->i+n<=256->(∀k∈ks,k.toNat≠0)->
 (∀j,j<n->t[j]? =some (look as ks (i+j)))->Jd i t=as/\JB t=ks
 | 0,i,as,ks,t,ht,hl,_,hb,_,_,_=>by
   have h1:t=[]:=BK ht;have h2:as=[]:=by
    rcases as with _| ⟨a,as⟩
    ·rfl
    ·have:=hb a (by simp);omega
   subst h1 h2;have h3:ks=[]:=BK (by simpa using hl.symm);subst h3;exact⟨rfl,rfl⟩
 | n+1,i,as,ks,[],ht,_,_,_,_,_,_=>by simp at ht
 | n+1,i,as,ks,x::t,ht,hl,hr,hb,hi,hk,hlk=>by
   have hx:x=look as ks i:=by have:=hlk 0 (by omega);simpa using this
   rcases as with _| ⟨a,as⟩
   ·have h3:ks=[]:=BK (by simpa using hl.symm);subst h3;have hx0:x.toNat=0:=by rw [hx];rfl
    have ih:=PQ n (i+1) [] [] t (by simpa using ht) rfl rfl (by simp) (by omega) (by simp) (fun j hj=>by
     have:=hlk (j+1) (by omega);rw [show i+1+j=i+(j+1)by omega];simpa using this)
    simp only [Jd,if_pos hx0,ih.1];refine⟨trivial,?_⟩;have h2:=ih.2;unfold JB at h2⊢;simp [hx0,h2]
   ·rcases ks with _| ⟨k,ks⟩
    ·simp at hl
    ·obtain⟨h1,h2⟩:=JJ hr;by_cases he:a.toNat=i
     ·have hxk:x=k:=by rw [hx,look,if_pos he]
      subst hxk;have hx0:x.toNat≠0:=hk x (by simp);have ih:=PQ n (i+1) as ks t (by simpa using ht) (by simpa using hl) h1 (fun b hb'=>by have:=h2 b hb';have:=hb b (by simp [hb']);omega) (by omega) (fun k' hk'=>hk k' (by simp [hk'])) (fun j hj=>by
       have:=hlk (j+1) (by omega);rw [look,if_neg (by omega)]at this;rw [show i+1+j=i+(j+1)by omega];simpa using this)
      have ea:UInt8.ofNat i=a:=by apply UInt8.toNat_inj.1;rw [<-he];simp
      simp only [Jd,if_neg hx0,ih.1,ea];refine⟨trivial,?_⟩;have h2:=ih.2;unfold JB at h2⊢;simp [hx0,h2]
     ·have hai:i+1<=a.toNat:=by have:=hb a (by simp);omega
      have hx0:x.toNat=0:=by
       rw [hx,look,if_neg he,Vd as ks i (fun b hb'=>by have:=h2 b hb';omega)];rfl
      have ih:=PQ n (i+1) (a::as) (k::ks) t (by simpa using ht) hl hr (fun b hb'=>by
       rcases D9.1 hb' with rfl| Alc
       ·have:=hb b (by simp);omega
       ·have:=h2 b Alc;have:=hb b (by simp [Alc]);omega) (by omega) hk (fun j hj=>by
       have:=hlk (j+1) (by omega);rw [show i+1+j=i+(j+1)by omega];simpa using this)
      simp only [Jd,if_pos hx0,ih.1];refine⟨trivial,?_⟩;have h2:=ih.2;unfold JB at h2⊢;simp [hx0,h2]
theorem Nd.ext'{x y:Nd}(h1:x.pre=y.pre)(h2:x.val=y.val)(h3:x.labels=y.labels)(h4:x.kids=y.kids):x=y:=by
 cases x;cases y;simp_all
theorem kF(x:Nd)(h:Cc x=true):EE (DI x)=x:=by
 obtain⟨h1,h2,h3,h4,h5,h6⟩:=(Bg x).1 h;by_cases hs:x.kids.length<=4
 ·have hl:=V5 x hs;rw [DI,if_pos hs,EE,if_pos hl];obtain⟨u1,u2,u3,u4,u5⟩:=unpack_pack x.labels (by omega) h4;have e3:(FN x.labels).toNat=x.labels.length+16*EG x.labels:=by rw [FN,Gs (by simpa [JA]using u5)]
  have hd:(encS x).drop 4=x.kids++List.replicate (4-x.kids.length) 0:=by simp [encS]
  have hc:IA (FN x.labels).toNat ((encS x).drop 4)=(x.labels,x.kids):=by
   rw [hd,IA,e3,u1,u2,if_pos ⟨u3,by omega⟩,u4,h3,List.take_left' rfl]
  apply Nd.ext'
  ·show DW ((encS x).getD 1 0).toNat=x.pre;rw [show(encS x).getD 1 0=FN x.pre by simp [encS],Yy x.pre h1 h2]
  ·show(encS x).getD 2 0=x.val;simp [encS]
  ·show(IA ((encS x).getD 3 0).toNat ((encS x).drop 4)).1=x.labels;rw [show(encS x).getD 3 0=FN x.labels by simp [encS],hc]
  ·show(IA ((encS x).getD 3 0).toNat ((encS x).drop 4)).2=x.kids;rw [show(encS x).getD 3 0=FN x.labels by simp [encS],hc]
 ·have hl:=V6 x;rw [DI,if_neg hs,EE,if_neg (by omega)];have g1:(Qr x)[1]? =some (FN x.pre):=by rw [Qr,QB _ _ _ 1 (by decide)];simp [headB]
  have g2:(Qr x)[2]? =some x.val:=by rw [Qr,QB _ _ _ 2 (by decide)];simp [headB]
  have ht:(((Qr x).drop 4).take 16).length=16:=by simp [hl]
  have Ald:=PQ 16 0 x.labels x.kids (((Qr x).drop 4).take 16) ht h3 h5 (fun a ha=>by
   rw [Em]at h4;have:=h4 a ha;simp only [DR,decide_eq_true_eq]at this;omega) (by decide) (fun k hk=>by
   obtain⟨i,hi,rfl⟩:=CG hk;exact h6 i hi) (fun j hj=>by
   rw [CY,if_pos hj,Dp,Qr,PO _ _ _ j h3 h5 (by simp [headB];omega),D6];by_cases hm:j∈x.labels.map UInt8.toNat
   ·rw [if_pos hm]
   ·rw [if_neg hm,Vd _ _ _ (fun a ha e=>hm (BX.2 ⟨a,ha,e⟩))];rw [headB,Eh (by simp only [BJ,Dy];omega),List.getElem?_replicate,if_pos (by simp only [BJ,Dy];omega)])
  apply Nd.ext'
  ·show DW ((Qr x).getD 1 0).toNat=x.pre;rw [Tz,g1];exact Yy x.pre h1 h2
  ·show(Qr x).getD 2 0=x.val;rw [Tz,g2];rfl
  ·exact Ald.1
  ·exact Ald.2
theorem xP(x:Nd)(h:Cc x=true):Iz (DI x)=true:=by
 have hl:=Ez x;have hc:=kF x h;have h32:(DI x).length=8\/(DI x).length=32:=by rw [hl];split<;>simp
 rw [Iz,hc,h];rcases h32 with e| e<;>simp [e]
theorem xQ(l:List UInt64)(h:Iz l=true):Cc (EE l)=true/\DI (EE l)=l:=by
 simp only [Iz,Bool.and_eq_true,decide_eq_true_eq]at h;exact h.2
def Om(x:Nd)(i:Nat):Nat:=if x.kids.length<=4 then 4+i else 4+(x.labels.getD i 0).toNat
theorem aA(l:List UInt8)(h:DD l=true):∀(d i:Nat)(hj:i+d+1<l.length),l[i].toNat<l[i+d+1].toNat
 | 0,i,hj=>(GH l).1 h i hj
 | d+1,i,hj=>Ai1 (aA l h d i (by omega)) ((GH l).1 h (i+d+1) (by omega))
theorem Ic(l:List UInt8)(h:DD l=true)(i j:Nat)(hij:i<j)(hj:j<l.length):l[i].toNat<l[j].toNat:=by
 have:=aA l h (j-i-1) i (by omega);have e:i+(j-i-1)+1=j:=by omega
 simp only [e]at this;exact this
theorem qN(l:List UInt8)(h:DD l=true)(i:Nat)(hi:i<l.length):l.findIdx? (fun y=>y.toNat==l[i].toNat)=some i:=by
 rw [List.findIdx?_eq_some_iff_getElem];refine⟨hi,by simp,fun j hj=> ?_⟩;have:=Ic l h j i hj hi;simp;omega
theorem uH:∀(as:List UInt8)(ks:List UInt64)(i:Nat)(h1:i<as.length)(h2:i<ks.length),DD as=true->look as ks as[i].toNat=ks[i]
 | a::as,k::ks,0,_,_,_=>by simp [look]
 | a::as,k::ks,i+1,h1,h2,hr=>by
   obtain⟨t1,t2⟩:=JJ hr;have hi':i<as.length:=by simpa using h1
   have:=t2 as[i] (CU hi');rw [Ap,Ap,look,if_neg (by omega)];exact uH as ks i (by simpa using h1) (by simpa using h2) t1
 | [],_,_,h1,_,_=>by simp at h1
 | _::_,[],_,_,h2,_=>by simp at h2
theorem uI(x:Nd)(h:Cc x=true)(i:Nat)(hi:i<x.kids.length):(DI x)[Om x i]? =some x.kids[i]:=by
 obtain⟨h1,h2,h3,h4,h5,h6⟩:=(Bg x).1 h;unfold DI Om;by_cases hs:x.kids.length<=4
 ·rw [if_pos hs,if_pos hs,encS,List.append_assoc,Eh (by simp),D5 (by simp;omega)];simp only [BJ,Dy];rw [show 4+i- (0+1+1+1+1)=i by omega,Ag hi]
 ·have hl:i<x.labels.length:=by omega
  have hn:=WG h4 hl;rw [if_neg hs,if_neg hs,Qr,Tz,Ag hl,Ov,PO _ _ _ _ h3 h5 (by simp [headB];omega),
   if_pos (BX.2 ⟨_,CU hl,rfl⟩),uH _ _ i hl hi h5]
theorem qO(x:Nd)(h:Cc x=true)(i:Nat)(hi:i<x.kids.length):4<=Om x i/\Om x i<(DI x).length/\∀j,j<i->Om x j≠Om x i:=by
 obtain⟨h1,h2,h3,h4,h5,h6⟩:=(Bg x).1 h;have he:=uI x h i hi;refine⟨by unfold Om;split<;>omega,(List.getElem?_eq_some_iff.1 he).1,fun j hj=> ?_⟩;unfold Om;split
 ·omega
 ·have:=Ic x.labels h5 j i hj (by omega);simp only [Tz,Ag (show j<x.labels.length by omega),Ag (show i<x.labels.length by omega),Ov];omega
theorem Yz(l:List UInt8)(x:UInt8):FD l x<=l.length:=List.countP_le_length
theorem Oa{α:Type}(xs:List α)(i:Nat)(u:α)(h:i<=xs.length):(Jp xs i u).length=xs.length+1:=by simp [Jp];omega
theorem kG(l:List UInt8)(x:UInt8)(i:Nat)(hi:i<=l.length)(h1:∀t(h:t<l.length),t<i->l[t].toNat<x.toNat)(h2:∀t(h:t<l.length),i<=t->x.toNat<=l[t].toNat):FD l x=i:=by
 unfold FD
 conv=>lhs;rw [<-List.take_append_drop i l]
 rw [List.countP_append];have e1:(l.take i).countP (fun y=>decide (y.toNat<x.toNat))=i:=by
  have:(l.take i).length=i:=by simp;omega
  conv=>rhs;rw [<-this]
  rw [List.countP_eq_length];intro a ha;obtain⟨t,ht,rfl⟩:=CG ha;simp at ht;simpa using h1 t (by omega) (by omega)
 have e2:(l.drop i).countP (fun y=>decide (y.toNat<x.toNat))=0:=by
  rw [List.countP_eq_zero];intro a ha;obtain⟨t,ht,rfl⟩:=CG ha;simp at ht;have:=h2 (i+t) (by omega) (by omega);simp;omega
 omega
theorem Js{α:Type}(xs:List α)(i:Nat)(u:α)(hi:i<=xs.length)(j:Nat):(Jp xs i u)[j]? =if j<i then xs[j]? else if j=i then some u else xs[j-1]? :=by
 unfold Jp;by_cases h1:j<i
 ·rw [if_pos h1,D5 (by simp;omega),CY,if_pos h1]
 ·rw [if_neg h1,Eh (by simp;omega)];simp only [Ed,MG hi];by_cases h2:j=i
  ·subst h2;simp
  ·rw [if_neg h2,show j-i=(j-1-i)+1 by omega,List.getElem?_cons_succ,Dp];congr 1;omega
theorem aB{α:Type}(xs:List α)(i:Nat)(u:α)(hi:i<=xs.length):Ji (Jp xs i u) i=xs:=by
 unfold Ji Jp;rw [List.take_append_of_le_length (by simp;omega),List.take_take,Nat.min_self,List.drop_append,Ed,MG hi,show i+1-i=1 by omega,List.drop_of_length_le (by simp;omega)];simp
theorem kH{α:Type}(xs:List α)(i:Nat)(u y:α)(h:y∈Jp xs i u):y=u\/y∈xs:=by
 unfold Jp at h;rw [List.mem_append,D9]at h;rcases h with h| h| h
 ·exact .inr (List.mem_of_mem_take h)
 ·exact .inl h
 ·exact .inr (List.mem_of_mem_drop h)
theorem fA(l:List UInt8)(x:UInt8)(hs:DD l=true):(∀t(h:t<l.length),t<FD l x->l[t].toNat<x.toNat)/\(∀t(h:t<l.length),FD l x<=t->x.toNat<=l[t].toNat):=by
 obtain⟨i,hi⟩:∃i,i=l.findIdx (fun y=>decide (x.toNat<=y.toNat)):=⟨_,rfl⟩;have hle:i<=l.length:=by rw [hi];exact List.findIdx_le_length
 have a1:∀t(h:t<l.length),t<i->l[t].toNat<x.toNat:=by
  intro t h ht;rw [hi]at ht;have:=List.not_of_lt_findIdx ht;simpa using this
 have a2:∀t(h:t<l.length),i<=t->x.toNat<=l[t].toNat:=by
  intro t h ht;have hil:i<l.length:=by omega
  have h0:x.toNat<=l[i].toNat:=by
   have:=List.findIdx_getElem (p:=fun y:UInt8=>decide (x.toNat<=y.toNat)) (xs:=l) (w:=by rw [<-hi];exact hil);simpa [<-hi]using this
  rcases Ho i t with h'| h'
  ·have:=Ic l hs i t h' h;omega
  ·obtain rfl:t=i:=by omega
   exact h0
 have e:=kG l x i hle a1 a2;rw [e];exact⟨a1,a2⟩
theorem QC(l:List UInt8)(x:UInt8)(h:Oz l x=false):∀t(h:t<l.length),l[t].toNat≠x.toNat:=by
 intro t ht e;unfold Oz at h;rw [List.any_eq_true.2 ⟨l[t],CU _,by simpa using e⟩]at h;cases h
theorem kJ(l:List UInt8)(x:UInt8)(hs:DD l=true)(hh:Oz l x=false):DD (Jp l (FD l x) x)=true:=by
 obtain⟨a1,a2⟩:=fA l x hs;have hp:=Yz l x;have hne:=QC l x hh;generalize FD l x=p at*;rw [GH];intro i hi;have hlen:(Jp l p x).length=l.length+1:=Oa l p x hp;have e1:=Js l p x hp i;have e2:=Js l p x hp (i+1);rw [Ag (by omega)]at e1 e2;rw [hlen]at hi;rcases Ho (i+1) p with h| h
 ·rw [if_pos (by omega),Ag (by omega)]at e1 e2;injection e1 with e1;injection e2 with e2
  rw [e1,e2];exact(GH l).1 hs i (by omega)
 ·rcases Ho i p with h'| h'
  ·obtain rfl:p=i+1:=by omega
   rw [if_pos (by omega),Ag (by omega)]at e1;rw [if_neg (by omega),if_pos rfl]at e2;injection e1 with e1;injection e2 with e2
   rw [e1,e2];exact a1 i (by omega) (by omega)
  ·rw [if_neg (by omega),if_neg (by omega),U4,Ag (by omega)]at e2;injection e2 with e2
   rw [e2];rcases Nat.eq_or_lt_of_le h' with h3| h3
   ·subst h3;rw [if_neg (by omega),if_pos rfl]at e1;injection e1 with e1
    rw [e1];have:=a2 p (by omega) (Nat.le_refl _);have:=hne p (by omega);omega
   ·rw [if_neg (by omega),if_neg (by omega),Ag (by omega)]at e1;injection e1 with e1
    rw [e1];have:=(GH l).1 hs (i-1) (by omega);simp only [show i-1+1=i by omega]at this;exact this
structure qP(x:Nd)(label:UInt8)(kid:UInt64):Prop where
 right:Cc (Ij x label kid)=true
 place:FD x.labels label<=x.labels.length
 len:(Ij x label kid).labels.length=x.labels.length+1
 Ale:(Ij x label kid).kids.length=x.kids.length+1
 Ano:(Ij x label kid).labels[FD x.labels label]? =some label
 Anp:(Ij x label kid).kids[FD x.labels label]? =some kid
 find:JR (Ij x label kid).labels label=some (FD x.labels label)
 out:Wl (Ij x label kid) (FD x.labels label)=x
 old:∀i(h:i<x.labels.length)(hk:i<x.kids.length),∃j,j<x.labels.length+1/\(Ij x label kid).labels[j]? =some x.labels[i]/\(Ij x label kid).kids[j]? =some x.kids[i]
theorem QD(x:Nd)(label:UInt8)(kid:UInt64):JS x label kid=true<->Cc x=true/\label.toNat<16/\kid.toNat≠0/\Oz x.labels label=false:=by
 unfold JS;simp only [Bool.and_eq_true,decide_eq_true_eq,Bool.not_eq_true',beq_eq_false_iff_ne,and_assoc,ne_eq]
theorem kK(x:Nd)(label:UInt8)(kid:UInt64)(h:JS x label kid=true):qP x label kid:=by
 obtain⟨hR,h16,hk,hh⟩:=(QD x label kid).1 h;obtain⟨r1,r2,r3,r4,r5,r6⟩:=(Bg x).1 hR;have hp:=Yz x.labels label;have l1:(Jp x.labels (FD x.labels label) label).length=x.labels.length+1:=Oa _ _ _ hp;have l2:(Jp x.kids (FD x.labels label) kid).length=x.kids.length+1:=Oa _ _ _ (by omega);have hr:Cc (Ij x label kid)=true:=by
  rw [Bg];refine⟨r1,r2,?_,?_,kJ _ _ r5 hh,?_⟩
  ·show(Jp _ _ _).length=(Jp _ _ _).length;omega
  ·rw [Em];intro y hy;rcases kH _ _ _ _ hy with rfl| hy
   ·exact UA h16
   ·exact(Em.1 r4) y hy
  ·intro i hi;rcases kH _ _ _ _ (CU hi)with e| hy
   ·rw [e];exact hk
   ·obtain⟨t,ht,e⟩:=CG hy;rw [<-e];exact r6 t ht
 have hlab:(Ij x label kid).labels[FD x.labels label]? =some label:=by
  show(Jp _ _ _)[_]? =_;rw [Js _ _ _ hp,if_neg (by omega),if_pos rfl]
 refine⟨hr,hp,l1,l2,hlab,?_,?_,?_,?_⟩
 ·show(Jp _ _ _)[_]? =_;rw [Js _ _ _ (by omega),if_neg (by omega),if_pos rfl]
 ·have hlt:FD x.labels label<(Ij x label kid).labels.length:=by rw [show(Ij x label kid).labels.length=x.labels.length+1 from l1];omega
  have:=qN _ ((Bg _).1 hr).2.2.2.2.1 _ hlt;rw [Ag hlt]at hlab;injection hlab with hlab
  rw [hlab]at this;exact this
 ·show({pre:=x.pre,val:=x.val,labels:=Ji (Jp _ _ _) _,kids:=Ji (Jp _ _ _) _}:Nd)=x;rw [aB _ _ _ hp,aB _ _ _ (by omega)]
 ·intro i hi hik;by_cases hip:i<FD x.labels label
  ·refine⟨i,by omega,?_,?_⟩
   ·show(Jp _ _ _)[_]? =_;rw [Js _ _ _ hp,if_pos hip,Ag hi]
   ·show(Jp _ _ _)[_]? =_;rw [Js _ _ _ (by omega),if_pos hip,Ag hik]
  ·refine⟨i+1,by omega,?_,?_⟩
   ·show(Jp _ _ _)[_]? =_;rw [Js _ _ _ hp,if_neg (by omega),if_neg (by omega),U4,Ag hi]
   ·show(Jp _ _ _)[_]? =_;rw [Js _ _ _ (by omega),if_neg (by omega),if_neg (by omega),U4,Ag hik]
end Go.Proofs.YtjcppneoncpdbaaGreatDoor
