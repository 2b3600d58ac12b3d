import Derived.Test.YtkimaejoeapmnaaGreatDoorG03
open Nat renaming mul_comm->Iw,testBit_two_pow_mul->kY,testBit_two_pow_sub_one->aH,lt_pow_two_of_testBit->gJ,testBit_and->Ahw,lt_or_ge->Ih,testBit_lt_two_pow->rJ,lt_of_lt_of_le->Cf,pow_le_pow_right->Fh,testBit_or->KH,zero_testBit->Jw,zero_add->Dw,eq_of_testBit_eq->xY,lt_trans->Aoq,min_eq_left->MN,add_sub_cancel->Vq
open UInt64 renaming toNat_ofNat_of_lt'->GK,size->JQ
open List renaming mem_cons->CZ,mem_map->Bf,map_cons->BU,getElem?_set->Hy,eq_nil_of_length_eq_zero->Ce,all_eq_true->E8,getElem_of_mem->CU,getElem?_take->CS,getElem?_drop->Dl,getElem?_append_right->Ew,length_cons->BJ,length_nil->Dt,getD->Ur,getElem_mem->BM,getElem_cons_succ->Ah,getElem?_append_left->DD,getElem?_eq_getElem->Af,length_take->DC
open Option renaming getD_some->OD
namespace Go.Proofs.YtkimaejoeapmnaaGreatDoor
theorem LZ(n low size v i:Nat)(h:low+size<=64)(hn:n<2^64):(Et n low size v).testBit i=if low<=i/\i<low+size then v.testBit (i-low)else n.testBit i:=by
 have hM:∀j,((2^size-1)*2^low).testBit j=(decide (low<=j)&&decide (j-low<size)):=fun j=>by
  rw [Iw,kY,aH]
 have Auc:(2^size-1)*2^low<2^64:=by
  refine gJ _ fun j hj=> ?_
  rw [hM j];simp;omega
 have hN:(gW- (2^size-1)*2^low).testBit i=(decide (i<64)&& !((2^size-1)*2^low).testBit i):=by
  rw [<-Nat.testBit_two_pow_sub_succ Auc];unfold gW;congr 1;omega
 have hV:((v&&&(2^size-1))*2^low).testBit i=(decide (low<=i)&&(v.testBit (i-low)&&decide (i-low<size))):=by
  rw [Iw,kY,Ahw,aH]
 have hi64:n.testBit i=true->i<64:=fun ht=>by
  rcases Ih i 64 with h'| h'
  ·exact h'
  ·rw [rJ (Cf hn (Fh (by decide) h'))]at ht;cases ht
 unfold Et;rw [KH,Ahw,hN,hV,hM];by_cases h1:low<=i
 ·by_cases h2:i<low+size
  ·have h3:i-low<size:=by omega
   have h4:i<64:=by omega
   simp [h1,h2,h3]
  ·have h3:¬i-low<size:=by omega
   simp only [h1,h2,h3,decide_true,decide_false,Bool.and_false,Bool.not_false,Bool.and_true,Bool.or_false,and_false,if_false];cases hb:n.testBit i
   ·rfl
   ·simp [hi64 hb]
 ·simp only [h1,decide_false,Bool.false_and,Bool.not_false,Bool.and_true,Bool.or_false,false_and,if_false];cases hb:n.testBit i
  ·rfl
  ·simp [hi64 hb]
theorem NK(n low size v:Nat)(h:low+size<=64)(hn:n<2^64):Et n low size v<2^64:=by
 refine gJ _ fun i hi=> ?_
 rw [LZ n low size v i h hn,if_neg (by omega)];exact rJ (Cf hn (Fh (by decide) hi))
theorem Nq(n low size i:Nat):(fieldN n low size).testBit i=(decide (i<size)&&n.testBit (low+i)):=by
 unfold fieldN;rw [Nat.testBit_mod_two_pow,Nat.testBit_div_two_pow,Nat.add_comm]
theorem Af3(n a:Nat):(fieldN n a 1==1)=n.testBit a:=by
 have h:=Nq n a 1 0;simp only [Nat.zero_lt_one,decide_true,Bool.true_and,Nat.add_zero]at h;rw [<-h];have h2:fieldN n a 1<2:=Nat.mod_lt _ (by decide);have h3:fieldN n a 1=0\/fieldN n a 1=1:=by omega
 rcases h3 with h3| h3<;>rw [h3]<;>rfl
theorem Ub(n size:Nat):fieldN n 0 size=0<->∀i,i<size->n.testBit i=false:=by
 constructor
 ·intro h i hi;have:=Nq n 0 size i;rw [h,Jw,Dw]at this;simpa [hi]using this.symm
 ·intro h;refine xY fun i=> ?_
  rw [Nq,Jw,Dw];by_cases hi:i<size
  ·simp [h i hi]
  ·simp [hi]
structure SW(w c:Nat):Prop where
 lt:w<2^64
 cls:c=1\/c=2
 kind:DV w=c
 some:∃i,i<Bv c/\w.testBit i=true
 only:∀i,w.testBit i=true->i<Bv c\/i=16\/i=17
theorem Pj(w:Nat):DV w=(if w.testBit 16 then 1 else 0)+(if w.testBit 17 then 2 else 0):=by
 have h0:(fieldN w 16 2).testBit 0=w.testBit 16:=(Nq w 16 2 0).trans (by rfl);have h1:(fieldN w 16 2).testBit 1=w.testBit 17:=(Nq w 16 2 1).trans (by rfl);have hlt:fieldN w 16 2<4:=Nat.mod_lt _ (by decide);unfold DV;rw [<-h0,<-h1];generalize fieldN w 16 2=f at hlt;have hf:f=0\/f=1\/f=2\/f=3:=by omega
 rcases hf with rfl| rfl| rfl| rfl<;>decide
theorem VZ(w:Nat)(hw:w<2^64):ES w=true<->w=0\/∃c,SW w c:=by
 unfold ES;simp only [Bool.or_eq_true,beq_iff_eq,Bool.and_eq_true,bne_iff_ne];by_cases h0:w=0
 ·simp [h0]
 ·simp only [h0,false_or];have hb:Bv (DV w)<=16:=by
   unfold Bv;split<;>omega
  have hz:Et (Et w 0 (Bv (DV w)) 0) 16 2 0=0<->∀i,w.testBit i=true->i<Bv (DV w)\/i=16\/i=17:=by
   constructor
   ·intro h i hi;have h2:=LZ (Et w 0 (Bv (DV w)) 0) 16 2 0 i (by decide) (NK _ _ _ _ (by omega) hw);rw [h,Jw,LZ w 0 _ 0 i (by omega) hw]at h2;by_cases h3:16<=i/\i<16+2
    ·omega
    ·rw [if_neg h3]at h2;by_cases h4:0<=i/\i<0+Bv (DV w)
     ·omega
     ·rw [if_neg h4,hi]at h2;cases h2
   ·intro h;refine xY fun i=> ?_
    rw [LZ _ 16 2 0 i (by decide) (NK _ _ _ _ (by omega) hw),LZ w 0 _ 0 i (by omega) hw];simp only [Jw];split
    ·rfl
    ·split
     ·rfl
     ·cases hb:w.testBit i
      ·rfl
      ·have:=h i hb;omega
  have hf:fieldN w 0 (Bv (DV w))≠0<->∃i,i<Bv (DV w)/\w.testBit i=true:=by
   rw [ne_eq,Ub];constructor
   ·intro h;apply Classical.byContradiction;intro hn;refine h fun i hi=> ?_
    cases hb:w.testBit i
    ·rfl
    ·exact absurd ⟨i,hi,hb⟩ hn
   ·rintro⟨i,hi,hb⟩h;rw [h i hi]at hb;cases hb
  rw [hz,hf];constructor
  ·rintro⟨⟨i,hi,hb⟩,h2⟩;refine⟨DV w,hw,?_,rfl,⟨i,hi,hb⟩,h2⟩;unfold Bv at hi;split at hi
   ·rename_i e;exact .inl e
   ·rename_i e;exact .inr e
   ·omega
  ·rintro⟨c,h⟩;obtain rfl:=h.kind;exact⟨h.some,h.only⟩
theorem SW.right{w c:Nat}(h:SW w c):ES w=true:=(VZ w h.lt).2 (.inr ⟨c,h⟩)
theorem SW.class{w c:Nat}(h:SW w c):Bd w=c:=by unfold Bd;rw [if_pos h.right,h.kind]
theorem SW.ne{w c:Nat}(h:SW w c):w≠0:=by
 obtain⟨i,_,hb⟩:=h.some;intro e;rw [e,Jw]at hb;cases hb
theorem wR:Bd 0=0:=by decide
theorem SW.has{w c:Nat}(h:SW w c)(a:Nat):EK w a=(decide (a<Bv c)&&w.testBit a):=by unfold EK;rw [h.class,Af3]
theorem EE(a:Nat):EK 0 a=false:=by unfold EK;rw [wR];simp [Bv]
theorem SW.blocks{w c:Nat}(h:SW w c):0<Bv c/\Bv c<=16:=by
 rcases h.cls with rfl| rfl<;>decide
theorem SW.bits{w c:Nat}(h:SW w c):w.testBit 16=c.testBit 0/\w.testBit 17=c.testBit 1:=by
 have hk:=h.kind;rw [Pj]at hk;rcases h.cls with rfl| rfl<;>cases h6:w.testBit 16<;>cases h7:w.testBit 17<;>simp [h6,h7]at hk⊢<;>decide
def OkW(w:Nat):Prop:=w=0\/∃c,SW w c
theorem OkW.lt{w:Nat}(h:OkW w):w<2^64:=by
 rcases h with rfl| ⟨c,h⟩
 ·decide
 ·exact h.lt
theorem OkW.right{w:Nat}(h:OkW w):ES w=true:=(VZ w h.lt).2 h
theorem OkW.Rq{w a:Nat}(h:OkW w)(ha:EK w a=true):∃c,SW w c/\a<Bv c/\w.testBit a=true:=by
 rcases h with rfl| ⟨c,h⟩
 ·rw [EE]at ha;cases ha
 ·rw [h.has a,Bool.and_eq_true,decide_eq_true_eq]at ha;exact⟨c,h,ha.1,ha.2⟩
theorem eH{w c a:Nat}(h:OkW w)(hc:c=1\/c=2)(hm:w=0\/SW w c)(ha:a<Bv c)(hn:EK w a=false):
 (Gm w c a).2=true/\SW (Gm w c a).1 c/\∀b,EK (Gm w c a).1 b=(EK w b|| decide (b=a)):=by
 have hb16:0<Bv c/\Bv c<=16:=by rcases hc with rfl| rfl<;>decide
 have hmt:KT w c=true:=by
  unfold KT;rw [h.right];simp only [Bool.true_and,Bool.and_eq_true,decide_eq_true_eq,Bool.or_eq_true,beq_iff_eq];exact⟨hb16.1,hm.imp id (fun h=>h.kind)⟩
 have he:Gm w c a=(Et (Et w a 1 1) 16 2 c,true):=by
  unfold Gm;rw [hmt,hn,decide_eq_false (by omega:¬Bv c<=a)];rfl
 have hw:=h.lt;have hx:Et w a 1 1<2^64:=NK _ _ _ _ (by omega) hw;have hbit:∀i,(Et (Et w a 1 1) 16 2 c).testBit i=if i=16 then c.testBit 0 else if i=17 then c.testBit 1 else if i=a then true else w.testBit i:=fun i=>by
  rw [LZ _ 16 2 c i (by decide) hx,LZ w a 1 1 i (by omega) hw];by_cases h6:i=16
  ·subst h6;simp
  ·by_cases h7:i=17
   ·subst h7;simp
   ·rw [if_neg (by omega),if_neg h6,if_neg h7];by_cases h8:i=a
    ·subst h8;rw [if_pos (by omega),if_pos rfl];simp
    ·rw [if_neg (by omega),if_neg h8]
 have hS:SW (Et (Et w a 1 1) 16 2 c) c:=by
  refine⟨NK _ _ _ _ (by decide) hx,hc,?_,⟨a,ha,?_⟩,fun i hi=> ?_⟩
  ·have b6:=hbit 16;have b7:=hbit 17;rw [if_pos rfl]at b6;rw [if_neg (by decide),if_pos rfl]at b7;rw [Pj,b6,b7];rcases hc with rfl| rfl<;>decide
  ·rw [hbit,if_neg (by omega),if_neg (by omega),if_pos rfl]
  ·rw [hbit]at hi;by_cases h6:i=16
   ·omega
   ·by_cases h7:i=17
    ·omega
    ·rw [if_neg h6,if_neg h7]at hi;by_cases h8:i=a
     ·omega
     ·rw [if_neg h8]at hi;rcases hm with rfl| hm
      ·rw [Jw]at hi;cases hi
      ·exact hm.only i hi
 rw [he];refine⟨rfl,hS,fun b=> ?_⟩;rw [hS.has];rw [hbit];by_cases hb:b<Bv c
 ·rw [if_neg (by omega),if_neg (by omega)];by_cases h8:b=a
  ·subst h8;simp [hb]
  ·rw [if_neg h8];rcases hm with rfl| hm
   ·rw [EE];simp [h8]
   ·rw [hm.has];simp [h8]
 ·have h8:b≠a:=by omega
  rcases hm with rfl| hm
  ·rw [EE];simp [hb,h8]
  ·rw [hm.has];simp [hb,h8]
theorem eP{w a:Nat}(h:OkW w)(ha:EK w a=true):
 (Eb w a).2=true/\OkW (Eb w a).1/\(∀b,EK (Eb w a).1 b=(EK w b&& !decide (b=a)))/\(Bd (Eb w a).1=Bd w\/(Eb w a).1=0):=by
 obtain⟨c,hS,hac,hbit⟩:=h.Rq ha;have hb16:=hS.blocks;have hw:=hS.lt;have hx:Et w a 1 0<2^64:=NK _ _ _ _ (by omega) hw;have hbit:∀i,(Et w a 1 0).testBit i=if i=a then false else w.testBit i:=fun i=>by
  rw [LZ w a 1 0 i (by omega) hw];by_cases h8:i=a
  ·subst h8;rw [if_pos (by omega),if_pos rfl];simp
  ·rw [if_neg (by omega),if_neg h8]
 unfold Eb;rw [ha];simp only [Bool.not_true,Bool.false_eq_true,if_false];by_cases ht:JE (Et w a 1 0)=0
 ·rw [if_pos ht];refine⟨rfl,.inl rfl,fun b=> ?_,.inr rfl⟩;rw [EE,hS.has];unfold JE at ht;rw [Ub]at ht;by_cases hb:b<Bv c
  ·have:=ht b (by omega);rw [hbit]at this;by_cases h8:b=a
   ·simp [h8]
   ·rw [if_neg h8]at this;simp [this]
  ·simp [hb]
 ·rw [if_neg ht];have hS2:SW (Et w a 1 0) c:=by
   refine⟨hx,hS.cls,?_,?_,fun i hi=> ?_⟩
   ·have b6:(Et w a 1 0).testBit 16=w.testBit 16:=by rw [hbit,if_neg (by omega)]
    have b7:(Et w a 1 0).testBit 17=w.testBit 17:=by rw [hbit,if_neg (by omega)]
    rw [Pj,b6,b7,<-Pj,hS.kind]
   ·unfold JE at ht;rw [Ub]at ht;apply Classical.byContradiction;intro hn;refine ht fun i hi=> ?_
    cases hb:(Et w a 1 0).testBit i
    ·rfl
    ·refine absurd ⟨i,?_,hb⟩ hn;rw [hbit]at hb;by_cases h8:i=a
     ·rw [if_pos h8]at hb;cases hb
     ·rw [if_neg h8]at hb;have:=hS.only i hb;omega
   ·rw [hbit]at hi;by_cases h8:i=a
    ·rw [if_pos h8]at hi;cases hi
    ·rw [if_neg h8]at hi;exact hS.only i hi
  refine⟨rfl,.inr ⟨c,hS2⟩,fun b=> ?_,.inl (by rw [hS2.class,hS.class])⟩;rw [hS2.has,hS.has,hbit];by_cases h8:b=a
  ·simp [h8]
  ·simp [h8]
theorem Ab4 {t h : Nat} (ht : OkW t) (hh : OkW h) (hc : t = 0 \/ h = 0 \/ Bd t = Bd h) : OkW (t ||| h) /\ (∀ a, EK (t ||| h) a = (EK t a || EK h a)) /\ (t ≠ 0 -> Bd (t ||| h) = Bd t) /\ (h ≠ 0 -> Bd (t ||| h) = Bd h) := by
  rcases ht with rfl | ⟨c, ht⟩
  · rw [Nat.zero_or]
    exact ⟨hh, fun a => by rw [EE]; rfl, fun h => absurd rfl h, fun _ => rfl⟩
  · rcases hh with rfl | ⟨d, hh⟩
    · rw [Nat.or_zero]
      exact ⟨.inr ⟨c, ht⟩, fun a => by rw [EE, Bool.or_false], fun _ => rfl, fun h => absurd rfl h⟩
    · have e : c = d := by
        rcases hc with h | h | h
        · exact absurd h ht.ne
        · exact absurd h hh.ne
        · rw [ht.class, hh.class] at h; exact h
      subst e
      have hS : SW (t ||| h) c := by
        refine ⟨Nat.or_lt_two_pow ht.lt hh.lt, ht.cls, ?_, ?_, fun i hi => ?_⟩
        · have h1 := ht.bits
          have h2 := hh.bits
          rw [Pj, KH, KH, h1.1, h1.2, h2.1, h2.2]
          rcases ht.cls with rfl | rfl <;> decide
        · obtain ⟨i, hi, hb⟩ := ht.some
          exact ⟨i, hi, by rw [KH, hb]; rfl⟩
        · rw [KH, Bool.or_eq_true] at hi
          exact hi.elim (ht.only i) (hh.only i)
      refine ⟨.inr ⟨c, hS⟩, fun a => ?_, fun _ => by rw [hS.class, ht.class], fun _ => by rw [hS.class, hh.class]⟩
      rw [hS.has, ht.has, hh.has, KH]
      cases decide (a < Bv c) <;> simp
theorem ZH(l:List UInt8)(h15:l.length<=15)(h:l.all DL=true):Ed (Gf l).toNat=l:=by
 obtain⟨u1,u2,u3,u4,u5⟩:=unpack_pack l h15 h;rw [Gf,GK (by simpa [JQ]using u5),Ed,u1,u2,if_pos u3,u4]
def look:List UInt8->List UInt64->Nat->UInt64
 | a::as,k::ks,j=>if a.toNat=j then k else look as ks j
 | _,_,_=>0
theorem We:∀(as:List UInt8)(ks:List UInt64)(j:Nat),(∀a∈as,a.toNat≠j)->look as ks j=0
 | a::as,k::ks,j,h=>by rw [look,if_neg (h a (by simp)),We as ks j (fun b hb=>h b (by simp [hb]))]
 | [],_,_,_=>rfl
 | _::_,[],_,_=>rfl
theorem JW{a:UInt8}{as:List UInt8}(h:DT (a::as)=true):DT as=true/\∀b∈as,a.toNat<b.toNat:=by
 induction as generalizing a with
 | nil=>exact⟨rfl,by simp⟩
 | cons b as ih=>
   simp only [DT,Bool.and_eq_true,decide_eq_true_eq]at h;obtain⟨h1,h2⟩:=ih h.2;refine⟨h.2,fun c hc=> ?_⟩;rcases CZ.1 hc with rfl| hc
   ·exact h.1
   ·exact Aoq h.1 (h2 c hc)
theorem Ql : ∀ (as : List UInt8) (ks : List UInt64) (row : List UInt64) (j : Nat), as.length = ks.length -> DT as = true -> 4 + j < row.length ->
    (CP row as ks)[4 + j]? = if j ∈ as.map UInt8.toNat then some (look as ks j) else row[4 + j]?
  | [], ks, row, j, _, _, _ => by simp [CP]
  | a :: as, [], row, j, hl, _, _ => by simp at hl
  | a :: as, k :: ks, row, j, hl, hr, hj => by
    obtain ⟨h1, h2⟩ := JW hr
    rw [CP, Ql as ks (row.set (4 + a.toNat) k) j (by simpa using hl) h1 (by simpa using hj)]
    by_cases hm : j ∈ as.map UInt8.toNat
    · have hne : a.toNat ≠ j := by
        obtain ⟨b, hb, rfl⟩ := Bf.1 hm
        exact Nat.ne_of_lt (h2 b hb)
      rw [if_pos hm, if_pos (by simp only [BU, CZ]; exact .inr hm), look, if_neg hne]
    · rw [if_neg hm]
      by_cases he : a.toNat = j
      · rw [if_pos (by simp [he]), look, if_pos he, Hy, if_pos (by omega), if_pos (by omega)]
      · rw [if_neg (by simp only [BU, CZ, not_or]; exact ⟨fun e => he e.symm, hm⟩), Hy, if_neg (by omega)]
theorem Rt:∀(as:List UInt8)(ks:List UInt64)(row:List UInt64)(i:Nat),i<4->(CP row as ks)[i]? =row[i]?
 | [],_,row,i,_=>by simp [CP]
 | _::_,[],row,i,_=>by simp [CP]
 | a::as,k::ks,row,i,hi=>by rw [CP,Rt as ks _ i hi,Hy,if_neg (by omega)]
theorem Qm:∀(n i:Nat)(as:List UInt8)(ks:List UInt64)(t:List UInt64),t.length=n->as.length=ks.length->DT as=true->(∀a∈as,i<=a.toNat/\a.toNat<i+n)->i+n<=256->(∀k∈ks,k.toNat≠0)->
 (∀j,j<n->t[j]? =some (look as ks (i+j)))->Jn i t=as/\JS t=ks
 | 0,i,as,ks,t,ht,hl,_,hb,_,_,_=>by
   have h1:t=[]:=Ce ht;have h2:as=[]:=by
    rcases as with _| ⟨a,as⟩
    ·rfl
    ·have:=hb a (by simp);omega
   subst h1 h2;have h3:ks=[]:=Ce (by simpa using hl.symm);subst h3;exact⟨rfl,rfl⟩
 | n+1,i,as,ks,[],ht,_,_,_,_,_,_=>by simp at ht
 | n+1,i,as,ks,x::t,ht,hl,hr,hb,hi,hk,hlk=>by
   have hx:x=look as ks i:=by have:=hlk 0 (by omega);simpa using this
   rcases as with _| ⟨a,as⟩
   ·have h3:ks=[]:=Ce (by simpa using hl.symm);subst h3;have hx0:x.toNat=0:=by rw [hx];rfl
    have ih:=Qm n (i+1) [] [] t (by simpa using ht) rfl rfl (by simp) (by omega) (by simp) (fun j hj=>by
     have:=hlk (j+1) (by omega);rw [show i+1+j=i+(j+1)by omega];simpa using this)
    simp only [Jn,if_pos hx0,ih.1];refine⟨trivial,?_⟩;have h2:=ih.2;unfold JS at h2⊢;simp [hx0,h2]
   ·rcases ks with _| ⟨k,ks⟩
    ·simp at hl
    ·obtain⟨h1,h2⟩:=JW hr;by_cases he:a.toNat=i
     ·have hxk:x=k:=by rw [hx,look,if_pos he]
      subst hxk;have hx0:x.toNat≠0:=hk x (by simp);have ih:=Qm n (i+1) as ks t (by simpa using ht) (by simpa using hl) h1 (fun b hb'=>by have:=h2 b hb';have:=hb b (by simp [hb']);omega) (by omega) (fun k' hk'=>hk k' (by simp [hk'])) (fun j hj=>by
       have:=hlk (j+1) (by omega);rw [look,if_neg (by omega)]at this;rw [show i+1+j=i+(j+1)by omega];simpa using this)
      have ea:UInt8.ofNat i=a:=by apply UInt8.toNat_inj.1;rw [<-he];simp
      simp only [Jn,if_neg hx0,ih.1,ea];refine⟨trivial,?_⟩;have h2:=ih.2;unfold JS at h2⊢;simp [hx0,h2]
     ·have hai:i+1<=a.toNat:=by have:=hb a (by simp);omega
      have hx0:x.toNat=0:=by
       rw [hx,look,if_neg he,We as ks i (fun b hb'=>by have:=h2 b hb';omega)];rfl
      have ih:=Qm n (i+1) (a::as) (k::ks) t (by simpa using ht) hl hr (fun b hb'=>by
       rcases CZ.1 hb' with rfl| Ara
       ·have:=hb b (by simp);omega
       ·have:=h2 b Ara;have:=hb b (by simp [Ara]);omega) (by omega) hk (fun j hj=>by
       have:=hlk (j+1) (by omega);rw [show i+1+j=i+(j+1)by omega];simpa using this)
      simp only [Jn,if_pos hx0,ih.1];refine⟨trivial,?_⟩;have h2:=ih.2;unfold JS at h2⊢;simp [hx0,h2]
theorem Nd.ext'{x y:Nd}(h1:x.pre=y.pre)(h2:x.val=y.val)(h3:x.labels=y.labels)(h4:x.kids=y.kids):x=y:=by
 cases x;cases y;simp_all
theorem oU(x:Nd)(h:Ci x=true):ET (DX x)=x:=by
 obtain⟨h1,h2,h3,h4,h5,h6⟩:=(Bo x).1 h;by_cases hs:x.kids.length<=4
 ·have hl:=WN x hs;rw [DX,if_pos hs,ET,if_pos hl];obtain⟨u1,u2,u3,u4,u5⟩:=unpack_pack x.labels (by omega) h4;have e3:(Gf x.labels).toNat=x.labels.length+16*EY x.labels:=by rw [Gf,GK (by simpa [JQ]using u5)]
  have hd:(encS x).drop 4=x.kids++List.replicate (4-x.kids.length) 0:=by simp [encS]
  have hc:IM (Gf x.labels).toNat ((encS x).drop 4)=(x.labels,x.kids):=by
   rw [hd,IM,e3,u1,u2,if_pos ⟨u3,by omega⟩,u4,h3,List.take_left' rfl]
  apply Nd.ext'
  ·show Ed ((encS x).getD 1 0).toNat=x.pre;rw [show(encS x).getD 1 0=Gf x.pre by simp [encS],ZH x.pre h1 h2]
  ·show(encS x).getD 2 0=x.val;simp [encS]
  ·show(IM ((encS x).getD 3 0).toNat ((encS x).drop 4)).1=x.labels;rw [show(encS x).getD 3 0=Gf x.labels by simp [encS],hc]
  ·show(IM ((encS x).getD 3 0).toNat ((encS x).drop 4)).2=x.kids;rw [show(encS x).getD 3 0=Gf x.labels by simp [encS],hc]
 ·have hl:=WO x;rw [DX,if_neg hs,ET,if_neg (by omega)];have g1:(QP x)[1]? =some (Gf x.pre):=by rw [QP,Rt _ _ _ 1 (by decide)];simp [headB]
  have g2:(QP x)[2]? =some x.val:=by rw [QP,Rt _ _ _ 2 (by decide)];simp [headB]
  have ht:(((QP x).drop 4).take 16).length=16:=by simp [hl]
  have Arb:=Qm 16 0 x.labels x.kids (((QP x).drop 4).take 16) ht h3 h5 (fun a ha=>by
   rw [E8]at h4;have:=h4 a ha;simp only [DL,decide_eq_true_eq]at this;omega) (by decide) (fun k hk=>by
   obtain⟨i,hi,rfl⟩:=CU hk;exact h6 i hi) (fun j hj=>by
   rw [CS,if_pos hj,Dl,QP,Ql _ _ _ j h3 h5 (by simp [headB];omega),Dw];by_cases hm:j∈x.labels.map UInt8.toNat
   ·rw [if_pos hm]
   ·rw [if_neg hm,We _ _ _ (fun a ha e=>hm (Bf.2 ⟨a,ha,e⟩))];rw [headB,Ew (by simp only [BJ,Dt];omega),List.getElem?_replicate,if_pos (by simp only [BJ,Dt];omega)])
  apply Nd.ext'
  ·show Ed ((QP x).getD 1 0).toNat=x.pre;rw [Ur,g1];exact ZH x.pre h1 h2
  ·show(QP x).getD 2 0=x.val;rw [Ur,g2];rfl
  ·exact Arb.1
  ·exact Arb.2
theorem Ab5(x:Nd)(h:Ci x=true):IG (DX x)=true:=by
 have hl:=EL x;have hc:=oU x h;have h32:(DX x).length=8\/(DX x).length=32:=by rw [hl];split<;>simp
 rw [IG,hc,h];rcases h32 with e| e<;>simp [e]
theorem Ab6(l:List UInt64)(h:IG l=true):Ci (ET l)=true/\DX (ET l)=l:=by
 simp only [IG,Bool.and_eq_true,decide_eq_true_eq]at h;exact h.2
def O8(x:Nd)(i:Nat):Nat:=if x.kids.length<=4 then 4+i else 4+(x.labels.getD i 0).toNat
theorem eQ(l:List UInt8)(h:DT l=true):∀(d i:Nat)(hj:i+d+1<l.length),l[i].toNat<l[i+d+1].toNat
 | 0,i,hj=>(Ha l).1 h i hj
 | d+1,i,hj=>Aoq (eQ l h d i (by omega)) ((Ha l).1 h (i+d+1) (by omega))
theorem Iq(l:List UInt8)(h:DT l=true)(i j:Nat)(hij:i<j)(hj:j<l.length):l[i].toNat<l[j].toNat:=by
 have:=eQ l h (j-i-1) i (by omega);have e:i+(j-i-1)+1=j:=by omega
 simp only [e]at this;exact this
theorem wS(l:List UInt8)(h:DT l=true)(i:Nat)(hi:i<l.length):l.findIdx? (fun y=>y.toNat==l[i].toNat)=some i:=by
 rw [List.findIdx?_eq_some_iff_getElem];refine⟨hi,by simp,fun j hj=> ?_⟩;have:=Iq l h j i hj hi;simp;omega
theorem zu:∀(as:List UInt8)(ks:List UInt64)(i:Nat)(h1:i<as.length)(h2:i<ks.length),DT as=true->look as ks as[i].toNat=ks[i]
 | a::as,k::ks,0,_,_,_=>by simp [look]
 | a::as,k::ks,i+1,h1,h2,hr=>by
   obtain⟨t1,t2⟩:=JW hr;have hi':i<as.length:=by simpa using h1
   have:=t2 as[i] (BM hi');rw [Ah,Ah,look,if_neg (by omega)];exact zu as ks i (by simpa using h1) (by simpa using h2) t1
 | [],_,_,h1,_,_=>by simp at h1
 | _::_,[],_,_,h2,_=>by simp at h2
theorem zx(x:Nd)(h:Ci x=true)(i:Nat)(hi:i<x.kids.length):(DX x)[O8 x i]? =some x.kids[i]:=by
 obtain⟨h1,h2,h3,h4,h5,h6⟩:=(Bo x).1 h;unfold DX O8;by_cases hs:x.kids.length<=4
 ·rw [if_pos hs,if_pos hs,encS,List.append_assoc,Ew (by simp),DD (by simp;omega)];simp only [BJ,Dt];rw [show 4+i- (0+1+1+1+1)=i by omega,Af hi]
 ·have hl:i<x.labels.length:=by omega
  have hn:=XM h4 hl;rw [if_neg hs,if_neg hs,QP,Ur,Af hl,OD,Ql _ _ _ _ h3 h5 (by simp [headB];omega),
   if_pos (Bf.2 ⟨_,BM hl,rfl⟩),zu _ _ i hl hi h5]
theorem wU(x:Nd)(h:Ci x=true)(i:Nat)(hi:i<x.kids.length):4<=O8 x i/\O8 x i<(DX x).length/\∀j,j<i->O8 x j≠O8 x i:=by
 obtain⟨h1,h2,h3,h4,h5,h6⟩:=(Bo x).1 h;have he:=zx x h i hi;refine⟨by unfold O8;split<;>omega,(List.getElem?_eq_some_iff.1 he).1,fun j hj=> ?_⟩;unfold O8;split
 ·omega
 ·have:=Iq x.labels h5 j i hj (by omega);simp only [Ur,Af (show j<x.labels.length by omega),Af (show i<x.labels.length by omega),OD];omega
theorem ZI(l:List UInt8)(x:UInt8):FX l x<=l.length:=List.countP_le_length
theorem Ol{α:Type}(xs:List α)(i:Nat)(u:α)(h:i<=xs.length):(J5 xs i u).length=xs.length+1:=by simp [J5];omega
theorem oV(l:List UInt8)(x:UInt8)(i:Nat)(hi:i<=l.length)(h1:∀t(h:t<l.length),t<i->l[t].toNat<x.toNat)(h2:∀t(h:t<l.length),i<=t->x.toNat<=l[t].toNat):FX l x=i:=by
 unfold FX
 conv=>lhs;rw [<-List.take_append_drop i l]
 rw [List.countP_append];have e1:(l.take i).countP (fun y=>decide (y.toNat<x.toNat))=i:=by
  have:(l.take i).length=i:=by simp;omega
  conv=>rhs;rw [<-this]
  rw [List.countP_eq_length];intro a ha;obtain⟨t,ht,rfl⟩:=CU ha;simp at ht;simpa using h1 t (by omega) (by omega)
 have e2:(l.drop i).countP (fun y=>decide (y.toNat<x.toNat))=0:=by
  rw [List.countP_eq_zero];intro a ha;obtain⟨t,ht,rfl⟩:=CU ha;simp at ht;have:=h2 (i+t) (by omega) (by omega);simp;omega
 omega
theorem J9{α:Type}(xs:List α)(i:Nat)(u:α)(hi:i<=xs.length)(j:Nat):(J5 xs i u)[j]? =if j<i then xs[j]? else if j=i then some u else xs[j-1]? :=by
 unfold J5;by_cases h1:j<i
 ·rw [if_pos h1,DD (by simp;omega),CS,if_pos h1]
 ·rw [if_neg h1,Ew (by simp;omega)];simp only [DC,MN hi];by_cases h2:j=i
  ·subst h2;simp
  ·rw [if_neg h2,show j-i=(j-1-i)+1 by omega,List.getElem?_cons_succ,Dl];congr 1;omega
theorem eU{α:Type}(xs:List α)(i:Nat)(u:α)(hi:i<=xs.length):Js (J5 xs i u) i=xs:=by
 unfold Js J5;rw [List.take_append_of_le_length (by simp;omega),List.take_take,Nat.min_self,List.drop_append,DC,MN hi,show i+1-i=1 by omega,List.drop_of_length_le (by simp;omega)];simp
theorem oW{α:Type}(xs:List α)(i:Nat)(u y:α)(h:y∈J5 xs i u):y=u\/y∈xs:=by
 unfold J5 at h;rw [List.mem_append,CZ]at h;rcases h with h| h| h
 ·exact .inr (List.mem_of_mem_take h)
 ·exact .inl h
 ·exact .inr (List.mem_of_mem_drop h)
theorem jH(l:List UInt8)(x:UInt8)(hs:DT l=true):(∀t(h:t<l.length),t<FX l x->l[t].toNat<x.toNat)/\(∀t(h:t<l.length),FX l x<=t->x.toNat<=l[t].toNat):=by
 obtain⟨i,hi⟩:∃i,i=l.findIdx (fun y=>decide (x.toNat<=y.toNat)):=⟨_,rfl⟩;have hle:i<=l.length:=by rw [hi];exact List.findIdx_le_length
 have a1:∀t(h:t<l.length),t<i->l[t].toNat<x.toNat:=by
  intro t h ht;rw [hi]at ht;have:=List.not_of_lt_findIdx ht;simpa using this
 have a2:∀t(h:t<l.length),i<=t->x.toNat<=l[t].toNat:=by
  intro t h ht;have hil:i<l.length:=by omega
  have h0:x.toNat<=l[i].toNat:=by
   have:=List.findIdx_getElem (p:=fun y:UInt8=>decide (x.toNat<=y.toNat)) (xs:=l) (w:=by rw [<-hi];exact hil);simpa [<-hi]using this
  rcases Ih i t with h'| h'
  ·have:=Iq l hs i t h' h;omega
  ·obtain rfl:t=i:=by omega
   exact h0
 have e:=oV l x i hle a1 a2;rw [e];exact⟨a1,a2⟩
theorem Ru(l:List UInt8)(x:UInt8)(h:OG l x=false):∀t(h:t<l.length),l[t].toNat≠x.toNat:=by
 intro t ht e;unfold OG at h;rw [List.any_eq_true.2 ⟨l[t],BM _,by simpa using e⟩]at h;cases h
theorem oZ(l:List UInt8)(x:UInt8)(hs:DT l=true)(hh:OG l x=false):DT (J5 l (FX l x) x)=true:=by
 obtain⟨a1,a2⟩:=jH l x hs;have hp:=ZI l x;have hne:=Ru l x hh;generalize FX l x=p at*;rw [Ha];intro i hi;have hlen:(J5 l p x).length=l.length+1:=Ol l p x hp;have e1:=J9 l p x hp i;have e2:=J9 l p x hp (i+1);rw [Af (by omega)]at e1 e2;rw [hlen]at hi;rcases Ih (i+1) p with h| h
 ·rw [if_pos (by omega),Af (by omega)]at e1 e2;injection e1 with e1;injection e2 with e2
  rw [e1,e2];exact(Ha l).1 hs i (by omega)
 ·rcases Ih i p with h'| h'
  ·obtain rfl:p=i+1:=by omega
   rw [if_pos (by omega),Af (by omega)]at e1;rw [if_neg (by omega),if_pos rfl]at e2;injection e1 with e1;injection e2 with e2
   rw [e1,e2];exact a1 i (by omega) (by omega)
  ·rw [if_neg (by omega),if_neg (by omega),Vq,Af (by omega)]at e2;injection e2 with e2
   rw [e2];rcases Nat.eq_or_lt_of_le h' with h3| h3
   ·subst h3;rw [if_neg (by omega),if_pos rfl]at e1;injection e1 with e1
    rw [e1];have:=a2 p (by omega) (Nat.le_refl _);have:=hne p (by omega);omega
   ·rw [if_neg (by omega),if_neg (by omega),Af (by omega)]at e1;injection e1 with e1
    rw [e1];have:=(Ha l).1 hs (i-1) (by omega);simp only [show i-1+1=i by omega]at this;exact this
structure wW(x:Nd)(label:UInt8)(kid:UInt64):Prop where
 right:Ci (H5 x label kid)=true
 place:FX x.labels label<=x.labels.length
 len:(H5 x label kid).labels.length=x.labels.length+1
 Arc:(H5 x label kid).kids.length=x.kids.length+1
 Aud:(H5 x label kid).labels[FX x.labels label]? =some label
 Aue:(H5 x label kid).kids[FX x.labels label]? =some kid
 find:Jr (H5 x label kid).labels label=some (FX x.labels label)
 out:V5 (H5 x label kid) (FX x.labels label)=x
 old:∀i(h:i<x.labels.length)(hk:i<x.kids.length),∃j,j<x.labels.length+1/\(H5 x label kid).labels[j]? =some x.labels[i]/\(H5 x label kid).kids[j]? =some x.kids[i]
theorem Rw(x:Nd)(label:UInt8)(kid:UInt64):Jc x label kid=true<->Ci x=true/\label.toNat<16/\kid.toNat≠0/\OG x.labels label=false:=by
 unfold Jc;simp only [Bool.and_eq_true,decide_eq_true_eq,Bool.not_eq_true',beq_eq_false_iff_ne,and_assoc,ne_eq]
theorem pg(x:Nd)(label:UInt8)(kid:UInt64)(h:Jc x label kid=true):wW x label kid:=by
 obtain⟨hR,h16,hk,hh⟩:=(Rw x label kid).1 h;obtain⟨r1,r2,r3,r4,r5,r6⟩:=(Bo x).1 hR;have hp:=ZI x.labels label;have l1:(J5 x.labels (FX x.labels label) label).length=x.labels.length+1:=Ol _ _ _ hp;have l2:(J5 x.kids (FX x.labels label) kid).length=x.kids.length+1:=Ol _ _ _ (by omega);have hr:Ci (H5 x label kid)=true:=by
  rw [Bo];refine⟨r1,r2,?_,?_,oZ _ _ r5 hh,?_⟩
  ·show(J5 _ _ _).length=(J5 _ _ _).length;omega
  ·rw [E8];intro y hy;rcases oW _ _ _ _ hy with rfl| hy
   ·exact V3 h16
   ·exact(E8.1 r4) y hy
  ·intro i hi;rcases oW _ _ _ _ (BM hi)with e| hy
   ·rw [e];exact hk
   ·obtain⟨t,ht,e⟩:=CU hy;rw [<-e];exact r6 t ht
 have hlab:(H5 x label kid).labels[FX x.labels label]? =some label:=by
  show(J5 _ _ _)[_]? =_;rw [J9 _ _ _ hp,if_neg (by omega),if_pos rfl]
 refine⟨hr,hp,l1,l2,hlab,?_,?_,?_,?_⟩
 ·show(J5 _ _ _)[_]? =_;rw [J9 _ _ _ (by omega),if_neg (by omega),if_pos rfl]
 ·have hlt:FX x.labels label<(H5 x label kid).labels.length:=by rw [show(H5 x label kid).labels.length=x.labels.length+1 from l1];omega
  have:=wS _ ((Bo _).1 hr).2.2.2.2.1 _ hlt;rw [Af hlt]at hlab;injection hlab with hlab
  rw [hlab]at this;exact this
 ·show({pre:=x.pre,val:=x.val,labels:=Js (J5 _ _ _) _,kids:=Js (J5 _ _ _) _}:Nd)=x;rw [eU _ _ _ hp,eU _ _ _ (by omega)]
 ·intro i hi hik;by_cases hip:i<FX x.labels label
  ·refine⟨i,by omega,?_,?_⟩
   ·show(J5 _ _ _)[_]? =_;rw [J9 _ _ _ hp,if_pos hip,Af hi]
   ·show(J5 _ _ _)[_]? =_;rw [J9 _ _ _ (by omega),if_pos hip,Af hik]
  ·refine⟨i+1,by omega,?_,?_⟩
   ·show(J5 _ _ _)[_]? =_;rw [J9 _ _ _ hp,if_neg (by omega),if_neg (by omega),Vq,Af hi]
   ·show(J5 _ _ _)[_]? =_;rw [J9 _ _ _ (by omega),if_neg (by omega),if_neg (by omega),Vq,Af hik]
