import Derived.Test.YtjcppneoncpdbaaGreatDoorG06
import Derived.Test.YtjcppneoncpdbaaGreatDoorG07
import Derived.Test.YtjcppneoncpdbaaGreatDoorG11
import Derived.Test.YtjcppneoncpdbaaGreatDoorG24
open List renaming find?_some->WX,getD_eq_getElem?_getD->Bh,mem_of_find?_eq_some->Zw,mem_range->DY,length_set->CX,map_congr_left->TE,mem_map->BX,getElem_mem->CU,mem_cons_self->Bv,mem_cons_of_mem->Bz,mem_append->AL,mem_singleton->BD,pairwise_append->ny,eq_nil_of_length_eq_zero->BK,nodup_append->CW,mem_append_left->BB,append_assoc->AV,mem_append_right->Bo,length_append->AQ,map_append->Gn,map_cons->Cf,cons_append->Ci,nil_append->Et,length_cons->BJ,length_nil->Dy,getElem?_eq_getElem->Ag,length_drop->AO,all_eq_true->Em,take_append_drop->Gt,drop_eq_getElem_cons->Fz,map_nil->FY,take_length->Qb,perm_middle->zK
open Nat renaming mul_le_mul_left->TA,mul_add->sS,mul_one->I7,mul_assoc->MN,lt_trichotomy->zJ,succ_eq_add_one->vg
open Int renaming toNat_natCast->BQ,ofNat->CE
open UInt64 renaming ofNat->AA,toNat_inj->DL
namespace Go.Proofs.YtjcppneoncpdbaaGreatDoor
theorem Ae0{n many k:Nat}(h:bF n many=some k):n.testBit k=false:=by
 unfold bF at h;have:=WX h;simpa using this
structure BG(L:Nat)(s:St):Prop where
 sh:YZ L s.sh
 L1:L<=1024
 Ot:s.tk.length=s.sh.BM
 oU:s.hd.length=s.sh.BM
 tk:∀i,i<s.sh.BM->OkW (Hr s i)
 hd:∀i,i<s.sh.BM->OkW (hdN s i)
 cls:∀i,i<s.sh.BM->Hr s i=0\/hdN s i=0\/Bd (Hr s i)=Bd (hdN s i)
 kL:∀i a,i<s.sh.BM->EF (Hr s i) a=true->EF (hdN s i) a=false
 tab:∀i,i<s.sh.BM->s.ws (16+i)=s.tk.getD i 0
def Ba(s:St)(off c:Nat):Prop:=∃i a,i<s.sh.BM/\EF (Hr s i) a=true/\Bd (Hr s i)=c/\off=CS s.sh i c a
def Fv(s:St)(off c:Nat):Prop:=∃i a,i<s.sh.BM/\EF (hdN s i) a=true/\Bd (hdN s i)=c/\off=CS s.sh i c a
theorem EI{c:Nat}(h:c=1\/c=2):AZ c*Bi c=16/\0<AZ c/\0<Bi c/\AZ c<=4:=by
 rcases h with rfl| rfl<;>decide
theorem LM{sh:Sh}{i c a:Nat}(hc:c=1\/c=2)(ha:a<Bi c):sh.data+1024*i<=CS sh i c a/\CS sh i c a+64*AZ c<=sh.data+1024*(i+1):=by
 obtain⟨h1,h2,h3,_⟩:=EI hc;unfold CS;have h4:AZ c*(a+1)<=16:=by rw [<-h1];exact TA _ ha
 rw [sS,I7]at h4;rw [MN];omega
theorem Ve{sh:Sh}{i j c d a b:Nat}(hc:c=1\/c=2)(hd:d=1\/d=2)(ha:a<Bi c)(hb:b<Bi d)(h:CS sh i c a=CS sh j d b):i=j:=by
 have h1:=LM (sh:=sh) (i:=i) hc ha;have h2:=LM (sh:=sh) (i:=j) hd hb;have h3:=(EI hc).2.1;have h4:=(EI hd).2.1;rcases zJ i j with h5| h5| h5
 ·omega
 ·exact h5
 ·omega
theorem Tc{sh:Sh}{i c a b:Nat}(hc:c=1\/c=2)(h:CS sh i c a=CS sh i c b):a=b:=by
 unfold CS at h;have h2:=(EI hc).2.1;have:64*AZ c*a=64*AZ c*b:=by omega
 exact Nat.eq_of_mul_eq_mul_left (by omega) this
theorem VM{sh:Sh}{i j c d a b:Nat}(hc:c=1\/c=2)(hd:d=1\/d=2)(ha:a<Bi c)(hb:b<Bi d)(hcd:i=j->c=d)(h:CS sh i c a≠CS sh j d b):
 CS sh i c a+64*AZ c<=CS sh j d b\/CS sh j d b+64*AZ d<=CS sh i c a:=by
 have h1:=LM (sh:=sh) (i:=i) hc ha;have h2:=LM (sh:=sh) (i:=j) hd hb;rcases zJ i j with h5| h5| h5
 ·omega
 ·subst h5;obtain rfl:=hcd rfl;have hab:a≠b:=fun e=>h (by rw [e])
  unfold CS;rcases Nat.lt_or_gt_of_ne hab with h6| h6
  ·have:=TA (64*AZ c) h6;rw [vg,sS,I7]at this;omega
  ·have:=TA (64*AZ c) h6;rw [vg,sS,I7]at this;omega
 ·omega
section
variable{L:Nat}{s:St}
theorem BG.both(ok:BG L s){i:Nat}(hi:i<s.sh.BM):OkW (Hr s i||| hdN s i)/\(∀a,EF (Hr s i||| hdN s i) a=(EF (Hr s i) a|| EF (hdN s i) a))/\(Hr s i≠0->Bd (Hr s i||| hdN s i)=Bd (Hr s i))/\(hdN s i≠0->Bd (Hr s i||| hdN s i)=Bd (hdN s i)):=xO (ok.tk i hi) (ok.hd i hi) (ok.cls i hi)
theorem BG.PR(ok:BG L s){i a:Nat}(hi:i<s.sh.BM)(ha:EF (Hr s i) a=true):∃c,SW (Hr s i) c/\Bd (Cm s i)=c/\a<Bi c:=by
 obtain⟨c,hS,hb,_⟩:=(ok.tk i hi).QA ha;exact⟨c,hS,by unfold Cm;rw [(ok.both hi).2.2.1 hS.ne,hS.class],hb⟩
theorem BG.Y0(ok:BG L s){i a:Nat}(hi:i<s.sh.BM)(ha:EF (hdN s i) a=true):∃c,SW (hdN s i) c/\Bd (Cm s i)=c/\a<Bi c:=by
 obtain⟨c,hS,hb,_⟩:=(ok.hd i hi).QA ha;exact⟨c,hS,by unfold Cm;rw [(ok.both hi).2.2.2 hS.ne,hS.class],hb⟩
theorem Td(ok:BG L s){i c a:Nat}(hi:i<s.sh.BM)(hc:Bd (Cm s i)=c)(h12:c=1\/c=2)(ha:a<Bi c):IB s (CS s.sh i c a:Nat)=some (i,a):=by
 have h1:=LM (sh:=s.sh) (i:=i) h12 ha;obtain⟨h2,h3,h4,h5⟩:=EI h12;have hlen:=ok.Ot;have e1:(CS s.sh i c a-s.sh.data)/1024=i:=by omega
 have e2:(CS s.sh i c a-s.sh.data)%1024=64*AZ c*a:=by
  have:CS s.sh i c a-s.sh.data=1024*i+64*AZ c*a:=by unfold CS;omega
  omega
 unfold IB;rw [if_neg (by omega)];simp only [BQ,e1,e2,hc];rw [if_neg (by rw [Nat.mul_mod_right];omega),Nat.mul_div_cancel_left _ (by omega)]
theorem Abt(ok:BG L s){off:Int}{i a:Nat}(h:IB s off=some (i,a)):i<s.sh.BM/\(Bd (Cm s i)=1\/Bd (Cm s i)=2)/\a<Bi (Bd (Cm s i))/\off=(CS s.sh i (Bd (Cm s i)) a:Nat):=by
 have hlen:=ok.Ot;unfold IB at h;split at h
 ·cases h
 ·rename_i h1;split at h
  ·cases h
  ·rename_i h2;simp only [Option.some.injEq,Prod.mk.injEq]at h;obtain⟨rfl,rfl⟩:=h;have hi:(off.toNat-s.sh.data)/1024<s.sh.BM:=by omega
   generalize hc:Bd (Cm s ((off.toNat-s.sh.data)/1024))=c at h2⊢;have h12:c=1\/c=2:=by
    unfold AZ at h2;split at h2
    ·exact .inl rfl
    ·exact .inr rfl
    ·simp at h2
   obtain⟨h3,h4,h5,h6⟩:=EI h12;have hdm:=Nat.div_add_mod ((off.toNat-s.sh.data)%1024) (64*AZ c);have hmod:(off.toNat-s.sh.data)%1024%(64*AZ c)=0:=by omega
   have hlt:(off.toNat-s.sh.data)%1024<1024:=Nat.mod_lt _ (by decide);refine⟨hi,h12,?_,?_⟩
   ·refine Nat.div_lt_of_lt_mul ?_;rw [MN,h3];exact hlt
   ·unfold CS;rw [hmod,Nat.add_zero]at hdm;rw [hdm];omega
theorem Ba.cls(ok:BG L s){off c:Nat}(h:Ba s off c):c=1\/c=2:=by
 obtain⟨i,a,hi,ha,rfl,_⟩:=h;obtain⟨c,hS,_,_⟩:=ok.PR hi ha;rw [hS.class];exact hS.cls
theorem Ba.class(ok:BG L s){off c:Nat}(h:Ba s off c):Dz s off=c:=by
 have h12:=h.cls ok;obtain⟨i,a,hi,ha,hc,rfl⟩:=h;obtain⟨d,hS,hb,hlt⟩:=ok.PR hi ha;have e:c=d:=by rw [<-hc,hS.class]
 subst e;unfold Dz;rw [Td ok hi hb h12 hlt];simp only [ha,if_true,hc]
theorem Y1(ok:BG L s){off:Int}{c:Nat}(h:Dz s off=c)(h0:c≠0):∃o:Nat,off=o/\Ba s o c:=by
 unfold Dz at h;split at h
 ·exact absurd h.symm h0
 ·rename_i i a hf;obtain⟨hi,h12,hlt,he⟩:=Abt ok hf;split at h
  ·rename_i ha;obtain⟨d,hS,hb,_⟩:=ok.PR hi ha;refine⟨_,he,i,a,hi,ha,h,?_⟩;rw [hb,<-h,hS.class]
  ·exact absurd h.symm h0
theorem Ba.bounds(ok:BG L s){off c:Nat}(h:Ba s off c):s.sh.data<=off/\off+64*AZ c<=64*L/\off%64=0:=by
 have h12:=h.cls ok;obtain⟨i,a,hi,ha,hc,rfl⟩:=h;obtain⟨d,hS,hb,hlt⟩:=ok.PR hi ha;have e:c=d:=by rw [<-hc,hS.class]
 subst e;have h1:=LM (sh:=s.sh) (i:=i) h12 hlt;have:=ok.sh.fits;have:=ok.sh.data;refine⟨by omega,by omega,?_⟩;unfold CS;rw [MN];omega
theorem Fv.cls(ok:BG L s){off c:Nat}(h:Fv s off c):c=1\/c=2:=by
 obtain⟨i,a,hi,ha,rfl,_⟩:=h;obtain⟨c,hS,_,_⟩:=ok.Y0 hi ha;rw [hS.class];exact hS.cls
theorem Fv.bounds(ok:BG L s){off c:Nat}(h:Fv s off c):s.sh.data<=off/\off+64*AZ c<=64*L/\off%64=0:=by
 have h12:=h.cls ok;obtain⟨i,a,hi,ha,hc,rfl⟩:=h;obtain⟨d,hS,hb,hlt⟩:=ok.Y0 hi ha;have e:c=d:=by rw [<-hc,hS.class]
 subst e;have h1:=LM (sh:=s.sh) (i:=i) h12 hlt;have:=ok.sh.fits;have:=ok.sh.data;refine⟨by omega,by omega,?_⟩;unfold CS;rw [MN];omega
theorem kM(ok:BG L s){o p c d:Nat}(h:Ba s o c)(k:Ba s p d)(hne:o≠p):o+64*AZ c<=p\/p+64*AZ d<=o:=by
 have h12:=h.cls ok;have k12:=k.cls ok;obtain⟨i,a,hi,ha,hc,rfl⟩:=h;obtain⟨j,b,hj,hb,hd,rfl⟩:=k;obtain⟨c',hS,_,hlt⟩:=ok.PR hi ha;obtain⟨d',hS',_,hlt'⟩:=ok.PR hj hb;rw [hS.class]at hc;rw [hS'.class]at hd;subst hc hd;refine VM h12 k12 hlt hlt' (fun e=> ?_) hne;subst e;rw [<-hS.class,<-hS'.class]
theorem N8(ok:BG L s){o p c d:Nat}(h:Fv s o c)(k:Ba s p d):o≠p/\(o+64*AZ c<=p\/p+64*AZ d<=o):=by
 have h12:=h.cls ok;have k12:=k.cls ok;obtain⟨i,a,hi,ha,hc,rfl⟩:=h;obtain⟨j,b,hj,hb,hd,rfl⟩:=k;obtain⟨c',hS,iR,hlt⟩:=ok.Y0 hi ha;obtain⟨d',hS',Ahu,hlt'⟩:=ok.PR hj hb;rw [hS.class]at hc;rw [hS'.class]at hd;subst hc hd;have hcd:i=j->c'=d':=fun e=>by subst e;rw [<-iR,<-Ahu]
 have hne:CS s.sh i c' a≠CS s.sh j d' b:=fun e=>by
  obtain rfl:=Ve h12 k12 hlt hlt' e;obtain rfl:=hcd rfl;obtain rfl:=Tc h12 e;rw [ok.kL i a hi hb]at ha;cases ha
 exact⟨hne,VM h12 k12 hlt hlt' hcd hne⟩
end
theorem D8{n:Nat}(h:n<2^64):(AA n).toNat=n:=by
 rw [UInt64.toNat_ofNat'];exact Nat.mod_eq_of_lt h
theorem OJ{α:Type}(l:List α)(i j:Nat)(x z:α)(hi:i<l.length):(l.set i x).getD j z=if j=i then x else l.getD j z:=by
 rw [Bh,Bh,List.getElem?_set];by_cases h:i=j
 ·subst h;simp [hi]
 ·rw [if_neg h,if_neg (fun e=>h e.symm)]
section
variable{L:Nat}{s:St}
theorem BG.table(ok:BG L s):s.sh.table=128:=ok.sh.table
theorem BG.words(ok:BG L s){ws':Nat->UInt64}(h:∀i,i<s.sh.BM->ws' (16+i)=s.ws (16+i)):BG L {s with ws:=ws'}:=
 ⟨ok.sh,ok.L1,ok.Ot,ok.oU,ok.tk,ok.hd,ok.cls,ok.kL,fun i hi=>(h i hi).trans (ok.tab i hi)⟩
def Gy(off c j:Nat):Prop:=off/8<=j/\j<off/8+8*AZ c
theorem Ob{o p c d j:Nat}(h:o+64*AZ c<=p\/p+64*AZ d<=o)(ho:o%64=0)(hp:p%64=0)(k:Gy o c j):¬Gy p d j:=by
 unfold Gy at*;omega
theorem BG.DC(ok:BG L s){off c j:Nat}(h1:s.sh.data<=off)(h2:Gy off c j):16+s.sh.BM<=j:=by
 have:=ok.sh.NR;unfold Gy at h2;omega
theorem fB{c i a:Nat}(h:Lj s c=some i)(h2:JQ (Cm s i) c=some a):i<s.tk.length/\(Bd (Cm s i)=c\/Bd (Cm s i)=0):=by
 unfold Lj at h;split at h
 ·rename_i j hj;injection h with h;subst h
  unfold KN at hj;have h3:=WX hj;have h4:=Zw hj;rw [Bool.and_eq_true,decide_eq_true_eq]at h3;exact⟨DY.1 h4,.inl h3.1⟩
 ·unfold KN at h;have h3:=WX h;have h4:=Zw h;rw [Bool.and_eq_true,decide_eq_true_eq]at h3;exact⟨DY.1 h4,.inr h3.1⟩
theorem PS(ok:BG L s){c off:Nat}{s1:St}(hc:c=1\/c=2)(h:C9 s c=some (off,s1)):
 BG L s1/\s1.ws=s.ws/\s1.sh=s.sh/\s1.tk=s.tk/\Fv s1 off c/\(∀o d,Fv s o d->Fv s1 o d)/\(∀o d,Fv s1 o d->Fv s o d\/o=off)/\∀o d,Ba s1 o d<->Ba s o d:=by
 unfold C9 at h;split at h
 ·cases h
 ·rename_i i hi;split at h
  ·cases h
  ·rename_i a ha;simp only [Option.some.injEq,Prod.mk.injEq]at h;obtain⟨rfl,rfl⟩:=h;obtain⟨hilt,hcl⟩:=fB hi ha;have hil:i<s.sh.BM:=by rw [<-ok.Ot];exact hilt
   obtain⟨iR,hbh,hbt,Anq⟩:=ok.both hil;have hab:a<Bi c/\(Jz (Cm s i)).testBit a=false:=by
    unfold JQ at ha;split at ha
    ·exact⟨dw ha,Ae0 ha⟩
    ·cases ha
   have hb16:Bi c<=16:=by rcases hc with rfl| rfl<;>decide
   have hbit:(Cm s i).testBit a=false:=by
    have:=hab.2;unfold Jz at this;rw [MS,Nat.zero_add,Bool.and_eq_false_iff,decide_eq_false_iff_not]at this;rcases this with h| h
    ·omega
    ·exact h
   have hnb:EF (Cm s i) a=false:=by
    unfold EF;rw [Abs,hbit,Bool.and_false]
   have hnn:=hbh a;rw [show Hr s i||| hdN s i=Cm s i from rfl,hnb]at hnn;obtain⟨hnt,hnh⟩:EF (Hr s i) a=false/\EF (hdN s i) a=false:=by
    cases h1:EF (Hr s i) a<;>cases h2:EF (hdN s i) a<;>rw [h1,h2]at hnn<;>first| exact⟨rfl,rfl⟩| cases hnn
   have hdc:hdN s i=0\/SW (hdN s i) c:=by
    rcases ok.hd i hil with h1| ⟨d,h1⟩
    ·exact .inl h1
    ·have e:=Anq h1.ne;rw [show Hr s i||| hdN s i=Cm s i from rfl,h1.class]at e;have:=h1.cls;rcases hcl with h2| h2
     ·rw [e]at h2;subst h2;exact .inr h1
     ·omega
   have htc:Hr s i=0\/Bd (Hr s i)=c:=by
    rcases ok.tk i hil with h1| ⟨d,h1⟩
    ·exact .inl h1
    ·have e:=hbt h1.ne;rw [show Hr s i||| hdN s i=Cm s i from rfl,h1.class]at e;have:=h1.cls;rcases hcl with h2| h2
     ·rw [e]at h2;subst h2;exact .inr h1.class
     ·omega
   obtain⟨_,hS,hhas⟩:=ay (ok.hd i hil) hc hdc hab.1 hnh;have hu:=D8 hS.lt;have hhd:∀j,hdN {s with hd:=s.hd.set i (AA (Gh (hdN s i) c a).1)} j=if j=i then(Gh (hdN s i) c a).1 else hdN s j:=fun j=>by
    show((s.hd.set i _).getD j 0).toNat=_;rw [OJ _ _ _ _ _ (by rw [ok.oU];exact hil)];split
    ·exact hu
    ·rfl
   have htk:∀j,Hr {s with hd:=s.hd.set i (AA (Gh (hdN s i) c a).1)} j=Hr s j:=fun j=>rfl
   refine⟨⟨ok.sh,ok.L1,ok.Ot,by simp [ok.oU],ok.tk,fun j hj=> ?_,fun j hj=> ?_,fun j b hj hb=> ?_,ok.tab⟩,rfl,rfl,rfl,⟨i,a,hil,?_,?_,rfl⟩,?_,?_,fun o d=>Iff.rfl⟩
   ·rw [hhd];split
    ·exact .inr ⟨c,hS⟩
    ·exact ok.hd j hj
   ·rw [hhd,htk];by_cases e:j=i
    ·subst e;rw [if_pos rfl,hS.class];exact htc.imp id .inr
    ·rw [if_neg e];exact ok.cls j hj
   ·rw [hhd];rw [htk]at hb;by_cases e:j=i
    ·subst e;rw [if_pos rfl,hhas b,ok.kL j b hj hb,Bool.false_or,decide_eq_false_iff_not];intro e2;subst e2;rw [hnt]at hb;cases hb
    ·rw [if_neg e];exact ok.kL j b hj hb
   ·rw [hhd,if_pos rfl,hhas a];simp
   ·rw [hhd,if_pos rfl,hS.class]
   ·rintro o d⟨j,b,hj,hb,hd,ho⟩;refine⟨j,b,hj,?_,?_,ho⟩
    ·rw [hhd];by_cases e:j=i
     ·subst e;rw [if_pos rfl,hhas b,hb];rfl
     ·rw [if_neg e];exact hb
    ·rw [hhd];by_cases e:j=i
     ·subst e;obtain⟨d',hS',_,_⟩:=(ok.hd j hj).QA hb;rw [if_pos rfl,hS.class,<-hd];rcases hdc with h0| h0
      ·exact absurd h0 hS'.ne
      ·exact h0.class.symm
     ·rw [if_neg e];exact hd
   ·rintro o d⟨j,b,hj,hb,hd,ho⟩;rw [hhd]at hb hd;by_cases e:j=i
    ·subst e;rw [if_pos rfl]at hb hd;rw [hhas b,Bool.or_eq_true,decide_eq_true_eq]at hb;rw [hS.class]at hd;subst hd;rcases hb with hb| rfl
     ·obtain⟨d',hS',_,_⟩:=(ok.hd j hj).QA hb;refine .inl ⟨j,b,hj,hb,?_,ho⟩;rcases hdc with h0| h0
      ·exact absurd h0 hS'.ne
      ·exact h0.class
     ·exact .inr ho
    ·rw [if_neg e]at hb hd;exact .inl ⟨j,b,hj,hb,hd,ho⟩
theorem fC(ok:BG L s){c off:Nat}(h:Fv s off c):
 ∃s1,Fh s off=(s1,0)/\BG L s1/\s1.sh=s.sh/\(∀j,(j<16\/16+s.sh.BM<=j)->s1.ws j=s.ws j)/\
  (∀o d,Ba s1 o d<->Ba s o d\/(o=off/\d=c))/\(∀o d,Fv s1 o d<->Fv s o d/\o≠off):=by
 have h12:=h.cls ok;have h':=h;obtain⟨i,a,hi,ha,hc,rfl⟩:=h';obtain⟨c',hS,iR,hlt⟩:=ok.Y0 hi ha;have e:c'=c:=by rw [<-hc,hS.class]
 subst e;have hnt:EF (Hr s i) a=false:=by
  cases hb:EF (Hr s i) a
  ·rfl
  ·rw [ok.kL i a hi hb]at ha;cases ha
 have htc:Hr s i=0\/SW (Hr s i) c':=by
  rcases ok.tk i hi with h1| ⟨d,h1⟩
  ·exact .inl h1
  ·rcases ok.cls i hi with h2| h2| h2
   ·exact absurd h2 h1.ne
   ·exact absurd h2 hS.ne
   ·rw [h1.class,hS.class]at h2;subst h2;exact .inr h1
 obtain⟨_,hT,uJ⟩:=ay (ok.tk i hi) h12 htc hlt hnt;obtain⟨_,hD,QE,qQ⟩:=az (ok.hd i hi) ha;have hu1:=D8 hT.lt;have hu2:=D8 hD.lt;have Abu:i<s.tk.length:=by rw [ok.Ot];exact hi
 have Anr:i<s.hd.length:=by rw [ok.oU];exact hi
 obtain⟨s1,hs1⟩:∃s1,s1=({bJ s i (AA (Gh (Hr s i) (Bd (hdN s i)) a).1)with hd:=s.hd.set i (AA (Eu (hdN s i) a).1)}:St):=⟨_,rfl⟩;have htk:∀j,Hr s1 j=if j=i then(Gh (Hr s i) c' a).1 else Hr s j:=fun j=>by
  rw [hs1];show((s.tk.set i _).getD j 0).toNat=_;rw [OJ _ _ _ _ _ Abu,hc];split
  ·exact hu1
  ·rfl
 have hhd:∀j,hdN s1 j=if j=i then(Eu (hdN s i) a).1 else hdN s j:=fun j=>by
  rw [hs1];show((s.hd.set i _).getD j 0).toNat=_;rw [OJ _ _ _ _ _ Anr];split
  ·exact hu2
  ·rfl
 have hsh:s1.sh=s.sh:=by rw [hs1];rfl
 have hws:∀j,s1.ws j=if j=16+i then AA (Gh (Hr s i) c' a).1 else s.ws j:=fun j=>by
  rw [hs1];show FO s.ws (s.sh.table/8+i) _ j=_;rw [ok.table,hc];rfl
 refine⟨s1,?_,⟨by rw [hsh];exact ok.sh,ok.L1,by rw [hs1];show(s.tk.set i _).length=_;rw [CX];exact ok.Ot,by rw [hs1];show(s.hd.set i _).length=_;rw [CX];exact ok.oU,fun j hj=> ?_,fun j hj=> ?_,fun j hj=> ?_,fun j b hj hb=> ?_,fun j hj=> ?_⟩,hsh,fun j hj=> ?_,fun o d=> ?_,fun o d=> ?_⟩
 ·unfold Fh;rw [Td ok hi iR h12 hlt];simp only [ha,if_true];rw [hs1]
 ·rw [htk];split
  ·exact .inr ⟨_,hT⟩
  ·exact ok.tk j (by rw [<-hsh];exact hj)
 ·rw [hhd];split
  ·exact hD
  ·exact ok.hd j (by rw [<-hsh];exact hj)
 ·rw [htk,hhd];by_cases e:j=i
  ·rw [if_pos e,if_pos e,hT.class];rcases qQ with h1| h1
   ·exact .inr (.inr (by rw [h1,hS.class]))
   ·exact .inr (.inl h1)
  ·rw [if_neg e,if_neg e];exact ok.cls j (by rw [<-hsh];exact hj)
 ·rw [htk]at hb;rw [hhd];by_cases e:j=i
  ·subst e;rw [if_pos rfl]at hb⊢;rw [uJ,Bool.or_eq_true,decide_eq_true_eq]at hb;rw [QE];rcases hb with hb| rfl
   ·rw [ok.kL j b hi hb];rfl
   ·simp
  ·rw [if_neg e]at hb⊢;exact ok.kL j b (by rw [<-hsh];exact hj) hb
 ·rw [hws,hs1];show _=(s.tk.set i _).getD j 0;rw [OJ _ _ _ _ _ Abu,hc];by_cases e:j=i
  ·rw [if_pos (by omega),if_pos e]
  ·rw [if_neg (by omega),if_neg e];exact ok.tab j (by rw [<-hsh];exact hj)
 ·rw [hws,if_neg (by omega)]
 ·constructor
  ·rintro⟨j,b,hj,hb,hd,ho⟩;rw [hsh]at hj ho;rw [htk]at hb hd;by_cases e:j=i
   ·subst e;rw [if_pos rfl]at hb hd;rw [hT.class]at hd;subst hd;rw [uJ,Bool.or_eq_true,decide_eq_true_eq]at hb;rcases hb with hb| rfl
    ·left;refine⟨j,b,hj,hb,?_,ho⟩;rcases htc with h0| h0
     ·rw [h0,Fq]at hb;cases hb
     ·exact h0.class
    ·exact .inr ⟨ho,rfl⟩
   ·rw [if_neg e]at hb hd;exact .inl ⟨j,b,hj,hb,hd,ho⟩
  ·rintro(⟨j,b,hj,hb,hd,ho⟩| ⟨rfl,rfl⟩)
   ·refine⟨j,b,by rw [hsh];exact hj,?_,?_,by rw [hsh];exact ho⟩
    ·rw [htk];by_cases e:j=i
     ·subst e;rw [if_pos rfl,uJ,hb];rfl
     ·rw [if_neg e];exact hb
    ·rw [htk];by_cases e:j=i
     ·subst e;rw [if_pos rfl,hT.class,<-hd];rcases htc with h0| h0
      ·rw [h0,Fq]at hb;cases hb
      ·exact h0.class.symm
     ·rw [if_neg e];exact hd
   ·exact⟨i,a,by rw [hsh];exact hi,by rw [htk,if_pos rfl,uJ];simp,by rw [htk,if_pos rfl,hT.class],by rw [hsh]⟩
 ·constructor
  ·rintro⟨j,b,hj,hb,hd,ho⟩;rw [hsh]at hj ho;rw [hhd]at hb hd;by_cases e:j=i
   ·subst e;rw [if_pos rfl]at hb hd;rw [QE,Bool.and_eq_true,Bool.not_eq_true',decide_eq_false_iff_not]at hb;have hd':d=c':=by
     rcases qQ with h1| h1
     ·rw [h1,hS.class]at hd;exact hd.symm
     ·have:=QE b;rw [h1,Fq,hb.1]at this;simp [hb.2]at this
    subst hd';refine⟨⟨j,b,hj,hb.1,hS.class,ho⟩,fun e2=> ?_⟩;rw [ho]at e2;exact hb.2 (Tc h12 e2)
   ·rw [if_neg e]at hb hd;refine⟨⟨j,b,hj,hb,hd,ho⟩,fun e2=> ?_⟩;obtain⟨d',hS',Ahu,hlt'⟩:=ok.Y0 hj hb;have e3:d'=d:=by rw [<-hd,hS'.class]
    subst e3;rw [ho]at e2;exact e (Ve hS'.cls h12 hlt' hlt e2)
  ·rintro⟨⟨j,b,hj,hb,hd,ho⟩,hne⟩;have hbi:j=i->b≠a:=fun e e2=>by
    subst e e2;have e3:d=c':=by rw [<-hd,hS.class]
    subst e3;exact hne ho
   refine⟨j,b,by rw [hsh];exact hj,?_,?_,by rw [hsh];exact ho⟩
   ·rw [hhd];by_cases e:j=i
    ·subst e;rw [if_pos rfl,QE,hb];simp [hbi rfl]
    ·rw [if_neg e];exact hb
   ·rw [hhd];by_cases e:j=i
    ·subst e;rw [if_pos rfl];rcases qQ with h1| h1
     ·rw [h1];exact hd
     ·have:=QE b;rw [h1,Fq,hb]at this;simp [hbi rfl]at this
    ·rw [if_neg e];exact hd
theorem fD(ok:BG L s){c off:Nat}(h:Ba s off c):
 ∃s1,Fj s off=(s1,0)/\BG L s1/\s1.sh=s.sh/\s1.hd=s.hd/\(∀j,(j<16\/16+s.sh.BM<=j)->s1.ws j=s.ws j)/\
  (∀o d,Ba s1 o d<->Ba s o d/\o≠off):=by
 have h12:=h.cls ok;obtain⟨i,a,hi,ha,hc,rfl⟩:=h;obtain⟨c',hS,iR,hlt⟩:=ok.PR hi ha;have e:c'=c:=by rw [<-hc,hS.class]
 subst e;have hnh:EF (hdN s i) a=false:=ok.kL i a hi ha;obtain⟨hD2,hD,QE,qQ⟩:=az (ok.tk i hi) ha;have hu2:=D8 hD.lt;have Abu:i<s.tk.length:=by rw [ok.Ot];exact hi
 obtain⟨s1,hs1⟩:∃s1,s1=bJ s i (AA (Eu (Hr s i) a).1):=⟨_,rfl⟩;have htk:∀j,Hr s1 j=if j=i then(Eu (Hr s i) a).1 else Hr s j:=fun j=>by
  rw [hs1];show((s.tk.set i _).getD j 0).toNat=_;rw [OJ _ _ _ _ _ Abu];split
  ·exact hu2
  ·rfl
 have hhd:∀j,hdN s1 j=hdN s j:=fun j=>by rw [hs1];rfl
 have hsh:s1.sh=s.sh:=by rw [hs1];rfl
 have hws:∀j,s1.ws j=if j=16+i then AA (Eu (Hr s i) a).1 else s.ws j:=fun j=>by
  rw [hs1];show FO s.ws (s.sh.table/8+i) _ j=_;rw [ok.table];rfl
 refine⟨s1,?_,⟨by rw [hsh];exact ok.sh,ok.L1,by rw [hs1];show(s.tk.set i _).length=_;rw [CX];exact ok.Ot,by rw [hs1];exact ok.oU,fun j hj=> ?_,fun j hj=> ?_,fun j hj=> ?_,fun j b hj hb=> ?_,fun j hj=> ?_⟩,hsh,by rw [hs1];rfl,fun j hj=> ?_,fun o d=> ?_⟩
 ·unfold Fj;rw [Td ok hi iR h12 hlt];have h0:(Eu (hdN s i) a).2=false:=by unfold Eu;rw [hnh];rfl
  simp only [h0,hD2,if_true,Bool.false_eq_true,if_false];rw [hs1]
 ·rw [htk];split
  ·exact hD
  ·exact ok.tk j (by rw [<-hsh];exact hj)
 ·rw [hhd];exact ok.hd j (by rw [<-hsh];exact hj)
 ·rw [htk,hhd];by_cases e:j=i
  ·rw [if_pos e,e];rcases qQ with h1| h1
   ·rw [h1];rcases ok.cls i hi with h2| h2| h2
    ·exact absurd h2 hS.ne
    ·exact .inr (.inl h2)
    ·exact .inr (.inr h2)
   ·exact .inl h1
  ·rw [if_neg e];exact ok.cls j (by rw [<-hsh];exact hj)
 ·rw [htk]at hb;rw [hhd];by_cases e:j=i
  ·subst e;rw [if_pos rfl,QE,Bool.and_eq_true]at hb;exact ok.kL j b hi hb.1
  ·rw [if_neg e]at hb;exact ok.kL j b (by rw [<-hsh];exact hj) hb
 ·rw [hws,hs1];show _=(s.tk.set i _).getD j 0;rw [OJ _ _ _ _ _ Abu];by_cases e:j=i
  ·rw [if_pos (by omega),if_pos e]
  ·rw [if_neg (by omega),if_neg e];exact ok.tab j (by rw [<-hsh];exact hj)
 ·rw [hws,if_neg (by omega)]
 ·constructor
  ·rintro⟨j,b,hj,hb,hd,ho⟩;rw [hsh]at hj ho;rw [htk]at hb hd;by_cases e:j=i
   ·subst e;rw [if_pos rfl]at hb hd;rw [QE,Bool.and_eq_true,Bool.not_eq_true',decide_eq_false_iff_not]at hb;have hd':d=c':=by
     rcases qQ with h1| h1
     ·rw [h1,hS.class]at hd;exact hd.symm
     ·have:=QE b;rw [h1,Fq,hb.1]at this;simp [hb.2]at this
    subst hd';refine⟨⟨j,b,hj,hb.1,hS.class,ho⟩,fun e2=> ?_⟩;rw [ho]at e2;exact hb.2 (Tc h12 e2)
   ·rw [if_neg e]at hb hd;refine⟨⟨j,b,hj,hb,hd,ho⟩,fun e2=> ?_⟩;obtain⟨d',hS',Ahu,hlt'⟩:=ok.PR hj hb;have e3:d'=d:=by rw [<-hd,hS'.class]
    subst e3;rw [ho]at e2;exact e (Ve hS'.cls h12 hlt' hlt e2)
  ·rintro⟨⟨j,b,hj,hb,hd,ho⟩,hne⟩;have hbi:j=i->b≠a:=fun e e2=>by
    subst e e2;have e3:d=c':=by rw [<-hd,hS.class]
    subst e3;exact hne ho
   refine⟨j,b,by rw [hsh];exact hj,?_,?_,by rw [hsh];exact ho⟩
   ·rw [htk];by_cases e:j=i
    ·subst e;rw [if_pos rfl,QE,hb];simp [hbi rfl]
    ·rw [if_neg e];exact hb
   ·rw [htk];by_cases e:j=i
    ·subst e;rw [if_pos rfl];rcases qQ with h1| h1
     ·rw [h1];exact hd
     ·have:=QE b;rw [h1,Fq,hb]at this;simp [hbi rfl]at this
    ·rw [if_neg e];exact hd
end
abbrev Kv:=List UInt8×UInt64
structure Part where
 items:List Kv
 blocks:List Nat
def BZ(nd:Nd):List Kv:=if nd.val≠0 then [(nd.pre,nd.val)]else []
def Fa(pre:List UInt8)(lb:UInt8)(l:List Kv):List Kv:=l.map fun kv=>(pre++lb::kv.1,kv.2)
def Bj(pre:List UInt8):List UInt8->List Part->List Kv
 | lb::ls,p::ps=>Fa pre lb p.items++Bj pre ls ps
 | _,_=>[]
def Bc(ps:List Part):List Nat:=(ps.map Part.blocks).flatten
inductive DJ(s:St):Nat->UInt64->List Kv->List Nat->Prop
 | mk(r:Nat)(name:UInt64)(nd:Nd)(parts:List Part)(hrd:ER s name=some nd)(hpre:nd.pre.length<=r)(NI:nd.kids≠[]->nd.pre.length+1<=r)(hlen:parts.length=nd.kids.length)
  (hk:∀i(h1:i<nd.kids.length)(h2:i<parts.length),DJ s (r-nd.pre.length-1) nd.kids[i] parts[i].items parts[i].blocks):
  DJ s r name (BZ nd++Bj nd.pre nd.labels parts) ((Be name).toNat::Bc parts)
section
variable{L:Nat}{s s':St}
theorem kN{c d:Nat}(hc:c=1\/c=2)(hd:d=1\/d=2)(h:AZ c=AZ d):c=d:=by
 rcases hc with rfl| rfl<;>rcases hd with rfl| rfl<;>first| rfl| (simp [AZ]at h)
theorem OL(x:Nd):Dl x=1\/Dl x=2:=by unfold Dl;split<;>simp
theorem JK(x:Nd):(DI x).length=8*AZ (Dl x):=by
 rw [Ez];unfold Dl;split<;>rfl
theorem IZ(ok:BG L s){name:UInt64}{nd:Nd}(h:ER s name=some nd):
 ∃o:Nat,Be name=o/\Ba s o (Dl nd)/\Cc nd=true/\wordsAt s.ws (o/8) (8*AZ (Dl nd))=DI nd:=by
 unfold ER at h;split at h
 ·cases h
 ·rename_i h0;split at h
  ·rename_i hd;injection h with h
   have hc0:Dz s (Be name)≠0:=fun e=>h0 (by rw [e];rfl)
   obtain⟨o,ho,ht⟩:=Y1 ok rfl hc0;obtain⟨h1,h2⟩:=xQ _ hd;rw [h]at h1 h2;have h12:=ht.cls ok;have hcc:Dz s (Be name)=Dl nd:=by
    refine kN h12 (OL nd) ?_;have:=congrArg List.length h2;rw [JK]at this;simp [wordsAt]at this;omega
   rw [hcc]at ht h2;rw [ho,BQ]at h2;exact⟨o,ho,ht,h1,h2.symm⟩
  ·cases h
theorem WR(ok:BG L s){name:UInt64}{nd:Nd}{o:Nat}(ho:Be name=o)(ht:Ba s o (Dl nd))(hr:Cc nd=true)(hw:wordsAt s.ws (o/8) (8*AZ (Dl nd))=DI nd):ER s name=some nd:=by
 have hc:=ht.class ok;have h12:=OL nd;unfold ER;rw [ho,hc,BQ,hw,if_neg (by have:=(EI h12).2.1;omega),if_pos (xP nd hr),kF nd hr]
def FH(s s':St)(B:Nat->Prop):Prop:=∀o c,B o->Ba s o c->Ba s' o c/\∀j,Gy o c j->s'.ws j=s.ws j
theorem FH.mono{B C:Nat->Prop}(h:FH s s' B)(k:∀o,C o->B o):FH s s' C:=fun o c hb ht=>h o c (k o hb) ht
theorem FH.trans{s'':St}{B:Nat->Prop}(h:FH s s' B)(k:FH s' s'' B):FH s s'' B:=fun o c hb ht=>by
 obtain⟨h1,h2⟩:=h o c hb ht;obtain⟨k1,k2⟩:=k o c hb h1;exact⟨k1,fun j hj=>(k2 j hj).trans (h2 j hj)⟩
theorem FH.refl(s:St)(B:Nat->Prop):FH s s B:=fun _ _ _ h=>⟨h,fun _ _=>rfl⟩
theorem Tf{o c:Nat}(h:∀j,Gy o c j->s'.ws j=s.ws j):wordsAt s'.ws (o/8) (8*AZ c)=wordsAt s.ws (o/8) (8*AZ c):=by
 unfold wordsAt;refine TE fun t ht=> ?_
 have:=DY.1 ht;exact h _ ⟨by omega,by omega⟩
theorem xR(ok:BG L s)(ok':BG L s'){B:Nat->Prop}(k:FH s s' B){name:UInt64}{nd:Nd}(hb:B (Be name).toNat)(h:ER s name=some nd):ER s' name=some nd:=by
 obtain⟨o,ho,ht,hr,hw⟩:=IZ ok h;rw [ho,BQ]at hb;obtain⟨h1,h2⟩:=k o _ hb ht;exact WR ok' ho h1 hr ((Tf h2).trans hw)
theorem RY{ps:List Part}{i:Nat}(h:i<ps.length){o:Nat}(ho:o∈ps[i].blocks):o∈Bc ps:=by
 unfold Bc;exact List.mem_flatten.2 ⟨_,BX.2 ⟨_,CU h,rfl⟩,ho⟩
theorem DJ.keep(ok:BG L s)(ok':BG L s'){B:Nat->Prop}(k:FH s s' B){r:Nat}{name:UInt64}{items:List Kv}{blocks:List Nat}(h:DJ s r name items blocks)(hb:∀o∈blocks,B o):DJ s' r name items blocks:=by
 induction h with
 | mk r name nd parts hrd hpre NI hlen hk ih=>
   refine .mk r name nd parts (xR ok ok' k (hb _ (Bv ..)) hrd) hpre NI hlen fun i h1 h2=>ih i h1 h2 fun o ho=>hb o (Bz _ (RY h2 ho))
theorem EJ{pre:List UInt8}:∀{ls:List UInt8}{ps:List Part}{kv:Kv},kv∈Bj pre ls ps->∃(i:Nat)(h1:i<ls.length)(h2:i<ps.length)(kv':Kv),kv'∈ps[i].items/\kv=(pre++ls[i]::kv'.1,kv'.2)
 | [],_,kv,h=>by simp [Bj]at h
 | _::_,[],kv,h=>by simp [Bj]at h
 | lb::ls,p::ps,kv,h=>by
   rw [Bj]at h;rcases AL.1 h with h| h
   ·obtain⟨kv',hk,e⟩:=BX.1 h;exact⟨0,by simp,by simp,kv',hk,e.symm⟩
   ·obtain⟨i,h1,h2,kv',hk,e⟩:=EJ h;exact⟨i+1,by simp;omega,by simp;omega,kv',hk,e⟩
theorem Fe{nd:Nd}{kv:Kv}(h:kv∈BZ nd):kv=(nd.pre,nd.val)/\nd.val≠0:=by
 unfold BZ at h;split at h
 ·rename_i h0;exact⟨BD.1 h,h0⟩
 ·cases h
theorem MV(p a b:List UInt8):Op.bytesLess (p++a) (p++b)=Op.bytesLess a b:=by
 induction p with
 | nil=>rfl
 | cons x p ih=>simp [Op.bytesLess,ih]
theorem aC(p:List UInt8)(x:UInt8)(t:List UInt8):Op.bytesLess p (p++x::t)=true:=by
 induction p with
 | nil=>rfl
 | cons y p ih=>simp [Op.bytesLess,ih]
theorem Ti{x y:UInt8}(h:x.toNat<y.toNat)(a b:List UInt8):Op.bytesLess (x::a) (y::b)=true:=by
 simp only [Op.bytesLess,Bool.or_eq_true,decide_eq_true_eq];exact .inl (UInt8.lt_iff_toNat_lt.2 h)
def zF(l:List Kv):Prop:=l.Pairwise fun a b=>Op.bytesLess a.1 b.1=true
theorem xU{pre:List UInt8}{lb:UInt8}{l:List Kv}(h:zF l):zF (Fa pre lb l):=by
 unfold zF Fa;rw [List.pairwise_map];refine h.imp fun{a b}hab=> ?_
 show Op.bytesLess (pre++lb::a.1) (pre++lb::b.1)=true;rw [MV];simp [Op.bytesLess,hab]
theorem VN{pre:List UInt8}:∀{ls:List UInt8}{ps:List Part},DD ls=true->(∀p∈ps,zF p.items)->zF (Bj pre ls ps)
 | [],_,_,_=>by simp [Bj,zF]
 | _::_,[],_,_=>by simp [Bj,zF]
 | lb::ls,p::ps,hr,h=>by
   obtain⟨h1,h2⟩:=JJ hr;rw [Bj];refine ny.2 ⟨xU (h p (Bv ..)),VN h1 (fun q hq=>h q (Bz _ hq)),fun a ha b hb=> ?_⟩;obtain⟨a',_,rfl⟩:=BX.1 ha;obtain⟨i,h3,h4,b',_,rfl⟩:=EJ hb;show Op.bytesLess (pre++lb::a'.1) (pre++ls[i]::b'.1)=true;rw [MV];exact Ti (h2 _ (CU h3)) _ _
theorem DJ.up(ok:BG L s){r:Nat}{name:UInt64}{items:List Kv}{blocks:List Nat}(h:DJ s r name items blocks):zF items:=by
 induction h with
 | mk r name nd parts hrd hpre NI hlen hk ih=>
   obtain⟨o,ho,ht,hr,_⟩:=IZ ok hrd;have hr':=(Bg nd).1 hr;refine ny.2 ⟨?_,VN hr'.2.2.2.2.1 (fun p hp=> ?_),fun a ha b hb=> ?_⟩
   ·unfold BZ;split<;>simp
   ·obtain⟨i,hi,rfl⟩:=List.getElem_of_mem hp;exact ih i (by omega) hi
   ·obtain⟨rfl,_⟩:=Fe ha;obtain⟨i,h3,h4,b',_,rfl⟩:=EJ hb;exact aC _ _ _
theorem Y2{f:Nat}{ahead pre:List UInt8}:∀(ls:List UInt8)(ks:List UInt64)(ps:List Part)(i0:List Kv)(m0:List Int),ls.length=ks.length->ps.length=ks.length->
 (∀i(h1:i<ls.length)(h2:i<ks.length)(h3:i<ps.length)(i0:List Kv)(m0:List Int),(∀o∈ps[i].blocks,(o:Int)∉m0)->Dt s f ks[i] (ahead++pre++[ls[i]]) (i0,m0)=some (i0++ps[i].items.map (fun kv=>(pairs (ahead++pre++ls[i]::kv.1),kv.2)),m0++ps[i].blocks.map CE))->
 (Bc ps).Nodup->(∀o∈Bc ps,(o:Int)∉m0)->
 (ls.zip ks).foldlM (fun st(lk:UInt8×UInt64)=>Dt s f lk.2 (ahead++pre++[lk.1]) st) (i0,m0)=some (i0++(Bj pre ls ps).map (fun kv=>(pairs (ahead++kv.1),kv.2)),m0++(Bc ps).map CE)
 | [],ks,ps,i0,m0,h1,h2,_,_,_=>by
   have:ks=[]:=BK (by simpa using h1.symm);subst this;have:ps=[]:=BK (by simpa using h2);subst this;simp [Bj,Bc]
 | lb::ls,[],ps,i0,m0,h1,_,_,_,_=>by simp at h1
 | lb::ls,k::ks,[],i0,m0,_,h2,_,_,_=>by simp at h2
 | lb::ls,k::ks,p::ps,i0,m0,h1,h2,H,hn,hm=>by
   have e:Bc (p::ps)=p.blocks++Bc ps:=rfl;rw [e]at hn hm;obtain⟨hn1,hn2,hn3⟩:=CW.1 hn;have h0:=H 0 (by simp) (by simp) (by simp) i0 m0 (fun o ho=>hm o (BB _ ho));simp only [List.getElem_cons_zero]at h0;rw [List.zip_cons_cons,List.foldlM_cons,h0];simp only [Option.bind_eq_bind,Option.bind_some];rw [Y2 ls ks ps _ _ (by simpa using h1) (by simpa using h2) (fun i h1 h2 h3 i0 m0 hd=> ?_) hn2 (fun o ho=> ?_)]
   ·rw [e,Bj];simp [Fa,AV,Function.comp_def]
   ·have:=H (i+1) (by simp;omega) (by simp;omega) (by simp;omega) i0 m0 hd;simpa using this
   ·rw [AL];rintro(h| h)
    ·exact hm o (Bo _ ho) h
    ·obtain⟨o',ho',e2⟩:=BX.1 h;have:o'=o:=Int.ofNat.inj e2;subst this;exact hn3 o' ho' o' ho rfl
theorem DJ.Ahv(ok:BG L s){r:Nat}{name:UInt64}{items:List Kv}{blocks:List Nat}(h:DJ s r name items blocks):∀(f:Nat)(ahead:List UInt8)(i0:List Kv)(m0:List Int),r<f->ahead.length+r<=32->blocks.Nodup->(∀o∈blocks,(o:Int)∉m0)->(∀kv∈items,MZ (ahead++kv.1)=true)->
 Dt s f name ahead (i0,m0)=some (i0++items.map (fun kv=>(pairs (ahead++kv.1),kv.2)),m0++blocks.map CE):=by
 induction h with
 | mk r name nd parts hrd hpre NI hlen hk ih=>
   intro f ahead i0 m0 hf hal hn hm hkey;obtain⟨o,ho,ht,hr,_⟩:=IZ ok hrd;have hr':=(Bg nd).1 hr;obtain⟨f,rfl⟩:∃g,f=g+1:=⟨f-1,by omega⟩;obtain⟨hn1,hn2⟩:=List.nodup_cons.1 hn;rw [Dt,hrd]
   dsimp only
   have hmo:=hm (Be name).toNat (Bv ..);rw [ho,BQ]at hmo;rw [if_neg (by
    rw [ho];rintro(h| h)
    ·exact hmo (List.contains_iff_mem.1 h)
    ·simp only [AQ]at h;omega)]
   rw [if_neg (by
    rintro⟨h1,h2⟩;have:=hkey (nd.pre,nd.val) (BB _ (by unfold BZ;rw [if_pos h1];exact BD.2 rfl));rw [this]at h2;cases h2)]
   have hkb:∀o'∈Bc parts,((o':Int))∉m0++[Be name]:=fun o' ho' hc=>by
    rcases AL.1 hc with h| h
    ·exact hm o' (Bz _ ho') h
    ·rw [BD,ho]at h;refine hn1 ?_;rw [ho,BQ];have:o'=o:=by omega
     exact this▸ho'
   rw [Y2 nd.labels nd.kids parts _ _ hr'.2.2.1 hlen (fun i h1 h2 h3 i0 m0 hd=> ?_) hn2 hkb]
   ·simp only [ho,Gn,Cf,BQ,AV,Ci,Et];unfold BZ;split<;>simp
   ·have h8:=NI (by intro e;rw [e]at h2;simp at h2);have hnd:parts[i].blocks.Nodup:=by
     have:=(List.pairwise_flatten.1 hn2).1;exact this _ (BX.2 ⟨_,CU h3,rfl⟩)
    have:=ih i h2 h3 f (ahead++nd.pre++[nd.labels[i]]) i0 m0 (by omega) (by simp only [AQ,BJ,Dy];omega) hnd hd (fun kv hkv=> ?_)
    ·rw [this];simp
    ·have:=hkey (nd.pre++nd.labels[i]::kv.1,kv.2) (Bo _ ?_)
     ·simpa using this
     ·clear ih hk hkey hm hkb hn hn2 hrd NI hlen;have:∀(ls:List UInt8)(ps:List Part)(i:Nat)(h1:i<ls.length)(h3:i<ps.length),kv∈ps[i].items->(nd.pre++ls[i]::kv.1,kv.2)∈Bj nd.pre ls ps:=by
       intro ls;induction ls with
       | nil=>intro ps i h1;simp at h1
       | cons lb ls ih=>
         intro ps i h1 h3 hk;cases ps with
         | nil=>simp at h3
         | cons p ps=>
           rw [Bj];cases i with
           | zero=>exact BB _ (BX.2 ⟨kv,by simpa using hk,rfl⟩)
           | succ i=>exact Bo _ (by simpa using ih ps i (by simpa using h1) (by simpa using h3) (by simpa using hk))
      exact this _ _ i h1 h3 hkv
end
structure Grown(L:Nat)(s0:St)(j:Jb)(B:List Nat):Prop where
 ok:BG L j.s
 sh:j.s.sh=s0.sh
 nh:∀o d,¬Fv j.s o d
 made:j.made=B.map CE
 qo:B.Nodup
 new:∀o∈B,∀d,¬Ba s0 o d
 tk:∀o,(∃d,Ba j.s o d)<->(∃d,Ba s0 o d)\/o∈B
 keep:FH s0 j.s (fun _=>True)
 low:∀i,i<16->j.s.ws i=s0.ws i
theorem Grown.start{L:Nat}{s:St}(ok:BG L s)(nh:∀o d,¬Fv s o d):Grown L s ⟨s,[]⟩ []:=
 ⟨ok,rfl,nh,rfl,List.nodup_nil,(fun _ h=>nomatch h),(fun o=>by simp),FH.refl _ _,fun _ _=>rfl⟩
theorem LP{o:Nat}(h:o<=65536):Be (AA o)=o:=by
 unfold Be;rw [D8 (by omega)];exact wrap64 _ (by omega) (by omega)
section
variable{L:Nat}{s0:St}{j:Jb}{B:List Nat}
theorem OM (g : Grown L s0 j B) {n : Nd} (hr : Cc n = true) :
    DT j n = (j, 0, 6) \/ ∃ j' name o, DT j n = (j', name, 0) /\ o ∉ B /\ Grown L s0 j' (B ++ [o]) /\ Be name = (o : Nat) /\ name ≠ 0 /\ ER j'.s name = some n /\ FH j.s j'.s (fun _ => True) := by
  unfold DT
  rw [hr]
  simp only [Bool.not_true, Bool.false_eq_true, if_false]
  cases hres : C9 j.s (Dl n) with
  | none => exact .inl rfl
  | some p =>
    obtain ⟨off, s1⟩ := p
    right
    obtain ⟨ok1, hw1, fE, Tj, hh1, _, hh2, ht1⟩ := PS g.ok (OL n) hres
    have hb1 := hh1.bounds ok1
    have htf := ok1.sh.NR
    have hL1 := g.ok.L1
    have h12 := OL n
    have hlen := JK n
    obtain ⟨l1, l2, l3, l4⟩ := EI h12
    have hput : ∀ i, ¬ Gy off (Dl n) i -> BA s1.ws (off / 8) (DI n) i = s1.ws i := fun i hi => by
      unfold BA
      rw [if_neg]
      intro h
      exact hi ⟨h.1, by rw [hlen] at h; exact h.2⟩
    have hnot : ∀ i, i < 16 + s1.sh.BM -> ¬ Gy off (Dl n) i := fun i hi h => by
      unfold Gy at h; omega
    obtain ⟨s1', hs1'⟩ : ∃ s1', s1' = ({ s1 with ws := BA s1.ws (off / 8) (DI n) } : St) := ⟨_, rfl⟩
    have Tm : BG L s1' := hs1' ▸ ok1.words (fun i hi => hput _ (hnot _ (by omega)))
    have fF : Fv s1' off (Dl n) := by rw [hs1']; exact hh1
    obtain ⟨s2, e2, ok2, hsh2, hw2, ht2, Ahw⟩ := fC Tm fF
    have kP : s1'.sh = s1.sh := by rw [hs1']
    have ht1' : ∀ o d, Ba s1' o d <-> Ba j.s o d := fun o d => by rw [hs1']; exact ht1 o d
    have hoff := LP (o := off) (by omega)
    have hkeep : FH j.s s2 (fun _ => True) := fun o c _ ht => by
      have Y3 := (ht1' o c).2 ht
      obtain ⟨hne, hap⟩ := N8 Tm fF Y3
      have iR := Y3.bounds Tm
      refine ⟨(ht2 o c).2 (.inl Y3), fun i hi => ?_⟩
      rw [hw2 i (.inr (Tm.DC iR.1 hi)), hs1']
      show BA s1.ws (off / 8) (DI n) i = _
      rw [hput i (fun h => Ob hap hb1.2.2 iR.2.2 h hi), hw1]
    have hnew : ∀ d, ¬ Ba j.s off d := fun d hd => (N8 Tm fF ((ht1' off d).2 hd)).1 rfl
    have hnB : off ∉ B := fun h => by
      obtain ⟨d, hd⟩ := (g.tk off).2 (.inr h)
      exact hnew d hd
    have hrd : ER s2 (AA off) = some n := by
      refine WR ok2 hoff ((ht2 _ _).2 (.inr ⟨rfl, rfl⟩)) hr ?_
      unfold wordsAt
      refine List.ext_getElem (by simp [hlen]) fun t h1 h2 => ?_
      simp only [List.getElem_map, List.getElem_range]
      have htl : t < 8 * AZ (Dl n) := by simpa using h1
      have hib : Gy off (Dl n) (off / 8 + t) := ⟨by omega, by omega⟩
      rw [hw2 _ (.inr (Tm.DC (by rw [kP]; exact hb1.1) hib)), hs1']
      show BA s1.ws (off / 8) (DI n) (off / 8 + t) = _
      unfold BA
      rw [if_pos ⟨by omega, by omega⟩, Nat.add_sub_cancel_left, Bh, Ag h2]
      rfl
    refine ⟨⟨s2, j.made ++ [(off : Int)]⟩, AA off, off, ?_, hnB, ⟨ok2, by rw [hsh2, kP, fE, g.sh], fun o d h => ?_, by rw [g.made]; simp, ?_, fun o ho d hd => ?_, fun o => ?_, g.keep.trans hkeep, fun i hi => ?_⟩, hoff, ?_, hrd, hkeep⟩
    · rw [hs1'] at e2
      simp only [e2, if_true]
    · obtain ⟨h1, h2⟩ := (Ahw o d).1 h
      rw [hs1'] at h1
      rcases hh2 o d h1 with h3 | h3
      · exact g.nh o d h3
      · exact h2 h3
    · exact CW.2 ⟨g.qo, by simp, fun a ha b hb e => by rw [BD] at hb; subst hb; exact hnB (e ▸ ha)⟩
    · rcases AL.1 ho with h | h
      · exact g.new o h d hd
      · rw [BD] at h
        subst h
        obtain ⟨d', hd'⟩ := (g.tk o).2 (.inl ⟨d, hd⟩)
        exact hnew d' hd'
    · have h1 : (∃ d, Ba s2 o d) <-> (∃ d, Ba j.s o d) \/ o = off := by
        constructor
        · rintro ⟨d, hd⟩
          rcases (ht2 o d).1 hd with h | h
          · exact .inl ⟨d, (ht1' o d).1 h⟩
          · exact .inr h.1
        · rintro (⟨d, hd⟩ | rfl)
          · exact ⟨d, (ht2 o d).2 (.inl ((ht1' o d).2 hd))⟩
          · exact ⟨_, (ht2 _ _).2 (.inr ⟨rfl, rfl⟩)⟩
      show (∃ d, Ba s2 o d) <-> _
      rw [h1, g.tk o, AL, BD, or_assoc]
    · show s2.ws i = _
      rw [hw2 i (.inl hi), hs1']
      show BA s1.ws (off / 8) (DI n) i = _
      rw [hput i (hnot i (by omega)), hw1, g.low i hi]
    · intro e
      have := congrArg UInt64.toNat e
      rw [D8 (by omega)] at this
      simp at this
      omega
def Abv(L:Nat)(s0:St)(j:Jb)(B:List Nat)(r:Nat)(l:List UInt8)(value:UInt64)(res:Jb×UInt64×Int):Prop:=
 (res.2.2=6/\∃B',Grown L s0 res.1 B')\/
 (res.2.2=0/\∃C bl,Grown L s0 res.1 (B++C)/\FH j.s res.1.s (fun _=>True)/\res.2.1≠0/\DJ res.1.s r res.2.1 [(l,value)] bl/\bl.Perm C)
theorem xW{s:St}{name:UInt64}{l:List UInt8}{value:UInt64}{r o:Nat}(h:ER s name=some ⟨l,value,[],[]⟩)(ho:Be name=o)(hl:l.length<=r)(hv:value≠0):DJ s r name [(l,value)] [o]:=by
 have:=DJ.mk r name ⟨l,value,[],[]⟩ [] h hl (fun h=>absurd rfl h) rfl (fun i h1 _=>absurd h1 (by simp));rw [ho,BQ]at this;simpa [BZ,Bj,Bc,hv]using this
theorem Tn{pre:List UInt8}{val:UInt64}{label:UInt8}{kid:UInt64}(hp:pre.length<=15)(hn:pre.all DR=true)(h16:DR label=true)(hk:kid≠0):JS ⟨pre,val,[],[]⟩ label kid=true/\Ij ⟨pre,val,[],[]⟩ label kid=⟨pre,val,[label],[kid]⟩/\Cc ⟨pre,val,[label],[kid]⟩=true/\Cc ⟨pre,val,[],[]⟩=true:=by
 have hr0:Cc ⟨pre,val,[],[]⟩=true:=by
  rw [Bg];exact⟨hp,hn,rfl,rfl,rfl,fun i h=>absurd h (by simp)⟩
 have hk':kid.toNat≠0:=fun e=>hk (DL.1 (by simpa using e))
 refine⟨?_,rfl,?_,hr0⟩
 ·rw [QD];exact⟨hr0,by simpa [DR]using h16,hk',rfl⟩
 ·rw [Bg];refine⟨hp,hn,rfl,by simp [h16],rfl,fun i h=> ?_⟩;simp only [BJ,Dy]at h;have:i=0:=by omega
  subst this;exact hk'
theorem kQ{s:St}{name kid:UInt64}{pre:List UInt8}{val:UInt64}{label:UInt8}{r o:Nat}{il:List Kv}{bl:List Nat}(h:ER s name=some ⟨pre,val,[label],[kid]⟩)(ho:Be name=o)(hl:pre.length+1<=r)(ht:DJ s (r-pre.length-1) kid il bl):
 DJ s r name ((if val≠0 then [(pre,val)]else [])++Fa pre label il) (o::bl):=by
 have:=DJ.mk r name ⟨pre,val,[label],[kid]⟩ [⟨il,bl⟩] h (by simp only;omega) (fun _=>hl) rfl (fun i h1 h2=>by
  simp only [BJ,Dy]at h1;have:i=0:=by omega
  subst this;exact ht)
 rw [ho,BQ]at this;simpa [BZ,Bj,Bc]using this
theorem WS:∀(f:Nat){j:Jb}{B:List Nat}(_:Grown L s0 j B)(r:Nat)(l:List UInt8)(value:UInt64),l.length<f->l.length<=r->l.all DR=true->value≠0->Abv L s0 j B r l value (Je f j l value)
 | 0,_,_,_,_,_,_,h,_,_,_=>absurd h (by omega)
 | f+1,j,B,g,r,l,value,hf,hlr,hn,hv=>by
   rw [Je];by_cases h15:l.length<=15
   ·rw [if_pos h15];have hr:Cc ⟨l,value,[],[]⟩=true:=by
     rw [Bg];exact⟨h15,hn,rfl,rfl,rfl,fun i h=>absurd h (by simp)⟩
    rcases OM g hr with e| ⟨j',name,o,e,ho,g',hoff,hn0,hrd,hk⟩
    ·rw [e];exact .inl ⟨rfl,B,g⟩
    ·rw [e];exact .inr ⟨rfl,[o],[o],g',hk,hn0,xW hrd hoff hlr hv,List.Perm.refl _⟩
   ·rw [if_neg h15];have ih:=WS f g (r-15-1) (l.drop 16) value (by rw [AO];omega) (by rw [AO];omega) (TM _ _ _ hn) hv;generalize Je f j (l.drop 16) value=res at ih;obtain⟨j1,kid,e⟩:=res;simp only;unfold EX;rcases ih with⟨e1,B',g1⟩| ⟨e1,C,bl,g1,hk1,hn1,ht1,hp1⟩
    ·simp only at e1 g1;subst e1;rw [if_pos (by decide)];exact .inl ⟨rfl,B',g1⟩
    ·simp only at e1 g1 hk1 hn1 ht1;subst e1;rw [if_neg (by simp)];have hlt:(l.take 15).length=15:=by simp;omega
     have Alf:l.getD 15 0=l[15]'(by omega):=by rw [Bh,Ag (by omega)];rfl
     have hlab:DR (l.getD 15 0)=true:=by rw [Alf];exact Em.1 hn _ (CU _)
     obtain⟨w1,w2,w3,_⟩:=Tn (val:=0) (Nat.le_of_eq hlt) (TL _ _ 15 hn) hlab hn1;rw [if_pos w1,w2];rcases OM g1 w3 with e| ⟨j',name,o,e,ho,g',hoff,hn0,hrd,hk⟩
     ·rw [e];exact .inl ⟨rfl,_,g1⟩
     ·rw [e];refine .inr ⟨rfl,C++[o],o::bl,by rw [<-AV];exact g',hk1.trans hk,hn0,?_,?_⟩
      ·have:=kQ (r:=r) hrd hoff (by rw [hlt];omega) (by rw [hlt];exact ht1.keep g1.ok g'.ok hk (fun _ _=>trivial));have e2:l.take 15++l.getD 15 0::l.drop 16=l:=by
        rw [Alf]
        conv=>rhs;rw [<-Gt 15 l]
        rw [Fz (by omega:15<l.length)]
       rw [if_neg (by simp),Et]at this;unfold Fa at this;simp only [Cf,FY,e2]at this;exact this
      ·refine List.Perm.trans ?_ (List.perm_append_singleton o C).symm;exact List.Perm.cons _ hp1
end
theorem MM(pre:List UInt8):∀(a b:List UInt8)(c d:List Part),a.length=c.length->Bj pre (a++b) (c++d)=Bj pre a c++Bj pre b d
 | [],b,[],d,_=>by simp [Bj]
 | [],b,_::_,d,h=>by simp at h
 | _::_,b,[],d,h=>by simp at h
 | x::a,b,p::c,d,h=>by
   simp only [Ci,Bj,MM pre a b c d (by simpa using h),AV]
theorem QF(pre:List UInt8)(ls:List UInt8)(ps:List Part)(i:Nat)(h:ls.length=ps.length):Bj pre ls ps=Bj pre (ls.take i) (ps.take i)++Bj pre (ls.drop i) (ps.drop i):=by
 rw [<-MM _ _ _ _ _ (by simp [h]),Gt,Gt]
theorem Oo(a b:List Part):Bc (a++b)=Bc a++Bc b:=by simp [Bc]
theorem PZ(ps:List Part)(i:Nat):Bc ps=Bc (ps.take i)++Bc (ps.drop i):=by rw [<-Oo,Gt]
theorem VO{l:List UInt8}{k:Nat}(h:k<l.length):l.getD k 0=l[k]:=by rw [Bh,Ag h];rfl
theorem Ae1{l:List UInt8}{k:Nat}(h:k<l.length):l.take k++l.getD k 0::l.drop (k+1)=l:=by
 rw [VO h,<-Fz h,Gt]
theorem Abw{x:UInt64}(h:x≠0):x.toNat≠0:=fun e=>h (DL.1 (by simpa using e))
section
variable{L:Nat}{s0:St}{j:Jb}{B:List Nat}
theorem kR (g : Grown L s0 j B) {x : Nd} (hx : Cc x = true) {parts : List Part} (hlen : parts.length = x.kids.length) {label : UInt8} (h16 : DR label = true) (hno : Oz x.labels label = false) {kid : UInt64} (hk0 : kid ≠ 0) {r : Nat} (hr : x.pre.length + 1 <= r)
    (hk : ∀ i (h1 : i < x.kids.length) (h2 : i < parts.length), DJ j.s (r - x.pre.length - 1) x.kids[i] parts[i].items parts[i].blocks) {il : List Kv} {bl : List Nat} (ht : DJ j.s (r - x.pre.length - 1) kid il bl) :
    EX j x label kid 0 = (j, 0, 6) \/ ∃ j' name o, EX j x label kid 0 = (j', name, 0) /\ Grown L s0 j' (B ++ [o]) /\ FH j.s j'.s (fun _ => True) /\ name ≠ 0 /\ ∃ Vf Tq, DJ j'.s r name Vf Tq /\ Tq.Perm (o :: bl ++ Bc parts) /\
      ∀ kv, kv ∈ Vf <-> kv ∈ BZ x ++ Bj x.pre x.labels parts \/ kv ∈ Fa x.pre label il := by
  have hok : JS x label kid = true := (QD _ _ _).2 ⟨hx, by simpa [DR] using h16, Abw hk0, hno⟩
  have F := kK x label kid hok
  have hxr := (Bg x).1 hx
  unfold EX
  rw [if_neg (by simp), if_pos hok]
  rcases OM g F.right with e | ⟨j', name, o, e, ho, g', hoff, hn0, hrd, hkp⟩
  · exact .inl e
  · right
    obtain ⟨p, hp⟩ : ∃ p, p = FD x.labels label := ⟨_, rfl⟩
    have hpl : p <= x.labels.length := hp ▸ F.place
    have hll : x.labels.length = x.kids.length := hxr.2.2.1
    have T := DJ.mk r name (Ij x label kid) (Jp parts p ⟨il, bl⟩) hrd (by show x.pre.length <= r; omega) (fun _ => hr) (by rw [Oa _ _ _ (by omega), F.Ale, hlen]) (fun i h1 h2 => by
      have e1 := Js x.kids p kid (by omega) i
      have e2 := Js parts p ⟨il, bl⟩ (by omega) i
      have e1' : (Jp x.kids p kid)[i]? = some (Ij x label kid).kids[i] := (congrArg (fun l => l[i]?) (show Jp x.kids p kid = (Ij x label kid).kids by rw [hp]; rfl)).trans (Ag h1)
      rw [Ag h2] at e2
      rw [e1] at e1'
      show DJ j'.s (r - x.pre.length - 1) (Ij x label kid).kids[i] _ _
      have hlen2 : (Ij x label kid).kids.length = x.kids.length + 1 := F.Ale
      by_cases h3 : i < p
      · rw [if_pos h3] at e1' e2
        rw [Ag (by omega)] at e1' e2
        injection e1' with e1'
        injection e2 with e2
        rw [e2]
        have := (hk i (by omega) (by omega)).keep g.ok g'.ok hkp (fun _ _ => trivial)
        simp only [e1'] at this ⊢
        first | exact this | (rw [<- e1']; exact this)
      · rw [if_neg h3] at e1' e2
        by_cases h4 : i = p
        · rw [if_pos h4] at e1' e2
          injection e1' with e1'
          injection e2 with e2
          rw [e2]
          have := ht.keep g.ok g'.ok hkp (fun _ _ => trivial)
          first | exact e1' ▸ this | (rw [<- e1']; exact this)
        · rw [if_neg h4] at e1' e2
          rw [Ag (by omega)] at e1' e2
          injection e1' with e1'
          injection e2 with e2
          rw [e2]
          have := (hk (i - 1) (by omega) (by omega)).keep g.ok g'.ok hkp (fun _ _ => trivial)
          first | exact e1' ▸ this | (rw [<- e1']; exact this))
    rw [hoff, BQ] at T
    refine ⟨j', name, o, e, g', hkp, hn0, _, _, T, ?_, fun kv => ?_⟩
    · refine List.Perm.cons _ ?_
      unfold Jp
      rw [Oo, PZ parts p]
      show (Bc (parts.take p) ++ (bl ++ Bc (parts.drop p))).Perm (bl ++ (Bc (parts.take p) ++ Bc (parts.drop p)))
      rw [<- AV, <- AV]
      exact List.Perm.append_right _ List.perm_append_comm
    · have e1 : Bj x.pre (Jp x.labels p label) (Jp parts p ⟨il, bl⟩) = Bj x.pre (x.labels.take p) (parts.take p) ++ (Fa x.pre label il ++ Bj x.pre (x.labels.drop p) (parts.drop p)) := by
        unfold Jp
        rw [MM _ _ _ _ _ (by simp; omega)]
        rfl
      rw [show (Ij x label kid).labels = Jp x.labels p label by rw [hp]; rfl, show (Ij x label kid).pre = x.pre from rfl, show BZ (Ij x label kid) = BZ x from rfl, e1, QF x.pre x.labels parts p (by omega)]
      simp only [AL]
      grind
theorem aF(x:Nd)(k:Nat)(hk:k<x.pre.length):∀(parts:List Part),Fa (x.pre.take k) (x.pre.getD k 0) (BZ {x with pre:=x.pre.drop (k+1)}++Bj (x.pre.drop (k+1)) x.labels parts)=BZ x++Bj x.pre x.labels parts:=by
 have e:∀t,x.pre.take k++x.pre.getD k 0::(x.pre.drop (k+1)++t)=x.pre++t:=fun t=>by
  rw [<-Ci,<-AV,Ae1 hk]
 have e0:x.pre.take k++x.pre.getD k 0::x.pre.drop (k+1)=x.pre:=by simpa using e []
 have h:∀(ls:List UInt8)(ps:List Part),Fa (x.pre.take k) (x.pre.getD k 0) (Bj (x.pre.drop (k+1)) ls ps)=Bj x.pre ls ps:=by
  intro ls;induction ls with
  | nil=>intro ps;simp [Bj,Fa]
  | cons lb ls ih=>
    intro ps;cases ps with
    | nil=>simp [Bj,Fa]
    | cons p ps=>
      have:=ih ps;unfold Fa at this⊢;simp only [Bj,Gn,this];congr 1;unfold Fa;rw [List.map_map];refine TE fun kv _=> ?_
      simp only [Function.comp_apply];rw [e]
 intro parts;have h2:=h x.labels parts;unfold Fa at h2⊢;rw [Gn,h2];congr 1;unfold BZ
 dsimp only
 split
 ·simp only [Cf,FY];rw [e0]
 ·rfl
def Abx(L:Nat)(s0:St)(r:Nat)(x:Nd)(parts:List Part)(rest:List UInt8)(value:UInt64)(res:Jb×UInt64×Int):Prop:=
 (res.2.2=6/\∃B',Grown L s0 res.1 B')\/
 (res.2.2=0/\∃C Vf Tq,Grown L s0 res.1 C/\res.2.1≠0/\DJ res.1.s r res.2.1 Vf Tq/\Tq.Perm (C++Bc parts)/\∀kv,kv∈Vf<->kv∈BZ x++Bj x.pre x.labels parts\/kv=(rest,value))
theorem Ae2(ok:BG L s0)(nh:∀o d,¬Fv s0 o d){x:Nd}(hx:Cc x=true){parts:List Part}(hlen:parts.length=x.kids.length){r:Nat}(hpre:x.pre.length<=r)(NI:x.kids≠[]->x.pre.length+1<=r)
 (hk:∀i(h1:i<x.kids.length)(h2:i<parts.length),DJ s0 (r-x.pre.length-1) x.kids[i] parts[i].items parts[i].blocks){rest:List UInt8}{value:UInt64}(hrl:rest.length<=r)(hrn:rest.all DR=true)(hv:value≠0)(hne:x.pre≠rest)
 (hno:common x.pre rest=x.pre.length->Oz x.labels (rest.getD (common x.pre rest) 0)=false):Abx L s0 r x parts rest value (I4 ⟨s0,[]⟩ x rest value):=by
 have g0:=Grown.start ok nh;have hxr:=(Bg x).1 hx;have hcl:=I8 x.pre rest;have hcr:=EP x.pre rest;have hct:=Qq x.pre rest;unfold I4;by_cases hc:common x.pre rest=x.pre.length
 ·rw [if_pos hc];have hlt:x.pre.length<rest.length:=by
   rcases Nat.lt_or_ge x.pre.length rest.length with h| h
   ·exact h
   ·exfalso;refine hne ?_;rw [hc,Qb,List.take_of_length_le (by omega)]at hct;exact hct
  have hno':=hno hc;rw [hc]at hno' hct⊢;rw [Qb]at hct;have hcut:=Ae1 hlt;rw [<-hct]at hcut;have hlab:DR (rest.getD x.pre.length 0)=true:=by rw [VO hlt];exact Em.1 hrn _ (CU _)
  have hL:=WS (rest.length+1) g0 (r-x.pre.length-1) (rest.drop (x.pre.length+1)) value (by rw [AO];omega) (by rw [AO];omega) (TM _ _ _ hrn) hv;generalize Je (rest.length+1) ⟨s0,[]⟩ (rest.drop (x.pre.length+1)) value=res at hL;obtain⟨j1,kid,e⟩:=res;rcases hL with⟨e1,B',g1⟩| ⟨e1,C,bl,g1,hk1,hn1,ht1,hp1⟩
  ·simp only at e1 g1;subst e1;simp only;unfold EX;rw [if_pos (by decide)];exact .inl ⟨rfl,B',g1⟩
  ·simp only at e1 g1 hk1 hn1 ht1;subst e1;simp only;rw [Et]at g1;rcases kR (r:=r) g1 hx hlen hlab hno' hn1 (by omega) (fun i h1 h2=>(hk i h1 h2).keep ok g1.ok hk1 (fun _ _=>trivial)) ht1 with e| ⟨j',name,o,e,g',hkp,hn0,Vf,Tq,T,hp,hm⟩
   ·rw [e];exact .inl ⟨rfl,_,g1⟩
   ·rw [e];refine .inr ⟨rfl,C++[o],Vf,Tq,g',hn0,T,hp.trans ?_,fun kv=> ?_⟩
    ·rw [AV];refine List.Perm.trans (l₂:=o::(C++Bc parts)) (List.Perm.cons _ (List.Perm.append_right _ hp1)) ?_;exact List.perm_middle.symm
    ·rw [hm kv];unfold Fa;simp only [Cf,FY,BD,hcut]
 ·rw [if_neg hc];have hlt:common x.pre rest<x.pre.length:=by omega
  obtain⟨k,hkk⟩:∃k,k=common x.pre rest:=⟨_,rfl⟩;have hst:=Vz x.pre rest;rw [<-hkk]at hlt hct hcr hst⊢;have hlab:DR (x.pre.getD k 0)=true:=by rw [VO hlt];exact Em.1 hxr.2.1 _ (CU _)
  have htl:(x.pre.take k).length=k:=by simp;omega
  have hlow:Cc {x with pre:=x.pre.drop (k+1)}=true:=by
   rw [Bg];exact⟨by simp only [AO];omega,TM _ _ _ hxr.2.1,hxr.2.2.1,hxr.2.2.2.1,hxr.2.2.2.2.1,hxr.2.2.2.2.2⟩
  rcases OM g0 hlow with e| ⟨j1,kid,o1,e,ho1,g1,Alg,hn1,Ant,Anu⟩
  ·rw [e];simp only;split
   ·unfold EX;rw [if_pos (by decide)];exact .inl ⟨rfl,_,g0⟩
   ·rw [if_pos (by decide)];exact .inl ⟨rfl,_,g0⟩
  ·rw [e];simp only;rw [Et]at g1;have T1:=DJ.mk (r-k-1) kid {x with pre:=x.pre.drop (k+1)} parts Ant (by simp only [AO];omega) (fun h=>by have:=NI h;simp only [AO];omega) hlen (fun i h1 h2=>by
    have:=(hk i h1 h2).keep ok g1.ok Anu (fun _ _=>trivial);have e2:r-k-1- ({x with pre:=x.pre.drop (k+1)}:Nd).pre.length-1=r-x.pre.length-1:=by simp only [AO];omega
    rw [e2];exact this)
   rw [Alg,BQ]at T1;by_cases hr:k=rest.length
   ·rw [if_pos hr];have hrest:rest=x.pre.take k:=by rw [hct,hr,Qb]
    obtain⟨w1,w2,w3,_⟩:=Tn (pre:=x.pre.take k) (val:=value) (by rw [htl];omega) (TL _ _ _ hxr.2.1) hlab hn1;unfold EX;rw [if_neg (by simp),if_pos w1,w2];rcases OM g1 w3 with e| ⟨j2,name,o2,e,ho2,g2,Alh,hn2,Anv,Anw⟩
    ·rw [e];exact .inl ⟨rfl,_,g1⟩
    ·rw [e];have T2:=kQ (r:=r) Anv Alh (by rw [htl];omega) (by rw [htl];exact T1.keep g1.ok g2.ok Anw (fun _ _=>trivial));rw [aF x k hlt parts,if_pos hv]at T2;refine .inr ⟨rfl,[o1]++[o2],_,_,g2,hn2,T2,?_,fun kv=> ?_⟩
     ·exact(List.Perm.swap o1 o2 _)
     ·rw [hrest];simp only [Ci,Et,List.mem_cons];exact Or.comm
   ·rw [if_neg hr,if_neg (by simp)];have Ae3:k<rest.length:=by omega
    obtain⟨w1,w2,w3,_⟩:=Tn (pre:=x.pre.take k) (val:=0) (by rw [htl];omega) (TL _ _ _ hxr.2.1) hlab hn1;rw [if_pos w1,w2];have Ali:DR (rest.getD k 0)=true:=by rw [VO Ae3];exact Em.1 hrn _ (CU _)
    have hL:=WS (rest.length+1) g1 (r-k-1) (rest.drop (k+1)) value (by rw [AO];omega) (by rw [AO];omega) (TM _ _ _ hrn) hv;generalize Je (rest.length+1) j1 (rest.drop (k+1)) value=res at hL;obtain⟨j2,bK,e⟩:=res;rcases hL with⟨e1,B',g2⟩| ⟨e1,C,bl,g2,hk2,hn2,ht2,hp2⟩
    ·simp only at e1 g2;subst e1;simp only;unfold EX;rw [if_pos (by decide)];exact .inl ⟨rfl,B',g2⟩
    ·simp only at e1 g2 hk2 hn2 ht2;subst e1;simp only;have hdiff:Oz [x.pre.getD k 0] (rest.getD k 0)=false:=by
      have h1:=hst hlt Ae3;unfold Oz;simp only [List.any_cons,List.any_nil,Bool.or_false,beq_eq_false_iff_ne];rw [VO hlt,VO Ae3];exact fun e=>h1 (UInt8.toNat_inj.1 e)
     rcases kR (r:=r) (parts:=[⟨_,_⟩]) g2 w3 rfl Ali hdiff hn2 (by rw [htl];omega) (fun i h1 h2=>by
      simp only [BJ,Dy]at h1;have:i=0:=by omega
      subst this;rw [show(⟨x.pre.take k,0,[x.pre.getD k 0],[kid]⟩:Nd).pre.length=k from htl];exact T1.keep g1.ok g2.ok hk2 (fun _ _=>trivial)) (by rw [show(⟨x.pre.take k,0,[x.pre.getD k 0],[kid]⟩:Nd).pre.length=k from htl];exact ht2)with e| ⟨j',name,o,e,g',hkp,hn0,Vf,Tq,T,hp,hm⟩
     ·rw [e];exact .inl ⟨rfl,_,g2⟩
     ·rw [e];refine .inr ⟨rfl,[o1]++C++[o],Vf,Tq,g',hn0,T,hp.trans ?_,fun kv=> ?_⟩
      ·have e3:Bc [⟨BZ {x with pre:=x.pre.drop (k+1)}++Bj (x.pre.drop (k+1)) x.labels parts,o1::Bc parts⟩]=o1::Bc parts:=by simp [Bc]
       rw [e3];have p1:(o::bl++o1::Bc parts).Perm (o::C++o1::Bc parts):=List.Perm.append_right _ (List.Perm.cons _ hp2);refine p1.trans ?_;have e4:[o1]++C++[o]++Bc parts=o1::(C++o::Bc parts):=by simp
       rw [e4];refine(zK (a:=o1) (l₁:=o::C) (l₂:=Bc parts)).trans (List.Perm.cons _ ?_);exact(zK (a:=o) (l₁:=C) (l₂:=Bc parts)).symm
      ·rw [hm kv];have e3:BZ (⟨x.pre.take k,0,[x.pre.getD k 0],[kid]⟩:Nd)++Bj (x.pre.take k) [x.pre.getD k 0] [⟨BZ {x with pre:=x.pre.drop (k+1)}++Bj (x.pre.drop (k+1)) x.labels parts,o1::Bc parts⟩]=BZ x++Bj x.pre x.labels parts:=by
        rw [<-aF x k hlt parts];simp [BZ,Bj]
       rw [e3];have e4:x.pre.take k++rest.getD k 0::rest.drop (k+1)=rest:=by rw [hct];exact Ae1 Ae3
       unfold Fa;simp only [Cf,FY,BD,e4]
end
end Go.Proofs.YtjcppneoncpdbaaGreatDoor
