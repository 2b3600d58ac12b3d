import Derived.Test.YtkimaejoeapmnaaGreatDoorG14
import Derived.Test.YtkimaejoeapmnaaGreatDoorG30
open List renaming find?_some->Yr,getD_eq_getElem?_getD->Bh,mem_of_find?_eq_some->bU,mem_range->Dj,length_set->Dh,map_congr_left->FO,mem_map->Bf,getElem_mem->BM,mem_cons_self->Bq,mem_cons_of_mem->BO,mem_append->AL,mem_singleton->BC,all_eq_true->E8,length_append->AQ,length_cons->BJ,pairwise_append->sK,eq_nil_of_length_eq_zero->Ce,nodup_append->Cj,mem_append_left->BD,append_assoc->AX,mem_append_right->Bj,map_append->Dq,map_cons->BU,cons_append->CJ,nil_append->Fz,length_nil->Dt,getElem?_eq_getElem->Af,length_drop->AV,take_append_drop->GN,drop_eq_getElem_cons->Ea,map_nil->Gq,take_length->MG,perm_middle->Ady
open Nat renaming mul_le_mul_left->Us,mul_add->xZ,mul_one->KG,mul_assoc->Nh,lt_trichotomy->Adx,succ_eq_add_one->Aag
open Int renaming toNat_natCast->Cm,ofNat->Cc
open UInt64 renaming ofNat->AA,toNat_inj->Eo
namespace Go.Proofs.YtkimaejoeapmnaaGreatDoor
theorem Ajh{n many k:Nat}(h:gX n many=some k):n.testBit k=false:=by
 unfold gX at h;have:=Yr h;simpa using this
structure BA(L:Nat)(s:St):Prop where
 sh:aX L s.sh
 L1:L<=1024
 NR:s.tk.length=s.sh.BI
 kL:s.hd.length=s.sh.BI
 tk:∀i,i<s.sh.BI->OkW (GR s i)
 hd:∀i,i<s.sh.BI->OkW (hdN s i)
 cls:∀i,i<s.sh.BI->GR s i=0\/hdN s i=0\/Bd (GR s i)=Bd (hdN s i)
 Yd:∀i a,i<s.sh.BI->EK (GR s i) a=true->EK (hdN s i) a=false
 tab:∀i,i<s.sh.BI->s.ws (16+i)=s.tk.getD i 0
def AP(s:St)(off c:Nat):Prop:=∃i a,i<s.sh.BI/\EK (GR s i) a=true/\Bd (GR s i)=c/\off=CW s.sh i c a
def EI(s:St)(off c:Nat):Prop:=∃i a,i<s.sh.BI/\EK (hdN s i) a=true/\Bd (hdN s i)=c/\off=CW s.sh i c a
theorem Fe{c:Nat}(h:c=1\/c=2):Be c*Bv c=16/\0<Be c/\0<Bv c/\Be c<=4:=by
 rcases h with rfl| rfl<;>decide
theorem Mc{sh:Sh}{i c a:Nat}(hc:c=1\/c=2)(ha:a<Bv c):sh.data+1024*i<=CW sh i c a/\CW sh i c a+64*Be c<=sh.data+1024*(i+1):=by
 obtain⟨h1,h2,h3,_⟩:=Fe hc;unfold CW;have h4:Be c*(a+1)<=16:=by rw [<-h1];exact Us _ ha
 rw [xZ,KG]at h4;rw [Nh];omega
theorem Wh{sh:Sh}{i j c d a b:Nat}(hc:c=1\/c=2)(hd:d=1\/d=2)(ha:a<Bv c)(hb:b<Bv d)(h:CW sh i c a=CW sh j d b):i=j:=by
 have h1:=Mc (sh:=sh) (i:=i) hc ha;have h2:=Mc (sh:=sh) (i:=j) hd hb;have h3:=(Fe hc).2.1;have h4:=(Fe hd).2.1;rcases Adx i j with h5| h5| h5
 ·omega
 ·exact h5
 ·omega
theorem Uc{sh:Sh}{i c a b:Nat}(hc:c=1\/c=2)(h:CW sh i c a=CW sh i c b):a=b:=by
 unfold CW at h;have h2:=(Fe hc).2.1;have:64*Be c*a=64*Be c*b:=by omega
 exact Nat.eq_of_mul_eq_mul_left (by omega) this
theorem Xi{sh:Sh}{i j c d a b:Nat}(hc:c=1\/c=2)(hd:d=1\/d=2)(ha:a<Bv c)(hb:b<Bv d)(hcd:i=j->c=d)(h:CW sh i c a≠CW sh j d b):
 CW sh i c a+64*Be c<=CW sh j d b\/CW sh j d b+64*Be d<=CW sh i c a:=by
 have h1:=Mc (sh:=sh) (i:=i) hc ha;have h2:=Mc (sh:=sh) (i:=j) hd hb;rcases Adx i j with h5| h5| h5
 ·omega
 ·subst h5;obtain rfl:=hcd rfl;have hab:a≠b:=fun e=>h (by rw [e])
  unfold CW;rcases Nat.lt_or_gt_of_ne hab with h6| h6
  ·have:=Us (64*Be c) h6;rw [Aag,xZ,KG]at this;omega
  ·have:=Us (64*Be c) h6;rw [Aag,xZ,KG]at this;omega
 ·omega
section
variable{L:Nat}{s:St}
theorem BA.both(ok:BA L s){i:Nat}(hi:i<s.sh.BI):OkW (GR s i||| hdN s i)/\(∀a,EK (GR s i||| hdN s i) a=(EK (GR s i) a|| EK (hdN s i) a))/\(GR s i≠0->Bd (GR s i||| hdN s i)=Bd (GR s i))/\(hdN s i≠0->Bd (GR s i||| hdN s i)=Bd (hdN s i)):=Ab4 (ok.tk i hi) (ok.hd i hi) (ok.cls i hi)
theorem BA.Qn(ok:BA L s){i a:Nat}(hi:i<s.sh.BI)(ha:EK (GR s i) a=true):∃c,SW (GR s i) c/\Bd (CE s i)=c/\a<Bv c:=by
 obtain⟨c,hS,hb,_⟩:=(ok.tk i hi).Rq ha;exact⟨c,hS,by unfold CE;rw [(ok.both hi).2.2.1 hS.ne,hS.class],hb⟩
theorem BA.ZJ(ok:BA L s){i a:Nat}(hi:i<s.sh.BI)(ha:EK (hdN s i) a=true):∃c,SW (hdN s i) c/\Bd (CE s i)=c/\a<Bv c:=by
 obtain⟨c,hS,hb,_⟩:=(ok.hd i hi).Rq ha;exact⟨c,hS,by unfold CE;rw [(ok.both hi).2.2.2 hS.ne,hS.class],hb⟩
theorem Ud(ok:BA L s){i c a:Nat}(hi:i<s.sh.BI)(hc:Bd (CE s i)=c)(h12:c=1\/c=2)(ha:a<Bv c):Hz s (CW s.sh i c a:Nat)=some (i,a):=by
 have h1:=Mc (sh:=s.sh) (i:=i) h12 ha;obtain⟨h2,h3,h4,h5⟩:=Fe h12;have hlen:=ok.NR;have e1:(CW s.sh i c a-s.sh.data)/1024=i:=by omega
 have e2:(CW s.sh i c a-s.sh.data)%1024=64*Be c*a:=by
  have:CW s.sh i c a-s.sh.data=1024*i+64*Be c*a:=by unfold CW;omega
  omega
 unfold Hz;rw [if_neg (by omega)];simp only [Cm,e1,e2,hc];rw [if_neg (by rw [Nat.mul_mod_right];omega),Nat.mul_div_cancel_left _ (by omega)]
theorem Af4(ok:BA L s){off:Int}{i a:Nat}(h:Hz s off=some (i,a)):i<s.sh.BI/\(Bd (CE s i)=1\/Bd (CE s i)=2)/\a<Bv (Bd (CE s i))/\off=(CW s.sh i (Bd (CE s i)) a:Nat):=by
 have hlen:=ok.NR;unfold Hz at h;split at h
 ·cases h
 ·rename_i h1;split at h
  ·cases h
  ·rename_i h2;simp only [Option.some.injEq,Prod.mk.injEq]at h;obtain⟨rfl,rfl⟩:=h;have hi:(off.toNat-s.sh.data)/1024<s.sh.BI:=by omega
   generalize hc:Bd (CE s ((off.toNat-s.sh.data)/1024))=c at h2⊢;have h12:c=1\/c=2:=by
    unfold Be at h2;split at h2
    ·exact .inl rfl
    ·exact .inr rfl
    ·simp at h2
   obtain⟨h3,h4,h5,h6⟩:=Fe h12;have hdm:=Nat.div_add_mod ((off.toNat-s.sh.data)%1024) (64*Be c);have hmod:(off.toNat-s.sh.data)%1024%(64*Be c)=0:=by omega
   have hlt:(off.toNat-s.sh.data)%1024<1024:=Nat.mod_lt _ (by decide);refine⟨hi,h12,?_,?_⟩
   ·refine Nat.div_lt_of_lt_mul ?_;rw [Nh,h3];exact hlt
   ·unfold CW;rw [hmod,Nat.add_zero]at hdm;rw [hdm];omega
theorem AP.cls(ok:BA L s){off c:Nat}(h:AP s off c):c=1\/c=2:=by
 obtain⟨i,a,hi,ha,rfl,_⟩:=h;obtain⟨c,hS,_,_⟩:=ok.Qn hi ha;rw [hS.class];exact hS.cls
theorem AP.class(ok:BA L s){off c:Nat}(h:AP s off c):D5 s off=c:=by
 have h12:=h.cls ok;obtain⟨i,a,hi,ha,hc,rfl⟩:=h;obtain⟨d,hS,hb,hlt⟩:=ok.Qn hi ha;have e:c=d:=by rw [<-hc,hS.class]
 subst e;unfold D5;rw [Ud ok hi hb h12 hlt];simp only [ha,if_true,hc]
theorem Rx(ok:BA L s){off:Int}{c:Nat}(h:D5 s off=c)(h0:c≠0):∃o:Nat,off=o/\AP s o c:=by
 unfold D5 at h;split at h
 ·exact absurd h.symm h0
 ·rename_i i a hf;obtain⟨hi,h12,hlt,he⟩:=Af4 ok hf;split at h
  ·rename_i ha;obtain⟨d,hS,hb,_⟩:=ok.Qn hi ha;refine⟨_,he,i,a,hi,ha,h,?_⟩;rw [hb,<-h,hS.class]
  ·exact absurd h.symm h0
theorem AP.bounds(ok:BA L s){off c:Nat}(h:AP s off c):s.sh.data<=off/\off+64*Be c<=64*L/\off%64=0:=by
 have h12:=h.cls ok;obtain⟨i,a,hi,ha,hc,rfl⟩:=h;obtain⟨d,hS,hb,hlt⟩:=ok.Qn hi ha;have e:c=d:=by rw [<-hc,hS.class]
 subst e;have h1:=Mc (sh:=s.sh) (i:=i) h12 hlt;have:=ok.sh.fits;have:=ok.sh.data;refine⟨by omega,by omega,?_⟩;unfold CW;rw [Nh];omega
theorem EI.cls(ok:BA L s){off c:Nat}(h:EI s off c):c=1\/c=2:=by
 obtain⟨i,a,hi,ha,rfl,_⟩:=h;obtain⟨c,hS,_,_⟩:=ok.ZJ hi ha;rw [hS.class];exact hS.cls
theorem EI.bounds(ok:BA L s){off c:Nat}(h:EI s off c):s.sh.data<=off/\off+64*Be c<=64*L/\off%64=0:=by
 have h12:=h.cls ok;obtain⟨i,a,hi,ha,hc,rfl⟩:=h;obtain⟨d,hS,hb,hlt⟩:=ok.ZJ hi ha;have e:c=d:=by rw [<-hc,hS.class]
 subst e;have h1:=Mc (sh:=s.sh) (i:=i) h12 hlt;have:=ok.sh.fits;have:=ok.sh.data;refine⟨by omega,by omega,?_⟩;unfold CW;rw [Nh];omega
theorem pq(ok:BA L s){o p c d:Nat}(h:AP s o c)(k:AP s p d)(hne:o≠p):o+64*Be c<=p\/p+64*Be d<=o:=by
 have h12:=h.cls ok;have k12:=k.cls ok;obtain⟨i,a,hi,ha,hc,rfl⟩:=h;obtain⟨j,b,hj,hb,hd,rfl⟩:=k;obtain⟨c',hS,_,hlt⟩:=ok.Qn hi ha;obtain⟨d',hS',_,hlt'⟩:=ok.Qn hj hb;rw [hS.class]at hc;rw [hS'.class]at hd;subst hc hd;refine Xi h12 k12 hlt hlt' (fun e=> ?_) hne;subst e;rw [<-hS.class,<-hS'.class]
theorem Ll(ok:BA L s){o p c d:Nat}(h:EI s o c)(k:AP s p d):o≠p/\(o+64*Be c<=p\/p+64*Be d<=o):=by
 have h12:=h.cls ok;have k12:=k.cls ok;obtain⟨i,a,hi,ha,hc,rfl⟩:=h;obtain⟨j,b,hj,hb,hd,rfl⟩:=k;obtain⟨c',hS,lY,hlt⟩:=ok.ZJ hi ha;obtain⟨d',hS',Amw,hlt'⟩:=ok.Qn hj hb;rw [hS.class]at hc;rw [hS'.class]at hd;subst hc hd;have hcd:i=j->c'=d':=fun e=>by subst e;rw [<-lY,<-Amw]
 have hne:CW s.sh i c' a≠CW s.sh j d' b:=fun e=>by
  obtain rfl:=Wh h12 k12 hlt hlt' e;obtain rfl:=hcd rfl;obtain rfl:=Uc h12 e;rw [ok.Yd i a hi hb]at ha;cases ha
 exact⟨hne,Xi h12 k12 hlt hlt' hcd hne⟩
end
theorem EF{n:Nat}(h:n<2^64):(AA n).toNat=n:=by
 rw [UInt64.toNat_ofNat'];exact Nat.mod_eq_of_lt h
theorem Pm{α:Type}(l:List α)(i j:Nat)(x z:α)(hi:i<l.length):(l.set i x).getD j z=if j=i then x else l.getD j z:=by
 rw [Bh,Bh,List.getElem?_set];by_cases h:i=j
 ·subst h;simp [hi]
 ·rw [if_neg h,if_neg (fun e=>h e.symm)]
section
variable{L:Nat}{s:St}
theorem BA.table(ok:BA L s):s.sh.table=128:=ok.sh.table
theorem BA.words(ok:BA L s){ws':Nat->UInt64}(h:∀i,i<s.sh.BI->ws' (16+i)=s.ws (16+i)):BA L {s with ws:=ws'}:=
 ⟨ok.sh,ok.L1,ok.NR,ok.kL,ok.tk,ok.hd,ok.cls,ok.Yd,fun i hi=>(h i hi).trans (ok.tab i hi)⟩
def H8(off c j:Nat):Prop:=off/8<=j/\j<off/8+8*Be c
theorem Md{o p c d j:Nat}(h:o+64*Be c<=p\/p+64*Be d<=o)(ho:o%64=0)(hp:p%64=0)(k:H8 o c j):¬H8 p d j:=by
 unfold H8 at*;omega
theorem BA.DJ(ok:BA L s){off c j:Nat}(h1:s.sh.data<=off)(h2:H8 off c j):16+s.sh.BI<=j:=by
 have:=ok.sh.MK;unfold H8 at h2;omega
theorem jI{c i a:Nat}(h:L8 s c=some i)(h2:Kq (CE s i) c=some a):i<s.tk.length/\(Bd (CE s i)=c\/Bd (CE s i)=0):=by
 unfold L8 at h;split at h
 ·rename_i j hj;injection h with h;subst h
  unfold KU at hj;have h3:=Yr hj;have h4:=bU hj;rw [Bool.and_eq_true,decide_eq_true_eq]at h3;exact⟨Dj.1 h4,.inl h3.1⟩
 ·unfold KU at h;have h3:=Yr h;have h4:=bU h;rw [Bool.and_eq_true,decide_eq_true_eq]at h3;exact⟨Dj.1 h4,.inr h3.1⟩
theorem Ue(ok:BA L s){c off:Nat}{s1:St}(hc:c=1\/c=2)(h:CQ s c=some (off,s1)):
 BA L s1/\s1.ws=s.ws/\s1.sh=s.sh/\s1.tk=s.tk/\EI s1 off c/\(∀o d,EI s o d->EI s1 o d)/\(∀o d,EI s1 o d->EI s o d\/o=off)/\∀o d,AP s1 o d<->AP s o d:=by
 unfold CQ at h;split at h
 ·cases h
 ·rename_i i hi;split at h
  ·cases h
  ·rename_i a ha;simp only [Option.some.injEq,Prod.mk.injEq]at h;obtain⟨rfl,rfl⟩:=h;obtain⟨hilt,hcl⟩:=jI hi ha;have hil:i<s.sh.BI:=by rw [<-ok.NR];exact hilt
   obtain⟨lY,hbh,hbt,Auf⟩:=ok.both hil;have hab:a<Bv c/\(JE (CE s i)).testBit a=false:=by
    unfold Kq at ha;split at ha
    ·exact⟨iK ha,Ajh ha⟩
    ·cases ha
   have hb16:Bv c<=16:=by rcases hc with rfl| rfl<;>decide
   have hbit:(CE s i).testBit a=false:=by
    have:=hab.2;unfold JE at this;rw [Nq,Nat.zero_add,Bool.and_eq_false_iff,decide_eq_false_iff_not]at this;rcases this with h| h
    ·omega
    ·exact h
   have hnb:EK (CE s i) a=false:=by
    unfold EK;rw [Af3,hbit,Bool.and_false]
   have hnn:=hbh a;rw [show GR s i||| hdN s i=CE s i from rfl,hnb]at hnn;obtain⟨hnt,hnh⟩:EK (GR s i) a=false/\EK (hdN s i) a=false:=by
    cases h1:EK (GR s i) a<;>cases h2:EK (hdN s i) a<;>rw [h1,h2]at hnn<;>first| exact⟨rfl,rfl⟩| cases hnn
   have hdc:hdN s i=0\/SW (hdN s i) c:=by
    rcases ok.hd i hil with h1| ⟨d,h1⟩
    ·exact .inl h1
    ·have e:=Auf h1.ne;rw [show GR s i||| hdN s i=CE s i from rfl,h1.class]at e;have:=h1.cls;rcases hcl with h2| h2
     ·rw [e]at h2;subst h2;exact .inr h1
     ·omega
   have htc:GR s i=0\/Bd (GR s i)=c:=by
    rcases ok.tk i hil with h1| ⟨d,h1⟩
    ·exact .inl h1
    ·have e:=hbt h1.ne;rw [show GR s i||| hdN s i=CE s i from rfl,h1.class]at e;have:=h1.cls;rcases hcl with h2| h2
     ·rw [e]at h2;subst h2;exact .inr h1.class
     ·omega
   obtain⟨_,hS,hhas⟩:=eH (ok.hd i hil) hc hdc hab.1 hnh;have hu:=EF hS.lt;have hhd:∀j,hdN {s with hd:=s.hd.set i (AA (Gm (hdN s i) c a).1)} j=if j=i then(Gm (hdN s i) c a).1 else hdN s j:=fun j=>by
    show((s.hd.set i _).getD j 0).toNat=_;rw [Pm _ _ _ _ _ (by rw [ok.kL];exact hil)];split
    ·exact hu
    ·rfl
   have htk:∀j,GR {s with hd:=s.hd.set i (AA (Gm (hdN s i) c a).1)} j=GR s j:=fun j=>rfl
   refine⟨⟨ok.sh,ok.L1,ok.NR,by simp [ok.kL],ok.tk,fun j hj=> ?_,fun j hj=> ?_,fun j b hj hb=> ?_,ok.tab⟩,rfl,rfl,rfl,⟨i,a,hil,?_,?_,rfl⟩,?_,?_,fun o d=>Iff.rfl⟩
   ·rw [hhd];split
    ·exact .inr ⟨c,hS⟩
    ·exact ok.hd j hj
   ·rw [hhd,htk];by_cases e:j=i
    ·subst e;rw [if_pos rfl,hS.class];exact htc.imp id .inr
    ·rw [if_neg e];exact ok.cls j hj
   ·rw [hhd];rw [htk]at hb;by_cases e:j=i
    ·subst e;rw [if_pos rfl,hhas b,ok.Yd j b hj hb,Bool.false_or,decide_eq_false_iff_not];intro e2;subst e2;rw [hnt]at hb;cases hb
    ·rw [if_neg e];exact ok.Yd j b hj hb
   ·rw [hhd,if_pos rfl,hhas a];simp
   ·rw [hhd,if_pos rfl,hS.class]
   ·rintro o d⟨j,b,hj,hb,hd,ho⟩;refine⟨j,b,hj,?_,?_,ho⟩
    ·rw [hhd];by_cases e:j=i
     ·subst e;rw [if_pos rfl,hhas b,hb];rfl
     ·rw [if_neg e];exact hb
    ·rw [hhd];by_cases e:j=i
     ·subst e;obtain⟨d',hS',_,_⟩:=(ok.hd j hj).Rq hb;rw [if_pos rfl,hS.class,<-hd];rcases hdc with h0| h0
      ·exact absurd h0 hS'.ne
      ·exact h0.class.symm
     ·rw [if_neg e];exact hd
   ·rintro o d⟨j,b,hj,hb,hd,ho⟩;rw [hhd]at hb hd;by_cases e:j=i
    ·subst e;rw [if_pos rfl]at hb hd;rw [hhas b,Bool.or_eq_true,decide_eq_true_eq]at hb;rw [hS.class]at hd;subst hd;rcases hb with hb| rfl
     ·obtain⟨d',hS',_,_⟩:=(ok.hd j hj).Rq hb;refine .inl ⟨j,b,hj,hb,?_,ho⟩;rcases hdc with h0| h0
      ·exact absurd h0 hS'.ne
      ·exact h0.class
     ·exact .inr ho
    ·rw [if_neg e]at hb hd;exact .inl ⟨j,b,hj,hb,hd,ho⟩
theorem zy(ok:BA L s){c off:Nat}(h:EI s off c):
 ∃s1,IP s off=(s1,0)/\BA L s1/\s1.sh=s.sh/\(∀j,(j<16\/16+s.sh.BI<=j)->s1.ws j=s.ws j)/\
  (∀o d,AP s1 o d<->AP s o d\/(o=off/\d=c))/\(∀o d,EI s1 o d<->EI s o d/\o≠off):=by
 have h12:=h.cls ok;have h':=h;obtain⟨i,a,hi,ha,hc,rfl⟩:=h';obtain⟨c',hS,lY,hlt⟩:=ok.ZJ hi ha;have e:c'=c:=by rw [<-hc,hS.class]
 subst e;have hnt:EK (GR s i) a=false:=by
  cases hb:EK (GR s i) a
  ·rfl
  ·rw [ok.Yd i a hi hb]at ha;cases ha
 have htc:GR s i=0\/SW (GR s i) c':=by
  rcases ok.tk i hi with h1| ⟨d,h1⟩
  ·exact .inl h1
  ·rcases ok.cls i hi with h2| h2| h2
   ·exact absurd h2 h1.ne
   ·exact absurd h2 hS.ne
   ·rw [h1.class,hS.class]at h2;subst h2;exact .inr h1
 obtain⟨_,hT,zA⟩:=eH (ok.tk i hi) h12 htc hlt hnt;obtain⟨_,hD,Ry,wX⟩:=eP (ok.hd i hi) ha;have hu1:=EF hT.lt;have hu2:=EF hD.lt;have Af5:i<s.tk.length:=by rw [ok.NR];exact hi
 have Aji:i<s.hd.length:=by rw [ok.kL];exact hi
 obtain⟨s1,hs1⟩:∃s1,s1=({Y1 s i (AA (Gm (GR s i) (Bd (hdN s i)) a).1)with hd:=s.hd.set i (AA (Eb (hdN s i) a).1)}:St):=⟨_,rfl⟩;have htk:∀j,GR s1 j=if j=i then(Gm (GR s i) c' a).1 else GR s j:=fun j=>by
  rw [hs1];show((s.tk.set i _).getD j 0).toNat=_;rw [Pm _ _ _ _ _ Af5,hc];split
  ·exact hu1
  ·rfl
 have hhd:∀j,hdN s1 j=if j=i then(Eb (hdN s i) a).1 else hdN s j:=fun j=>by
  rw [hs1];show((s.hd.set i _).getD j 0).toNat=_;rw [Pm _ _ _ _ _ Aji];split
  ·exact hu2
  ·rfl
 have hsh:s1.sh=s.sh:=by rw [hs1];rfl
 have hws:∀j,s1.ws j=if j=16+i then AA (Gm (GR s i) c' a).1 else s.ws j:=fun j=>by
  rw [hs1];show Gg s.ws (s.sh.table/8+i) _ j=_;rw [ok.table,hc];rfl
 refine⟨s1,?_,⟨by rw [hsh];exact ok.sh,ok.L1,by rw [hs1];show(s.tk.set i _).length=_;rw [Dh];exact ok.NR,by rw [hs1];show(s.hd.set i _).length=_;rw [Dh];exact ok.kL,fun j hj=> ?_,fun j hj=> ?_,fun j hj=> ?_,fun j b hj hb=> ?_,fun j hj=> ?_⟩,hsh,fun j hj=> ?_,fun o d=> ?_,fun o d=> ?_⟩
 ·unfold IP;rw [Ud ok hi lY h12 hlt];simp only [ha,if_true];rw [hs1]
 ·rw [htk];split
  ·exact .inr ⟨_,hT⟩
  ·exact ok.tk j (by rw [<-hsh];exact hj)
 ·rw [hhd];split
  ·exact hD
  ·exact ok.hd j (by rw [<-hsh];exact hj)
 ·rw [htk,hhd];by_cases e:j=i
  ·rw [if_pos e,if_pos e,hT.class];rcases wX with h1| h1
   ·exact .inr (.inr (by rw [h1,hS.class]))
   ·exact .inr (.inl h1)
  ·rw [if_neg e,if_neg e];exact ok.cls j (by rw [<-hsh];exact hj)
 ·rw [htk]at hb;rw [hhd];by_cases e:j=i
  ·subst e;rw [if_pos rfl]at hb⊢;rw [zA,Bool.or_eq_true,decide_eq_true_eq]at hb;rw [Ry];rcases hb with hb| rfl
   ·rw [ok.Yd j b hi hb];rfl
   ·simp
  ·rw [if_neg e]at hb⊢;exact ok.Yd j b (by rw [<-hsh];exact hj) hb
 ·rw [hws,hs1];show _=(s.tk.set i _).getD j 0;rw [Pm _ _ _ _ _ Af5,hc];by_cases e:j=i
  ·rw [if_pos (by omega),if_pos e]
  ·rw [if_neg (by omega),if_neg e];exact ok.tab j (by rw [<-hsh];exact hj)
 ·rw [hws,if_neg (by omega)]
 ·constructor
  ·rintro⟨j,b,hj,hb,hd,ho⟩;rw [hsh]at hj ho;rw [htk]at hb hd;by_cases e:j=i
   ·subst e;rw [if_pos rfl]at hb hd;rw [hT.class]at hd;subst hd;rw [zA,Bool.or_eq_true,decide_eq_true_eq]at hb;rcases hb with hb| rfl
    ·left;refine⟨j,b,hj,hb,?_,ho⟩;rcases htc with h0| h0
     ·rw [h0,EE]at hb;cases hb
     ·exact h0.class
    ·exact .inr ⟨ho,rfl⟩
   ·rw [if_neg e]at hb hd;exact .inl ⟨j,b,hj,hb,hd,ho⟩
  ·rintro(⟨j,b,hj,hb,hd,ho⟩| ⟨rfl,rfl⟩)
   ·refine⟨j,b,by rw [hsh];exact hj,?_,?_,by rw [hsh];exact ho⟩
    ·rw [htk];by_cases e:j=i
     ·subst e;rw [if_pos rfl,zA,hb];rfl
     ·rw [if_neg e];exact hb
    ·rw [htk];by_cases e:j=i
     ·subst e;rw [if_pos rfl,hT.class,<-hd];rcases htc with h0| h0
      ·rw [h0,EE]at hb;cases hb
      ·exact h0.class.symm
     ·rw [if_neg e];exact hd
   ·exact⟨i,a,by rw [hsh];exact hi,by rw [htk,if_pos rfl,zA];simp,by rw [htk,if_pos rfl,hT.class],by rw [hsh]⟩
 ·constructor
  ·rintro⟨j,b,hj,hb,hd,ho⟩;rw [hsh]at hj ho;rw [hhd]at hb hd;by_cases e:j=i
   ·subst e;rw [if_pos rfl]at hb hd;rw [Ry,Bool.and_eq_true,Bool.not_eq_true',decide_eq_false_iff_not]at hb;have hd':d=c':=by
     rcases wX with h1| h1
     ·rw [h1,hS.class]at hd;exact hd.symm
     ·have:=Ry b;rw [h1,EE,hb.1]at this;simp [hb.2]at this
    subst hd';refine⟨⟨j,b,hj,hb.1,hS.class,ho⟩,fun e2=> ?_⟩;rw [ho]at e2;exact hb.2 (Uc h12 e2)
   ·rw [if_neg e]at hb hd;refine⟨⟨j,b,hj,hb,hd,ho⟩,fun e2=> ?_⟩;obtain⟨d',hS',Amw,hlt'⟩:=ok.ZJ hj hb;have e3:d'=d:=by rw [<-hd,hS'.class]
    subst e3;rw [ho]at e2;exact e (Wh hS'.cls h12 hlt' hlt e2)
  ·rintro⟨⟨j,b,hj,hb,hd,ho⟩,hne⟩;have hbi:j=i->b≠a:=fun e e2=>by
    subst e e2;have e3:d=c':=by rw [<-hd,hS.class]
    subst e3;exact hne ho
   refine⟨j,b,by rw [hsh];exact hj,?_,?_,by rw [hsh];exact ho⟩
   ·rw [hhd];by_cases e:j=i
    ·subst e;rw [if_pos rfl,Ry,hb];simp [hbi rfl]
    ·rw [if_neg e];exact hb
   ·rw [hhd];by_cases e:j=i
    ·subst e;rw [if_pos rfl];rcases wX with h1| h1
     ·rw [h1];exact hd
     ·have:=Ry b;rw [h1,EE,hb]at this;simp [hbi rfl]at this
    ·rw [if_neg e];exact hd
theorem Ye(ok:BA L s){c off:Nat}(h:AP s off c):
 ∃s1,J4 s off=(s1,0)/\BA L s1/\s1.sh=s.sh/\s1.hd=s.hd/\(∀j,(j<16\/16+s.sh.BI<=j)->s1.ws j=s.ws j)/\
  (∀o d,AP s1 o d<->AP s o d/\o≠off):=by
 have h12:=h.cls ok;obtain⟨i,a,hi,ha,hc,rfl⟩:=h;obtain⟨c',hS,lY,hlt⟩:=ok.Qn hi ha;have e:c'=c:=by rw [<-hc,hS.class]
 subst e;have hnh:EK (hdN s i) a=false:=ok.Yd i a hi ha;obtain⟨hD2,hD,Ry,wX⟩:=eP (ok.tk i hi) ha;have hu2:=EF hD.lt;have Af5:i<s.tk.length:=by rw [ok.NR];exact hi
 obtain⟨s1,hs1⟩:∃s1,s1=Y1 s i (AA (Eb (GR s i) a).1):=⟨_,rfl⟩;have htk:∀j,GR s1 j=if j=i then(Eb (GR s i) a).1 else GR s j:=fun j=>by
  rw [hs1];show((s.tk.set i _).getD j 0).toNat=_;rw [Pm _ _ _ _ _ Af5];split
  ·exact hu2
  ·rfl
 have hhd:∀j,hdN s1 j=hdN s j:=fun j=>by rw [hs1];rfl
 have hsh:s1.sh=s.sh:=by rw [hs1];rfl
 have hws:∀j,s1.ws j=if j=16+i then AA (Eb (GR s i) a).1 else s.ws j:=fun j=>by
  rw [hs1];show Gg s.ws (s.sh.table/8+i) _ j=_;rw [ok.table];rfl
 refine⟨s1,?_,⟨by rw [hsh];exact ok.sh,ok.L1,by rw [hs1];show(s.tk.set i _).length=_;rw [Dh];exact ok.NR,by rw [hs1];exact ok.kL,fun j hj=> ?_,fun j hj=> ?_,fun j hj=> ?_,fun j b hj hb=> ?_,fun j hj=> ?_⟩,hsh,by rw [hs1];rfl,fun j hj=> ?_,fun o d=> ?_⟩
 ·unfold J4;rw [Ud ok hi lY h12 hlt];have h0:(Eb (hdN s i) a).2=false:=by unfold Eb;rw [hnh];rfl
  simp only [h0,hD2,if_true,Bool.false_eq_true,if_false];rw [hs1]
 ·rw [htk];split
  ·exact hD
  ·exact ok.tk j (by rw [<-hsh];exact hj)
 ·rw [hhd];exact ok.hd j (by rw [<-hsh];exact hj)
 ·rw [htk,hhd];by_cases e:j=i
  ·rw [if_pos e,e];rcases wX with h1| h1
   ·rw [h1];rcases ok.cls i hi with h2| h2| h2
    ·exact absurd h2 hS.ne
    ·exact .inr (.inl h2)
    ·exact .inr (.inr h2)
   ·exact .inl h1
  ·rw [if_neg e];exact ok.cls j (by rw [<-hsh];exact hj)
 ·rw [htk]at hb;rw [hhd];by_cases e:j=i
  ·subst e;rw [if_pos rfl,Ry,Bool.and_eq_true]at hb;exact ok.Yd j b hi hb.1
  ·rw [if_neg e]at hb;exact ok.Yd j b (by rw [<-hsh];exact hj) hb
 ·rw [hws,hs1];show _=(s.tk.set i _).getD j 0;rw [Pm _ _ _ _ _ Af5];by_cases e:j=i
  ·rw [if_pos (by omega),if_pos e]
  ·rw [if_neg (by omega),if_neg e];exact ok.tab j (by rw [<-hsh];exact hj)
 ·rw [hws,if_neg (by omega)]
 ·constructor
  ·rintro⟨j,b,hj,hb,hd,ho⟩;rw [hsh]at hj ho;rw [htk]at hb hd;by_cases e:j=i
   ·subst e;rw [if_pos rfl]at hb hd;rw [Ry,Bool.and_eq_true,Bool.not_eq_true',decide_eq_false_iff_not]at hb;have hd':d=c':=by
     rcases wX with h1| h1
     ·rw [h1,hS.class]at hd;exact hd.symm
     ·have:=Ry b;rw [h1,EE,hb.1]at this;simp [hb.2]at this
    subst hd';refine⟨⟨j,b,hj,hb.1,hS.class,ho⟩,fun e2=> ?_⟩;rw [ho]at e2;exact hb.2 (Uc h12 e2)
   ·rw [if_neg e]at hb hd;refine⟨⟨j,b,hj,hb,hd,ho⟩,fun e2=> ?_⟩;obtain⟨d',hS',Amw,hlt'⟩:=ok.Qn hj hb;have e3:d'=d:=by rw [<-hd,hS'.class]
    subst e3;rw [ho]at e2;exact e (Wh hS'.cls h12 hlt' hlt e2)
  ·rintro⟨⟨j,b,hj,hb,hd,ho⟩,hne⟩;have hbi:j=i->b≠a:=fun e e2=>by
    subst e e2;have e3:d=c':=by rw [<-hd,hS.class]
    subst e3;exact hne ho
   refine⟨j,b,by rw [hsh];exact hj,?_,?_,by rw [hsh];exact ho⟩
   ·rw [htk];by_cases e:j=i
    ·subst e;rw [if_pos rfl,Ry,hb];simp [hbi rfl]
    ·rw [if_neg e];exact hb
   ·rw [htk];by_cases e:j=i
    ·subst e;rw [if_pos rfl];rcases wX with h1| h1
     ·rw [h1];exact hd
     ·have:=Ry b;rw [h1,EE,hb]at this;simp [hbi rfl]at this
    ·rw [if_neg e];exact hd
end
abbrev Kv:=List UInt8×UInt64
structure Part where
 items:List Kv
 blocks:List Nat
def BX(nd:Nd):List Kv:=if nd.val≠0 then [(nd.pre,nd.val)]else []
def EJ(pre:List UInt8)(lb:UInt8)(l:List Kv):List Kv:=l.map fun kv=>(pre++lb::kv.1,kv.2)
def Bl(pre:List UInt8):List UInt8->List Part->List Kv
 | lb::ls,p::ps=>EJ pre lb p.items++Bl pre ls ps
 | _,_=>[]
def AY(ps:List Part):List Nat:=(ps.map Part.blocks).flatten
inductive DF(s:St):Nat->UInt64->List Kv->List Nat->Prop
 | mk(r:Nat)(name:UInt64)(nd:Nd)(parts:List Part)(hrd:EZ s name=some nd)(hpre:nd.pre.length<=r)(Na:nd.kids≠[]->nd.pre.length+1<=r)(hlen:parts.length=nd.kids.length)
  (hk:∀i(h1:i<nd.kids.length)(h2:i<parts.length),DF s (r-nd.pre.length-1) nd.kids[i] parts[i].items parts[i].blocks):
  DF s r name (BX nd++Bl nd.pre nd.labels parts) ((Bi name).toNat::AY parts)
section
variable{L:Nat}{s s':St}
theorem pz{c d:Nat}(hc:c=1\/c=2)(hd:d=1\/d=2)(h:Be c=Be d):c=d:=by
 rcases hc with rfl| rfl<;>rcases hd with rfl| rfl<;>first| rfl| (simp [Be]at h)
theorem Pn(x:Nd):Dn x=1\/Dn x=2:=by unfold Dn;split<;>simp
theorem JX(x:Nd):(DX x).length=8*Be (Dn x):=by
 rw [EL];unfold Dn;split<;>rfl
theorem H9(ok:BA L s){name:UInt64}{nd:Nd}(h:EZ s name=some nd):
 ∃o:Nat,Bi name=o/\AP s o (Dn nd)/\Ci nd=true/\wordsAt s.ws (o/8) (8*Be (Dn nd))=DX nd:=by
 unfold EZ at h;split at h
 ·cases h
 ·rename_i h0;split at h
  ·rename_i hd;injection h with h
   have hc0:D5 s (Bi name)≠0:=fun e=>h0 (by rw [e];rfl)
   obtain⟨o,ho,ht⟩:=Rx ok rfl hc0;obtain⟨h1,h2⟩:=Ab6 _ hd;rw [h]at h1 h2;have h12:=ht.cls ok;have hcc:D5 s (Bi name)=Dn nd:=by
    refine pz h12 (Pn nd) ?_;have:=congrArg List.length h2;rw [JX]at this;simp [wordsAt]at this;omega
   rw [hcc]at ht h2;rw [ho,Cm]at h2;exact⟨o,ho,ht,h1,h2.symm⟩
  ·cases h
theorem Yf(ok:BA L s){name:UInt64}{nd:Nd}{o:Nat}(ho:Bi name=o)(ht:AP s o (Dn nd))(hr:Ci nd=true)(hw:wordsAt s.ws (o/8) (8*Be (Dn nd))=DX nd):EZ s name=some nd:=by
 have hc:=ht.class ok;have h12:=Pn nd;unfold EZ;rw [ho,hc,Cm,hw,if_neg (by have:=(Fe h12).2.1;omega),if_pos (Ab5 nd hr),oU nd hr]
def FV(s s':St)(B:Nat->Prop):Prop:=∀o c,B o->AP s o c->AP s' o c/\∀j,H8 o c j->s'.ws j=s.ws j
theorem FV.mono{B C:Nat->Prop}(h:FV s s' B)(k:∀o,C o->B o):FV s s' C:=fun o c hb ht=>h o c (k o hb) ht
theorem FV.trans{s'':St}{B:Nat->Prop}(h:FV s s' B)(k:FV s' s'' B):FV s s'' B:=fun o c hb ht=>by
 obtain⟨h1,h2⟩:=h o c hb ht;obtain⟨k1,k2⟩:=k o c hb h1;exact⟨k1,fun j hj=>(k2 j hj).trans (h2 j hj)⟩
theorem FV.refl(s:St)(B:Nat->Prop):FV s s B:=fun _ _ _ h=>⟨h,fun _ _=>rfl⟩
theorem Uf{o c:Nat}(h:∀j,H8 o c j->s'.ws j=s.ws j):wordsAt s'.ws (o/8) (8*Be c)=wordsAt s.ws (o/8) (8*Be c):=by
 unfold wordsAt;refine FO fun t ht=> ?_
 have:=Dj.1 ht;exact h _ ⟨by omega,by omega⟩
theorem Ab7(ok:BA L s)(ok':BA L s'){B:Nat->Prop}(k:FV s s' B){name:UInt64}{nd:Nd}(hb:B (Bi name).toNat)(h:EZ s name=some nd):EZ s' name=some nd:=by
 obtain⟨o,ho,ht,hr,hw⟩:=H9 ok h;rw [ho,Cm]at hb;obtain⟨h1,h2⟩:=k o _ hb ht;exact Yf ok' ho h1 hr ((Uf h2).trans hw)
theorem Tv{ps:List Part}{i:Nat}(h:i<ps.length){o:Nat}(ho:o∈ps[i].blocks):o∈AY ps:=by
 unfold AY;exact List.mem_flatten.2 ⟨_,Bf.2 ⟨_,BM h,rfl⟩,ho⟩
theorem DF.keep(ok:BA L s)(ok':BA L s'){B:Nat->Prop}(k:FV s s' B){r:Nat}{name:UInt64}{items:List Kv}{blocks:List Nat}(h:DF s r name items blocks)(hb:∀o∈blocks,B o):DF s' r name items blocks:=by
 induction h with
 | mk r name nd parts hrd hpre Na hlen hk ih=>
   refine .mk r name nd parts (Ab7 ok ok' k (hb _ (Bq ..)) hrd) hpre Na hlen fun i h1 h2=>ih i h1 h2 fun o ho=>hb o (BO _ (Tv h2 ho))
theorem EG{pre:List UInt8}:∀{ls:List UInt8}{ps:List Part}{kv:Kv},kv∈Bl pre ls ps->∃(i:Nat)(h1:i<ls.length)(h2:i<ps.length)(kv':Kv),kv'∈ps[i].items/\kv=(pre++ls[i]::kv'.1,kv'.2)
 | [],_,kv,h=>by simp [Bl]at h
 | _::_,[],kv,h=>by simp [Bl]at h
 | lb::ls,p::ps,kv,h=>by
   rw [Bl]at h;rcases AL.1 h with h| h
   ·obtain⟨kv',hk,e⟩:=Bf.1 h;exact⟨0,by simp,by simp,kv',hk,e.symm⟩
   ·obtain⟨i,h1,h2,kv',hk,e⟩:=EG h;exact⟨i+1,by simp;omega,by simp;omega,kv',hk,e⟩
theorem Ff{nd:Nd}{kv:Kv}(h:kv∈BX nd):kv=(nd.pre,nd.val)/\nd.val≠0:=by
 unfold BX at h;split at h
 ·rename_i h0;exact⟨BC.1 h,h0⟩
 ·cases h
theorem DF.nib(ok:BA L s){r:Nat}{name:UInt64}{items:List Kv}{blocks:List Nat}(h:DF s r name items blocks):∀kv∈items,kv.1.all DL=true/\kv.1.length<=r/\kv.2≠0:=by
 induction h with
 | mk r name nd parts hrd hpre Na hlen hk ih=>
   obtain⟨o,ho,ht,hr,_⟩:=H9 ok hrd;have hr':=(Bo nd).1 hr;intro kv hkv;rcases AL.1 hkv with h1| h1
   ·obtain⟨rfl,h0⟩:=Ff h1;exact⟨hr'.2.1,hpre,h0⟩
   ·obtain⟨i,h2,h3,kv',h4,rfl⟩:=EG h1;obtain⟨h5,h6,h7⟩:=ih i (by omega) h3 kv' h4;have h8:=Na (by intro e;rw [e]at hlen;exact absurd h3 (by rw [hlen];simp));have h9:=E8.1 hr'.2.2.2.1 _ (BM h2);refine⟨by simp only [List.all_append,List.all_cons,hr'.2.1,h9,h5,Bool.and_self],?_,h7⟩;simp only [AQ,BJ];omega
theorem Nr(p a b:List UInt8):Op.bytesLess (p++a) (p++b)=Op.bytesLess a b:=by
 induction p with
 | nil=>rfl
 | cons x p ih=>simp [Op.bytesLess,ih]
theorem eX(p:List UInt8)(x:UInt8)(t:List UInt8):Op.bytesLess p (p++x::t)=true:=by
 induction p with
 | nil=>rfl
 | cons y p ih=>simp [Op.bytesLess,ih]
theorem Ug{x y:UInt8}(h:x.toNat<y.toNat)(a b:List UInt8):Op.bytesLess (x::a) (y::b)=true:=by
 simp only [Op.bytesLess,Bool.or_eq_true,decide_eq_true_eq];exact .inl (UInt8.lt_iff_toNat_lt.2 h)
def pF(l:List Kv):Prop:=l.Pairwise fun a b=>Op.bytesLess a.1 b.1=true
theorem Ab8{pre:List UInt8}{lb:UInt8}{l:List Kv}(h:pF l):pF (EJ pre lb l):=by
 unfold pF EJ;rw [List.pairwise_map];refine h.imp fun{a b}hab=> ?_
 show Op.bytesLess (pre++lb::a.1) (pre++lb::b.1)=true;rw [Nr];simp [Op.bytesLess,hab]
theorem Xj{pre:List UInt8}:∀{ls:List UInt8}{ps:List Part},DT ls=true->(∀p∈ps,pF p.items)->pF (Bl pre ls ps)
 | [],_,_,_=>by simp [Bl,pF]
 | _::_,[],_,_=>by simp [Bl,pF]
 | lb::ls,p::ps,hr,h=>by
   obtain⟨h1,h2⟩:=JW hr;rw [Bl];refine sK.2 ⟨Ab8 (h p (Bq ..)),Xj h1 (fun q hq=>h q (BO _ hq)),fun a ha b hb=> ?_⟩;obtain⟨a',_,rfl⟩:=Bf.1 ha;obtain⟨i,h3,h4,b',_,rfl⟩:=EG hb;show Op.bytesLess (pre++lb::a'.1) (pre++ls[i]::b'.1)=true;rw [Nr];exact Ug (h2 _ (BM h3)) _ _
theorem DF.up(ok:BA L s){r:Nat}{name:UInt64}{items:List Kv}{blocks:List Nat}(h:DF s r name items blocks):pF items:=by
 induction h with
 | mk r name nd parts hrd hpre Na hlen hk ih=>
   obtain⟨o,ho,ht,hr,_⟩:=H9 ok hrd;have hr':=(Bo nd).1 hr;refine sK.2 ⟨?_,Xj hr'.2.2.2.2.1 (fun p hp=> ?_),fun a ha b hb=> ?_⟩
   ·unfold BX;split<;>simp
   ·obtain⟨i,hi,rfl⟩:=List.getElem_of_mem hp;exact ih i (by omega) hi
   ·obtain⟨rfl,_⟩:=Ff ha;obtain⟨i,h3,h4,b',_,rfl⟩:=EG hb;exact eX _ _ _
theorem ZK{f:Nat}{ahead pre:List UInt8}:∀(ls:List UInt8)(ks:List UInt64)(ps:List Part)(i0:List Kv)(m0:List Int),ls.length=ks.length->ps.length=ks.length->
 (∀i(h1:i<ls.length)(h2:i<ks.length)(h3:i<ps.length)(i0:List Kv)(m0:List Int),(∀o∈ps[i].blocks,(o:Int)∉m0)->Dp s f ks[i] (ahead++pre++[ls[i]]) (i0,m0)=some (i0++ps[i].items.map (fun kv=>(pairs (ahead++pre++ls[i]::kv.1),kv.2)),m0++ps[i].blocks.map Cc))->
 (AY ps).Nodup->(∀o∈AY ps,(o:Int)∉m0)->
 (ls.zip ks).foldlM (fun st(lk:UInt8×UInt64)=>Dp s f lk.2 (ahead++pre++[lk.1]) st) (i0,m0)=some (i0++(Bl pre ls ps).map (fun kv=>(pairs (ahead++kv.1),kv.2)),m0++(AY ps).map Cc)
 | [],ks,ps,i0,m0,h1,h2,_,_,_=>by
   have:ks=[]:=Ce (by simpa using h1.symm);subst this;have:ps=[]:=Ce (by simpa using h2);subst this;simp [Bl,AY]
 | lb::ls,[],ps,i0,m0,h1,_,_,_,_=>by simp at h1
 | lb::ls,k::ks,[],i0,m0,_,h2,_,_,_=>by simp at h2
 | lb::ls,k::ks,p::ps,i0,m0,h1,h2,H,hn,hm=>by
   have e:AY (p::ps)=p.blocks++AY ps:=rfl;rw [e]at hn hm;obtain⟨hn1,hn2,hn3⟩:=Cj.1 hn;have h0:=H 0 (by simp) (by simp) (by simp) i0 m0 (fun o ho=>hm o (BD _ ho));simp only [List.getElem_cons_zero]at h0;rw [List.zip_cons_cons,List.foldlM_cons,h0];simp only [Option.bind_eq_bind,Option.bind_some];rw [ZK ls ks ps _ _ (by simpa using h1) (by simpa using h2) (fun i h1 h2 h3 i0 m0 hd=> ?_) hn2 (fun o ho=> ?_)]
   ·rw [e,Bl];simp [EJ,AX,Function.comp_def]
   ·have:=H (i+1) (by simp;omega) (by simp;omega) (by simp;omega) i0 m0 hd;simpa using this
   ·rw [AL];rintro(h| h)
    ·exact hm o (Bj _ ho) h
    ·obtain⟨o',ho',e2⟩:=Bf.1 h;have:o'=o:=Int.ofNat.inj e2;subst this;exact hn3 o' ho' o' ho rfl
theorem DF.Amx(ok:BA L s){r:Nat}{name:UInt64}{items:List Kv}{blocks:List Nat}(h:DF s r name items blocks):∀(f:Nat)(ahead:List UInt8)(i0:List Kv)(m0:List Int),r<f->ahead.length+r<=32->blocks.Nodup->(∀o∈blocks,(o:Int)∉m0)->(∀kv∈items,Jl (ahead++kv.1)=true)->
 Dp s f name ahead (i0,m0)=some (i0++items.map (fun kv=>(pairs (ahead++kv.1),kv.2)),m0++blocks.map Cc):=by
 induction h with
 | mk r name nd parts hrd hpre Na hlen hk ih=>
   intro f ahead i0 m0 hf hal hn hm hkey;obtain⟨o,ho,ht,hr,_⟩:=H9 ok hrd;have hr':=(Bo nd).1 hr;obtain⟨f,rfl⟩:∃g,f=g+1:=⟨f-1,by omega⟩;obtain⟨hn1,hn2⟩:=List.nodup_cons.1 hn;rw [Dp,hrd]
   dsimp only
   have hmo:=hm (Bi name).toNat (Bq ..);rw [ho,Cm]at hmo;rw [if_neg (by
    rw [ho];rintro(h| h)
    ·exact hmo (List.contains_iff_mem.1 h)
    ·simp only [AQ]at h;omega)]
   rw [if_neg (by
    rintro⟨h1,h2⟩;have:=hkey (nd.pre,nd.val) (BD _ (by unfold BX;rw [if_pos h1];exact BC.2 rfl));rw [this]at h2;cases h2)]
   have hkb:∀o'∈AY parts,((o':Int))∉m0++[Bi name]:=fun o' ho' hc=>by
    rcases AL.1 hc with h| h
    ·exact hm o' (BO _ ho') h
    ·rw [BC,ho]at h;refine hn1 ?_;rw [ho,Cm];have:o'=o:=by omega
     exact this▸ho'
   rw [ZK nd.labels nd.kids parts _ _ hr'.2.2.1 hlen (fun i h1 h2 h3 i0 m0 hd=> ?_) hn2 hkb]
   ·simp only [ho,Dq,BU,Cm,AX,CJ,Fz];unfold BX;split<;>simp
   ·have h8:=Na (by intro e;rw [e]at h2;simp at h2);have hnd:parts[i].blocks.Nodup:=by
     have:=(List.pairwise_flatten.1 hn2).1;exact this _ (Bf.2 ⟨_,BM h3,rfl⟩)
    have:=ih i h2 h3 f (ahead++nd.pre++[nd.labels[i]]) i0 m0 (by omega) (by simp only [AQ,BJ,Dt];omega) hnd hd (fun kv hkv=> ?_)
    ·rw [this];simp
    ·have:=hkey (nd.pre++nd.labels[i]::kv.1,kv.2) (Bj _ ?_)
     ·simpa using this
     ·clear ih hk hkey hm hkb hn hn2 hrd Na hlen;have:∀(ls:List UInt8)(ps:List Part)(i:Nat)(h1:i<ls.length)(h3:i<ps.length),kv∈ps[i].items->(nd.pre++ls[i]::kv.1,kv.2)∈Bl nd.pre ls ps:=by
       intro ls;induction ls with
       | nil=>intro ps i h1;simp at h1
       | cons lb ls ih=>
         intro ps i h1 h3 hk;cases ps with
         | nil=>simp at h3
         | cons p ps=>
           rw [Bl];cases i with
           | zero=>exact BD _ (Bf.2 ⟨kv,by simpa using hk,rfl⟩)
           | succ i=>exact Bj _ (by simpa using ih ps i (by simpa using h1) (by simpa using h3) (by simpa using hk))
      exact this _ _ i h1 h3 hkv
end
structure Grown(L:Nat)(s0:St)(j:Jb)(B:List Nat):Prop where
 ok:BA L j.s
 sh:j.s.sh=s0.sh
 nh:∀o d,¬EI j.s o d
 made:j.made=B.map Cc
 vX:B.Nodup
 new:∀o∈B,∀d,¬AP s0 o d
 tk:∀o,(∃d,AP j.s o d)<->(∃d,AP s0 o d)\/o∈B
 keep:FV s0 j.s (fun _=>True)
 low:∀i,i<16->j.s.ws i=s0.ws i
theorem Grown.start{L:Nat}{s:St}(ok:BA L s)(nh:∀o d,¬EI s o d):Grown L s ⟨s,[]⟩ []:=
 ⟨ok,rfl,nh,rfl,List.nodup_nil,(fun _ h=>nomatch h),(fun o=>by simp),FV.refl _ _,fun _ _=>rfl⟩
theorem Rz{o:Nat}(h:o<=65536):Bi (AA o)=o:=by
 unfold Bi;rw [EF (by omega)];exact wrap64 _ (by omega) (by omega)
section
variable{L:Nat}{s0:St}{j:Jb}{B:List Nat}
theorem Po (g : Grown L s0 j B) {n : Nd} (hr : Ci n = true) :
    MI j n = (j, 0, 6) \/ ∃ j' name o, MI j n = (j', name, 0) /\ o ∉ B /\ Grown L s0 j' (B ++ [o]) /\ Bi name = (o : Nat) /\ name ≠ 0 /\ EZ j'.s name = some n /\ FV j.s j'.s (fun _ => True) := by
  unfold MI
  rw [hr]
  simp only [Bool.not_true, Bool.false_eq_true, if_false]
  cases hres : CQ j.s (Dn n) with
  | none => exact .inl rfl
  | some p =>
    obtain ⟨off, s1⟩ := p
    right
    obtain ⟨ok1, hw1, pG, UZ, hh1, _, hh2, ht1⟩ := Ue g.ok (Pn n) hres
    have hb1 := hh1.bounds ok1
    have htf := ok1.sh.MK
    have hL1 := g.ok.L1
    have h12 := Pn n
    have hlen := JX n
    obtain ⟨l1, l2, l3, l4⟩ := Fe h12
    have hput : ∀ i, ¬ H8 off (Dn n) i -> BQ s1.ws (off / 8) (DX n) i = s1.ws i := fun i hi => by
      unfold BQ
      rw [if_neg]
      intro h
      exact hi ⟨h.1, by rw [hlen] at h; exact h.2⟩
    have hnot : ∀ i, i < 16 + s1.sh.BI -> ¬ H8 off (Dn n) i := fun i hi h => by
      unfold H8 at h; omega
    obtain ⟨s1', hs1'⟩ : ∃ s1', s1' = ({ s1 with ws := BQ s1.ws (off / 8) (DX n) } : St) := ⟨_, rfl⟩
    have Wi : BA L s1' := hs1' ▸ ok1.words (fun i hi => hput _ (hnot _ (by omega)))
    have wY : EI s1' off (Dn n) := by rw [hs1']; exact hh1
    obtain ⟨s2, e2, ok2, hsh2, hw2, ht2, Amy⟩ := zy Wi wY
    have pI : s1'.sh = s1.sh := by rw [hs1']
    have ht1' : ∀ o d, AP s1' o d <-> AP j.s o d := fun o d => by rw [hs1']; exact ht1 o d
    have hoff := Rz (o := off) (by omega)
    have hkeep : FV j.s s2 (fun _ => True) := fun o c _ ht => by
      have ZL := (ht1' o c).2 ht
      obtain ⟨hne, hap⟩ := Ll Wi wY ZL
      have lY := ZL.bounds Wi
      refine ⟨(ht2 o c).2 (.inl ZL), fun i hi => ?_⟩
      rw [hw2 i (.inr (Wi.DJ lY.1 hi)), hs1']
      show BQ s1.ws (off / 8) (DX n) i = _
      rw [hput i (fun h => Md hap hb1.2.2 lY.2.2 h hi), hw1]
    have hnew : ∀ d, ¬ AP j.s off d := fun d hd => (Ll Wi wY ((ht1' off d).2 hd)).1 rfl
    have hnB : off ∉ B := fun h => by
      obtain ⟨d, hd⟩ := (g.tk off).2 (.inr h)
      exact hnew d hd
    have hrd : EZ s2 (AA off) = some n := by
      refine Yf ok2 hoff ((ht2 _ _).2 (.inr ⟨rfl, rfl⟩)) hr ?_
      unfold wordsAt
      refine List.ext_getElem (by simp [hlen]) fun t h1 h2 => ?_
      simp only [List.getElem_map, List.getElem_range]
      have htl : t < 8 * Be (Dn n) := by simpa using h1
      have hib : H8 off (Dn n) (off / 8 + t) := ⟨by omega, by omega⟩
      rw [hw2 _ (.inr (Wi.DJ (by rw [pI]; exact hb1.1) hib)), hs1']
      show BQ s1.ws (off / 8) (DX n) (off / 8 + t) = _
      unfold BQ
      rw [if_pos ⟨by omega, by omega⟩, Nat.add_sub_cancel_left, Bh, Af h2]
      rfl
    refine ⟨⟨s2, j.made ++ [(off : Int)]⟩, AA off, off, ?_, hnB, ⟨ok2, by rw [hsh2, pI, pG, g.sh], fun o d h => ?_, by rw [g.made]; simp, ?_, fun o ho d hd => ?_, fun o => ?_, g.keep.trans hkeep, fun i hi => ?_⟩, hoff, ?_, hrd, hkeep⟩
    · rw [hs1'] at e2
      simp only [e2, if_true]
    · obtain ⟨h1, h2⟩ := (Amy o d).1 h
      rw [hs1'] at h1
      rcases hh2 o d h1 with h3 | h3
      · exact g.nh o d h3
      · exact h2 h3
    · exact Cj.2 ⟨g.vX, by simp, fun a ha b hb e => by rw [BC] at hb; subst hb; exact hnB (e ▸ ha)⟩
    · rcases AL.1 ho with h | h
      · exact g.new o h d hd
      · rw [BC] at h
        subst h
        obtain ⟨d', hd'⟩ := (g.tk o).2 (.inl ⟨d, hd⟩)
        exact hnew d' hd'
    · have h1 : (∃ d, AP s2 o d) <-> (∃ d, AP j.s o d) \/ o = off := by
        constructor
        · rintro ⟨d, hd⟩
          rcases (ht2 o d).1 hd with h | h
          · exact .inl ⟨d, (ht1' o d).1 h⟩
          · exact .inr h.1
        · rintro (⟨d, hd⟩ | rfl)
          · exact ⟨d, (ht2 o d).2 (.inl ((ht1' o d).2 hd))⟩
          · exact ⟨_, (ht2 _ _).2 (.inr ⟨rfl, rfl⟩)⟩
      show (∃ d, AP s2 o d) <-> _
      rw [h1, g.tk o, AL, BC, or_assoc]
    · show s2.ws i = _
      rw [hw2 i (.inl hi), hs1']
      show BQ s1.ws (off / 8) (DX n) i = _
      rw [hput i (hnot i (by omega)), hw1, g.low i hi]
    · intro e
      have := congrArg UInt64.toNat e
      rw [EF (by omega)] at this
      simp at this
      omega
def Af6(L:Nat)(s0:St)(j:Jb)(B:List Nat)(r:Nat)(l:List UInt8)(value:UInt64)(res:Jb×UInt64×Int):Prop:=
 (res.2.2=6/\∃B',Grown L s0 res.1 B')\/
 (res.2.2=0/\∃C bl,Grown L s0 res.1 (B++C)/\FV j.s res.1.s (fun _=>True)/\res.2.1≠0/\DF res.1.s r res.2.1 [(l,value)] bl/\bl.Perm C)
theorem Ab9{s:St}{name:UInt64}{l:List UInt8}{value:UInt64}{r o:Nat}(h:EZ s name=some ⟨l,value,[],[]⟩)(ho:Bi name=o)(hl:l.length<=r)(hv:value≠0):DF s r name [(l,value)] [o]:=by
 have:=DF.mk r name ⟨l,value,[],[]⟩ [] h hl (fun h=>absurd rfl h) rfl (fun i h1 _=>absurd h1 (by simp));rw [ho,Cm]at this;simpa [BX,Bl,AY,hv]using this
theorem Uh{pre:List UInt8}{val:UInt64}{label:UInt8}{kid:UInt64}(hp:pre.length<=15)(hn:pre.all DL=true)(h16:DL label=true)(hk:kid≠0):Jc ⟨pre,val,[],[]⟩ label kid=true/\H5 ⟨pre,val,[],[]⟩ label kid=⟨pre,val,[label],[kid]⟩/\Ci ⟨pre,val,[label],[kid]⟩=true/\Ci ⟨pre,val,[],[]⟩=true:=by
 have hr0:Ci ⟨pre,val,[],[]⟩=true:=by
  rw [Bo];exact⟨hp,hn,rfl,rfl,rfl,fun i h=>absurd h (by simp)⟩
 have hk':kid.toNat≠0:=fun e=>hk (Eo.1 (by simpa using e))
 refine⟨?_,rfl,?_,hr0⟩
 ·rw [Rw];exact⟨hr0,by simpa [DL]using h16,hk',rfl⟩
 ·rw [Bo];refine⟨hp,hn,rfl,by simp [h16],rfl,fun i h=> ?_⟩;simp only [BJ,Dt]at h;have:i=0:=by omega
  subst this;exact hk'
theorem pJ{s:St}{name kid:UInt64}{pre:List UInt8}{val:UInt64}{label:UInt8}{r o:Nat}{il:List Kv}{bl:List Nat}(h:EZ s name=some ⟨pre,val,[label],[kid]⟩)(ho:Bi name=o)(hl:pre.length+1<=r)(ht:DF s (r-pre.length-1) kid il bl):
 DF s r name ((if val≠0 then [(pre,val)]else [])++EJ pre label il) (o::bl):=by
 have:=DF.mk r name ⟨pre,val,[label],[kid]⟩ [⟨il,bl⟩] h (by simp only;omega) (fun _=>hl) rfl (fun i h1 h2=>by
  simp only [BJ,Dt]at h1;have:i=0:=by omega
  subst this;exact ht)
 rw [ho,Cm]at this;simpa [BX,Bl,AY]using this
theorem Yg:∀(f:Nat){j:Jb}{B:List Nat}(_:Grown L s0 j B)(r:Nat)(l:List UInt8)(value:UInt64),l.length<f->l.length<=r->l.all DL=true->value≠0->Af6 L s0 j B r l value (OH f j l value)
 | 0,_,_,_,_,_,_,h,_,_,_=>absurd h (by omega)
 | f+1,j,B,g,r,l,value,hf,hlr,hn,hv=>by
   rw [OH];by_cases h15:l.length<=15
   ·rw [if_pos h15];have hr:Ci ⟨l,value,[],[]⟩=true:=by
     rw [Bo];exact⟨h15,hn,rfl,rfl,rfl,fun i h=>absurd h (by simp)⟩
    rcases Po g hr with e| ⟨j',name,o,e,ho,g',hoff,hn0,hrd,hk⟩
    ·rw [e];exact .inl ⟨rfl,B,g⟩
    ·rw [e];exact .inr ⟨rfl,[o],[o],g',hk,hn0,Ab9 hrd hoff hlr hv,List.Perm.refl _⟩
   ·rw [if_neg h15];have ih:=Yg f g (r-15-1) (l.drop 16) value (by rw [AV];omega) (by rw [AV];omega) (U2 _ _ _ hn) hv;generalize OH f j (l.drop 16) value=res at ih;obtain⟨j1,kid,e⟩:=res;simp only;unfold JF;rcases ih with⟨e1,B',g1⟩| ⟨e1,C,bl,g1,hk1,hn1,ht1,hp1⟩
    ·simp only at e1 g1;subst e1;rw [if_pos (by decide)];exact .inl ⟨rfl,B',g1⟩
    ·simp only at e1 g1 hk1 hn1 ht1;subst e1;rw [if_neg (by simp)];have hlt:(l.take 15).length=15:=by simp;omega
     have Ard:l.getD 15 0=l[15]'(by omega):=by rw [Bh,Af (by omega)];rfl
     have hlab:DL (l.getD 15 0)=true:=by rw [Ard];exact E8.1 hn _ (BM _)
     obtain⟨w1,w2,w3,_⟩:=Uh (val:=0) (Nat.le_of_eq hlt) (U1 _ _ 15 hn) hlab hn1;rw [if_pos w1,w2];rcases Po g1 w3 with e| ⟨j',name,o,e,ho,g',hoff,hn0,hrd,hk⟩
     ·rw [e];exact .inl ⟨rfl,_,g1⟩
     ·rw [e];refine .inr ⟨rfl,C++[o],o::bl,by rw [<-AX];exact g',hk1.trans hk,hn0,?_,?_⟩
      ·have:=pJ (r:=r) hrd hoff (by rw [hlt];omega) (by rw [hlt];exact ht1.keep g1.ok g'.ok hk (fun _ _=>trivial));have e2:l.take 15++l.getD 15 0::l.drop 16=l:=by
        rw [Ard]
        conv=>rhs;rw [<-GN 15 l]
        rw [Ea (by omega:15<l.length)]
       rw [if_neg (by simp),Fz]at this;unfold EJ at this;simp only [BU,Gq,e2]at this;exact this
      ·refine List.Perm.trans ?_ (List.perm_append_singleton o C).symm;exact List.Perm.cons _ hp1
end
theorem Nb(pre:List UInt8):∀(a b:List UInt8)(c d:List Part),a.length=c.length->Bl pre (a++b) (c++d)=Bl pre a c++Bl pre b d
 | [],b,[],d,_=>by simp [Bl]
 | [],b,_::_,d,h=>by simp at h
 | _::_,b,[],d,h=>by simp at h
 | x::a,b,p::c,d,h=>by
   simp only [CJ,Bl,Nb pre a b c d (by simpa using h),AX]
theorem RD(pre:List UInt8)(ls:List UInt8)(ps:List Part)(i:Nat)(h:ls.length=ps.length):Bl pre ls ps=Bl pre (ls.take i) (ps.take i)++Bl pre (ls.drop i) (ps.drop i):=by
 rw [<-Nb _ _ _ _ _ (by simp [h]),GN,GN]
theorem O9(a b:List Part):AY (a++b)=AY a++AY b:=by simp [AY]
theorem Q8(ps:List Part)(i:Nat):AY ps=AY (ps.take i)++AY (ps.drop i):=by rw [<-O9,GN]
theorem Xk{l:List UInt8}{k:Nat}(h:k<l.length):l.getD k 0=l[k]:=by rw [Bh,Af h];rfl
theorem Ajj{l:List UInt8}{k:Nat}(h:k<l.length):l.take k++l.getD k 0::l.drop (k+1)=l:=by
 rw [Xk h,<-Ea h,GN]
theorem Af7{x:UInt64}(h:x≠0):x.toNat≠0:=fun e=>h (Eo.1 (by simpa using e))
section
variable{L:Nat}{s0:St}{j:Jb}{B:List Nat}
theorem pK (g : Grown L s0 j B) {x : Nd} (hx : Ci x = true) {parts : List Part} (hlen : parts.length = x.kids.length) {label : UInt8} (h16 : DL label = true) (hno : OG x.labels label = false) {kid : UInt64} (hk0 : kid ≠ 0) {r : Nat} (hr : x.pre.length + 1 <= r)
    (hk : ∀ i (h1 : i < x.kids.length) (h2 : i < parts.length), DF j.s (r - x.pre.length - 1) x.kids[i] parts[i].items parts[i].blocks) {il : List Kv} {bl : List Nat} (ht : DF j.s (r - x.pre.length - 1) kid il bl) :
    JF j x label kid 0 = (j, 0, 6) \/ ∃ j' name o, JF j x label kid 0 = (j', name, 0) /\ Grown L s0 j' (B ++ [o]) /\ FV j.s j'.s (fun _ => True) /\ name ≠ 0 /\ ∃ Wj Ui, DF j'.s r name Wj Ui /\ Ui.Perm (o :: bl ++ AY parts) /\
      ∀ kv, kv ∈ Wj <-> kv ∈ BX x ++ Bl x.pre x.labels parts \/ kv ∈ EJ x.pre label il := by
  have hok : Jc x label kid = true := (Rw _ _ _).2 ⟨hx, by simpa [DL] using h16, Af7 hk0, hno⟩
  have F := pg x label kid hok
  have hxr := (Bo x).1 hx
  unfold JF
  rw [if_neg (by simp), if_pos hok]
  rcases Po g F.right with e | ⟨j', name, o, e, ho, g', hoff, hn0, hrd, hkp⟩
  · exact .inl e
  · right
    obtain ⟨p, hp⟩ : ∃ p, p = FX x.labels label := ⟨_, rfl⟩
    have hpl : p <= x.labels.length := hp ▸ F.place
    have hll : x.labels.length = x.kids.length := hxr.2.2.1
    have T := DF.mk r name (H5 x label kid) (J5 parts p ⟨il, bl⟩) hrd (by show x.pre.length <= r; omega) (fun _ => hr) (by rw [Ol _ _ _ (by omega), F.Arc, hlen]) (fun i h1 h2 => by
      have e1 := J9 x.kids p kid (by omega) i
      have e2 := J9 parts p ⟨il, bl⟩ (by omega) i
      have e1' : (J5 x.kids p kid)[i]? = some (H5 x label kid).kids[i] := (congrArg (fun l => l[i]?) (show J5 x.kids p kid = (H5 x label kid).kids by rw [hp]; rfl)).trans (Af h1)
      rw [Af h2] at e2
      rw [e1] at e1'
      show DF j'.s (r - x.pre.length - 1) (H5 x label kid).kids[i] _ _
      have hlen2 : (H5 x label kid).kids.length = x.kids.length + 1 := F.Arc
      by_cases h3 : i < p
      · rw [if_pos h3] at e1' e2
        rw [Af (by omega)] at e1' e2
        injection e1' with e1'
        injection e2 with e2
        rw [e2]
        have := (hk i (by omega) (by omega)).keep g.ok g'.ok hkp (fun _ _ => trivial)
        simp only [e1'] at this ⊢
        first | exact this | (rw [<- e1']; exact this)
      · rw [if_neg h3] at e1' e2
        by_cases h4 : i = p
        · rw [if_pos h4] at e1' e2
          injection e1' with e1'
          injection e2 with e2
          rw [e2]
          have := ht.keep g.ok g'.ok hkp (fun _ _ => trivial)
          first | exact e1' ▸ this | (rw [<- e1']; exact this)
        · rw [if_neg h4] at e1' e2
          rw [Af (by omega)] at e1' e2
          injection e1' with e1'
          injection e2 with e2
          rw [e2]
          have := (hk (i - 1) (by omega) (by omega)).keep g.ok g'.ok hkp (fun _ _ => trivial)
          first | exact e1' ▸ this | (rw [<- e1']; exact this))
    rw [hoff, Cm] at T
    refine ⟨j', name, o, e, g', hkp, hn0, _, _, T, ?_, fun kv => ?_⟩
    · refine List.Perm.cons _ ?_
      unfold J5
      rw [O9, Q8 parts p]
      show (AY (parts.take p) ++ (bl ++ AY (parts.drop p))).Perm (bl ++ (AY (parts.take p) ++ AY (parts.drop p)))
      rw [<- AX, <- AX]
      exact List.Perm.append_right _ List.perm_append_comm
    · have e1 : Bl x.pre (J5 x.labels p label) (J5 parts p ⟨il, bl⟩) = Bl x.pre (x.labels.take p) (parts.take p) ++ (EJ x.pre label il ++ Bl x.pre (x.labels.drop p) (parts.drop p)) := by
        unfold J5
        rw [Nb _ _ _ _ _ (by simp; omega)]
        rfl
      rw [show (H5 x label kid).labels = J5 x.labels p label by rw [hp]; rfl, show (H5 x label kid).pre = x.pre from rfl, show BX (H5 x label kid) = BX x from rfl, e1, RD x.pre x.labels parts p (by omega)]
      simp only [AL]
      grind
theorem eY(x:Nd)(k:Nat)(hk:k<x.pre.length):∀(parts:List Part),EJ (x.pre.take k) (x.pre.getD k 0) (BX {x with pre:=x.pre.drop (k+1)}++Bl (x.pre.drop (k+1)) x.labels parts)=BX x++Bl x.pre x.labels parts:=by
 have e:∀t,x.pre.take k++x.pre.getD k 0::(x.pre.drop (k+1)++t)=x.pre++t:=fun t=>by
  rw [<-CJ,<-AX,Ajj hk]
 have e0:x.pre.take k++x.pre.getD k 0::x.pre.drop (k+1)=x.pre:=by simpa using e []
 have h:∀(ls:List UInt8)(ps:List Part),EJ (x.pre.take k) (x.pre.getD k 0) (Bl (x.pre.drop (k+1)) ls ps)=Bl x.pre ls ps:=by
  intro ls;induction ls with
  | nil=>intro ps;simp [Bl,EJ]
  | cons lb ls ih=>
    intro ps;cases ps with
    | nil=>simp [Bl,EJ]
    | cons p ps=>
      have:=ih ps;unfold EJ at this⊢;simp only [Bl,Dq,this];congr 1;unfold EJ;rw [List.map_map];refine FO fun kv _=> ?_
      simp only [Function.comp_apply];rw [e]
 intro parts;have h2:=h x.labels parts;unfold EJ at h2⊢;rw [Dq,h2];congr 1;unfold BX
 dsimp only
 split
 ·simp only [BU,Gq];rw [e0]
 ·rfl
def Af8(L:Nat)(s0:St)(r:Nat)(x:Nd)(parts:List Part)(rest:List UInt8)(value:UInt64)(res:Jb×UInt64×Int):Prop:=
 (res.2.2=6/\∃B',Grown L s0 res.1 B')\/
 (res.2.2=0/\∃C Wj Ui,Grown L s0 res.1 C/\res.2.1≠0/\DF res.1.s r res.2.1 Wj Ui/\Ui.Perm (C++AY parts)/\∀kv,kv∈Wj<->kv∈BX x++Bl x.pre x.labels parts\/kv=(rest,value))
theorem Ajk(ok:BA L s0)(nh:∀o d,¬EI s0 o d){x:Nd}(hx:Ci x=true){parts:List Part}(hlen:parts.length=x.kids.length){r:Nat}(hpre:x.pre.length<=r)(Na:x.kids≠[]->x.pre.length+1<=r)
 (hk:∀i(h1:i<x.kids.length)(h2:i<parts.length),DF s0 (r-x.pre.length-1) x.kids[i] parts[i].items parts[i].blocks){rest:List UInt8}{value:UInt64}(hrl:rest.length<=r)(hrn:rest.all DL=true)(hv:value≠0)(hne:x.pre≠rest)
 (hno:common x.pre rest=x.pre.length->OG x.labels (rest.getD (common x.pre rest) 0)=false):Af8 L s0 r x parts rest value (WR ⟨s0,[]⟩ x rest value):=by
 have g0:=Grown.start ok nh;have hxr:=(Bo x).1 hx;have hcl:=IL x.pre rest;have hcr:=Fp x.pre rest;have hct:=QO x.pre rest;unfold WR;by_cases hc:common x.pre rest=x.pre.length
 ·rw [if_pos hc];have hlt:x.pre.length<rest.length:=by
   rcases Nat.lt_or_ge x.pre.length rest.length with h| h
   ·exact h
   ·exfalso;refine hne ?_;rw [hc,MG,List.take_of_length_le (by omega)]at hct;exact hct
  have hno':=hno hc;rw [hc]at hno' hct⊢;rw [MG]at hct;have hcut:=Ajj hlt;rw [<-hct]at hcut;have hlab:DL (rest.getD x.pre.length 0)=true:=by rw [Xk hlt];exact E8.1 hrn _ (BM _)
  have hL:=Yg (rest.length+1) g0 (r-x.pre.length-1) (rest.drop (x.pre.length+1)) value (by rw [AV];omega) (by rw [AV];omega) (U2 _ _ _ hrn) hv;generalize OH (rest.length+1) ⟨s0,[]⟩ (rest.drop (x.pre.length+1)) value=res at hL;obtain⟨j1,kid,e⟩:=res;rcases hL with⟨e1,B',g1⟩| ⟨e1,C,bl,g1,hk1,hn1,ht1,hp1⟩
  ·simp only at e1 g1;subst e1;simp only;unfold JF;rw [if_pos (by decide)];exact .inl ⟨rfl,B',g1⟩
  ·simp only at e1 g1 hk1 hn1 ht1;subst e1;simp only;rw [Fz]at g1;rcases pK (r:=r) g1 hx hlen hlab hno' hn1 (by omega) (fun i h1 h2=>(hk i h1 h2).keep ok g1.ok hk1 (fun _ _=>trivial)) ht1 with e| ⟨j',name,o,e,g',hkp,hn0,Wj,Ui,T,hp,hm⟩
   ·rw [e];exact .inl ⟨rfl,_,g1⟩
   ·rw [e];refine .inr ⟨rfl,C++[o],Wj,Ui,g',hn0,T,hp.trans ?_,fun kv=> ?_⟩
    ·rw [AX];refine List.Perm.trans (l₂:=o::(C++AY parts)) (List.Perm.cons _ (List.Perm.append_right _ hp1)) ?_;exact List.perm_middle.symm
    ·rw [hm kv];unfold EJ;simp only [BU,Gq,BC,hcut]
 ·rw [if_neg hc];have hlt:common x.pre rest<x.pre.length:=by omega
  obtain⟨k,hkk⟩:∃k,k=common x.pre rest:=⟨_,rfl⟩;have hst:=WJ x.pre rest;rw [<-hkk]at hlt hct hcr hst⊢;have hlab:DL (x.pre.getD k 0)=true:=by rw [Xk hlt];exact E8.1 hxr.2.1 _ (BM _)
  have htl:(x.pre.take k).length=k:=by simp;omega
  have hlow:Ci {x with pre:=x.pre.drop (k+1)}=true:=by
   rw [Bo];exact⟨by simp only [AV];omega,U2 _ _ _ hxr.2.1,hxr.2.2.1,hxr.2.2.2.1,hxr.2.2.2.2.1,hxr.2.2.2.2.2⟩
  rcases Po g0 hlow with e| ⟨j1,kid,o1,e,ho1,g1,Arf,hn1,Aug,Auh⟩
  ·rw [e];simp only;split
   ·unfold JF;rw [if_pos (by decide)];exact .inl ⟨rfl,_,g0⟩
   ·rw [if_pos (by decide)];exact .inl ⟨rfl,_,g0⟩
  ·rw [e];simp only;rw [Fz]at g1;have T1:=DF.mk (r-k-1) kid {x with pre:=x.pre.drop (k+1)} parts Aug (by simp only [AV];omega) (fun h=>by have:=Na h;simp only [AV];omega) hlen (fun i h1 h2=>by
    have:=(hk i h1 h2).keep ok g1.ok Auh (fun _ _=>trivial);have e2:r-k-1- ({x with pre:=x.pre.drop (k+1)}:Nd).pre.length-1=r-x.pre.length-1:=by simp only [AV];omega
    rw [e2];exact this)
   rw [Arf,Cm]at T1;by_cases hr:k=rest.length
   ·rw [if_pos hr];have hrest:rest=x.pre.take k:=by rw [hct,hr,MG]
    obtain⟨w1,w2,w3,_⟩:=Uh (pre:=x.pre.take k) (val:=value) (by rw [htl];omega) (U1 _ _ _ hxr.2.1) hlab hn1;unfold JF;rw [if_neg (by simp),if_pos w1,w2];rcases Po g1 w3 with e| ⟨j2,name,o2,e,ho2,g2,Arh,hn2,Aui,Auj⟩
    ·rw [e];exact .inl ⟨rfl,_,g1⟩
    ·rw [e];have T2:=pJ (r:=r) Aui Arh (by rw [htl];omega) (by rw [htl];exact T1.keep g1.ok g2.ok Auj (fun _ _=>trivial));rw [eY x k hlt parts,if_pos hv]at T2;refine .inr ⟨rfl,[o1]++[o2],_,_,g2,hn2,T2,?_,fun kv=> ?_⟩
     ·exact(List.Perm.swap o1 o2 _)
     ·rw [hrest];simp only [CJ,Fz,List.mem_cons];exact Or.comm
   ·rw [if_neg hr,if_neg (by simp)];have Ajl:k<rest.length:=by omega
    obtain⟨w1,w2,w3,_⟩:=Uh (pre:=x.pre.take k) (val:=0) (by rw [htl];omega) (U1 _ _ _ hxr.2.1) hlab hn1;rw [if_pos w1,w2];have Ari:DL (rest.getD k 0)=true:=by rw [Xk Ajl];exact E8.1 hrn _ (BM _)
    have hL:=Yg (rest.length+1) g1 (r-k-1) (rest.drop (k+1)) value (by rw [AV];omega) (by rw [AV];omega) (U2 _ _ _ hrn) hv;generalize OH (rest.length+1) j1 (rest.drop (k+1)) value=res at hL;obtain⟨j2,Y2,e⟩:=res;rcases hL with⟨e1,B',g2⟩| ⟨e1,C,bl,g2,hk2,hn2,ht2,hp2⟩
    ·simp only at e1 g2;subst e1;simp only;unfold JF;rw [if_pos (by decide)];exact .inl ⟨rfl,B',g2⟩
    ·simp only at e1 g2 hk2 hn2 ht2;subst e1;simp only;have hdiff:OG [x.pre.getD k 0] (rest.getD k 0)=false:=by
      have h1:=hst hlt Ajl;unfold OG;simp only [List.any_cons,List.any_nil,Bool.or_false,beq_eq_false_iff_ne];rw [Xk hlt,Xk Ajl];exact fun e=>h1 (UInt8.toNat_inj.1 e)
     rcases pK (r:=r) (parts:=[⟨_,_⟩]) g2 w3 rfl Ari hdiff hn2 (by rw [htl];omega) (fun i h1 h2=>by
      simp only [BJ,Dt]at h1;have:i=0:=by omega
      subst this;rw [show(⟨x.pre.take k,0,[x.pre.getD k 0],[kid]⟩:Nd).pre.length=k from htl];exact T1.keep g1.ok g2.ok hk2 (fun _ _=>trivial)) (by rw [show(⟨x.pre.take k,0,[x.pre.getD k 0],[kid]⟩:Nd).pre.length=k from htl];exact ht2)with e| ⟨j',name,o,e,g',hkp,hn0,Wj,Ui,T,hp,hm⟩
     ·rw [e];exact .inl ⟨rfl,_,g2⟩
     ·rw [e];refine .inr ⟨rfl,[o1]++C++[o],Wj,Ui,g',hn0,T,hp.trans ?_,fun kv=> ?_⟩
      ·have e3:AY [⟨BX {x with pre:=x.pre.drop (k+1)}++Bl (x.pre.drop (k+1)) x.labels parts,o1::AY parts⟩]=o1::AY parts:=by simp [AY]
       rw [e3];have p1:(o::bl++o1::AY parts).Perm (o::C++o1::AY parts):=List.Perm.append_right _ (List.Perm.cons _ hp2);refine p1.trans ?_;have e4:[o1]++C++[o]++AY parts=o1::(C++o::AY parts):=by simp
       rw [e4];refine(Ady (a:=o1) (l₁:=o::C) (l₂:=AY parts)).trans (List.Perm.cons _ ?_);exact(Ady (a:=o) (l₁:=C) (l₂:=AY parts)).symm
      ·rw [hm kv];have e3:BX (⟨x.pre.take k,0,[x.pre.getD k 0],[kid]⟩:Nd)++Bl (x.pre.take k) [x.pre.getD k 0] [⟨BX {x with pre:=x.pre.drop (k+1)}++Bl (x.pre.drop (k+1)) x.labels parts,o1::AY parts⟩]=BX x++Bl x.pre x.labels parts:=by
        rw [<-eY x k hlt parts];simp [BX,Bl]
       rw [e3];have e4:x.pre.take k++rest.getD k 0::rest.drop (k+1)=rest:=by rw [hct];exact Ajj Ajl
       unfold EJ;simp only [BU,Gq,BC,e4]
end
