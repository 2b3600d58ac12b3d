import Derived.Test.YtkimaejoeapmnaaGreatDoorH14
import Derived.Test.YtkimaejoeapmnaaGreatDoorH30
set_option linter.defProp false
open List renaming find?_some->YT,getD_eq_getElem?_getD->Bi,mem_of_find?_eq_some->eU,mem_range->Dy,length_set->Di,map_congr_left->FW,mem_map->Ba,getElem_mem->BI,mem_cons_self->Bh,mem_cons_of_mem->BH,mem_append->AL,mem_singleton->BD,pairwise_append->uV,eq_nil_of_length_eq_zero->Ci,nodup_append->CE,mem_append_left->BG,append_assoc->AX,mem_append_right->Bl,length_append->AQ,map_append->Dx,map_cons->Cb,cons_append->Cj,nil_append->EM,length_cons->BB,length_nil->Du,getElem?_eq_getElem->Af,length_drop->AV,all_eq_true->EH,take_append_drop->GX,drop_eq_getElem_cons->Eg,map_nil->Gv,take_length->Nc,perm_middle->Ae9
open Nat renaming mul_le_mul_left->UL,mul_add->zC,mul_one->KZ,mul_assoc->NI,lt_trichotomy->Ae8,succ_eq_add_one->Abl
open Int renaming toNat_natCast->Cm,ofNat->Cf
open UInt64 renaming ofNat->Aw,toNat_inj->Ec
namespace Go.Proofs.YtkimaejoeapmnaaGreatDoor
def Akx{n many k:Nat}(h:jA n many=some k):n.testBit k=false:=by
 unfold jA at h;have:=YT h;simpa using this
structure Bz(L:Nat)(s:St):Prop where
 sh:dJ L s.sh
 L1:L<=1024
 Oq:s.tk.length=s.sh.BM
 mX:s.hd.length=s.sh.BM
 tk:∀i,i<s.sh.BM->OkW (GY s i)
 hd:∀i,i<s.sh.BM->OkW (hdN s i)
 cls:∀i,i<s.sh.BM->GY s i=0\/hdN s i=0\/Bg (GY s i)=Bg (hdN s i)
 Xb:∀i a,i<s.sh.BM->EP (GY s i) a=true->EP (hdN s i) a=false
 tab:∀i,i<s.sh.BM->s.ws (16+i)=s.tk.getD i 0
def AO(s:St)(off c:Nat):Prop:=∃i a,i<s.sh.BM/\EP (GY s i) a=true/\Bg (GY s i)=c/\off=CY s.sh i c a
def EK(s:St)(off c:Nat):Prop:=∃i a,i<s.sh.BM/\EP (hdN s i) a=true/\Bg (hdN s i)=c/\off=CY s.sh i c a
def Ff{c:Nat}(h:c=1\/c=2):Bf c*Bv c=16/\0<Bf c/\0<Bv c/\Bf c<=4:=by
 rcases h with rfl| rfl<;>decide
def MR{sh:Sh}{i c a:Nat}(hc:c=1\/c=2)(ha:a<Bv c):sh.data+1024*i<=CY sh i c a/\CY sh i c a+64*Bf c<=sh.data+1024*(i+1):=by
 obtain⟨h1,h2,h3,_⟩:=Ff hc;unfold CY;have h4:Bf c*(a+1)<=16:=by rw [<-h1];exact UL _ ha
 rw [zC,KZ]at h4;rw [NI];omega
def Xc{sh:Sh}{i j c d a b:Nat}(hc:c=1\/c=2)(hd:d=1\/d=2)(ha:a<Bv c)(hb:b<Bv d)(h:CY sh i c a=CY sh j d b):i=j:=by
 have h1:=MR (sh:=sh) (i:=i) hc ha;have h2:=MR (sh:=sh) (i:=j) hd hb;have h3:=(Ff hc).2.1;have h4:=(Ff hd).2.1;rcases Ae8 i j with h5| h5| h5
 ·omega
 ·exact h5
 ·omega
def U6{sh:Sh}{i c a b:Nat}(hc:c=1\/c=2)(h:CY sh i c a=CY sh i c b):a=b:=by
 unfold CY at h;have h2:=(Ff hc).2.1;have:64*Bf c*a=64*Bf c*b:=O
 exact Nat.eq_of_mul_eq_mul_left O this
def XK{sh:Sh}{i j c d a b:Nat}(hc:c=1\/c=2)(hd:d=1\/d=2)(ha:a<Bv c)(hb:b<Bv d)(hcd:i=j->c=d)(h:CY sh i c a≠CY sh j d b):
 CY sh i c a+64*Bf c<=CY sh j d b\/CY sh j d b+64*Bf d<=CY sh i c a:=by
 have h1:=MR (sh:=sh) (i:=i) hc ha;have h2:=MR (sh:=sh) (i:=j) hd hb;rcases Ae8 i j with h5| h5| h5
 ·omega
 ·subst h5;obtain rfl:=hcd rfl;have hab:a≠b:=λe=>h (by rw [e])
  unfold CY;rcases Nat.lt_or_gt_of_ne hab with h6| h6
  ·have:=UL (64*Bf c) h6;rw [Abl,zC,KZ]at this;omega
  ·have:=UL (64*Bf c) h6;rw [Abl,zC,KZ]at this;omega
 ·omega
section
variable{L:Nat}{s:St}
def Bz.both(ok:Bz L s){i:Nat}(hi:i<s.sh.BM):OkW (GY s i||| hdN s i)/\(∀a,EP (GY s i||| hdN s i) a=(EP (GY s i) a|| EP (hdN s i) a))/\(GY s i≠0->Bg (GY s i||| hdN s i)=Bg (GY s i))/\(hdN s i≠0->Bg (GY s i||| hdN s i)=Bg (hdN s i)):=Adc (ok.tk i hi) (ok.hd i hi) (ok.cls i hi)
def Bz.QC(ok:Bz L s){i a:Nat}(hi:i<s.sh.BM)(ha:EP (GY s i) a=true):∃c,SW (GY s i) c/\Bg (CQ s i)=c/\a<Bv c:=by
 obtain⟨c,hS,hb,_⟩:=(ok.tk i hi).RZ ha;exact⟨c,hS,by unfold CQ;rw [(ok.both hi).2.2.1 hS.ne,hS.class],hb⟩
def Bz.aW(ok:Bz L s){i a:Nat}(hi:i<s.sh.BM)(ha:EP (hdN s i) a=true):∃c,SW (hdN s i) c/\Bg (CQ s i)=c/\a<Bv c:=by
 obtain⟨c,hS,hb,_⟩:=(ok.hd i hi).RZ ha;exact⟨c,hS,by unfold CQ;rw [(ok.both hi).2.2.2 hS.ne,hS.class],hb⟩
def U7(ok:Bz L s){i c a:Nat}(hi:i<s.sh.BM)(hc:Bg (CQ s i)=c)(h12:c=1\/c=2)(ha:a<Bv c):Ia s (CY s.sh i c a:Nat)=some (i,a):=by
 have h1:=MR (sh:=s.sh) (i:=i) h12 ha;obtain⟨h2,h3,h4,h5⟩:=Ff h12;have hlen:=ok.Oq;have e1:(CY s.sh i c a-s.sh.data)/1024=i:=O
 have e2:(CY s.sh i c a-s.sh.data)%1024=64*Bf c*a:=by
  have:CY s.sh i c a-s.sh.data=1024*i+64*Bf c*a:=by unfold CY;omega
  omega
 unfold Ia;rw [if_neg O];simp only [Cm,e1,e2,hc];rw [if_neg (by rw [Nat.mul_mod_right];omega),Nat.mul_div_cancel_left _ O]
def Ahf(ok:Bz L s){off:Int}{i a:Nat}(h:Ia s off=some (i,a)):i<s.sh.BM/\(Bg (CQ s i)=1\/Bg (CQ s i)=2)/\a<Bv (Bg (CQ s i))/\off=(CY s.sh i (Bg (CQ s i)) a:Nat):=by
 have hlen:=ok.Oq;unfold Ia at h;split at h
 ·cases h
 ·rename_i h1;split at h
  ·cases h
  ·rename_i h2;simp only [Option.some.injEq,Prod.mk.injEq]at h;obtain⟨rfl,rfl⟩:=h;have hi:(off.toNat-s.sh.data)/1024<s.sh.BM:=O
   generalize hc:Bg (CQ s ((off.toNat-s.sh.data)/1024))=c at h2⊢;have h12:c=1\/c=2:=by
    unfold Bf at h2;split at h2
    ·exact .inl rfl
    ·exact .inr rfl
    ·simp at h2
   obtain⟨h3,h4,h5,h6⟩:=Ff h12;have hdm:=Nat.div_add_mod ((off.toNat-s.sh.data)%1024) (64*Bf c);have hmod:(off.toNat-s.sh.data)%1024%(64*Bf c)=0:=O
   have hlt:(off.toNat-s.sh.data)%1024<1024:=Nat.mod_lt _ U;refine⟨hi,h12,?_,?_⟩
   ·refine Nat.div_lt_of_lt_mul ?_;rw [NI,h3];exact hlt
   ·unfold CY;rw [hmod,Nat.add_zero]at hdm;rw [hdm];omega
def AO.cls(ok:Bz L s){off c:Nat}(h:AO s off c):c=1\/c=2:=by
 obtain⟨i,a,hi,ha,rfl,_⟩:=h;obtain⟨c,hS,_,_⟩:=ok.QC hi ha;rw [hS.class];exact hS.cls
def AO.class(ok:Bz L s){off c:Nat}(h:AO s off c):D7 s off=c:=by
 have h12:=h.cls ok;obtain⟨i,a,hi,ha,hc,rfl⟩:=h;obtain⟨d,hS,hb,hlt⟩:=ok.QC hi ha;have e:c=d:=by rw [<-hc,hS.class]
 subst e;unfold D7;rw [U7 ok hi hb h12 hlt];simp only [ha,if_true,hc]
def Sm(ok:Bz L s){off:Int}{c:Nat}(h:D7 s off=c)(h0:c≠0):∃o:Nat,off=o/\AO s o c:=by
 unfold D7 at h;split at h
 ·exact absurd h.symm h0
 ·rename_i i a hf;obtain⟨hi,h12,hlt,he⟩:=Ahf ok hf;split at h
  ·rename_i ha;obtain⟨d,hS,hb,_⟩:=ok.QC hi ha;refine⟨_,he,i,a,hi,ha,h,?_⟩;rw [hb,<-h,hS.class]
  ·exact absurd h.symm h0
def AO.bounds(ok:Bz L s){off c:Nat}(h:AO s off c):s.sh.data<=off/\off+64*Bf c<=64*L/\off%64=0:=by
 have h12:=h.cls ok;obtain⟨i,a,hi,ha,hc,rfl⟩:=h;obtain⟨d,hS,hb,hlt⟩:=ok.QC hi ha;have e:c=d:=by rw [<-hc,hS.class]
 subst e;have h1:=MR (sh:=s.sh) (i:=i) h12 hlt;have:=ok.sh.fits;have:=ok.sh.data;refine⟨O,O,?_⟩;unfold CY;rw [NI];omega
def EK.cls(ok:Bz L s){off c:Nat}(h:EK s off c):c=1\/c=2:=by
 obtain⟨i,a,hi,ha,rfl,_⟩:=h;obtain⟨c,hS,_,_⟩:=ok.aW hi ha;rw [hS.class];exact hS.cls
def EK.bounds(ok:Bz L s){off c:Nat}(h:EK s off c):s.sh.data<=off/\off+64*Bf c<=64*L/\off%64=0:=by
 have h12:=h.cls ok;obtain⟨i,a,hi,ha,hc,rfl⟩:=h;obtain⟨d,hS,hb,hlt⟩:=ok.aW hi ha;have e:c=d:=by rw [<-hc,hS.class]
 subst e;have h1:=MR (sh:=s.sh) (i:=i) h12 hlt;have:=ok.sh.fits;have:=ok.sh.data;refine⟨O,O,?_⟩;unfold CY;rw [NI];omega
def rC(ok:Bz L s){o p c d:Nat}(h:AO s o c)(k:AO s p d)(hne:o≠p):o+64*Bf c<=p\/p+64*Bf d<=o:=by
 have h12:=h.cls ok;have k12:=k.cls ok;obtain⟨i,a,hi,ha,hc,rfl⟩:=h;obtain⟨j,b,hj,hb,hd,rfl⟩:=k;obtain⟨c',hS,_,hlt⟩:=ok.QC hi ha;obtain⟨d',hS',_,hlt'⟩:=ok.QC hj hb;rw [hS.class]at hc;rw [hS'.class]at hd;subst hc hd;refine XK h12 k12 hlt hlt' (λe=> ?_) hne;subst e;rw [<-hS.class,<-hS'.class]
def Kq(ok:Bz L s){o p c d:Nat}(h:EK s o c)(k:AO s p d):o≠p/\(o+64*Bf c<=p\/p+64*Bf d<=o):=by
 have h12:=h.cls ok;have k12:=k.cls ok;obtain⟨i,a,hi,ha,hc,rfl⟩:=h;obtain⟨j,b,hj,hb,hd,rfl⟩:=k;obtain⟨c',hS,jI,hlt⟩:=ok.aW hi ha;obtain⟨d',hS',Aog,hlt'⟩:=ok.QC hj hb;rw [hS.class]at hc;rw [hS'.class]at hd;subst hc hd;have hcd:i=j->c'=d':=λe=>by subst e;rw [<-jI,<-Aog]
 have hne:CY s.sh i c' a≠CY s.sh j d' b:=λe=>by
  obtain rfl:=Xc h12 k12 hlt hlt' e;obtain rfl:=hcd rfl;obtain rfl:=U6 h12 e;rw [ok.Xb i a hi hb]at ha;cases ha
 exact⟨hne,XK h12 k12 hlt hlt' hcd hne⟩
end
def DU{n:Nat}(h:n<2^64):(Aw n).toNat=n:=by
 rw [UInt64.toNat_ofNat'];exact Nat.mod_eq_of_lt h
def PM{α:Type}(l:List α)(i j:Nat)(x z:α)(hi:i<l.length):(l.set i x).getD j z=if j=i then x else l.getD j z:=by
 rw [Bi,Bi,List.getElem?_set];by_cases h:i=j
 ·subst h;simp [hi]
 ·rw [if_neg h,if_neg (λe=>h e.symm)]
section
variable{L:Nat}{s:St}
def Bz.table(ok:Bz L s):s.sh.table=128:=ok.sh.table
def Bz.words(ok:Bz L s){ws':Nat->UInt64}(h:∀i,i<s.sh.BM->ws' (16+i)=s.ws (16+i)):Bz L {s with ws:=ws'}:=
 ⟨ok.sh,ok.L1,ok.Oq,ok.mX,ok.tk,ok.hd,ok.cls,ok.Xb,λi hi=>(h i hi).trans (ok.tab i hi)⟩
def GR(off c j:Nat):Prop:=off/8<=j/\j<off/8+8*Bf c
def MS{o p c d j:Nat}(h:o+64*Bf c<=p\/p+64*Bf d<=o)(ho:o%64=0)(hp:p%64=0)(k:GR o c j):¬GR p d j:=by
 unfold GR at*;omega
def Bz.DF(ok:Bz L s){off c j:Nat}(h1:s.sh.data<=off)(h2:GR off c j):16+s.sh.BM<=j:=by
 have:=ok.sh.Le;unfold GR at h2;omega
def l7{c i a:Nat}(h:LY s c=some i)(h2:KI (CQ s i) c=some a):i<s.tk.length/\(Bg (CQ s i)=c\/Bg (CQ s i)=0):=by
 unfold LY at h;split at h
 ·rename_i j hj;injection h with h;subst h
  unfold Lr at hj;have h3:=YT hj;have h4:=eU hj;rw [Bool.and_eq_true,decide_eq_true_eq]at h3;exact⟨Dy.1 h4,.inl h3.1⟩
 ·unfold Lr at h;have h3:=YT h;have h4:=eU h;rw [Bool.and_eq_true,decide_eq_true_eq]at h3;exact⟨Dy.1 h4,.inr h3.1⟩
def Oi(ok:Bz L s){c off:Nat}{s1:St}(hc:c=1\/c=2)(h:CO s c=some (off,s1)):
 Bz L s1/\s1.ws=s.ws/\s1.sh=s.sh/\s1.tk=s.tk/\EK s1 off c/\(∀o d,EK s o d->EK s1 o d)/\(∀o d,EK s1 o d->EK s o d\/o=off)/\∀o d,AO s1 o d<->AO s o d:=by
 unfold CO at h;split at h
 ·cases h
 ·rename_i i hi;split at h
  ·cases h
  ·rename_i a ha;simp only [Option.some.injEq,Prod.mk.injEq]at h;obtain⟨rfl,rfl⟩:=h;obtain⟨hilt,hcl⟩:=l7 hi ha;have hil:i<s.sh.BM:=by rw [<-ok.Oq];exact hilt
   obtain⟨jI,hbh,hbt,Avq⟩:=ok.both hil;have hab:a<Bv c/\(JP (CQ s i)).testBit a=false:=by
    unfold KI at ha;split at ha
    ·exact⟨jS ha,Akx ha⟩
    ·cases ha
   have hb16:Bv c<=16:=by rcases hc with rfl| rfl<;>decide
   have hbit:(CQ s i).testBit a=false:=by
    have:=hab.2;unfold JP at this;rw [NM,Nat.zero_add,Bool.and_eq_false_iff,decide_eq_false_iff_not]at this;rcases this with h| h
    ·omega
    ·exact h
   have hnb:EP (CQ s i) a=false:=by
    unfold EP;rw [Ahe,hbit,Bool.and_false]
   have hnn:=hbh a;rw [show GY s i||| hdN s i=CQ s i from rfl,hnb]at hnn;obtain⟨hnt,hnh⟩:EP (GY s i) a=false/\EP (hdN s i) a=false:=by
    cases h1:EP (GY s i) a<;>cases h2:EP (hdN s i) a<;>rw [h1,h2]at hnn<;>first| exact⟨rfl,rfl⟩| cases hnn
   have hdc:hdN s i=0\/SW (hdN s i) c:=by
    rcases ok.hd i hil with h1| ⟨d,h1⟩
    ·exact .inl h1
    ·have e:=Avq h1.ne;rw [show GY s i||| hdN s i=CQ s i from rfl,h1.class]at e;have:=h1.cls;rcases hcl with h2| h2
     ·rw [e]at h2;subst h2;exact .inr h1
     ·omega
   have htc:GY s i=0\/Bg (GY s i)=c:=by
    rcases ok.tk i hil with h1| ⟨d,h1⟩
    ·exact .inl h1
    ·have e:=hbt h1.ne;rw [show GY s i||| hdN s i=CQ s i from rfl,h1.class]at e;have:=h1.cls;rcases hcl with h2| h2
     ·rw [e]at h2;subst h2;exact .inr h1.class
     ·omega
   obtain⟨_,hS,hhas⟩:=iD (ok.hd i hil) hc hdc hab.1 hnh;have hu:=DU hS.lt;have hhd:∀j,hdN {s with hd:=s.hd.set i (Aw (Gt (hdN s i) c a).1)} j=if j=i then(Gt (hdN s i) c a).1 else hdN s j:=λj=>by
    show((s.hd.set i _).getD j 0).toNat=_;rw [PM _ _ _ _ _ (by rw [ok.mX];exact hil)];split
    ·exact hu
    ·rfl
   have htk:∀j,GY {s with hd:=s.hd.set i (Aw (Gt (hdN s i) c a).1)} j=GY s j:=λj=>rfl
   refine⟨⟨ok.sh,ok.L1,ok.Oq,by simp [ok.mX],ok.tk,λj hj=> ?_,λj hj=> ?_,λj b hj hb=> ?_,ok.tab⟩,rfl,rfl,rfl,⟨i,a,hil,?_,?_,rfl⟩,?_,?_,λo d=>Iff.rfl⟩
   ·rw [hhd];split
    ·exact .inr ⟨c,hS⟩
    ·exact ok.hd j hj
   ·rw [hhd,htk];by_cases e:j=i
    ·subst e;rw [if_pos rfl,hS.class];exact htc.imp id .inr
    ·rw [if_neg e];exact ok.cls j hj
   ·rw [hhd];rw [htk]at hb;by_cases e:j=i
    ·subst e;rw [if_pos rfl,hhas b,ok.Xb j b hj hb,Bool.false_or,decide_eq_false_iff_not];intro e2;subst e2;rw [hnt]at hb;cases hb
    ·rw [if_neg e];exact ok.Xb j b hj hb
   ·rw [hhd,if_pos rfl,hhas a];simp
   ·rw [hhd,if_pos rfl,hS.class]
   ·rintro o d⟨j,b,hj,hb,hd,ho⟩;refine⟨j,b,hj,?_,?_,ho⟩
    ·rw [hhd];by_cases e:j=i
     ·subst e;rw [if_pos rfl,hhas b,hb];rfl
     ·rw [if_neg e];exact hb
    ·rw [hhd];by_cases e:j=i
     ·subst e;obtain⟨d',hS',_,_⟩:=(ok.hd j hj).RZ hb;rw [if_pos rfl,hS.class,<-hd];rcases hdc with h0| h0
      ·exact absurd h0 hS'.ne
      ·exact h0.class.symm
     ·rw [if_neg e];exact hd
   ·rintro o d⟨j,b,hj,hb,hd,ho⟩;rw [hhd]at hb hd;by_cases e:j=i
    ·subst e;rw [if_pos rfl]at hb hd;rw [hhas b,Bool.or_eq_true,decide_eq_true_eq]at hb;rw [hS.class]at hd;subst hd;rcases hb with hb| rfl
     ·obtain⟨d',hS',_,_⟩:=(ok.hd j hj).RZ hb;refine .inl ⟨j,b,hj,hb,?_,ho⟩;rcases hdc with h0| h0
      ·exact absurd h0 hS'.ne
      ·exact h0.class
     ·exact .inr ho
    ·rw [if_neg e]at hb hd;exact .inl ⟨j,b,hj,hb,hd,ho⟩
def YI(ok:Bz L s){c off:Nat}(h:EK s off c):
 ∃s1,Ib s off=(s1,0)/\Bz L s1/\s1.sh=s.sh/\(∀j,(j<16\/16+s.sh.BM<=j)->s1.ws j=s.ws j)/\
  (∀o d,AO s1 o d<->AO s o d\/(o=off/\d=c))/\(∀o d,EK s1 o d<->EK s o d/\o≠off):=by
 have h12:=h.cls ok;have h':=h;obtain⟨i,a,hi,ha,hc,rfl⟩:=h';obtain⟨c',hS,jI,hlt⟩:=ok.aW hi ha;have e:c'=c:=by rw [<-hc,hS.class]
 subst e;have hnt:EP (GY s i) a=false:=by
  cases hb:EP (GY s i) a
  ·rfl
  ·rw [ok.Xb i a hi hb]at ha;cases ha
 have htc:GY s i=0\/SW (GY s i) c':=by
  rcases ok.tk i hi with h1| ⟨d,h1⟩
  ·exact .inl h1
  ·rcases ok.cls i hi with h2| h2| h2
   ·exact absurd h2 h1.ne
   ·exact absurd h2 hS.ne
   ·rw [h1.class,hS.class]at h2;subst h2;exact .inr h1
 obtain⟨_,hT,Aat⟩:=iD (ok.tk i hi) h12 htc hlt hnt;obtain⟨_,hD,Sr,yE⟩:=iE (ok.hd i hi) ha;have hu1:=DU hT.lt;have hu2:=DU hD.lt;have Ahg:i<s.tk.length:=by rw [ok.Oq];exact hi
 have Avr:i<s.hd.length:=by rw [ok.mX];exact hi
 obtain⟨s1,hs1⟩:∃s1,s1=({Zb s i (Aw (Gt (GY s i) (Bg (hdN s i)) a).1)with hd:=s.hd.set i (Aw (Eh (hdN s i) a).1)}:St):=⟨_,rfl⟩;have htk:∀j,GY s1 j=if j=i then(Gt (GY s i) c' a).1 else GY s j:=λj=>by
  rw [hs1];show((s.tk.set i _).getD j 0).toNat=_;rw [PM _ _ _ _ _ Ahg,hc];split
  ·exact hu1
  ·rfl
 have hhd:∀j,hdN s1 j=if j=i then(Eh (hdN s i) a).1 else hdN s j:=λj=>by
  rw [hs1];show((s.hd.set i _).getD j 0).toNat=_;rw [PM _ _ _ _ _ Avr];split
  ·exact hu2
  ·rfl
 have hsh:s1.sh=s.sh:=by rw [hs1];rfl
 have hws:∀j,s1.ws j=if j=16+i then Aw (Gt (GY s i) c' a).1 else s.ws j:=λj=>by
  rw [hs1];show FN s.ws (s.sh.table/8+i) _ j=_;rw [ok.table,hc];rfl
 refine⟨s1,?_,⟨by rw [hsh];exact ok.sh,ok.L1,by rw [hs1];show(s.tk.set i _).length=_;rw [Di];exact ok.Oq,by rw [hs1];show(s.hd.set i _).length=_;rw [Di];exact ok.mX,λj hj=> ?_,λj hj=> ?_,λj hj=> ?_,λj b hj hb=> ?_,λj hj=> ?_⟩,hsh,λj hj=> ?_,λo d=> ?_,λo d=> ?_⟩
 ·unfold Ib;rw [U7 ok hi jI h12 hlt];simp only [ha,if_true];rw [hs1]
 ·rw [htk];split
  ·exact .inr ⟨_,hT⟩
  ·exact ok.tk j (by rw [<-hsh];exact hj)
 ·rw [hhd];split
  ·exact hD
  ·exact ok.hd j (by rw [<-hsh];exact hj)
 ·rw [htk,hhd];by_cases e:j=i
  ·rw [if_pos e,if_pos e,hT.class];rcases yE with h1| h1
   ·exact .inr (.inr (by rw [h1,hS.class]))
   ·exact .inr (.inl h1)
  ·rw [if_neg e,if_neg e];exact ok.cls j (by rw [<-hsh];exact hj)
 ·rw [htk]at hb;rw [hhd];by_cases e:j=i
  ·subst e;rw [if_pos rfl]at hb⊢;rw [Aat,Bool.or_eq_true,decide_eq_true_eq]at hb;rw [Sr];rcases hb with hb| rfl
   ·rw [ok.Xb j b hi hb];rfl
   ·simp
  ·rw [if_neg e]at hb⊢;exact ok.Xb j b (by rw [<-hsh];exact hj) hb
 ·rw [hws,hs1];show _=(s.tk.set i _).getD j 0;rw [PM _ _ _ _ _ Ahg,hc];by_cases e:j=i
  ·rw [if_pos O,if_pos e]
  ·rw [if_neg O,if_neg e];exact ok.tab j (by rw [<-hsh];exact hj)
 ·rw [hws,if_neg O]
 ·constructor
  ·rintro⟨j,b,hj,hb,hd,ho⟩;rw [hsh]at hj ho;rw [htk]at hb hd;by_cases e:j=i
   ·subst e;rw [if_pos rfl]at hb hd;rw [hT.class]at hd;subst hd;rw [Aat,Bool.or_eq_true,decide_eq_true_eq]at hb;rcases hb with hb| rfl
    ·left;refine⟨j,b,hj,hb,?_,ho⟩;rcases htc with h0| h0
     ·rw [h0,EJ]at hb;cases hb
     ·exact h0.class
    ·exact .inr ⟨ho,rfl⟩
   ·rw [if_neg e]at hb hd;exact .inl ⟨j,b,hj,hb,hd,ho⟩
  ·rintro(⟨j,b,hj,hb,hd,ho⟩| ⟨rfl,rfl⟩)
   ·refine⟨j,b,by rw [hsh];exact hj,?_,?_,by rw [hsh];exact ho⟩
    ·rw [htk];by_cases e:j=i
     ·subst e;rw [if_pos rfl,Aat,hb];rfl
     ·rw [if_neg e];exact hb
    ·rw [htk];by_cases e:j=i
     ·subst e;rw [if_pos rfl,hT.class,<-hd];rcases htc with h0| h0
      ·rw [h0,EJ]at hb;cases hb
      ·exact h0.class.symm
     ·rw [if_neg e];exact hd
   ·exact⟨i,a,by rw [hsh];exact hi,by rw [htk,if_pos rfl,Aat];simp,by rw [htk,if_pos rfl,hT.class],by rw [hsh]⟩
 ·constructor
  ·rintro⟨j,b,hj,hb,hd,ho⟩;rw [hsh]at hj ho;rw [hhd]at hb hd;by_cases e:j=i
   ·subst e;rw [if_pos rfl]at hb hd;rw [Sr,Bool.and_eq_true,Bool.not_eq_true',decide_eq_false_iff_not]at hb;have hd':d=c':=by
     rcases yE with h1| h1
     ·rw [h1,hS.class]at hd;exact hd.symm
     ·have:=Sr b;rw [h1,EJ,hb.1]at this;simp [hb.2]at this
    subst hd';refine⟨⟨j,b,hj,hb.1,hS.class,ho⟩,λe2=> ?_⟩;rw [ho]at e2;exact hb.2 (U6 h12 e2)
   ·rw [if_neg e]at hb hd;refine⟨⟨j,b,hj,hb,hd,ho⟩,λe2=> ?_⟩;obtain⟨d',hS',Aog,hlt'⟩:=ok.aW hj hb;have e3:d'=d:=by rw [<-hd,hS'.class]
    subst e3;rw [ho]at e2;exact e (Xc hS'.cls h12 hlt' hlt e2)
  ·rintro⟨⟨j,b,hj,hb,hd,ho⟩,hne⟩;have hbi:j=i->b≠a:=λe e2=>by
    subst e e2;have e3:d=c':=by rw [<-hd,hS.class]
    subst e3;exact hne ho
   refine⟨j,b,by rw [hsh];exact hj,?_,?_,by rw [hsh];exact ho⟩
   ·rw [hhd];by_cases e:j=i
    ·subst e;rw [if_pos rfl,Sr,hb];simp [hbi rfl]
    ·rw [if_neg e];exact hb
   ·rw [hhd];by_cases e:j=i
    ·subst e;rw [if_pos rfl];rcases yE with h1| h1
     ·rw [h1];exact hd
     ·have:=Sr b;rw [h1,EJ,hb]at this;simp [hbi rfl]at this
    ·rw [if_neg e];exact hd
def YJ(ok:Bz L s){c off:Nat}(h:AO s off c):
 ∃s1,IE s off=(s1,0)/\Bz L s1/\s1.sh=s.sh/\s1.hd=s.hd/\(∀j,(j<16\/16+s.sh.BM<=j)->s1.ws j=s.ws j)/\
  (∀o d,AO s1 o d<->AO s o d/\o≠off):=by
 have h12:=h.cls ok;obtain⟨i,a,hi,ha,hc,rfl⟩:=h;obtain⟨c',hS,jI,hlt⟩:=ok.QC hi ha;have e:c'=c:=by rw [<-hc,hS.class]
 subst e;have hnh:EP (hdN s i) a=false:=ok.Xb i a hi ha;obtain⟨hD2,hD,Sr,yE⟩:=iE (ok.tk i hi) ha;have hu2:=DU hD.lt;have Ahg:i<s.tk.length:=by rw [ok.Oq];exact hi
 obtain⟨s1,hs1⟩:∃s1,s1=Zb s i (Aw (Eh (GY s i) a).1):=⟨_,rfl⟩;have htk:∀j,GY s1 j=if j=i then(Eh (GY s i) a).1 else GY s j:=λj=>by
  rw [hs1];show((s.tk.set i _).getD j 0).toNat=_;rw [PM _ _ _ _ _ Ahg];split
  ·exact hu2
  ·rfl
 have hhd:∀j,hdN s1 j=hdN s j:=λj=>by rw [hs1];rfl
 have hsh:s1.sh=s.sh:=by rw [hs1];rfl
 have hws:∀j,s1.ws j=if j=16+i then Aw (Eh (GY s i) a).1 else s.ws j:=λj=>by
  rw [hs1];show FN s.ws (s.sh.table/8+i) _ j=_;rw [ok.table];rfl
 refine⟨s1,?_,⟨by rw [hsh];exact ok.sh,ok.L1,by rw [hs1];show(s.tk.set i _).length=_;rw [Di];exact ok.Oq,by rw [hs1];exact ok.mX,λj hj=> ?_,λj hj=> ?_,λj hj=> ?_,λj b hj hb=> ?_,λj hj=> ?_⟩,hsh,by rw [hs1];rfl,λj hj=> ?_,λo d=> ?_⟩
 ·unfold IE;rw [U7 ok hi jI h12 hlt];have h0:(Eh (hdN s i) a).2=false:=by unfold Eh;rw [hnh];rfl
  simp only [h0,hD2,if_true,Bool.false_eq_true,if_false];rw [hs1]
 ·rw [htk];split
  ·exact hD
  ·exact ok.tk j (by rw [<-hsh];exact hj)
 ·rw [hhd];exact ok.hd j (by rw [<-hsh];exact hj)
 ·rw [htk,hhd];by_cases e:j=i
  ·rw [if_pos e,e];rcases yE with h1| h1
   ·rw [h1];rcases ok.cls i hi with h2| h2| h2
    ·exact absurd h2 hS.ne
    ·exact .inr (.inl h2)
    ·exact .inr (.inr h2)
   ·exact .inl h1
  ·rw [if_neg e];exact ok.cls j (by rw [<-hsh];exact hj)
 ·rw [htk]at hb;rw [hhd];by_cases e:j=i
  ·subst e;rw [if_pos rfl,Sr,Bool.and_eq_true]at hb;exact ok.Xb j b hi hb.1
  ·rw [if_neg e]at hb;exact ok.Xb j b (by rw [<-hsh];exact hj) hb
 ·rw [hws,hs1];show _=(s.tk.set i _).getD j 0;rw [PM _ _ _ _ _ Ahg];by_cases e:j=i
  ·rw [if_pos O,if_pos e]
  ·rw [if_neg O,if_neg e];exact ok.tab j (by rw [<-hsh];exact hj)
 ·rw [hws,if_neg O]
 ·constructor
  ·rintro⟨j,b,hj,hb,hd,ho⟩;rw [hsh]at hj ho;rw [htk]at hb hd;by_cases e:j=i
   ·subst e;rw [if_pos rfl]at hb hd;rw [Sr,Bool.and_eq_true,Bool.not_eq_true',decide_eq_false_iff_not]at hb;have hd':d=c':=by
     rcases yE with h1| h1
     ·rw [h1,hS.class]at hd;exact hd.symm
     ·have:=Sr b;rw [h1,EJ,hb.1]at this;simp [hb.2]at this
    subst hd';refine⟨⟨j,b,hj,hb.1,hS.class,ho⟩,λe2=> ?_⟩;rw [ho]at e2;exact hb.2 (U6 h12 e2)
   ·rw [if_neg e]at hb hd;refine⟨⟨j,b,hj,hb,hd,ho⟩,λe2=> ?_⟩;obtain⟨d',hS',Aog,hlt'⟩:=ok.QC hj hb;have e3:d'=d:=by rw [<-hd,hS'.class]
    subst e3;rw [ho]at e2;exact e (Xc hS'.cls h12 hlt' hlt e2)
  ·rintro⟨⟨j,b,hj,hb,hd,ho⟩,hne⟩;have hbi:j=i->b≠a:=λe e2=>by
    subst e e2;have e3:d=c':=by rw [<-hd,hS.class]
    subst e3;exact hne ho
   refine⟨j,b,by rw [hsh];exact hj,?_,?_,by rw [hsh];exact ho⟩
   ·rw [htk];by_cases e:j=i
    ·subst e;rw [if_pos rfl,Sr,hb];simp [hbi rfl]
    ·rw [if_neg e];exact hb
   ·rw [htk];by_cases e:j=i
    ·subst e;rw [if_pos rfl];rcases yE with h1| h1
     ·rw [h1];exact hd
     ·have:=Sr b;rw [h1,EJ,hb]at this;simp [hbi rfl]at this
    ·rw [if_neg e];exact hd
end
abbrev Kv:=List UInt8×UInt64
structure Part where
 items:List Kv
 blocks:List Nat
def BX(nd:Nd):List Kv:=if nd.val≠0 then [(nd.pre,nd.val)]else []
def EO(pre:List UInt8)(lb:UInt8)(l:List Kv):List Kv:=l.map λkv=>(pre++lb::kv.1,kv.2)
def Bo(pre:List UInt8):List UInt8->List Part->List Kv
 | lb::ls,p::ps=>EO pre lb p.items++Bo pre ls ps
 | _,_=>[]
def AY(ps:List Part):List Nat:=(ps.map Part.blocks).flatten
inductive DV(s:St):Nat->UInt64->List Kv->List Nat->Prop
 | mk(r:Nat)(name:UInt64)(nd:Nd)(parts:List Part)(hrd:Fb s name=some nd)(hpre:nd.pre.length<=r)(Ov:nd.kids≠[]->nd.pre.length+1<=r)(hlen:parts.length=nd.kids.length)
  (hk:∀i(h1:i<nd.kids.length)(h2:i<parts.length),DV s (r-nd.pre.length-1) nd.kids[i] parts[i].items parts[i].blocks):
  DV s r name (BX nd++Bo nd.pre nd.labels parts) ((Bj name).toNat::AY parts)
section
variable{L:Nat}{s s':St}
def rD{c d:Nat}(hc:c=1\/c=2)(hd:d=1\/d=2)(h:Bf c=Bf d):c=d:=by
 rcases hc with rfl| rfl<;>rcases hd with rfl| rfl<;>first| rfl| (simp [Bf]at h)
def PN(x:Nd):Dp x=1\/Dp x=2:=by unfold Dp;split<;>simp
def KD(x:Nd):(Ea x).length=8*Bf (Dp x):=by
 rw [ER];unfold Dp;split<;>rfl
def IQ(ok:Bz L s){name:UInt64}{nd:Nd}(h:Fb s name=some nd):
 ∃o:Nat,Bj name=o/\AO s o (Dp nd)/\C9 nd=true/\wordsAt s.ws (o/8) (8*Bf (Dp nd))=Ea nd:=by
 unfold Fb at h;split at h
 ·cases h
 ·rename_i h0;split at h
  ·rename_i hd;injection h with h
   have hc0:D7 s (Bj name)≠0:=λe=>h0 (by rw [e];rfl)
   obtain⟨o,ho,ht⟩:=Sm ok rfl hc0;obtain⟨h1,h2⟩:=Adf _ hd;rw [h]at h1 h2;have h12:=ht.cls ok;have hcc:D7 s (Bj name)=Dp nd:=by
    refine rD h12 (PN nd) ?_;have:=congrArg List.length h2;rw [KD]at this;simp [wordsAt]at this;omega
   rw [hcc]at ht h2;rw [ho,Cm]at h2;exact⟨o,ho,ht,h1,h2.symm⟩
  ·cases h
def YK(ok:Bz L s){name:UInt64}{nd:Nd}{o:Nat}(ho:Bj name=o)(ht:AO s o (Dp nd))(hr:C9 nd=true)(hw:wordsAt s.ws (o/8) (8*Bf (Dp nd))=Ea nd):Fb s name=some nd:=by
 have hc:=ht.class ok;have h12:=PN nd;unfold Fb;rw [ho,hc,Cm,hw,if_neg (Ω ((Ff h12).2.1)),if_pos (Ade nd hr),qX nd hr]
def FB(s s':St)(B:Nat->Prop):Prop:=∀o c,B o->AO s o c->AO s' o c/\∀j,GR o c j->s'.ws j=s.ws j
def FB.mono{B C:Nat->Prop}(h:FB s s' B)(k:∀o,C o->B o):FB s s' C:=λo c hb ht=>h o c (k o hb) ht
def FB.trans{s'':St}{B:Nat->Prop}(h:FB s s' B)(k:FB s' s'' B):FB s s'' B:=λo c hb ht=>by
 obtain⟨h1,h2⟩:=h o c hb ht;obtain⟨k1,k2⟩:=k o c hb h1;exact⟨k1,λj hj=>(k2 j hj).trans (h2 j hj)⟩
def FB.refl(s:St)(B:Nat->Prop):FB s s B:=λ_ _ _ h=>⟨h,λ_ _=>rfl⟩
def U8{o c:Nat}(h:∀j,GR o c j->s'.ws j=s.ws j):wordsAt s'.ws (o/8) (8*Bf c)=wordsAt s.ws (o/8) (8*Bf c):=by
 unfold wordsAt;refine FW λt ht=> ?_
 have:=Dy.1 ht;exact h _ ⟨O,O⟩
def Adg(ok:Bz L s)(ok':Bz L s'){B:Nat->Prop}(k:FB s s' B){name:UInt64}{nd:Nd}(hb:B (Bj name).toNat)(h:Fb s name=some nd):Fb s' name=some nd:=by
 obtain⟨o,ho,ht,hr,hw⟩:=IQ ok h;rw [ho,Cm]at hb;obtain⟨h1,h2⟩:=k o _ hb ht;exact YK ok' ho h1 hr ((U8 h2).trans hw)
def TY{ps:List Part}{i:Nat}(h:i<ps.length){o:Nat}(ho:o∈ps[i].blocks):o∈AY ps:=by
 unfold AY;exact List.mem_flatten.2 ⟨_,Ba.2 ⟨_,BI h,rfl⟩,ho⟩
def DV.keep(ok:Bz L s)(ok':Bz L s'){B:Nat->Prop}(k:FB s s' B){r:Nat}{name:UInt64}{items:List Kv}{blocks:List Nat}(h:DV s r name items blocks)(hb:∀o∈blocks,B o):DV s' r name items blocks:=by
 induction h with
 | mk r name nd parts hrd hpre Ov hlen hk ih=>
   refine .mk r name nd parts (Adg ok ok' k (hb _ (Bh ..)) hrd) hpre Ov hlen λi h1 h2=>ih i h1 h2 λo ho=>hb o (BH _ (TY h2 ho))
def Fg{pre:List UInt8}:∀{ls:List UInt8}{ps:List Part}{kv:Kv},kv∈Bo pre ls ps->∃(i:Nat)(h1:i<ls.length)(h2:i<ps.length)(kv':Kv),kv'∈ps[i].items/\kv=(pre++ls[i]::kv'.1,kv'.2)
 | [],_,kv,h=>by simp [Bo]at h
 | _::_,[],kv,h=>by simp [Bo]at h
 | lb::ls,p::ps,kv,h=>by
   rw [Bo]at h;rcases AL.1 h with h| h
   ·obtain⟨kv',hk,e⟩:=Ba.1 h;exact⟨0,by simp,by simp,kv',hk,e.symm⟩
   ·obtain⟨i,h1,h2,kv',hk,e⟩:=Fg h;exact⟨i+1,by simp;omega,by simp;omega,kv',hk,e⟩
def FT{nd:Nd}{kv:Kv}(h:kv∈BX nd):kv=(nd.pre,nd.val)/\nd.val≠0:=by
 unfold BX at h;split at h
 ·rename_i h0;exact⟨BD.1 h,h0⟩
 ·cases h
def NP(p a b:List UInt8):Op.bytesLess (p++a) (p++b)=Op.bytesLess a b:=by
 induction p with
 | nil=>rfl
 | cons x p ih=>simp [Op.bytesLess,ih]
def iH(p:List UInt8)(x:UInt8)(t:List UInt8):Op.bytesLess p (p++x::t)=true:=by
 induction p with
 | nil=>rfl
 | cons y p ih=>simp [Op.bytesLess,ih]
def U9{x y:UInt8}(h:x.toNat<y.toNat)(a b:List UInt8):Op.bytesLess (x::a) (y::b)=true:=by
 simp only [Op.bytesLess,Bool.or_eq_true,decide_eq_true_eq];exact .inl (UInt8.lt_iff_toNat_lt.2 h)
def rE(l:List Kv):Prop:=l.Pairwise λa b=>Op.bytesLess a.1 b.1=true
def Adh{pre:List UInt8}{lb:UInt8}{l:List Kv}(h:rE l):rE (EO pre lb l):=by
 unfold rE EO;rw [List.pairwise_map];refine h.imp λ{a b}hab=> ?_
 show Op.bytesLess (pre++lb::a.1) (pre++lb::b.1)=true;rw [NP];simp [Op.bytesLess,hab]
def XL{pre:List UInt8}:∀{ls:List UInt8}{ps:List Part},DW ls=true->(∀p∈ps,rE p.items)->rE (Bo pre ls ps)
 | [],_,_,_=>by simp [Bo,rE]
 | _::_,[],_,_=>by simp [Bo,rE]
 | lb::ls,p::ps,hr,h=>by
   obtain⟨h1,h2⟩:=KC hr;rw [Bo];refine uV.2 ⟨Adh (h p (Bh ..)),XL h1 (λq hq=>h q (BH _ hq)),λa ha b hb=> ?_⟩;obtain⟨a',_,rfl⟩:=Ba.1 ha;obtain⟨i,h3,h4,b',_,rfl⟩:=Fg hb;show Op.bytesLess (pre++lb::a'.1) (pre++ls[i]::b'.1)=true;rw [NP];exact U9 (h2 _ (BI h3)) _ _
def DV.up(ok:Bz L s){r:Nat}{name:UInt64}{items:List Kv}{blocks:List Nat}(h:DV s r name items blocks):rE items:=by
 induction h with
 | mk r name nd parts hrd hpre Ov hlen hk ih=>
   obtain⟨o,ho,ht,hr,_⟩:=IQ ok hrd;have hr':=(Bq nd).1 hr;refine uV.2 ⟨?_,XL hr'.2.2.2.2.1 (λp hp=> ?_),λa ha b hb=> ?_⟩
   ·unfold BX;split<;>simp
   ·obtain⟨i,hi,rfl⟩:=List.getElem_of_mem hp;exact ih i O hi
   ·obtain⟨rfl,_⟩:=FT ha;obtain⟨i,h3,h4,b',_,rfl⟩:=Fg hb;exact iH _ _ _
def aX{f:Nat}{ahead pre:List UInt8}:∀(ls:List UInt8)(ks:List UInt64)(ps:List Part)(i0:List Kv)(m0:List Int),ls.length=ks.length->ps.length=ks.length->
 (∀i(h1:i<ls.length)(h2:i<ks.length)(h3:i<ps.length)(i0:List Kv)(m0:List Int),(∀o∈ps[i].blocks,(o:Int)∉m0)->Dq s f ks[i] (ahead++pre++[ls[i]]) (i0,m0)=some (i0++ps[i].items.map (λkv=>(pairs (ahead++pre++ls[i]::kv.1),kv.2)),m0++ps[i].blocks.map Cf))->
 (AY ps).Nodup->(∀o∈AY ps,(o:Int)∉m0)->
 (ls.zip ks).foldlM (λst(lk:UInt8×UInt64)=>Dq s f lk.2 (ahead++pre++[lk.1]) st) (i0,m0)=some (i0++(Bo pre ls ps).map (λkv=>(pairs (ahead++kv.1),kv.2)),m0++(AY ps).map Cf)
 | [],ks,ps,i0,m0,h1,h2,_,_,_=>by
   have:ks=[]:=Ci (by simpa using h1.symm);subst this;have:ps=[]:=Ci (by simpa using h2);subst this;simp [Bo,AY]
 | lb::ls,[],ps,i0,m0,h1,_,_,_,_=>by simp at h1
 | lb::ls,k::ks,[],i0,m0,_,h2,_,_,_=>by simp at h2
 | lb::ls,k::ks,p::ps,i0,m0,h1,h2,H,hn,hm=>by
   have e:AY (p::ps)=p.blocks++AY ps:=rfl;rw [e]at hn hm;obtain⟨hn1,hn2,hn3⟩:=CE.1 hn;have h0:=H 0 Θ Θ Θ i0 m0 (λo ho=>hm o (BG _ ho));simp only [List.getElem_cons_zero]at h0;rw [List.zip_cons_cons,List.foldlM_cons,h0];simp only [Option.bind_eq_bind,Option.bind_some];rw [aX ls ks ps _ _ (by simpa using h1) (by simpa using h2) (λi h1 h2 h3 i0 m0 hd=> ?_) hn2 (λo ho=> ?_)]
   ·rw [e,Bo];simp [EO,AX,Function.comp_def]
   ·have:=H (i+1) (by simp;omega) (by simp;omega) (by simp;omega) i0 m0 hd;simpa using this
   ·rw [AL];rintro(h| h)
    ·exact hm o (Bl _ ho) h
    ·obtain⟨o',ho',e2⟩:=Ba.1 h;have:o'=o:=Int.ofNat.inj e2;subst this;exact hn3 o' ho' o' ho rfl
def DV.Aoh(ok:Bz L s){r:Nat}{name:UInt64}{items:List Kv}{blocks:List Nat}(h:DV s r name items blocks):∀(f:Nat)(ahead:List UInt8)(i0:List Kv)(m0:List Int),r<f->ahead.length+r<=32->blocks.Nodup->(∀o∈blocks,(o:Int)∉m0)->(∀kv∈items,Jv (ahead++kv.1)=true)->
 Dq s f name ahead (i0,m0)=some (i0++items.map (λkv=>(pairs (ahead++kv.1),kv.2)),m0++blocks.map Cf):=by
 induction h with
 | mk r name nd parts hrd hpre Ov hlen hk ih=>
   intro f ahead i0 m0 hf hal hn hm hkey;obtain⟨o,ho,ht,hr,_⟩:=IQ ok hrd;have hr':=(Bq nd).1 hr;obtain⟨f,rfl⟩:∃g,f=g+1:=⟨f-1,O⟩;obtain⟨hn1,hn2⟩:=List.nodup_cons.1 hn;rw [Dq,hrd]
   dsimp only
   have hmo:=hm (Bj name).toNat (Bh ..);rw [ho,Cm]at hmo;rw [if_neg (by
    rw [ho];rintro(h| h)
    ·exact hmo (List.contains_iff_mem.1 h)
    ·simp only [AQ]at h;omega)]
   rw [if_neg (by
    rintro⟨h1,h2⟩;have:=hkey (nd.pre,nd.val) (BG _ (by unfold BX;rw [if_pos h1];exact BD.2 rfl));rw [this]at h2;cases h2)]
   have hkb:∀o'∈AY parts,((o':Int))∉m0++[Bj name]:=λo' ho' hc=>by
    rcases AL.1 hc with h| h
    ·exact hm o' (BH _ ho') h
    ·rw [BD,ho]at h;refine hn1 ?_;rw [ho,Cm];have:o'=o:=O
     exact this▸ho'
   rw [aX nd.labels nd.kids parts _ _ hr'.2.2.1 hlen (λi h1 h2 h3 i0 m0 hd=> ?_) hn2 hkb]
   ·simp only [ho,Dx,Cb,Cm,AX,Cj,EM];unfold BX;split<;>simp
   ·have h8:=Ov (by intro e;rw [e]at h2;simp at h2);have hnd:parts[i].blocks.Nodup:=by
     have:=(List.pairwise_flatten.1 hn2).1;exact this _ (Ba.2 ⟨_,BI h3,rfl⟩)
    have:=ih i h2 h3 f (ahead++nd.pre++[nd.labels[i]]) i0 m0 O (by simp only [AQ,BB,Du];omega) hnd hd (λkv hkv=> ?_)
    ·rw [this];simp
    ·have:=hkey (nd.pre++nd.labels[i]::kv.1,kv.2) (Bl _ ?_)
     ·simpa using this
     ·clear ih hk hkey hm hkb hn hn2 hrd Ov hlen;have:∀(ls:List UInt8)(ps:List Part)(i:Nat)(h1:i<ls.length)(h3:i<ps.length),kv∈ps[i].items->(nd.pre++ls[i]::kv.1,kv.2)∈Bo nd.pre ls ps:=by
       intro ls;induction ls with
       | nil=>intro ps i h1;simp at h1
       | cons lb ls ih=>
         intro ps i h1 h3 hk;cases ps with
         | nil=>simp at h3
         | cons p ps=>
           rw [Bo];cases i with
           | zero=>exact BG _ (Ba.2 ⟨kv,by simpa using hk,rfl⟩)
           | succ i=>exact Bl _ (by simpa using ih ps i (by simpa using h1) (by simpa using h3) (by simpa using hk))
      exact this _ _ i h1 h3 hkv
end
structure Grown(L:Nat)(s0:St)(j:Jb)(B:List Nat):Prop where
 ok:Bz L j.s
 sh:j.s.sh=s0.sh
 nh:∀o d,¬EK j.s o d
 made:j.made=B.map Cf
 xQ:B.Nodup
 new:∀o∈B,∀d,¬AO s0 o d
 tk:∀o,(∃d,AO j.s o d)<->(∃d,AO s0 o d)\/o∈B
 keep:FB s0 j.s (λ_=>True)
 low:∀i,i<16->j.s.ws i=s0.ws i
def Grown.start{L:Nat}{s:St}(ok:Bz L s)(nh:∀o d,¬EK s o d):Grown L s ⟨s,[]⟩ []:=
 ⟨ok,rfl,nh,rfl,List.nodup_nil,(λ_ h=>nomatch h),(λo=>by simp),FB.refl _ _,λ_ _=>rfl⟩
def MV{o:Nat}(h:o<=65536):Bj (Aw o)=o:=by
 unfold Bj;rw [DU O];exact wrap64 _ O O
section
variable{L:Nat}{s0:St}{j:Jb}{B:List Nat}
def PO (g : Grown L s0 j B) {n : Nd} (hr : C9 n = true) :
    Nj j n = (j, 0, 6) \/ ∃ j' name o, Nj j n = (j', name, 0) /\ o ∉ B /\ Grown L s0 j' (B ++ [o]) /\ Bj name = (o : Nat) /\ name ≠ 0 /\ Fb j'.s name = some n /\ FB j.s j'.s (λ_ => True) := by
  unfold Nj
  rw [hr]
  simp only [Bool.not_true, Bool.false_eq_true, if_false]
  cases hres : CO j.s (Dp n) with
  | none => exact .inl rfl
  | some p =>
    obtain ⟨off, s1⟩ := p
    right
    obtain ⟨ok1, hw1, aY, TJ, hh1, _, hh2, ht1⟩ := Oi g.ok (PN n) hres
    have hb1 := hh1.bounds ok1
    have htf := ok1.sh.Le
    have hL1 := g.ok.L1
    have h12 := PN n
    have hlen := KD n
    obtain ⟨l1, l2, l3, l4⟩ := Ff h12
    have hput : ∀ i, ¬ GR off (Dp n) i -> BO s1.ws (off / 8) (Ea n) i = s1.ws i := λi hi => by
      unfold BO
      rw [if_neg]
      intro h
      exact hi ⟨h.1, by rw [hlen] at h; exact h.2⟩
    have hnot : ∀ i, i < 16 + s1.sh.BM -> ¬ GR off (Dp n) i := λi hi h => by
      unfold GR at h; omega
    obtain ⟨s1', hs1'⟩ : ∃ s1', s1' = ({ s1 with ws := BO s1.ws (off / 8) (Ea n) } : St) := ⟨_, rfl⟩
    have UA : Bz L s1' := hs1' ▸ ok1.words (λi hi => hput _ (hnot _ O))
    have lC : EK s1' off (Dp n) := by rw [hs1']; exact hh1
    obtain ⟨s2, e2, ok2, hsh2, hw2, ht2, Ahh⟩ := YI UA lC
    have rF : s1'.sh = s1.sh := by rw [hs1']
    have ht1' : ∀ o d, AO s1' o d <-> AO j.s o d := λo d => by rw [hs1']; exact ht1 o d
    have hoff := MV (o := off) O
    have hkeep : FB j.s s2 (λ_ => True) := λo c _ ht => by
      have TZ := (ht1' o c).2 ht
      obtain ⟨hne, hap⟩ := Kq UA lC TZ
      have jI := TZ.bounds UA
      refine ⟨(ht2 o c).2 (.inl TZ), λi hi => ?_⟩
      rw [hw2 i (.inr (UA.DF jI.1 hi)), hs1']
      show BO s1.ws (off / 8) (Ea n) i = _
      rw [hput i (λh => MS hap hb1.2.2 jI.2.2 h hi), hw1]
    have hnew : ∀ d, ¬ AO j.s off d := λd hd => (Kq UA lC ((ht1' off d).2 hd)).1 rfl
    have hnB : off ∉ B := λh => by
      obtain ⟨d, hd⟩ := (g.tk off).2 (.inr h)
      exact hnew d hd
    have hrd : Fb s2 (Aw off) = some n := by
      refine YK ok2 hoff ((ht2 _ _).2 (.inr ⟨rfl, rfl⟩)) hr ?_
      unfold wordsAt
      refine List.ext_getElem (by simp [hlen]) λt h1 h2 => ?_
      simp only [List.getElem_map, List.getElem_range]
      have htl : t < 8 * Bf (Dp n) := by simpa using h1
      have hib : GR off (Dp n) (off / 8 + t) := ⟨O, O⟩
      rw [hw2 _ (.inr (UA.DF (by rw [rF]; exact hb1.1) hib)), hs1']
      show BO s1.ws (off / 8) (Ea n) (off / 8 + t) = _
      unfold BO
      rw [if_pos ⟨O, O⟩, Nat.add_sub_cancel_left, Bi, Af h2]
      rfl
    refine ⟨⟨s2, j.made ++ [(off : Int)]⟩, Aw off, off, ?_, hnB, ⟨ok2, by rw [hsh2, rF, aY, g.sh], λo d h => ?_, by rw [g.made]; simp, ?_, λo ho d hd => ?_, λo => ?_, g.keep.trans hkeep, λi hi => ?_⟩, hoff, ?_, hrd, hkeep⟩
    · rw [hs1'] at e2
      simp only [e2, if_true]
    · obtain ⟨h1, h2⟩ := (Ahh o d).1 h
      rw [hs1'] at h1
      rcases hh2 o d h1 with h3 | h3
      · exact g.nh o d h3
      · exact h2 h3
    · exact CE.2 ⟨g.xQ, by simp, λa ha b hb e => by rw [BD] at hb; subst hb; exact hnB (e ▸ ha)⟩
    · rcases AL.1 ho with h | h
      · exact g.new o h d hd
      · rw [BD] at h
        subst h
        obtain ⟨d', hd'⟩ := (g.tk o).2 (.inl ⟨d, hd⟩)
        exact hnew d' hd'
    · have h1 : (∃ d, AO s2 o d) <-> (∃ d, AO j.s o d) \/ o = off := by
        constructor
        · rintro ⟨d, hd⟩
          rcases (ht2 o d).1 hd with h | h
          · exact .inl ⟨d, (ht1' o d).1 h⟩
          · exact .inr h.1
        · rintro (⟨d, hd⟩ | rfl)
          · exact ⟨d, (ht2 o d).2 (.inl ((ht1' o d).2 hd))⟩
          · exact ⟨_, (ht2 _ _).2 (.inr ⟨rfl, rfl⟩)⟩
      show (∃ d, AO s2 o d) <-> _
      rw [h1, g.tk o, AL, BD, or_assoc]
    · show s2.ws i = _
      rw [hw2 i (.inl hi), hs1']
      show BO s1.ws (off / 8) (Ea n) i = _
      rw [hput i (hnot i O), hw1, g.low i hi]
    · intro e
      have := congrArg UInt64.toNat e
      rw [DU O] at this
      simp at this
      omega
def Ahi(L:Nat)(s0:St)(j:Jb)(B:List Nat)(r:Nat)(l:List UInt8)(value:UInt64)(res:Jb×UInt64×Int):Prop:=
 (res.2.2=6/\∃B',Grown L s0 res.1 B')\/
 (res.2.2=0/\∃C bl,Grown L s0 res.1 (B++C)/\FB j.s res.1.s (λ_=>True)/\res.2.1≠0/\DV res.1.s r res.2.1 [(l,value)] bl/\bl.Perm C)
def Adi{s:St}{name:UInt64}{l:List UInt8}{value:UInt64}{r o:Nat}(h:Fb s name=some ⟨l,value,[],[]⟩)(ho:Bj name=o)(hl:l.length<=r)(hv:value≠0):DV s r name [(l,value)] [o]:=by
 have:=DV.mk r name ⟨l,value,[],[]⟩ [] h hl (λh=>absurd rfl h) rfl (λi h1 _=>absurd h1 Θ);rw [ho,Cm]at this;simpa [BX,Bo,AY,hv]using this
def UB{pre:List UInt8}{val:UInt64}{label:UInt8}{kid:UInt64}(hp:pre.length<=15)(hn:pre.all DK=true)(h16:DK label=true)(hk:kid≠0):Jo ⟨pre,val,[],[]⟩ label kid=true/\Ic ⟨pre,val,[],[]⟩ label kid=⟨pre,val,[label],[kid]⟩/\C9 ⟨pre,val,[label],[kid]⟩=true/\C9 ⟨pre,val,[],[]⟩=true:=by
 have hr0:C9 ⟨pre,val,[],[]⟩=true:=by
  rw [Bq];exact⟨hp,hn,rfl,rfl,rfl,λi h=>absurd h Θ⟩
 have hk':kid.toNat≠0:=λe=>hk (Ec.1 (by simpa using e))
 refine⟨?_,rfl,?_,hr0⟩
 ·rw [Sl];exact⟨hr0,by simpa [DK]using h16,hk',rfl⟩
 ·rw [Bq];refine⟨hp,hn,rfl,by simp [h16],rfl,λi h=> ?_⟩;simp only [BB,Du]at h;have:i=0:=O
  subst this;exact hk'
def rG{s:St}{name kid:UInt64}{pre:List UInt8}{val:UInt64}{label:UInt8}{r o:Nat}{il:List Kv}{bl:List Nat}(h:Fb s name=some ⟨pre,val,[label],[kid]⟩)(ho:Bj name=o)(hl:pre.length+1<=r)(ht:DV s (r-pre.length-1) kid il bl):
 DV s r name ((if val≠0 then [(pre,val)]else [])++EO pre label il) (o::bl):=by
 have:=DV.mk r name ⟨pre,val,[label],[kid]⟩ [⟨il,bl⟩] h (by simp only;omega) (λ_=>hl) rfl (λi h1 h2=>by
  simp only [BB,Du]at h1;have:i=0:=O
  subst this;exact ht)
 rw [ho,Cm]at this;simpa [BX,Bo,AY]using this
def YL:∀(f:Nat){j:Jb}{B:List Nat}(_:Grown L s0 j B)(r:Nat)(l:List UInt8)(value:UInt64),l.length<f->l.length<=r->l.all DK=true->value≠0->Ahi L s0 j B r l value (Po f j l value)
 | 0,_,_,_,_,_,_,h,_,_,_=>absurd h O
 | f+1,j,B,g,r,l,value,hf,hlr,hn,hv=>by
   rw [Po];by_cases h15:l.length<=15
   ·rw [if_pos h15];have hr:C9 ⟨l,value,[],[]⟩=true:=by
     rw [Bq];exact⟨h15,hn,rfl,rfl,rfl,λi h=>absurd h Θ⟩
    rcases PO g hr with e| ⟨j',name,o,e,ho,g',hoff,hn0,hrd,hk⟩
    ·rw [e];exact .inl ⟨rfl,B,g⟩
    ·rw [e];exact .inr ⟨rfl,[o],[o],g',hk,hn0,Adi hrd hoff hlr hv,List.Perm.refl _⟩
   ·rw [if_neg h15];have ih:=YL f g (r-15-1) (l.drop 16) value (by rw [AV];omega) (by rw [AV];omega) (Vb _ _ _ hn) hv;generalize Po f j (l.drop 16) value=res at ih;obtain⟨j1,kid,e⟩:=res;simp only;unfold JQ;rcases ih with⟨e1,B',g1⟩| ⟨e1,C,bl,g1,hk1,hn1,ht1,hp1⟩
    ·simp only at e1 g1;subst e1;rw [if_pos U];exact .inl ⟨rfl,B',g1⟩
    ·simp only at e1 g1 hk1 hn1 ht1;subst e1;rw [if_neg Θ];have hlt:(l.take 15).length=15:=by simp;omega
     have As2:l.getD 15 0=l[15]' O:=by rw [Bi,Af O];rfl
     have hlab:DK (l.getD 15 0)=true:=by rw [As2];exact EH.1 hn _ (BI _)
     obtain⟨w1,w2,w3,_⟩:=UB (val:=0) (Nat.le_of_eq hlt) (Va _ _ 15 hn) hlab hn1;rw [if_pos w1,w2];rcases PO g1 w3 with e| ⟨j',name,o,e,ho,g',hoff,hn0,hrd,hk⟩
     ·rw [e];exact .inl ⟨rfl,_,g1⟩
     ·rw [e];refine .inr ⟨rfl,C++[o],o::bl,by rw [<-AX];exact g',hk1.trans hk,hn0,?_,?_⟩
      ·have:=rG (r:=r) hrd hoff (by rw [hlt];omega) (by rw [hlt];exact ht1.keep g1.ok g'.ok hk (λ_ _=>trivial));have e2:l.take 15++l.getD 15 0::l.drop 16=l:=by
        rw [As2]
        conv=>rhs;rw [<-GX 15 l]
        rw [Eg (by omega:15<l.length)]
       rw [if_neg Θ,EM]at this;unfold EO at this;simp only [Cb,Gv,e2]at this;exact this
      ·refine List.Perm.trans ?_ (List.perm_append_singleton o C).symm;exact List.Perm.cons _ hp1
end
def NH(pre:List UInt8):∀(a b:List UInt8)(c d:List Part),a.length=c.length->Bo pre (a++b) (c++d)=Bo pre a c++Bo pre b d
 | [],b,[],d,_=>by simp [Bo]
 | [],b,_::_,d,h=>by simp at h
 | _::_,b,[],d,h=>by simp at h
 | x::a,b,p::c,d,h=>by
   simp only [Cj,Bo,NH pre a b c d (by simpa using h),AX]
def Su(pre:List UInt8)(ls:List UInt8)(ps:List Part)(i:Nat)(h:ls.length=ps.length):Bo pre ls ps=Bo pre (ls.take i) (ps.take i)++Bo pre (ls.drop i) (ps.drop i):=by
 rw [<-NH _ _ _ _ _ (by simp [h]),GX,GX]
def OZ(a b:List Part):AY (a++b)=AY a++AY b:=by simp [AY]
def QR(ps:List Part)(i:Nat):AY ps=AY (ps.take i)++AY (ps.drop i):=by rw [<-OZ,GX]
def XM{l:List UInt8}{k:Nat}(h:k<l.length):l.getD k 0=l[k]:=by rw [Bi,Af h];rfl
def Aky{l:List UInt8}{k:Nat}(h:k<l.length):l.take k++l.getD k 0::l.drop (k+1)=l:=by
 rw [XM h,<-Eg h,GX]
def Ahj{x:UInt64}(h:x≠0):x.toNat≠0:=λe=>h (Ec.1 (by simpa using e))
section
variable{L:Nat}{s0:St}{j:Jb}{B:List Nat}
def rH (g : Grown L s0 j B) {x : Nd} (hx : C9 x = true) {parts : List Part} (hlen : parts.length = x.kids.length) {label : UInt8} (h16 : DK label = true) (hno : Pn x.labels label = false) {kid : UInt64} (hk0 : kid ≠ 0) {r : Nat} (hr : x.pre.length + 1 <= r)
    (hk : ∀ i (h1 : i < x.kids.length) (h2 : i < parts.length), DV j.s (r - x.pre.length - 1) x.kids[i] parts[i].items parts[i].blocks) {il : List Kv} {bl : List Nat} (ht : DV j.s (r - x.pre.length - 1) kid il bl) :
    JQ j x label kid 0 = (j, 0, 6) \/ ∃ j' name o, JQ j x label kid 0 = (j', name, 0) /\ Grown L s0 j' (B ++ [o]) /\ FB j.s j'.s (λ_ => True) /\ name ≠ 0 /\ ∃ Xd UC, DV j'.s r name Xd UC /\ UC.Perm (o :: bl ++ AY parts) /\
      ∀ kv, kv ∈ Xd <-> kv ∈ BX x ++ Bo x.pre x.labels parts \/ kv ∈ EO x.pre label il := by
  have hok : Jo x label kid = true := (Sl _ _ _).2 ⟨hx, by simpa [DK] using h16, Ahj hk0, hno⟩
  have F := ry x label kid hok
  have hxr := (Bq x).1 hx
  unfold JQ
  rw [if_neg Θ, if_pos hok]
  rcases PO g F.right with e | ⟨j', name, o, e, ho, g', hoff, hn0, hrd, hkp⟩
  · exact .inl e
  · right
    obtain ⟨p, hp⟩ : ∃ p, p = Gh x.labels label := ⟨_, rfl⟩
    have hpl : p <= x.labels.length := hp ▸ F.place
    have hll : x.labels.length = x.kids.length := hxr.2.2.1
    have T := DV.mk r name (Ic x label kid) (JD parts p ⟨il, bl⟩) hrd (by show x.pre.length <= r; omega) (λ_ => hr) (by rw [OG _ _ _ O, F.As1, hlen]) (λi h1 h2 => by
      have e1 := JI x.kids p kid O i
      have e2 := JI parts p ⟨il, bl⟩ O i
      have e1' : (JD x.kids p kid)[i]? = some (Ic x label kid).kids[i] := (congrArg (λl => l[i]?) (show JD x.kids p kid = (Ic x label kid).kids by rw [hp]; rfl)).trans (Af h1)
      rw [Af h2] at e2
      rw [e1] at e1'
      show DV j'.s (r - x.pre.length - 1) (Ic x label kid).kids[i] _ _
      have hlen2 : (Ic x label kid).kids.length = x.kids.length + 1 := F.As1
      by_cases h3 : i < p
      · rw [if_pos h3] at e1' e2
        rw [Af O] at e1' e2
        injection e1' with e1'
        injection e2 with e2
        rw [e2]
        have := (hk i O O).keep g.ok g'.ok hkp (λ_ _ => trivial)
        simp only [e1'] at this ⊢
        first | exact this | (rw [<- e1']; exact this)
      · rw [if_neg h3] at e1' e2
        by_cases h4 : i = p
        · rw [if_pos h4] at e1' e2
          injection e1' with e1'
          injection e2 with e2
          rw [e2]
          have := ht.keep g.ok g'.ok hkp (λ_ _ => trivial)
          first | exact e1' ▸ this | (rw [<- e1']; exact this)
        · rw [if_neg h4] at e1' e2
          rw [Af O] at e1' e2
          injection e1' with e1'
          injection e2 with e2
          rw [e2]
          have := (hk (i - 1) O O).keep g.ok g'.ok hkp (λ_ _ => trivial)
          first | exact e1' ▸ this | (rw [<- e1']; exact this))
    rw [hoff, Cm] at T
    refine ⟨j', name, o, e, g', hkp, hn0, _, _, T, ?_, λkv => ?_⟩
    · refine List.Perm.cons _ ?_
      unfold JD
      rw [OZ, QR parts p]
      show (AY (parts.take p) ++ (bl ++ AY (parts.drop p))).Perm (bl ++ (AY (parts.take p) ++ AY (parts.drop p)))
      rw [<- AX, <- AX]
      exact List.Perm.append_right _ List.perm_append_comm
    · have e1 : Bo x.pre (JD x.labels p label) (JD parts p ⟨il, bl⟩) = Bo x.pre (x.labels.take p) (parts.take p) ++ (EO x.pre label il ++ Bo x.pre (x.labels.drop p) (parts.drop p)) := by
        unfold JD
        rw [NH _ _ _ _ _ (by simp; omega)]
        rfl
      rw [show (Ic x label kid).labels = JD x.labels p label by rw [hp]; rfl, show (Ic x label kid).pre = x.pre from rfl, show BX (Ic x label kid) = BX x from rfl, e1, Su x.pre x.labels parts p O]
      simp only [AL]
      grind
def iI(x:Nd)(k:Nat)(hk:k<x.pre.length):∀(parts:List Part),EO (x.pre.take k) (x.pre.getD k 0) (BX {x with pre:=x.pre.drop (k+1)}++Bo (x.pre.drop (k+1)) x.labels parts)=BX x++Bo x.pre x.labels parts:=by
 have e:∀t,x.pre.take k++x.pre.getD k 0::(x.pre.drop (k+1)++t)=x.pre++t:=λt=>by
  rw [<-Cj,<-AX,Aky hk]
 have e0:x.pre.take k++x.pre.getD k 0::x.pre.drop (k+1)=x.pre:=by simpa using e []
 have h:∀(ls:List UInt8)(ps:List Part),EO (x.pre.take k) (x.pre.getD k 0) (Bo (x.pre.drop (k+1)) ls ps)=Bo x.pre ls ps:=by
  intro ls;induction ls with
  | nil=>intro ps;simp [Bo,EO]
  | cons lb ls ih=>
    intro ps;cases ps with
    | nil=>simp [Bo,EO]
    | cons p ps=>
      have:=ih ps;unfold EO at this⊢;simp only [Bo,Dx,this];congr 1;unfold EO;rw [List.map_map];refine FW λkv _=> ?_
      simp only [Function.comp_apply];rw [e]
 intro parts;have h2:=h x.labels parts;unfold EO at h2⊢;rw [Dx,h2];congr 1;unfold BX
 dsimp only
 split
 ·simp only [Cb,Gv];rw [e0]
 ·rfl
def Ahk(L:Nat)(s0:St)(r:Nat)(x:Nd)(parts:List Part)(rest:List UInt8)(value:UInt64)(res:Jb×UInt64×Int):Prop:=
 (res.2.2=6/\∃B',Grown L s0 res.1 B')\/
 (res.2.2=0/\∃C Xd UC,Grown L s0 res.1 C/\res.2.1≠0/\DV res.1.s r res.2.1 Xd UC/\UC.Perm (C++AY parts)/\∀kv,kv∈Xd<->kv∈BX x++Bo x.pre x.labels parts\/kv=(rest,value))
def Akz(ok:Bz L s0)(nh:∀o d,¬EK s0 o d){x:Nd}(hx:C9 x=true){parts:List Part}(hlen:parts.length=x.kids.length){r:Nat}(hpre:x.pre.length<=r)(Ov:x.kids≠[]->x.pre.length+1<=r)
 (hk:∀i(h1:i<x.kids.length)(h2:i<parts.length),DV s0 (r-x.pre.length-1) x.kids[i] parts[i].items parts[i].blocks){rest:List UInt8}{value:UInt64}(hrl:rest.length<=r)(hrn:rest.all DK=true)(hv:value≠0)(hne:x.pre≠rest)
 (hno:common x.pre rest=x.pre.length->Pn x.labels (rest.getD (common x.pre rest) 0)=false):Ahk L s0 r x parts rest value (X5 ⟨s0,[]⟩ x rest value):=by
 have g0:=Grown.start ok nh;have hxr:=(Bq x).1 hx;have hcl:=Je x.pre rest;have hcr:=Fq x.pre rest;have hct:=Rq x.pre rest;unfold X5;by_cases hc:common x.pre rest=x.pre.length
 ·rw [if_pos hc];have hlt:x.pre.length<rest.length:=by
   rcases Nat.lt_or_ge x.pre.length rest.length with h| h
   ·exact h
   ·exfalso;refine hne ?_;rw [hc,Nc,List.take_of_length_le O]at hct;exact hct
  have hno':=hno hc;rw [hc]at hno' hct⊢;rw [Nc]at hct;have hcut:=Aky hlt;rw [<-hct]at hcut;have hlab:DK (rest.getD x.pre.length 0)=true:=by rw [XM hlt];exact EH.1 hrn _ (BI _)
  have hL:=YL (rest.length+1) g0 (r-x.pre.length-1) (rest.drop (x.pre.length+1)) value (by rw [AV];omega) (by rw [AV];omega) (Vb _ _ _ hrn) hv;generalize Po (rest.length+1) ⟨s0,[]⟩ (rest.drop (x.pre.length+1)) value=res at hL;obtain⟨j1,kid,e⟩:=res;rcases hL with⟨e1,B',g1⟩| ⟨e1,C,bl,g1,hk1,hn1,ht1,hp1⟩
  ·simp only at e1 g1;subst e1;simp only;unfold JQ;rw [if_pos U];exact .inl ⟨rfl,B',g1⟩
  ·simp only at e1 g1 hk1 hn1 ht1;subst e1;simp only;rw [EM]at g1;rcases rH (r:=r) g1 hx hlen hlab hno' hn1 O (λi h1 h2=>(hk i h1 h2).keep ok g1.ok hk1 (λ_ _=>trivial)) ht1 with e| ⟨j',name,o,e,g',hkp,hn0,Xd,UC,T,hp,hm⟩
   ·rw [e];exact .inl ⟨rfl,_,g1⟩
   ·rw [e];refine .inr ⟨rfl,C++[o],Xd,UC,g',hn0,T,hp.trans ?_,λkv=> ?_⟩
    ·rw [AX];refine List.Perm.trans (l₂:=o::(C++AY parts)) (List.Perm.cons _ (List.Perm.append_right _ hp1)) ?_;exact List.perm_middle.symm
    ·rw [hm kv];unfold EO;simp only [Cb,Gv,BD,hcut]
 ·rw [if_neg hc];have hlt:common x.pre rest<x.pre.length:=O
  obtain⟨k,hkk⟩:∃k,k=common x.pre rest:=⟨_,rfl⟩;have hst:=Xx x.pre rest;rw [<-hkk]at hlt hct hcr hst⊢;have hlab:DK (x.pre.getD k 0)=true:=by rw [XM hlt];exact EH.1 hxr.2.1 _ (BI _)
  have htl:(x.pre.take k).length=k:=by simp;omega
  have hlow:C9 {x with pre:=x.pre.drop (k+1)}=true:=by
   rw [Bq];exact⟨by simp only [AV];omega,Vb _ _ _ hxr.2.1,hxr.2.2.1,hxr.2.2.2.1,hxr.2.2.2.2.1,hxr.2.2.2.2.2⟩
  rcases PO g0 hlow with e| ⟨j1,kid,o1,e,ho1,g1,As3,hn1,Avs,Avt⟩
  ·rw [e];simp only;split
   ·unfold JQ;rw [if_pos U];exact .inl ⟨rfl,_,g0⟩
   ·rw [if_pos U];exact .inl ⟨rfl,_,g0⟩
  ·rw [e];simp only;rw [EM]at g1;have T1:=DV.mk (r-k-1) kid {x with pre:=x.pre.drop (k+1)} parts Avs (by simp only [AV];omega) (λh=>by have:=Ov h;simp only [AV];omega) hlen (λi h1 h2=>by
    have:=(hk i h1 h2).keep ok g1.ok Avt (λ_ _=>trivial);have e2:r-k-1- ({x with pre:=x.pre.drop (k+1)}:Nd).pre.length-1=r-x.pre.length-1:=by simp only [AV];omega
    rw [e2];exact this)
   rw [As3,Cm]at T1;by_cases hr:k=rest.length
   ·rw [if_pos hr];have hrest:rest=x.pre.take k:=by rw [hct,hr,Nc]
    obtain⟨w1,w2,w3,_⟩:=UB (pre:=x.pre.take k) (val:=value) (by rw [htl];omega) (Va _ _ _ hxr.2.1) hlab hn1;unfold JQ;rw [if_neg Θ,if_pos w1,w2];rcases PO g1 w3 with e| ⟨j2,name,o2,e,ho2,g2,As4,hn2,Avu,Avv⟩
    ·rw [e];exact .inl ⟨rfl,_,g1⟩
    ·rw [e];have T2:=rG (r:=r) Avu As4 (by rw [htl];omega) (by rw [htl];exact T1.keep g1.ok g2.ok Avv (λ_ _=>trivial));rw [iI x k hlt parts,if_pos hv]at T2;refine .inr ⟨rfl,[o1]++[o2],_,_,g2,hn2,T2,?_,λkv=> ?_⟩
     ·exact(List.Perm.swap o1 o2 _)
     ·rw [hrest];simp only [Cj,EM,List.mem_cons];exact Or.comm
   ·rw [if_neg hr,if_neg Θ];have Ak0:k<rest.length:=O
    obtain⟨w1,w2,w3,_⟩:=UB (pre:=x.pre.take k) (val:=0) (by rw [htl];omega) (Va _ _ _ hxr.2.1) hlab hn1;rw [if_pos w1,w2];have As5:DK (rest.getD k 0)=true:=by rw [XM Ak0];exact EH.1 hrn _ (BI _)
    have hL:=YL (rest.length+1) g1 (r-k-1) (rest.drop (k+1)) value (by rw [AV];omega) (by rw [AV];omega) (Vb _ _ _ hrn) hv;generalize Po (rest.length+1) j1 (rest.drop (k+1)) value=res at hL;obtain⟨j2,Zc,e⟩:=res;rcases hL with⟨e1,B',g2⟩| ⟨e1,C,bl,g2,hk2,hn2,ht2,hp2⟩
    ·simp only at e1 g2;subst e1;simp only;unfold JQ;rw [if_pos U];exact .inl ⟨rfl,B',g2⟩
    ·simp only at e1 g2 hk2 hn2 ht2;subst e1;simp only;have hdiff:Pn [x.pre.getD k 0] (rest.getD k 0)=false:=by
      have h1:=hst hlt Ak0;unfold Pn;simp only [List.any_cons,List.any_nil,Bool.or_false,beq_eq_false_iff_ne];rw [XM hlt,XM Ak0];exact λe=>h1 (UInt8.toNat_inj.1 e)
     rcases rH (r:=r) (parts:=[⟨_,_⟩]) g2 w3 rfl As5 hdiff hn2 (by rw [htl];omega) (λi h1 h2=>by
      simp only [BB,Du]at h1;have:i=0:=O
      subst this;rw [show(⟨x.pre.take k,0,[x.pre.getD k 0],[kid]⟩:Nd).pre.length=k from htl];exact T1.keep g1.ok g2.ok hk2 (λ_ _=>trivial)) (by rw [show(⟨x.pre.take k,0,[x.pre.getD k 0],[kid]⟩:Nd).pre.length=k from htl];exact ht2)with e| ⟨j',name,o,e,g',hkp,hn0,Xd,UC,T,hp,hm⟩
     ·rw [e];exact .inl ⟨rfl,_,g2⟩
     ·rw [e];refine .inr ⟨rfl,[o1]++C++[o],Xd,UC,g',hn0,T,hp.trans ?_,λkv=> ?_⟩
      ·have e3:AY [⟨BX {x with pre:=x.pre.drop (k+1)}++Bo (x.pre.drop (k+1)) x.labels parts,o1::AY parts⟩]=o1::AY parts:=by simp [AY]
       rw [e3];have p1:(o::bl++o1::AY parts).Perm (o::C++o1::AY parts):=List.Perm.append_right _ (List.Perm.cons _ hp2);refine p1.trans ?_;have e4:[o1]++C++[o]++AY parts=o1::(C++o::AY parts):=by simp
       rw [e4];refine(Ae9 (a:=o1) (l₁:=o::C) (l₂:=AY parts)).trans (List.Perm.cons _ ?_);exact(Ae9 (a:=o) (l₁:=C) (l₂:=AY parts)).symm
      ·rw [hm kv];have e3:BX (⟨x.pre.take k,0,[x.pre.getD k 0],[kid]⟩:Nd)++Bo (x.pre.take k) [x.pre.getD k 0] [⟨BX {x with pre:=x.pre.drop (k+1)}++Bo (x.pre.drop (k+1)) x.labels parts,o1::AY parts⟩]=BX x++Bo x.pre x.labels parts:=by
        rw [<-iI x k hlt parts];simp [BX,Bo]
       rw [e3];have e4:x.pre.take k++rest.getD k 0::rest.drop (k+1)=rest:=by rw [hct];exact Aky Ak0
       unfold EO;simp only [Cb,Gv,BD,e4]
end
