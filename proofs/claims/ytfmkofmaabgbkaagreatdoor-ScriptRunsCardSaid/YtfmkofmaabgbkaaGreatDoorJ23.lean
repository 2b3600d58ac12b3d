import Derived.Test.YtfmkofmaabgbkaaGreatDoorJ21
set_option linter.defProp false
open List renaming find?_some->Zw,getD_eq_getElem?_getD->Bg,mem_of_find?_eq_some->iJ,mem_range->GK,length_set->Dh,map_congr_left->Abr,mem_map->Dk,getElem_mem->Cm,mem_cons_self->Bo,mem_cons_of_mem->Bz,mem_append->AB,mem_singleton->BQ,all_eq_true->EI,length_append->AP,length_cons->Bv,pairwise_append->xI,eq_nil_of_length_eq_zero->Ce,nodup_append->Dl,mem_append_left->BH,append_assoc->AY,mem_append_right->Bj,map_append->CE,map_cons->BM,cons_append->BD,nil_append->EK,length_nil->Dx,getElem?_eq_getElem->Ah,length_drop->AQ,take_append_drop->He,drop_eq_getElem_cons->Cf,map_nil->FP,take_length->SE,perm_middle->Ag5
open Nat renaming mul_le_mul_left->VE,mul_add->Abq,mul_one->LU,mul_assoc->Om,lt_trichotomy->Ag4,succ_eq_add_one->Adc
open Int renaming toNat_natCast->BJ,ofNat->Gt
open UInt64 renaming ofNat->Az,toNat_inj->DN
open Bool renaming true->jm,false->jw
namespace Go.Proofs.YtfmkofmaabgbkaaGreatDoor
def Ank{n a k:Nat}(h:lQ n a=some k):n.testBit k=false:=by
 unfold lQ at h;have:=Zw h;simpa using this
structure BG(L:Nat)(s:St):Prop where
 sh:gI L s.sh
 L1:L<=1024
 Rj:s.tk.length=s.sh.BO
 xn:s.hd.length=s.sh.BO
 tk:∀i,i<s.sh.BO->OkW (GZ s i)
 hd:∀i,i<s.sh.BO->OkW (hdN s i)
 cls:∀i,i<s.sh.BO->GZ s i=0\/hdN s i=0\/Ba (GZ s i)=Ba (hdN s i)
 Uo:∀i a,i<s.sh.BO->EM (GZ s i) a=jm->EM (hdN s i) a=jw
 tab:∀i,i<s.sh.BO->s.ws (16+i)=s.tk.getD i 0
def AU(s:St)(off c:Nat):Prop:=∃a b,a<s.sh.BO/\EM (GZ s a) b=jm/\Ba (GZ s a)=c/\off=Df s.sh a c b
def Ej(s:St)(off c:Nat):Prop:=∃a b,a<s.sh.BO/\EM (hdN s a) b=jm/\Ba (hdN s a)=c/\off=Df s.sh a c b
def Gz{c:Nat}(h:c=1\/c=2):Bd c*Bi c=16/\0<Bd c/\0<Bi c/\Bd c<=4:=by
 rcases h with rfl|rfl<;>decide
def OX{sh:Sh}{i c a:Nat}(f:c=1\/c=2)(e:a<Bi c):sh.data+1024*i<=Df sh i c a/\Df sh i c a+64*Bd c<=sh.data+1024*(i+1):=by
 obtain⟨b,g,j,_⟩:=Gz f;unfold Df;have d:Bd c*(a+1)<=16:=by rw[<-b];exact VE _ e
 rw[Abq,LU]at d;rw[Om];omega
def XH{sh:Sh}{i j c d a b:Nat}(f:c=1\/c=2)(g:d=1\/d=2)(k:a<Bi c)(l:b<Bi d)(h:Df sh i c a=Df sh j d b):i=j:=by
 have m:=OX (sh:=sh) (i:=i) f k;have n:=OX (sh:=sh) (i:=j) g l;have o:=(Gz f).2.1;have p:=(Gz g).2.1;rcases Ag4 i j with e|e|e
 ·omega
 ·exact e
 ·omega
def V5{sh:Sh}{i c a b:Nat}(d:c=1\/c=2)(h:Df sh i c a=Df sh i c b):a=b:=by
 unfold Df at h;have e:=(Gz d).2.1;have:64*Bd c*a=64*Bd c*b:=O1;exact Nat.eq_of_mul_eq_mul_left O1 this
def Y4{sh:Sh}{i j c d a b:Nat}(n:c=1\/c=2)(p:d=1\/d=2)(k:a<Bi c)(m:b<Bi d)(o:i=j->c=d)(h:Df sh i c a≠Df sh j d b):
 Df sh i c a+64*Bd c<=Df sh j d b\/Df sh j d b+64*Bd d<=Df sh i c a:=by
 have q:=OX (sh:=sh) (i:=i) n k;have r:=OX (sh:=sh) (i:=j) p m;rcases Ag4 i j with e|e|e
 ·omega
 ·subst e;obtain rfl:=o rfl;have l:a≠b:=λg=>h (by rw[g])
  unfold Df;rcases Nat.lt_or_gt_of_ne l with f|f
  ·have:=VE (64*Bd c) f;rw[Adc,Abq,LU]at this;omega
  ·have:=VE (64*Bd c) f;rw[Adc,Abq,LU]at this;omega
 ·omega
section
variable{L:Nat}{s:St}
def BG.both(b:BG L s){i:Nat}(hi:i<s.sh.BO):OkW (GZ s i|||hdN s i)/\(∀a,EM (GZ s i|||hdN s i) a=(EM (GZ s i) a||EM (hdN s i) a))/\(GZ s i≠0->Ba (GZ s i|||hdN s i)=Ba (GZ s i))/\(hdN s i≠0->Ba (GZ s i|||hdN s i)=Ba (hdN s i)):=Afd (b.tk i hi) (b.hd i hi) (b.cls i hi)
def BG.Qc(d:BG L s){i a:Nat}(hi:i<s.sh.BO)(e:EM (GZ s i) a=jm):∃b,SW (GZ s i) b/\Ba (C9 s i)=b/\a<Bi b:=by
 obtain⟨b,c,f,_⟩:=(d.tk i hi).dD e;exact⟨b,c,by unfold C9;rw[(d.both hi).2.2.1 c.ne,c.class],f⟩
def BG.dL(d:BG L s){i a:Nat}(hi:i<s.sh.BO)(e:EM (hdN s i) a=jm):∃b,SW (hdN s i) b/\Ba (C9 s i)=b/\a<Bi b:=by
 obtain⟨b,c,f,_⟩:=(d.hd i hi).dD e;exact⟨b,c,by unfold C9;rw[(d.both hi).2.2.2 c.ne,c.class],f⟩
def V6(j:BG L s){i c a:Nat}(hi:i<s.sh.BO)(g:Ba (C9 s i)=c)(b:c=1\/c=2)(f:a<Bi c):Iq s (Df s.sh i c a:Nat)=some (i,a):=by
 have k:=OX (sh:=s.sh) (i:=i) b f;obtain⟨l,m,n,o⟩:=Gz b;have p:=j.Rj;have d:(Df s.sh i c a-s.sh.data)/1024=i:=O1;have e:(Df s.sh i c a-s.sh.data)%1024=64*Bd c*a:=by
  have:Df s.sh i c a-s.sh.data=1024*i+64*Bd c*a:=by unfold Df;omega
  omega
 unfold Iq;rw[ku O1];simp only[BJ,d,e,g];rw[ku (by rw[Nat.mul_mod_right];omega),Nat.mul_div_cancel_left _ O1]
def uT(l:BG L s){off:Int}{i a:Nat}(h:Iq s off=some (i,a)):i<s.sh.BO/\(Ba (C9 s i)=1\/Ba (C9 s i)=2)/\a<Bi (Ba (C9 s i))/\off=(Df s.sh i (Ba (C9 s i)) a:Nat):=by
 have r:=l.Rj;unfold Iq at h;split at h
 ·cases h
 ·rename_i m;split at h
  ·cases h
  ·rename_i c;simp only[Option.some.injEq,Prod.mk.injEq]at h;obtain⟨rfl,rfl⟩:=h;have g:(off.toNat-s.sh.data)/1024<s.sh.BO:=O1;generalize q:Ba (C9 s ((off.toNat-s.sh.data)/1024))=b at c⊢;have d:b=1\/b=2:=by
    unfold Bd at c;split at c
    ·exact .inl rfl
    ·exact .inr rfl
    ·simp at c
   obtain⟨f,n,o,p⟩:=Gz d;have e:=Nat.div_add_mod ((off.toNat-s.sh.data)%1024) (64*Bd b);have k:(off.toNat-s.sh.data)%1024%(64*Bd b)=0:=O1;have j:(off.toNat-s.sh.data)%1024<1024:=Nat.mod_lt _ U;refine⟨g,d,?_,?_⟩
   ·refine Nat.div_lt_of_lt_mul ?_;rw[Om,f];exact j
   ·unfold Df;rw[k,Nat.add_zero]at e;rw[e];omega
def AU.cls(e:BG L s){off c:Nat}(h:AU s off c):c=1\/c=2:=by
 obtain⟨g,f,d,b,rfl,_⟩:=h;obtain⟨c,a,_,_⟩:=e.Qc d b;rw[a.class];exact a.cls
def AU.class(a:BG L s){off c:Nat}(h:AU s off c):DD s off=c:=by
 have i:=h.cls a;obtain⟨n,m,e,b,d,rfl⟩:=h;obtain⟨f,j,k,l⟩:=a.Qc e b;have g:c=f:=by rw[<-d,j.class]
 subst g;unfold DD;rw[V6 a e k i l];simp only[b,if_true,d]
def dM(f:BG L s){off:Int}{c:Nat}(h:DD s off=c)(a:c≠0):∃e:Nat,off=e/\AU s e c:=by
 unfold DD at h;split at h
 ·exact absurd h.symm a
 ·rename_i m g l;obtain⟨d,o,p,k⟩:=uT f l;split at h
  ·rename_i b;obtain⟨n,i,j,_⟩:=f.Qc d b;refine⟨_,k,m,g,d,b,h,?_⟩;rw[j,<-h,i.class]
  ·exact absurd h.symm a
def AU.bounds(a:BG L s){off c:Nat}(h:AU s off c):s.sh.data<=off/\off+64*Bd c<=64*L/\off%64=0:=by
 have e:=h.cls a;obtain⟨l,m,j,g,i,rfl⟩:=h;obtain⟨b,f,o,k⟩:=a.Qc j g;have d:c=b:=by rw[<-i,f.class]
 subst d;have n:=OX (sh:=s.sh) (i:=l) e k;have:=a.sh.fits;have:=a.sh.data;refine⟨O1,O1,?_⟩;unfold Df;rw[Om];omega
def Ej.cls(e:BG L s){off c:Nat}(h:Ej s off c):c=1\/c=2:=by
 obtain⟨g,f,d,b,rfl,_⟩:=h;obtain⟨c,a,_,_⟩:=e.dL d b;rw[a.class];exact a.cls
def Ej.bounds(a:BG L s){off c:Nat}(h:Ej s off c):s.sh.data<=off/\off+64*Bd c<=64*L/\off%64=0:=by
 have e:=h.cls a;obtain⟨l,m,j,g,i,rfl⟩:=h;obtain⟨b,f,o,k⟩:=a.dL j g;have d:c=b:=by rw[<-i,f.class]
 subst d;have n:=OX (sh:=s.sh) (i:=l) e k;have:=a.sh.fits;have:=a.sh.data;refine⟨O1,O1,?_⟩;unfold Df;rw[Om];omega
def uU(a:BG L s){o p c d:Nat}(h:AU s o c)(k:AU s p d)(v:o≠p):o+64*Bd c<=p\/p+64*Bd d<=o:=by
 have l:=h.cls a;have k12:=k.cls a;obtain⟨A,w,q,m,f,rfl⟩:=h;obtain⟨j,x,r,n,g,rfl⟩:=k;obtain⟨y,b,_,t⟩:=a.Qc q m;obtain⟨z,e,_,u⟩:=a.Qc r n;rw[b.class]at f;rw[e.class]at g;subst f g;refine Y4 l k12 t u (λi=>?_) v;subst i;rw[<-b.class,<-e.class]
def OY(a:BG L s){o p c d:Nat}(h:Ej s o c)(k:AU s p d):o≠p/\(o+64*Bd c<=p\/p+64*Bd d<=o):=by
 have e:=h.cls a;have k12:=k.cls a;obtain⟨g,i,u,f,q,rfl⟩:=h;obtain⟨j,z,C,n,t,rfl⟩:=k;obtain⟨l,A,D,v⟩:=a.dL u f;obtain⟨m,B,y,w⟩:=a.Qc C n;rw[A.class]at q;rw[B.class]at t;subst q t;have r:g=j->l=m:=λb=>by subst b;rw[<-D,<-y]
 have x:Df s.sh g l i≠Df s.sh j m z:=λb=>by
  obtain rfl:=XH e k12 v w b;obtain rfl:=r rfl;obtain rfl:=V5 e b;rw[a.Uo g i u n]at f;cases f
 exact⟨x,Y4 e k12 v w r x⟩
end
def Dy{n:Nat}(h:n<2^64):(Az n).toNat=n:=by
 rw[UInt64.toNat_ofNat'];exact Nat.mod_eq_of_lt h
def QJ{b:Type}(l:List b)(i j:Nat)(x a:b)(hi:i<l.length):(l.set i x).getD j a=if j=i then x else l.getD j a:=by
 rw[Bg,Bg,List.getElem?_set];by_cases h:i=j
 ·subst h;simp[hi]
 ·rw[ku h,ku (λc=>h c.symm)]
section
variable{L:Nat}{s:St}
def BG.table(a:BG L s):s.sh.table=128:=a.sh.table
def BG.words(a:BG L s){ws':Nat->UInt64}(h:∀i,i<s.sh.BO->ws' (16+i)=s.ws (16+i)):BG L {s with ws:=ws'}:=
 ⟨a.sh,a.L1,a.Rj,a.xn,a.tk,a.hd,a.cls,a.Uo,λi b=>(h i b).trans (a.tab i b)⟩
def Hw(off c j:Nat):Prop:=off/8<=j/\j<off/8+8*Bd c
def PM{o p c d j:Nat}(h:o+64*Bd c<=p\/p+64*Bd d<=o)(a:o%64=0)(b:p%64=0)(k:Hw o c j):¬Hw p d j:=by
 unfold Hw at*;omega
def BG.D5(a:BG L s){off c j:Nat}(h1:s.sh.data<=off)(h2:Hw off c j):16+s.sh.BO<=j:=by
 have:=a.sh.OI;unfold Hw at h2;omega
def o6{c i a:Nat}(h:Nk s c=some i)(h2:Lh (C9 s i) c=some a):i<s.tk.length/\(Ba (C9 s i)=c\/Ba (C9 s i)=0):=by
 unfold Nk at h;split at h
 ·rename_i j e;injection h with h;subst h
  unfold MF at e;have b:=Zw e;have d:=iJ e;rw[Bool.and_eq_true,decide_eq_true_eq]at b;exact⟨GK.1 d,.inl b.1⟩
 ·unfold MF at h;have b:=Zw h;have d:=iJ h;rw[Bool.and_eq_true,decide_eq_true_eq]at b;exact⟨GK.1 d,.inr b.1⟩
def OZ(e:BG L s){c off:Nat}{s1:St}(B:c=1\/c=2)(h:DT s c=some (off,s1)):
 BG L s1/\s1.ws=s.ws/\s1.sh=s.sh/\s1.tk=s.tk/\Ej s1 off c/\(∀l i,Ej s l i->Ej s1 l i)/\(∀l i,Ej s1 l i->Ej s l i\/l=off)/\∀l i,AU s1 l i<->AU s l i:=by
 unfold DT at h;split at h
 ·cases h
 ·rename_i a K;split at h
  ·cases h
  ·rename_i g t;simp only[Option.some.injEq,Prod.mk.injEq]at h;obtain⟨rfl,rfl⟩:=h;obtain⟨M,C⟩:=o6 K t;have u:a<s.sh.BO:=by rw[<-e.Rj];exact M
   obtain⟨T,H,J,E⟩:=e.both u;have A:g<Bi c/\(KA (C9 s a)).testBit g=false:=by
    unfold Lh at t;split at t
    ·exact⟨mY t,Ank t⟩
    ·cases t
   have S:Bi c<=16:=by rcases B with rfl|rfl<;>decide
   have I:(C9 s a).testBit g=false:=by
    have:=A.2;unfold KA at this;rw[O5,Nat.zero_add,Bool.and_eq_false_iff,decide_eq_false_iff_not]at this;rcases this with h|h
    ·omega
    ·exact h
   have N:EM (C9 s a) g=false:=by
    unfold EM;rw[Ajq,I,Bool.and_false]
   have z:=H g;rw[show GZ s a|||hdN s a=C9 s a from rfl,N]at z;obtain⟨P,O1⟩:EM (GZ s a) g=jw/\EM (hdN s a) g=false:=by
    cases f:EM (GZ s a) g<;>cases n:EM (hdN s a) g<;>rw[f,n]at z<;>first|exact⟨rfl,rfl⟩|cases z
   have y:hdN s a=0\/SW (hdN s a) c:=by
    rcases e.hd a u with f|⟨i,f⟩
    ·exact .inl f
    ·have b:=E f.ne;rw[show GZ s a|||hdN s a=C9 s a from rfl,f.class]at b;have:=f.cls;rcases C with n|n
     ·rw[b]at n;subst n;exact .inr f
     ·omega
   have Q:GZ s a=0\/Ba (GZ s a)=c:=by
    rcases e.tk a u with f|⟨i,f⟩
    ·exact .inl f
    ·have b:=J f.ne;rw[show GZ s a|||hdN s a=C9 s a from rfl,f.class]at b;have:=f.cls;rcases C with n|n
     ·rw[b]at n;subst n;exact .inr f.class
     ·omega
   obtain⟨_,r,w⟩:=jU (e.hd a u) B y A.1 O1;have R:=Dy r.lt;have p:∀j,hdN {s with hd:=s.hd.set a (Az (FU (hdN s a) c g).1)} j=if j=a then(FU (hdN s a) c g).1 else hdN s j:=λj=>by
    show((s.hd.set a _).getD j 0).toNat=_;rw[QJ _ _ _ _ _ (by rw[e.xn];exact u)];split
    ·exact R
    ·rfl
   have D:∀j,GZ {s with hd:=s.hd.set a (Az (FU (hdN s a) c g).1)} j=GZ s j:=λj=>rfl
   refine⟨⟨e.sh,e.L1,e.Rj,by simp[e.xn],e.tk,λj k=>?_,λj k=>?_,λj m k d=>?_,e.tab⟩,rfl,rfl,rfl,⟨a,g,u,?_,?_,rfl⟩,?_,?_,λl i=>Iff.rfl⟩
   ·rw[p];split
    ·exact .inr ⟨c,r⟩
    ·exact e.hd j k
   ·rw[p,D];by_cases b:j=a
    ·subst b;rw[jM rfl,r.class];exact Q.imp id .inr
    ·rw[ku b];exact e.cls j k
   ·rw[p];rw[D]at d;by_cases b:j=a
    ·subst b;rw[jM rfl,w m,e.Uo j m k d,Bool.false_or,decide_eq_false_iff_not];intro G;subst G;rw[P]at d;cases d
    ·rw[ku b];exact e.Uo j m k d
   ·rw[p,jM rfl,w g];simp
   ·rw[p,jM rfl,r.class]
   ·rintro l i⟨j,m,k,d,o,v⟩;refine⟨j,m,k,?_,?_,v⟩
    ·rw[p];by_cases b:j=a
     ·subst b;rw[jM rfl,w m,d];rfl
     ·rw[ku b];exact d
    ·rw[p];by_cases b:j=a
     ·subst b;obtain⟨F,x,_,_⟩:=(e.hd j k).dD d;rw[jM rfl,r.class,<-o];rcases y with q|q
      ·exact absurd q x.ne
      ·exact q.class.symm
     ·rw[ku b];exact o
   ·rintro l i⟨j,m,k,d,o,v⟩;rw[p]at d o;by_cases b:j=a
    ·subst b;rw[jM rfl]at d o;rw[w m,Bool.or_eq_true,decide_eq_true_eq]at d;rw[r.class]at o;subst o;rcases d with d|rfl
     ·obtain⟨F,x,_,_⟩:=(e.hd j k).dD d;refine .inl ⟨j,m,k,d,?_,v⟩;rcases y with q|q
      ·exact absurd q x.ne
      ·exact q.class
     ·exact .inr v
    ·rw[ku b]at d o;exact .inl ⟨j,m,k,d,o,v⟩
def oC(f:BG L s){c off:Nat}(h:Ej s off c):
 ∃n,Lj s off=(n,0)/\BG L n/\n.sh=s.sh/\(∀j,(j<16\/16+s.sh.BO<=j)->n.ws j=s.ws j)/\
  (∀r o,AU n r o<->AU s r o\/(r=off/\o=c))/\(∀r o,Ej n r o<->Ej s r o/\r≠off):=by
 have F:=h.cls f;have U:=h;obtain⟨b,q,p,D,G,rfl⟩:=U;obtain⟨y,x,ab,J⟩:=f.dL p D;have d:y=c:=by rw[<-G,x.class]
 subst d;have Y:EM (GZ s b) q=false:=by
  cases a:EM (GZ s b) q
  ·rfl
  ·rw[f.Uo b q p a]at D;cases D
 have K:GZ s b=0\/SW (GZ s b) y:=by
  rcases f.tk b p with i|⟨o,i⟩
  ·exact .inl i
  ·rcases f.cls b p with z|z|z
   ·exact absurd z i.ne
   ·exact absurd z x.ne
   ·rw[i.class,x.class]at z;subst z;exact .inr i
 obtain⟨_,A,E⟩:=jU (f.tk b p) F K J Y;obtain⟨_,N,C,H⟩:=jV (f.hd b p) D;have Z:=Dy A.lt;have aa:=Dy N.lt;have M:b<s.tk.length:=by rw[f.Rj];exact p
 have S:b<s.hd.length:=by rw[f.xn];exact p
 obtain⟨n,t⟩:∃n,n=({Xq s b (Az (FU (GZ s b) (Ba (hdN s b)) q).1)with hd:=s.hd.set b (Az (Em (hdN s b) q).1)}:St):=⟨_,rfl⟩;have u:∀j,GZ n j=if j=b then(FU (GZ s b) y q).1 else GZ s j:=λj=>by
  rw[t];show((s.tk.set b _).getD j 0).toNat=_;rw[QJ _ _ _ _ _ M,G];split
  ·exact Z
  ·rfl
 have B:∀j,hdN n j=if j=b then(Em (hdN s b) q).1 else hdN s j:=λj=>by
  rw[t];show((s.hd.set b _).getD j 0).toNat=_;rw[QJ _ _ _ _ _ S];split
  ·exact aa
  ·rfl
 have m:n.sh=s.sh:=by rw[t];rfl
 have R:∀j,n.ws j=if j=16+b then Az (FU (GZ s b) y q).1 else s.ws j:=λj=>by
  rw[t];show Dt s.ws (s.sh.table/8+b) _ j=_;rw[f.table,G];rfl
 refine⟨n,?_,⟨by rw[m];exact f.sh,f.L1,by rw[t];show(s.tk.set b _).length=_;rw[Dh];exact f.Rj,by rw[t];show(s.hd.set b _).length=_;rw[Dh];exact f.xn,λj e=>?_,λj e=>?_,λj e=>?_,λj k e a=>?_,λj e=>?_⟩,m,λj e=>?_,λr o=>?_,λr o=>?_⟩
 ·unfold Lj;rw[V6 f p ab F J];simp only[D,if_true];rw[t]
 ·rw[u];split
  ·exact .inr ⟨_,A⟩
  ·exact f.tk j (by rw[<-m];exact e)
 ·rw[B];split
  ·exact N
  ·exact f.hd j (by rw[<-m];exact e)
 ·rw[u,B];by_cases d:j=b
  ·rw[jM d,jM d,A.class];rcases H with i|i
   ·exact .inr (.inr (by rw[i,x.class]))
   ·exact .inr (.inl i)
  ·rw[ku d,ku d];exact f.cls j (by rw[<-m];exact e)
 ·rw[u]at a;rw[B];by_cases d:j=b
  ·subst d;rw[jM rfl]at a⊢;rw[E,Bool.or_eq_true,decide_eq_true_eq]at a;rw[C];rcases a with a|rfl
   ·rw[f.Uo j k p a];rfl
   ·simp
  ·rw[ku d]at a⊢;exact f.Uo j k (by rw[<-m];exact e) a
 ·rw[R,t];show _=(s.tk.set b _).getD j 0;rw[QJ _ _ _ _ _ M,G];by_cases d:j=b
  ·rw[jM O1,jM d]
  ·rw[ku O1,ku d];exact f.tab j (by rw[<-m];exact e)
 ·rw[R,ku O1]
 ·constructor
  ·rintro⟨j,k,e,a,g,l⟩;rw[m]at e l;rw[u]at a g;by_cases d:j=b
   ·subst d;rw[jM rfl]at a g;rw[A.class]at g;subst g;rw[E,Bool.or_eq_true,decide_eq_true_eq]at a;rcases a with a|rfl
    ·left;refine⟨j,k,e,a,?_,l⟩;rcases K with w|w
     ·rw[w,Gg]at a;cases a
     ·exact w.class
    ·exact .inr ⟨l,rfl⟩
   ·rw[ku d]at a g;exact .inl ⟨j,k,e,a,g,l⟩
  ·rintro(⟨j,k,e,a,g,l⟩|⟨rfl,rfl⟩)
   ·refine⟨j,k,by rw[m];exact e,?_,?_,by rw[m];exact l⟩
    ·rw[u];by_cases d:j=b
     ·subst d;rw[jM rfl,E,a];rfl
     ·rw[ku d];exact a
    ·rw[u];by_cases d:j=b
     ·subst d;rw[jM rfl,A.class,<-g];rcases K with w|w
      ·rw[w,Gg]at a;cases a
      ·exact w.class.symm
     ·rw[ku d];exact g
   ·exact⟨b,q,by rw[m];exact p,by rw[u,jM rfl,E];simp,by rw[u,jM rfl,A.class],by rw[m]⟩
 ·constructor
  ·rintro⟨j,k,e,a,g,l⟩;rw[m]at e l;rw[B]at a g;by_cases d:j=b
   ·subst d;rw[jM rfl]at a g;rw[C,Bool.and_eq_true,Bool.not_eq_true',decide_eq_false_iff_not]at a;have V:o=y:=by
     rcases H with i|i
     ·rw[i,x.class]at g;exact g.symm
     ·have:=C k;rw[i,Gg,a.1]at this;simp[a.2]at this
    subst V;refine⟨⟨j,k,e,a.1,x.class,l⟩,λv=>?_⟩;rw[l]at v;exact a.2 (V5 F v)
   ·rw[ku d]at a g;refine⟨⟨j,k,e,a,g,l⟩,λv=>?_⟩;obtain⟨T,P,ac,W⟩:=f.dL e a;have I:T=o:=by rw[<-g,P.class]
    subst I;rw[l]at v;exact d (XH P.cls F W J v)
  ·rintro⟨⟨j,k,e,a,g,l⟩,X⟩;have Q:j=b->k≠q:=λd v=>by
    subst d v;have I:o=y:=by rw[<-g,x.class]
    subst I;exact X l
   refine⟨j,k,by rw[m];exact e,?_,?_,by rw[m];exact l⟩
   ·rw[B];by_cases d:j=b
    ·subst d;rw[jM rfl,C,a];simp[Q rfl]
    ·rw[ku d];exact a
   ·rw[B];by_cases d:j=b
    ·subst d;rw[jM rfl];rcases H with i|i
     ·rw[i];exact g
     ·have:=C k;rw[i,Gg,a]at this;simp[Q rfl]at this
    ·rw[ku d];exact g
def Zp(e:BG L s){c off:Nat}(h:AU s off c):
 ∃g,FM s off=(g,0)/\BG L g/\g.sh=s.sh/\g.hd=s.hd/\(∀j,(j<16\/16+s.sh.BO<=j)->g.ws j=s.ws j)/\
  (∀y t,AU g y t<->AU s y t/\y≠off):=by
 have C:=h.cls e;obtain⟨b,p,r,D,Q,rfl⟩:=h;obtain⟨A,x,W,J⟩:=e.Qc r D;have a:A=c:=by rw[<-Q,x.class]
 subst a;have U:EM (hdN s b) p=false:=e.Uo b p r D;obtain⟨P,G,v,z⟩:=jV (e.tk b r) D;have V:=Dy G.lt;have F:b<s.tk.length:=by rw[e.Rj];exact r
 obtain⟨g,n⟩:=ε (Xq s b (Az (Em (GZ s b) p).1));have u:∀j,GZ g j=if j=b then(Em (GZ s b) p).1 else GZ s j:=λj=>by
  rw[n];show((s.tk.set b _).getD j 0).toNat=_;rw[QJ _ _ _ _ _ F];split
  ·exact V
  ·rfl
 have E:∀j,hdN g j=hdN s j:=λj=>by rw[n];rfl
 have m:g.sh=s.sh:=by rw[n];rfl
 have K:∀j,g.ws j=if j=16+b then Az (Em (GZ s b) p).1 else s.ws j:=λj=>by
  rw[n];show Dt s.ws (s.sh.table/8+b) _ j=_;rw[e.table];rfl
 refine⟨g,?_,⟨by rw[m];exact e.sh,e.L1,by rw[n];show(s.tk.set b _).length=_;rw[Dh];exact e.Rj,by rw[n];exact e.xn,λj f=>?_,λj f=>?_,λj f=>?_,λj l f d=>?_,λj f=>?_⟩,m,by rw[n];rfl,λj f=>?_,λy t=>?_⟩
 ·unfold FM;rw[V6 e r W C J];have N:(Em (hdN s b) p).2=false:=by unfold Em;rw[U];rfl
  simp only[N,P,if_true,Bool.false_eq_true,if_false];rw[n]
 ·rw[u];split
  ·exact G
  ·exact e.tk j (by rw[<-m];exact f)
 ·rw[E];exact e.hd j (by rw[<-m];exact f)
 ·rw[u,E];by_cases a:j=b
  ·rw[jM a,a];rcases z with i|i
   ·rw[i];rcases e.cls b r with w|w|w
    ·exact absurd w x.ne
    ·exact .inr (.inl w)
    ·exact .inr (.inr w)
   ·exact .inl i
  ·rw[ku a];exact e.cls j (by rw[<-m];exact f)
 ·rw[u]at d;rw[E];by_cases a:j=b
  ·subst a;rw[jM rfl,v,Bool.and_eq_true]at d;exact e.Uo j l r d.1
  ·rw[ku a]at d;exact e.Uo j l (by rw[<-m];exact f) d
 ·rw[K,n];show _=(s.tk.set b _).getD j 0;rw[QJ _ _ _ _ _ F];by_cases a:j=b
  ·rw[jM O1,jM a]
  ·rw[ku O1,ku a];exact e.tab j (by rw[<-m];exact f)
 ·rw[K,ku O1]
 ·constructor
  ·rintro⟨j,l,f,d,k,o⟩;rw[m]at f o;rw[u]at d k;by_cases a:j=b
   ·subst a;rw[jM rfl]at d k;rw[v,Bool.and_eq_true,Bool.not_eq_true',decide_eq_false_iff_not]at d;have R:t=A:=by
     rcases z with i|i
     ·rw[i,x.class]at k;exact k.symm
     ·have:=v l;rw[i,Gg,d.1]at this;simp[d.2]at this
    subst R;refine⟨⟨j,l,f,d.1,x.class,o⟩,λq=>?_⟩;rw[o]at q;exact d.2 (V5 C q)
   ·rw[ku a]at d k;refine⟨⟨j,l,f,d,k,o⟩,λq=>?_⟩;obtain⟨M,H,X,S⟩:=e.Qc f d;have B:M=t:=by rw[<-k,H.class]
    subst B;rw[o]at q;exact a (XH H.cls C S J q)
  ·rintro⟨⟨j,l,f,d,k,o⟩,T⟩;have I:j=b->l≠p:=λa q=>by
    subst a q;have B:t=A:=by rw[<-k,x.class]
    subst B;exact T o
   refine⟨j,l,by rw[m];exact f,?_,?_,by rw[m];exact o⟩
   ·rw[u];by_cases a:j=b
    ·subst a;rw[jM rfl,v,d];simp[I rfl]
    ·rw[ku a];exact d
   ·rw[u];by_cases a:j=b
    ·subst a;rw[jM rfl];rcases z with i|i
     ·rw[i];exact k
     ·have:=v l;rw[i,Gg,d]at this;simp[I rfl]at this
    ·rw[ku a];exact k
end
abbrev Kv:=List UInt8×UInt64
structure Part where
 items:List Kv
 blocks:List Nat
def BZ(a:Nd):List Kv:=if a.val≠0 then[(a.pre,a.val)]else[]
def FK(pre:List UInt8)(lb:UInt8)(l:List Kv):List Kv:=l.map λa=>(pre++lb::a.1,a.2)
def Bl(pre:List UInt8):List UInt8->List Part->List Kv
 |a::b,c::d=>FK pre a c.items++Bl pre b d
 |_,_=>[]
def Bc(a:List Part):List Nat:=(a.map Part.blocks).flatten
inductive DX(s:St):Nat->UInt64->List Kv->List Nat->Prop
 |mk(r:Nat)(name:UInt64)(nd:Nd)(parts:List Part)(hrd:FC s name=some nd)(hpre:nd.pre.length<=r)(Oi:nd.kids≠[]->nd.pre.length+1<=r)(hlen:parts.length=nd.kids.length)
  (hk:∀i(h1:i<nd.kids.length)(h2:i<parts.length),DX s (r-nd.pre.length-1) nd.kids[i] parts[i].items parts[i].blocks):
  DX s r name (BZ nd++Bl nd.pre nd.labels parts) ((Bf name).toNat::Bc parts)
section
variable{L:Nat}{s s':St}
def uV{c d:Nat}(a:c=1\/c=2)(b:d=1\/d=2)(h:Bd c=Bd d):c=d:=by
 rcases a with rfl|rfl<;>rcases b with rfl|rfl<;>first|rfl|(simp[Bd]at h)
def O6(x:Nd):Dp x=1\/Dp x=2:=by unfold Dp;split<;>simp
def Ju(x:Nd):(DL x).length=8*Bd (Dp x):=by
 rw[Hm];unfold Dp;split<;>rfl
def IV(i:BG L s){d:UInt64}{a:Nd}(h:FC s d=some a):
 ∃c:Nat,Bf d=c/\AU s c (Dp a)/\BU a=jm/\wordsAt s.ws (c/8) (8*Bd (Dp a))=DL a:=by
 unfold FC at h;split at h
 ·cases h
 ·rename_i k;split at h
  ·rename_i o;injection h with h
   have m:DD s (Bf d)≠0:=λj=>k (by rw[j];rfl)
   obtain⟨c,g,e⟩:=dM i rfl m;obtain⟨f,b⟩:=Aff _ o;rw[h]at f b;have l:=e.cls i;have n:DD s (Bf d)=Dp a:=by
    refine uV l (O6 a) ?_;have:=congrArg List.length b;rw[Ju]at this;simp[wordsAt]at this;omega
   rw[n]at e b;rw[g,BJ]at b;exact⟨c,g,e,f,b.symm⟩
  ·cases h
def Zq(j:BG L s){c:UInt64}{a:Nd}{o:Nat}(f:Bf c=o)(g:AU s o (Dp a))(b:BU a=jm)(i:wordsAt s.ws (o/8) (8*Bd (Dp a))=DL a):FC s c=some a:=by
 have e:=g.class j;have d:=O6 a;unfold FC;rw[f,e,BJ,i,ku (Ω ((Gz d).2.1)),jM (Afe a b),uK a b]
def D6(s s':St)(B:Nat->Prop):Prop:=∀a b,B a->AU s a b->AU s' a b/\∀j,Hw a b j->s'.ws j=s.ws j
def D6.mono{B C:Nat->Prop}(h:D6 s s' B)(k:∀a,C a->B a):D6 s s' C:=λa b c d=>h a b (k a c) d
def D6.trans{e:St}{B:Nat->Prop}(h:D6 s s' B)(k:D6 s' e B):D6 s e B:=λd a b i=>by
 obtain⟨f,g⟩:=h d a b i;obtain⟨l,m⟩:=k d a b f;exact⟨l,λj c=>(m j c).trans (g j c)⟩
def D6.refl(s:St)(B:Nat->Prop):D6 s s B:=λ_ _ _ h=>⟨h,λ_ _=>rfl⟩
def RX{o c:Nat}(h:∀j,Hw o c j->s'.ws j=s.ws j):wordsAt s'.ws (o/8) (8*Bd c)=wordsAt s.ws (o/8) (8*Bd c):=by
 unfold wordsAt;refine Abr λb a=>?_
 have:=GK.1 a;exact h _ ⟨O1,O1⟩
def Afg(m:BG L s)(n:BG L s'){B:Nat->Prop}(k:D6 s s' B){a:UInt64}{d:Nd}(b:B (Bf a).toNat)(h:FC s a=some d):FC s' a=some d:=by
 obtain⟨l,c,i,g,j⟩:=IV m h;rw[c,BJ]at b;obtain⟨e,f⟩:=k l _ b i;exact Zq n c e g ((RX f).trans j)
def UR{a:List Part}{i:Nat}(h:i<a.length){o:Nat}(b:o∈a[i].blocks):o∈Bc a:=by
 unfold Bc;exact List.mem_flatten.2 ⟨_,Dk.2 ⟨_,Cm h,rfl⟩,b⟩
def DX.keep(g:BG L s)(j:BG L s'){B:Nat->Prop}(k:D6 s s' B){r:Nat}{name:UInt64}{d:List Kv}{a:List Nat}(h:DX s r name d a)(c:∀b∈a,B b):DX s' r name d a:=by
 induction h with
 |mk r name nd parts hrd hpre Oi hlen hk f=>
  refine .mk r name nd parts (Afg g j k (c _ (Bo ..)) hrd) hpre Oi hlen λi h1 h2=>f i h1 h2 λb e=>c b (Bz _ (UR h2 e))
def EP{pre:List UInt8}:∀{d:List UInt8}{e:List Part}{c:Kv},c∈Bl pre d e->∃(b:Nat)(i:b<d.length)(j:b<e.length)(a:Kv),a∈e[b].items/\c=(pre++d[b]::a.1,a.2)
 |[],_,c,h=>by simp[Bl]at h
 |_::_,[],c,h=>by simp[Bl]at h
 |k::d,l::e,c,h=>by
  rw[Bl]at h;rcases AB.1 h with h|h
  ·obtain⟨a,g,f⟩:=Dk.1 h;exact⟨0,by simp,by simp,a,g,f.symm⟩
  ·obtain⟨b,i,j,a,g,f⟩:=EP h;exact⟨b+1,by simp;omega,by simp;omega,a,g,f⟩
def Fj{a:Nd}{b:Kv}(h:b∈BZ a):b=(a.pre,a.val)/\a.val≠0:=by
 unfold BZ at h;split at h
 ·rename_i c;exact⟨BQ.1 h,c⟩
 ·cases h
def DX.nib(t:BG L s){r:Nat}{name:UInt64}{d:List Kv}{e:List Nat}(h:DX s r name d e):∀a∈d,a.1.all DV=jm/\a.1.length<=r/\a.2≠0:=by
 induction h with
 |mk r name nd parts hrd hpre Oi hlen hk p=>
  obtain⟨y,w,x,o,_⟩:=IV t hrd;have b:=(Bh nd).1 o;intro a n;rcases AB.1 n with h1|h1
  ·obtain⟨rfl,g⟩:=Fj h1;exact⟨b.2.1,hpre,g⟩
  ·obtain⟨i,h2,c,q,j,rfl⟩:=EP h1;obtain⟨k,u,l⟩:=p i O1 c q j;have v:=Oi (by intro f;rw[f]at hlen;exact absurd c (by rw[hlen];simp));have m:=EI.1 b.2.2.2.1 _ (Cm h2);refine⟨by simp only[List.all_append,List.all_cons,b.2.1,m,k,Bool.and_self],?_,l⟩;simp only[AP,Bv];omega
def O7(p a b:List UInt8):Op.bytesLess (p++a) (p++b)=Op.bytesLess a b:=by
 induction p with
 |nil=>rfl
 |cons d p c=>simp[Op.bytesLess,c]
def jY(p:List UInt8)(x:UInt8)(t:List UInt8):Op.bytesLess p (p++x::t)=true:=by
 induction p with
 |nil=>rfl
 |cons b p a=>simp[Op.bytesLess,a]
def V7{x y:UInt8}(h:x.toNat<y.toNat)(a b:List UInt8):Op.bytesLess (x::a) (y::b)=true:=by
 simp only[Op.bytesLess,Bool.or_eq_true,decide_eq_true_eq];exact .inl (UInt8.lt_iff_toNat_lt.2 h)
def UpK(l:List Kv):Prop:=l.Pairwise λa b=>Op.bytesLess a.1 b.1=jm
def Afh{pre:List UInt8}{lb:UInt8}{l:List Kv}(h:UpK l):UpK (FK pre lb l):=by
 unfold UpK FK;rw[List.pairwise_map];refine h.imp λ{a b}c=>?_
 show Op.bytesLess (pre++lb::a.1) (pre++lb::b.1)=jm;rw[O7];simp[Op.bytesLess,c]
def Y5{pre:List UInt8}:∀{a:List UInt8}{c:List Part},DY a=jm->(∀b∈c,UpK b.items)->UpK (Bl pre a c)
 |[],_,_,_=>by simp[Bl,UpK]
 |_::_,[],_,_=>by simp[Bl,UpK]
 |o::a,b::c,m,h=>by
  obtain⟨f,g⟩:=KW m;rw[Bl];refine xI.2 ⟨Afh (h b (Bo ..)),Y5 f (λp l=>h p (Bz _ l)),λq j r k=>?_⟩;obtain⟨d,_,rfl⟩:=Dk.1 j;obtain⟨n,i,s,e,_,rfl⟩:=EP k;show Op.bytesLess (pre++o::d.1) (pre++a[n]::e.1)=jm;rw[O7];exact V7 (g _ (Cm i)) _ _
def DX.up(l:BG L s){r:Nat}{name:UInt64}{a:List Kv}{b:List Nat}(h:DX s r name a b):UpK a:=by
 induction h with
 |mk r name nd parts hrd hpre Oi hlen hk k=>
  obtain⟨v,t,u,g,_⟩:=IV l hrd;have j:=(Bh nd).1 g;refine xI.2 ⟨?_,Y5 j.2.2.2.2.1 (λw f=>?_),λm c n d=>?_⟩
  ·unfold BZ;split<;>simp
  ·obtain⟨i,e,rfl⟩:=List.getElem_of_mem f;exact k i O1 e
  ·obtain⟨rfl,_⟩:=Fj c;obtain⟨i,p,q,o,_,rfl⟩:=EP d;exact jY _ _ _
def dN{f:Nat}{ahead pre:List UInt8}:∀(g:List UInt8)(e:List UInt64)(a:List Part)(c:List Kv)(b:List Int),g.length=e.length->a.length=e.length->
 (∀d(h1:d<g.length)(h2:d<e.length)(h3:d<a.length)(c:List Kv)(b:List Int),(∀i∈a[d].blocks,(i:Int)∉b)->Ei s f e[d] (ahead++pre++[g[d]]) (c,b)=some (c++a[d].items.map (λj=>(pairs (ahead++pre++g[d]::j.1),j.2)),b++a[d].blocks.map Gt))->
 (Bc a).Nodup->(∀i∈Bc a,(i:Int)∉b)->
 (g.zip e).foldlM (λB(t:UInt8×UInt64)=>Ei s f t.2 (ahead++pre++[t.1]) B) (c,b)=some (c++(Bl pre g a).map (λj=>(pairs (ahead++j.1),j.2)),b++(Bc a).map Gt)
 |[],e,a,c,b,h1,h2,_,_,_=>by
  have:e=[]:=Ce (by simpa using h1.symm);subst this;have:a=[]:=Ce (by simpa using h2);subst this;simp[Bl,Bc]
 |r::g,[],a,c,b,h1,_,_,_,_=>by simp at h1
 |r::g,A::e,[],c,b,_,h2,_,_,_=>by simp at h2
 |r::g,A::e,u::a,c,b,h1,h2,n,q,l=>by
  have o:Bc (u::a)=u.blocks++Bc a:=rfl;rw[o]at q l;obtain⟨C,x,y⟩:=Dl.1 q;have p:=n 0 Θ Θ Θ c b (λi k=>l i (BH _ k));simp only[List.getElem_cons_zero]at p;rw[List.zip_cons_cons,List.foldlM_cons,p];simp only[Option.bind_eq_bind,Option.bind_some];rw[dN g e a _ _ (by simpa using h1) (by simpa using h2) (λd h1 h2 h3 c b w=>?_) x (λi k=>?_)]
  ·rw[o,Bl];simp[FK,AY,Function.comp_def]
  ·have:=n (d+1) (by simp;omega) (by simp;omega) (by simp;omega) c b w;simpa using this
  ·rw[AB];rintro(h|h)
   ·exact l i (Bj _ k) h
   ·obtain⟨m,z,v⟩:=Dk.1 h;have:m=i:=Int.ofNat.inj v;subst this;exact y m z m k rfl
def DX.Aqx(G:BG L s){r:Nat}{name:UInt64}{p:List Kv}{j:List Nat}(h:DX s r name p j):∀(f:Nat)(ahead:List UInt8)(g:List Kv)(c:List Int),r<f->ahead.length+r<=32->j.Nodup->(∀q∈j,(q:Int)∉c)->(∀a∈p,NS (ahead++a.1)=jm)->
 Ei s f name ahead (g,c)=some (g++p.map (λa=>(pairs (ahead++a.1),a.2)),c++j.map Gt):=by
 induction h with
 |mk r name nd parts hrd hpre Oi hlen hk k=>
  intro f ahead g c J I v n m;obtain⟨q,e,K,E,_⟩:=IV G hrd;have F:=(Bh nd).1 E;obtain⟨f,rfl⟩:∃y,f=y+1:=⟨f-1,O1⟩;obtain⟨C,o⟩:=List.nodup_cons.1 v;rw[Ei,hrd]
  dsimp only
  have u:=n (Bf name).toNat (Bo ..);rw[e,BJ]at u;rw[ku (by
   rw[e];rintro(h|h)
   ·exact u (List.contains_iff_mem.1 h)
   ·simp only[AP]at h;omega)]
  rw[ku (by
   rintro⟨h1,h2⟩;have:=m (nd.pre,nd.val) (BH _ (by unfold BZ;rw[jM h1];exact BQ.2 rfl));rw[this]at h2;cases h2)]
  have t:∀l∈Bc parts,((l:Int))∉c++[Bf name]:=λl w z=>by
   rcases AB.1 z with h|h
   ·exact n l (Bz _ w) h
   ·rw[BQ,e]at h;refine C ?_;rw[e,BJ];have:l=q:=O1;exact this▸w
  rw[dN nd.labels nd.kids parts _ _ F.2.2.1 hlen (λi h1 h2 h3 g c A=>?_) o t]
  ·simp only[e,CE,BM,BJ,AY,BD,EK];unfold BZ;split<;>simp
  ·have H:=Oi (by intro x;rw[x]at h2;simp at h2);have D:parts[i].blocks.Nodup:=by
    have:=(List.pairwise_flatten.1 o).1;exact this _ (Dk.2 ⟨_,Cm h3,rfl⟩)
   have:=k i h2 h3 f (ahead++nd.pre++[nd.labels[i]]) g c O1 (by simp only[AP,Bv,Dx];omega) D A (λa B=>?_)
   ·rw[this];simp
   ·have:=m (nd.pre++nd.labels[i]::a.1,a.2) (Bj _ ?_)
    ·simpa using this
    ·clear k hk m n t v o hrd Oi hlen;have:∀(d:List UInt8)(b:List Part)(i:Nat)(h1:i<d.length)(h3:i<b.length),a∈b[i].items->(nd.pre++d[i]::a.1,a.2)∈Bl nd.pre d b:=by
      intro d;induction d with
      |nil=>intro b i h1;simp at h1
      |cons M d k=>
       intro b i h1 h3 hk;cases b with
       |nil=>simp at h3
       |cons N b=>
        rw[Bl];cases i with
        |zero=>exact BH _ (Dk.2 ⟨a,by simpa using hk,rfl⟩)
        |succ i=>exact Bj _ (by simpa using k b i (by simpa using h1) (by simpa using h3) (by simpa using hk))
     exact this _ _ i h1 h3 B
end
structure Grown(L:Nat)(s0:St)(j:Jb)(B:List Nat):Prop where
 ok:BG L j.s
 sh:j.s.sh=s0.sh
 nh:∀o d,¬Ej j.s o d
 made:j.made=B.map Gt
 zO:B.Nodup
 new:∀o∈B,∀d,¬AU s0 o d
 tk:∀o,(∃d,AU j.s o d)<->(∃d,AU s0 o d)\/o∈B
 keep:D6 s0 j.s (λ_=>True)
 low:∀i,i<16->j.s.ws i=s0.ws i
def Grown.start{L:Nat}{s:St}(ok:BG L s)(nh:∀o d,¬Ej s o d):Grown L s ⟨s,[]⟩ []:=
 ⟨ok,rfl,nh,rfl,List.nodup_nil,(λ_ h=>nomatch h),(λo=>by simp),D6.refl _ _,λ_ _=>rfl⟩
def Jv{o:Nat}(h:o<=65536):Bf (Az o)=o:=by
 unfold Bf;rw[Dy O1];exact wrap64 _ O1 O1
section
variable{L:Nat}{s0:St}{j:Jb}{B:List Nat}
def Pg(g:Grown L s0 j B){n:Nd}(R:BU n=jm):
 FV j n=(j,0,6)\/∃t u b,FV j n=(t,u,0)/\b∉B/\Grown L s0 t (B++[b])/\Bf u=(b:Nat)/\u≠0/\FC t.s u=some n/\D6 j.s t.s (λ_=>True):=by
 unfold FV;rw[R];simp only[Bool.not_true,Bool.false_eq_true,if_false];cases am:DT j.s (Dp n)with
 |none=>exact .inl rfl
 |some aq=>
  obtain⟨c,k⟩:=aq;right;obtain⟨D,S,ar,av,I,_,ad,ap⟩:=OZ g.ok (O6 n) am;have H:=I.bounds D;have aF:=D.sh.OI;have aD:=g.ok.L1;have Z:=O6 n;have K:=Ju n;obtain⟨aJ,aL,aM,aR⟩:=Gz Z;have A:∀d,¬Hw c (Dp n) d->BX k.ws (c/8) (DL n) d=k.ws d:=λd f=>by
   unfold BX;rw[ku];intro h;exact f ⟨h.1,by rw[K]at h;exact h.2⟩
  have P:∀d,d<16+k.sh.BO->¬Hw c (Dp n) d:=λd f h=>by
   unfold Hw at h;omega
  obtain⟨m,i⟩:∃m,m=({k with ws:=BX k.ws (c/8) (DL n)}:St):=⟨_,rfl⟩;have l:BG L m:=i▸D.words (λd f=>A _ (P _ O1));have v:Ej m c (Dp n):=by rw[i];exact I
  obtain⟨o,F,T,an,C,q,X⟩:=oC l v;have W:m.sh=k.sh:=by rw[i]
  have r:∀b a,AU m b a<->AU j.s b a:=λb a=>by rw[i];exact ap b a
  have Q:=Jv (o:=c) O1;have J:D6 j.s o (λ_=>True):=λb E _ ao=>by
   have w:=(r b E).2 ao;obtain⟨aE,ab⟩:=OY l v w;have U:=w.bounds l;refine⟨(q b E).2 (.inl w),λd f=>?_⟩;rw[C d (.inr (l.D5 U.1 f)),i];show BX k.ws (c/8) (DL n) d=_;rw[A d (λh=>PM ab H.2.2 U.2.2 h f),S]
  have N:∀a,¬AU j.s c a:=λa e=>(OY l v ((r c a).2 e)).1 rfl
  have M:c∉B:=λh=>by
   obtain⟨a,e⟩:=(g.tk c).2 (.inr h);exact N a e
  have al:FC o (Az c)=some n:=by
   refine Zq T Q ((q _ _).2 (.inr ⟨rfl,rfl⟩)) R ?_;unfold wordsAt;refine List.ext_getElem (by simp[K]) λV p y=>?_
   simp only[List.getElem_map,List.getElem_range];have ae:Hw c (Dp n) (c/8+V):=⟨O1,O1⟩;rw[C _ (.inr (l.D5 (by rw[W];exact H.1) ae)),i];show BX k.ws (c/8) (DL n) (c/8+V)=_;unfold BX;rw[jM ⟨O1,O1⟩,Nat.add_sub_cancel_left,Bg,Ah y];rfl
  refine⟨⟨o,j.made++[(c:Int)]⟩,Az c,c,?_,M,⟨T,by rw[an,W,ar,g.sh],λb a h=>?_,by rw[g.made];simp,?_,λb ah a e=>?_,λb=>?_,g.keep.trans J,λd f=>?_⟩,Q,?_,al,J⟩
  ·rw[i]at F;simp only[F,if_true]
  ·obtain⟨p,y⟩:=(X b a).1 h;rw[i]at p;rcases ad b a p with z|z
   ·exact g.nh b a z
   ·exact y z
  ·exact Dl.2 ⟨g.zO,by simp,λaw aa az G x=>by rw[BQ]at G;subst G;exact M (x▸aa)⟩
  ·rcases AB.1 ah with h|h
   ·exact g.new b h a e
   ·rw[BQ]at h;subst h;obtain⟨Y,ac⟩:=(g.tk b).2 (.inl ⟨a,e⟩);exact N Y ac
  ·have p:(∃a,AU o b a)<->(∃a,AU j.s b a)\/b=c:=by
    constructor
    ·rintro⟨a,e⟩;rcases(q b a).1 e with h|h
     ·exact .inl ⟨a,(r b a).1 h⟩
     ·exact .inr h.1
    ·rintro(⟨a,e⟩|rfl)
     ·exact⟨a,(q b a).2 (.inl ((r b a).2 e))⟩
     ·exact⟨_,(q _ _).2 (.inr ⟨rfl,rfl⟩)⟩
   show(∃a,AU o b a)<->_;rw[p,g.tk b,AB,BQ,or_assoc]
  ·show o.ws d=_;rw[C d (.inl f),i];show BX k.ws (c/8) (DL n) d=_;rw[A d (P d O1),S,g.low d f]
  ·intro x;have:=congrArg UInt64.toNat x;rw[Dy O1]at this;simp at this;omega
def Aju(L:Nat)(s0:St)(j:Jb)(B:List Nat)(r:Nat)(l:List UInt8)(e:UInt64)(a:Jb×UInt64×Int):Prop:=
 (a.2.2=6/\∃d,Grown L s0 a.1 d)\/
 (a.2.2=0/\∃b c,Grown L s0 a.1 (B++b)/\D6 j.s a.1.s (λ_=>True)/\a.2.1≠0/\DX a.1.s r a.2.1 [(l,e)] c/\c.Perm b)
def Afi{s:St}{a:UInt64}{l:List UInt8}{b:UInt64}{r o:Nat}(h:FC s a=some ⟨l,b,[],[]⟩)(e:Bf a=o)(d:l.length<=r)(f:b≠0):DX s r a [(l,b)] [o]:=by
 have:=DX.mk r a ⟨l,b,[],[]⟩ [] h d (λh=>absurd rfl h) rfl (λg c _=>absurd c Θ);rw[e,BJ]at this;simpa[BZ,Bl,Bc,f]using this
def V8{pre:List UInt8}{val:UInt64}{b:UInt8}{a:UInt64}(f:pre.length<=15)(e:pre.all DV=jm)(c:DV b=jm)(k:a≠0):JA ⟨pre,val,[],[]⟩ b a=jm/\Ie ⟨pre,val,[],[]⟩ b a=⟨pre,val,[b],[a]⟩/\BU ⟨pre,val,[b],[a]⟩=jm/\BU ⟨pre,val,[],[]⟩=true:=by
 have g:BU ⟨pre,val,[],[]⟩=true:=by
  rw[Bh];exact⟨f,e,rfl,rfl,rfl,λi h=>absurd h Θ⟩
 have d:a.toNat≠0:=λj=>k (DN.1 (by simpa using j))
 refine⟨?_,rfl,?_,g⟩
 ·rw[TK];exact⟨g,by simpa[DV]using c,d,rfl⟩
 ·rw[Bh];refine⟨f,e,rfl,by simp[c],rfl,λi h=>?_⟩;simp only[Bv,Dx]at h;have:i=0:=O1;subst this;exact d
def uZ{s:St}{a d:UInt64}{pre:List UInt8}{val:UInt64}{e:UInt8}{r o:Nat}{c:List Kv}{b:List Nat}(h:FC s a=some ⟨pre,val,[e],[d]⟩)(i:Bf a=o)(g:pre.length+1<=r)(j:DX s (r-pre.length-1) d c b):
 DX s r a ((if val≠0 then[(pre,val)]else[])++FK pre e c) (o::b):=by
 have:=DX.mk r a ⟨pre,val,[e],[d]⟩ [⟨c,b⟩] h (by simp only;omega) (λ_=>g) rfl (λk f l=>by
  simp only[Bv,Dx]at f;have:k=0:=O1;subst this;exact j)
 rw[i,BJ]at this;simpa[BZ,Bl,Bc]using this
def Zr:∀(f:Nat){j:Jb}{B:List Nat}(_:Grown L s0 j B)(r:Nat)(l:List UInt8)(c:UInt64),l.length<f->l.length<=r->l.all DV=jm->c≠0->Aju L s0 j B r l c (Nw f j l c)
 |0,_,_,_,_,_,_,h,_,_,_=>absurd h O1
 |f+1,j,B,m,r,l,c,R,F,k,y=>by
  rw[Nw];by_cases n:l.length<=15
  ·rw[jM n];have I:BU ⟨l,c,[],[]⟩=true:=by
    rw[Bh];exact⟨n,k,rfl,rfl,rfl,λS h=>absurd h Θ⟩
   rcases Pg m I with a|⟨J,K,d,a,G,g,q,p,s,i⟩
   ·rw[a];exact .inl ⟨rfl,B,m⟩
   ·rw[a];exact .inr ⟨rfl,[d],[d],g,i,p,Afi s q F y,List.Perm.refl _⟩
  ·rw[ku n];have z:=Zr f m (r-15-1) (l.drop 16) c (by rw[AQ];omega) (by rw[AQ];omega) (VM _ _ _ k) y;generalize Nw f j (l.drop 16) c=M at z;obtain⟨T,V,a⟩:=M;simp only;unfold Iw;rcases z with⟨e,A,b⟩|⟨e,u,C,b,v,w,x,H⟩
   ·simp only at e b;subst e;rw[jM U];exact .inl ⟨rfl,A,b⟩
   ·simp only at e b v w x;subst e;rw[ku Θ];have o:(l.take 15).length=15:=by simp;omega
    have t:l.getD 15 0=l[15]' O1:=by rw[Bg,Ah O1];rfl
    have E:DV (l.getD 15 0)=true:=by rw[t];exact EI.1 k _ (Cm _)
    obtain⟨N,P,Q,_⟩:=V8 (val:=0) (Nat.le_of_eq o) (VL _ _ 15 k) E w;rw[jM N,P];rcases Pg b Q with a|⟨J,K,d,a,G,g,q,p,s,i⟩
    ·rw[a];exact .inl ⟨rfl,_,b⟩
    ·rw[a];refine .inr ⟨rfl,u++[d],d::C,by rw[<-AY];exact g,v.trans i,p,?_,?_⟩
     ·have:=uZ (r:=r) s q (by rw[o];omega) (by rw[o];exact x.keep b.ok g.ok i (λ_ _=>trivial));have D:l.take 15++l.getD 15 0::l.drop 16=l:=by
       rw[t]
       conv=>rhs;rw[<-He 15 l]
       rw[Cf (by omega:15<l.length)]
      rw[ku Θ,EK]at this;unfold FK at this;simp only[BM,FP,D]at this;exact this
     ·refine List.Perm.trans ?_ (List.perm_append_singleton d u).symm;exact List.Perm.cons _ H
end
def Oj(pre:List UInt8):∀(a b:List UInt8)(c d:List Part),a.length=c.length->Bl pre (a++b) (c++d)=Bl pre a c++Bl pre b d
 |[],b,[],d,_=>by simp[Bl]
 |[],b,_::_,d,h=>by simp at h
 |_::_,b,[],d,h=>by simp at h
 |f::a,b,e::c,d,h=>by
  simp only[BD,Bl,Oj pre a b c d (by simpa using h),AY]
def TN(pre:List UInt8)(a:List UInt8)(b:List Part)(i:Nat)(h:a.length=b.length):Bl pre a b=Bl pre (a.take i) (b.take i)++Bl pre (a.drop i) (b.drop i):=by
 rw[<-Oj _ _ _ _ _ (by simp[h]),He,He]
def Qd(a b:List Part):Bc (a++b)=Bc a++Bc b:=by simp[Bc]
def SB(a:List Part)(i:Nat):Bc a=Bc (a.take i)++Bc (a.drop i):=by rw[<-Qd,He]
def Y7{l:List UInt8}{k:Nat}(h:k<l.length):l.getD k 0=l[k]:=by rw[Bg,Ah h];rfl
def Anl{l:List UInt8}{k:Nat}(h:k<l.length):l.take k++l.getD k 0::l.drop (k+1)=l:=by
 rw[Y7 h,<-Cf h,He]
def Ajv{x:UInt64}(h:x≠0):x.toNat≠0:=λa=>h (DN.1 (by simpa using a))
section
variable{L:Nat}{s0:St}{j:Jb}{B:List Nat}
def ve(g:Grown L s0 j B){x:Nd}(G:BU x=jm){parts:List Part}(J:parts.length=x.kids.length){c:UInt8}(H:DV c=jm)(M:Qm x.labels c=jw){d:UInt64}(I:d≠0){r:Nat}(P:x.pre.length+1<=r)
 (E:∀f(h1:f<x.kids.length)(h2:f<parts.length),DX j.s (r-x.pre.length-1) x.kids[f] parts[f].items parts[f].blocks){l:List Kv}{i:List Nat}(R:DX j.s (r-x.pre.length-1) d l i):
 Iw j x c d 0=(j,0,6)\/∃k m t,Iw j x c d 0=(k,m,0)/\Grown L s0 k (B++[t])/\D6 j.s k.s (λ_=>True)/\m≠0/\∃A z,DX k.s r m A z/\z.Perm (t::i++Bc parts)/\
  ∀q,q∈A<->q∈BZ x++Bl x.pre x.labels parts\/q∈FK x.pre c l:=by
 have F:JA x c d=true:=(TK _ _ _).2 ⟨G,by simpa[DV]using H,Ajv I,M⟩;have n:=uP x c d F;have W:=(Bh x).1 G;unfold Iw;rw[ku Θ,jM F];rcases Pg g n.right with u|⟨k,m,t,u,U,o,N,K,Q,p⟩
 ·exact .inl u
 ·right;obtain⟨a,w⟩:=ε (Gi x.labels c);have V:a<=x.labels.length:=w▸n.place;have y:=DX.mk r m (Ie x c d) (Ko parts a ⟨l,i⟩) Q (by show x.pre.length<=r;omega) (λ_=>P) (by rw[PL _ _ _ O1,n.Auq,J]) (λf h1 h2=>by
   have v:=Kt x.kids a d O1 f;have e:=Kt parts a ⟨l,i⟩ O1 f;have b:(Ko x.kids a d)[f]?=some (Ie x c d).kids[f]:=(congrArg (λS=>S[f]?) (show Ko x.kids a d=(Ie x c d).kids by rw[w];rfl)).trans (Ah h1);rw[Ah h2]at e;rw[v]at b;show DX k.s (r-x.pre.length-1) (Ie x c d).kids[f] _ _;have T:(Ie x c d).kids.length=x.kids.length+1:=n.Auq;by_cases C:f<a
   ·rw[jM C]at b e;rw[Ah O1]at b e;injection b with b
    injection e with e
    rw[e];have:=(E f O1 O1).keep g.ok o.ok p (λ_ _=>trivial);simp only[b]at this⊢
    first|exact this|(rw[<-b];exact this)
   ·rw[ku C]at b e;by_cases D:f=a
    ·rw[jM D]at b e;injection b with b
     injection e with e
     rw[e];have:=R.keep g.ok o.ok p (λ_ _=>trivial)
     first|exact b▸this|(rw[<-b];exact this)
    ·rw[ku D]at b e;rw[Ah O1]at b e;injection b with b
     injection e with e
     rw[e];have:=(E (f-1) O1 O1).keep g.ok o.ok p (λ_ _=>trivial)
     first|exact b▸this|(rw[<-b];exact this))
  rw[N,BJ]at y;refine⟨k,m,t,u,o,p,K,_,_,y,?_,λq=>?_⟩
  ·refine List.Perm.cons _ ?_;unfold Ko;rw[Qd,SB parts a];show(Bc (parts.take a)++(i++Bc (parts.drop a))).Perm (i++(Bc (parts.take a)++Bc (parts.drop a)));rw[<-AY,<-AY];exact List.Perm.append_right _ List.perm_append_comm
  ·have v:Bl x.pre (Ko x.labels a c) (Ko parts a ⟨l,i⟩)=Bl x.pre (x.labels.take a) (parts.take a)++(FK x.pre c l++Bl x.pre (x.labels.drop a) (parts.drop a)):=by
    unfold Ko;rw[Oj _ _ _ _ _ (by simp;omega)];rfl
   rw[show(Ie x c d).labels=Ko x.labels a c by rw[w];rfl,show(Ie x c d).pre=x.pre from rfl,show BZ (Ie x c d)=BZ x from rfl,v,TN x.pre x.labels parts a O1];simp only[AB]
   grind
def jZ(x:Nd)(k:Nat)(g:k<x.pre.length):∀(parts:List Part),FK (x.pre.take k) (x.pre.getD k 0) (BZ {x with pre:=x.pre.drop (k+1)}++Bl (x.pre.drop (k+1)) x.labels parts)=BZ x++Bl x.pre x.labels parts:=by
 have d:∀c,x.pre.take k++x.pre.getD k 0::(x.pre.drop (k+1)++c)=x.pre++c:=λc=>by
  rw[<-BD,<-AY,Anl g]
 have f:x.pre.take k++x.pre.getD k 0::x.pre.drop (k+1)=x.pre:=by simpa using d []
 have h:∀(b:List UInt8)(a:List Part),FK (x.pre.take k) (x.pre.getD k 0) (Bl (x.pre.drop (k+1)) b a)=Bl x.pre b a:=by
  intro b;induction b with
  |nil=>intro a;simp[Bl,FK]
  |cons l b i=>
   intro a;cases a with
   |nil=>simp[Bl,FK]
   |cons m a=>
    have:=i a;unfold FK at this⊢;simp only[Bl,CE,this];congr 1;unfold FK;rw[List.map_map];refine Abr λj _=>?_
    simp only[Function.comp_apply];rw[d]
 intro parts;have e:=h x.labels parts;unfold FK at e⊢;rw[CE,e];congr 1;unfold BZ
 dsimp only
 split
 ·simp only[BM,FP];rw[f]
 ·rfl
def Ajw(L:Nat)(s0:St)(r:Nat)(x:Nd)(parts:List Part)(rest:List UInt8)(g:UInt64)(a:Jb×UInt64×Int):Prop:=
 (a.2.2=6/\∃f,Grown L s0 a.1 f)\/
 (a.2.2=0/\∃c e d,Grown L s0 a.1 c/\a.2.1≠0/\DX a.1.s r a.2.1 e d/\d.Perm (c++Bc parts)/\∀b,b∈e<->b∈BZ x++Bl x.pre x.labels parts\/b=(rest,g))
def Anm(R:BG L s0)(a6:∀e aJ,¬Ej s0 e aJ){x:Nd}(am:BU x=jm){parts:List Part}(ac:parts.length=x.kids.length){r:Nat}(bc:x.pre.length<=r)(aF:x.kids≠[]->x.pre.length+1<=r)
 (Z:∀g(h1:g<x.kids.length)(h2:g<parts.length),DX s0 (r-x.pre.length-1) x.kids[g] parts[g].items parts[g].blocks){rest:List UInt8}{o:UInt64}(bd:rest.length<=r)(A:rest.all DV=jm)(Q:o≠0)(aZ:x.pre≠rest)
 (a0:common x.pre rest=x.pre.length->Qm x.labels (rest.getD (common x.pre rest) 0)=jw):Ajw L s0 r x parts rest o (Sj ⟨s0,[]⟩ x rest o):=by
 have w:=Grown.start R a6;have n:=(Bh x).1 am;have a9:=Jn x.pre rest;have aM:=Kw x.pre rest;have m:=SX x.pre rest;unfold Sj;by_cases s:common x.pre rest=x.pre.length
 ·rw[jM s];have l:x.pre.length<rest.length:=by
   rcases Nat.lt_or_ge x.pre.length rest.length with h|h
   ·exact h
   ·exfalso;refine aZ ?_;rw[s,SE,List.take_of_length_le O1]at m;exact m
  have ad:=a0 s;rw[s]at ad m⊢;rw[SE]at m;have hcut:=Anl l;rw[<-m]at hcut;have y:DV (rest.getD x.pre.length 0)=true:=by rw[Y7 l];exact EI.1 A _ (Cm _)
  have q:=Zr (rest.length+1) w (r-x.pre.length-1) (rest.drop (x.pre.length+1)) o (by rw[AQ];omega) (by rw[AQ];omega) (VM _ _ _ A) Q;generalize Nw (rest.length+1) ⟨s0,[]⟩ (rest.drop (x.pre.length+1)) o=S at q;obtain⟨an,u,c⟩:=S;rcases q with⟨f,C,d⟩|⟨f,k,Y,d,aa,t,ah,a1⟩
  ·simp only at f d;subst f;simp only;unfold Iw;rw[jM U];exact .inl ⟨rfl,C,d⟩
  ·simp only at f d aa t ah;subst f;simp only;rw[EK]at d;rcases ve (r:=r) d am ac y ad t O1 (λg h1 h2=>(Z g h1 h2).keep R d.ok aa (λ_ _=>trivial)) ah with c|⟨a4,ao,e,c,J,aW,M,G,F,D,N,K⟩
   ·rw[c];exact .inl ⟨rfl,_,d⟩
   ·rw[c];refine .inr ⟨rfl,k++[e],G,F,J,M,D,N.trans ?_,λB=>?_⟩
    ·rw[AY];refine List.Perm.trans (l₂:=e::(k++Bc parts)) (List.Perm.cons _ (List.Perm.append_right _ a1)) ?_;exact List.perm_middle.symm
    ·rw[K B];unfold FK;simp only[BM,FP,BQ,hcut]
 ·rw[ku s];have l:common x.pre rest<x.pre.length:=O1;obtain⟨b,aV⟩:=ε (common x.pre rest);have ae:=Ye x.pre rest;rw[<-aV]at l m aM ae⊢;have y:DV (x.pre.getD b 0)=true:=by rw[Y7 l];exact EI.1 n.2.1 _ (Cm _)
  have p:(x.pre.take b).length=b:=by simp;omega
  have aX:BU {x with pre:=x.pre.drop (b+1)}=true:=by
   rw[Bh];exact⟨by simp only[AQ];omega,VM _ _ _ n.2.1,n.2.2.1,n.2.2.2.1,n.2.2.2.2.1,n.2.2.2.2.2⟩
  rcases Pg w aX with c|⟨an,u,i,c,ba,d,aq,t,aw,az⟩
  ·rw[c];simp only;split
   ·unfold Iw;rw[jM U];exact .inl ⟨rfl,_,w⟩
   ·rw[jM U];exact .inl ⟨rfl,_,w⟩
  ·rw[c];simp only;rw[EK]at d;have E:=DX.mk (r-b-1) u {x with pre:=x.pre.drop (b+1)} parts aw (by simp only[AQ];omega) (λh=>by have:=aF h;simp only[AQ];omega) ac (λg h1 h2=>by
    have:=(Z g h1 h2).keep R d.ok az (λ_ _=>trivial);have aL:r-b-1-({x with pre:=x.pre.drop (b+1)}:Nd).pre.length-1=r-x.pre.length-1:=by simp only[AQ];omega
    rw[aL];exact this)
   rw[aq,BJ]at E;by_cases P:b=rest.length
   ·rw[jM P];have a3:rest=x.pre.take b:=by rw[m,P,SE]
    obtain⟨T,V,W,_⟩:=V8 (pre:=x.pre.take b) (val:=o) (by rw[p];omega) (VL _ _ _ n.2.1) y t;unfold Iw;rw[ku Θ,jM T,V];rcases Pg d W with c|⟨a5,ao,ap,c,bb,j,ar,z,aD,aE⟩
    ·rw[c];exact .inl ⟨rfl,_,d⟩
    ·rw[c];have X:=uZ (r:=r) aD ar (by rw[p];omega) (by rw[p];exact E.keep d.ok j.ok aE (λ_ _=>trivial));rw[jZ x b l parts,jM Q]at X;refine .inr ⟨rfl,[i]++[ap],_,_,j,z,X,?_,λB=>?_⟩
     ·exact(List.Perm.swap i ap _)
     ·rw[a3];simp only[BD,EK,List.mem_cons];exact Or.comm
   ·rw[ku P,ku Θ];have v:b<rest.length:=O1;obtain⟨T,V,W,_⟩:=V8 (pre:=x.pre.take b) (val:=0) (by rw[p];omega) (VL _ _ _ n.2.1) y t;rw[jM T,V];have av:DV (rest.getD b 0)=true:=by rw[Y7 v];exact EI.1 A _ (Cm _)
    have q:=Zr (rest.length+1) d (r-b-1) (rest.drop (b+1)) o (by rw[AQ];omega) (by rw[AQ];omega) (VM _ _ _ A) Q;generalize Nw (rest.length+1) an (rest.drop (b+1)) o=S at q;obtain⟨a5,a8,c⟩:=S;rcases q with⟨f,C,j⟩|⟨f,k,Y,j,ab,z,al,a2⟩
    ·simp only at f j;subst f;simp only;unfold Iw;rw[jM U];exact .inl ⟨rfl,C,j⟩
    ·simp only at f j ab z al;subst f;simp only;have aR:Qm [x.pre.getD b 0] (rest.getD b 0)=false:=by
      have h1:=ae l v;unfold Qm;simp only[List.any_cons,List.any_nil,Bool.or_false,beq_eq_false_iff_ne];rw[Y7 l,Y7 v];exact λc=>h1 (UInt8.toNat_inj.1 c)
     rcases ve (r:=r) (parts:=[⟨_,_⟩]) j W rfl av aR z (by rw[p];omega) (λg h1 h2=>by
      simp only[Bv,Dx]at h1;have:g=0:=O1;subst this;rw[show(⟨x.pre.take b,0,[x.pre.getD b 0],[u]⟩:Nd).pre.length=b from p];exact E.keep d.ok j.ok ab (λ_ _=>trivial)) (by rw[show(⟨x.pre.take b,0,[x.pre.getD b 0],[u]⟩:Nd).pre.length=b from p];exact al)with c|⟨a4,ao,e,c,J,aW,M,G,F,D,N,K⟩
     ·rw[c];exact .inl ⟨rfl,_,j⟩
     ·rw[c];refine .inr ⟨rfl,[i]++k++[e],G,F,J,M,D,N.trans ?_,λB=>?_⟩
      ·have H:Bc [⟨BZ {x with pre:=x.pre.drop (b+1)}++Bl (x.pre.drop (b+1)) x.labels parts,i::Bc parts⟩]=i::Bc parts:=by simp[Bc]
       rw[H];have a7:(e::Y++i::Bc parts).Perm (e::k++i::Bc parts):=List.Perm.append_right _ (List.Perm.cons _ a2);refine a7.trans ?_;have I:[i]++k++[e]++Bc parts=i::(k++e::Bc parts):=by simp
       rw[I];refine(Ag5 (a:=i) (l₁:=e::k) (l₂:=Bc parts)).trans (List.Perm.cons _ ?_);exact(Ag5 (a:=e) (l₁:=k) (l₂:=Bc parts)).symm
      ·rw[K B];have H:BZ (⟨x.pre.take b,0,[x.pre.getD b 0],[u]⟩:Nd)++Bl (x.pre.take b) [x.pre.getD b 0] [⟨BZ {x with pre:=x.pre.drop (b+1)}++Bl (x.pre.drop (b+1)) x.labels parts,i::Bc parts⟩]=BZ x++Bl x.pre x.labels parts:=by
        rw[<-jZ x b l parts];simp[BZ,Bl]
       rw[H];have I:x.pre.take b++rest.getD b 0::rest.drop (b+1)=rest:=by rw[m];exact Anl v
       unfold FK;simp only[BM,FP,BQ,I]
end
