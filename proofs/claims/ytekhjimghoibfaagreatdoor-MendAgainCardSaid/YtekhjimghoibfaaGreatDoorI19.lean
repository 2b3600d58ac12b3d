import Derived.Test.YtekhjimghoibfaaGreatDoorI18
set_option linter.defProp false
open List renaming find?_some->YA,getD_eq_getElem?_getD->Bo,mem_of_find?_eq_some->eU,mem_range->DY,length_set->Di,map_congr_left->GG,mem_map->BM,getElem_mem->BH,mem_cons_self->BA,mem_cons_of_mem->BO,mem_append->AL,mem_singleton->BG,all_eq_true->Ew,length_append->AY,length_cons->BD,pairwise_append->uU,eq_nil_of_length_eq_zero->Dk,nodup_append->CJ,mem_append_left->BJ,append_assoc->AV,mem_append_right->Bj,map_append->Dc,map_cons->Ci,cons_append->Cj,nil_append->EX,length_nil->Dp,getElem?_eq_getElem->Ae,length_drop->AU,take_append_drop->GZ,drop_eq_getElem_cons->EO,map_nil->Gv,take_length->Ny,perm_middle->Aff
open Nat renaming mul_le_mul_left->UC,mul_add->zI,mul_one->Jg,mul_assoc->NR,lt_trichotomy->Afe,succ_eq_add_one->Abi
open Int renaming toNat_natCast->BU,ofNat->BZ
open UInt64 renaming ofNat->Aj,toNat_inj->DK
namespace Go.Proofs.YtekhjimghoibfaaGreatDoor
def Akv{n a k:Nat}(h:jr n a=some k):n.testBit k=false:=by
 unfold jr at h;have:=YA h;simpa using this
structure Bq(L:Nat)(s:St):Prop where
 sh:dH L s.sh
 L1:L<=1024
 OA:s.tk.length=s.sh.BQ
 mX:s.hd.length=s.sh.BQ
 tk:∀i,i<s.sh.BQ->OkW (GU s i)
 hd:∀i,i<s.sh.BQ->OkW (hdN s i)
 cls:∀i,i<s.sh.BQ->GU s i=0\/hdN s i=0\/Bc (GU s i)=Bc (hdN s i)
 TT:∀i a,i<s.sh.BQ->EH (GU s i) a=true->EH (hdN s i) a=false
 tab:∀i,i<s.sh.BQ->s.ws (16+i)=s.tk.getD i 0
def AO(s:St)(off c:Nat):Prop:=∃a b,a<s.sh.BQ/\EH (GU s a) b=true/\Bc (GU s a)=c/\off=CY s.sh a c b
def Eo(s:St)(off c:Nat):Prop:=∃a b,a<s.sh.BQ/\EH (hdN s a) b=true/\Bc (hdN s a)=c/\off=CY s.sh a c b
def FD{c:Nat}(h:c=1\/c=2):Bf c*Bz c=16/\0<Bf c/\0<Bz c/\Bf c<=4:=by
 rcases h with rfl|rfl<;>decide
def Nk{sh:Sh}{i c a:Nat}(f:c=1\/c=2)(e:a<Bz c):sh.data+1024*i<=CY sh i c a/\CY sh i c a+64*Bf c<=sh.data+1024*(i+1):=by
 obtain⟨b,g,j,_⟩:=FD f;unfold CY;have d:Bf c*(a+1)<=16:=by rw[<-b];exact UC _ e
 rw[zI,Jg]at d;rw[NR];omega
def WQ{sh:Sh}{i j c d a b:Nat}(f:c=1\/c=2)(g:d=1\/d=2)(k:a<Bz c)(l:b<Bz d)(h:CY sh i c a=CY sh j d b):i=j:=by
 have m:=Nk (sh:=sh) (i:=i) f k;have n:=Nk (sh:=sh) (i:=j) g l;have o:=(FD f).2.1;have p:=(FD g).2.1;rcases Afe i j with e|e|e
 ·omega
 ·exact e
 ·omega
def Uy{sh:Sh}{i c a b:Nat}(d:c=1\/c=2)(h:CY sh i c a=CY sh i c b):a=b:=by
 unfold CY at h;have e:=(FD d).2.1;have:64*Bf c*a=64*Bf c*b:=O;exact Nat.eq_of_mul_eq_mul_left O this
def XF{sh:Sh}{i j c d a b:Nat}(n:c=1\/c=2)(p:d=1\/d=2)(k:a<Bz c)(m:b<Bz d)(o:i=j->c=d)(h:CY sh i c a≠CY sh j d b):
 CY sh i c a+64*Bf c<=CY sh j d b\/CY sh j d b+64*Bf d<=CY sh i c a:=by
 have q:=Nk (sh:=sh) (i:=i) n k;have r:=Nk (sh:=sh) (i:=j) p m;rcases Afe i j with e|e|e
 ·omega
 ·subst e;obtain rfl:=o rfl;have l:a≠b:=λg=>h (by rw[g])
  unfold CY;rcases Nat.lt_or_gt_of_ne l with f|f
  ·have:=UC (64*Bf c) f;rw[Abi,zI,Jg]at this;omega
  ·have:=UC (64*Bf c) f;rw[Abi,zI,Jg]at this;omega
 ·omega
section
variable{L:Nat}{s:St}
def Bq.both(b:Bq L s){i:Nat}(hi:i<s.sh.BQ):OkW (GU s i|||hdN s i)/\(∀a,EH (GU s i|||hdN s i) a=(EH (GU s i) a||EH (hdN s i) a))/\(GU s i≠0->Bc (GU s i|||hdN s i)=Bc (GU s i))/\(hdN s i≠0->Bc (GU s i|||hdN s i)=Bc (hdN s i)):=Adb (b.tk i hi) (b.hd i hi) (b.cls i hi)
def Bq.Pz(d:Bq L s){i a:Nat}(hi:i<s.sh.BQ)(e:EH (GU s i) a=true):∃b,SW (GU s i) b/\Bc (CE s i)=b/\a<Bz b:=by
 obtain⟨b,c,f,_⟩:=(d.tk i hi).Px e;exact⟨b,c,by unfold CE;rw[(d.both hi).2.2.1 c.ne,c.class],f⟩
def Bq.az(d:Bq L s){i a:Nat}(hi:i<s.sh.BQ)(e:EH (hdN s i) a=true):∃b,SW (hdN s i) b/\Bc (CE s i)=b/\a<Bz b:=by
 obtain⟨b,c,f,_⟩:=(d.hd i hi).Px e;exact⟨b,c,by unfold CE;rw[(d.both hi).2.2.2 c.ne,c.class],f⟩
def Uz(j:Bq L s){i c a:Nat}(hi:i<s.sh.BQ)(g:Bc (CE s i)=c)(b:c=1\/c=2)(f:a<Bz c):Hf s (CY s.sh i c a:Nat)=some (i,a):=by
 have k:=Nk (sh:=s.sh) (i:=i) b f;obtain⟨l,m,n,o⟩:=FD b;have p:=j.OA;have d:(CY s.sh i c a-s.sh.data)/1024=i:=O;have e:(CY s.sh i c a-s.sh.data)%1024=64*Bf c*a:=by
  have:CY s.sh i c a-s.sh.data=1024*i+64*Bf c*a:=by unfold CY;omega
  omega
 unfold Hf;rw[if_neg O];simp only[BU,d,e,g];rw[if_neg (by rw[Nat.mul_mod_right];omega),Nat.mul_div_cancel_left _ O]
def qX(l:Bq L s){off:Int}{i a:Nat}(h:Hf s off=some (i,a)):i<s.sh.BQ/\(Bc (CE s i)=1\/Bc (CE s i)=2)/\a<Bz (Bc (CE s i))/\off=(CY s.sh i (Bc (CE s i)) a:Nat):=by
 have r:=l.OA;unfold Hf at h;split at h
 ·cases h
 ·rename_i m;split at h
  ·cases h
  ·rename_i c;simp only[Option.some.injEq,Prod.mk.injEq]at h;obtain⟨rfl,rfl⟩:=h;have g:(off.toNat-s.sh.data)/1024<s.sh.BQ:=O;generalize q:Bc (CE s ((off.toNat-s.sh.data)/1024))=b at c⊢;have d:b=1\/b=2:=by
    unfold Bf at c;split at c
    ·exact .inl rfl
    ·exact .inr rfl
    ·simp at c
   obtain⟨f,n,o,p⟩:=FD d;have e:=Nat.div_add_mod ((off.toNat-s.sh.data)%1024) (64*Bf b);have k:(off.toNat-s.sh.data)%1024%(64*Bf b)=0:=O;have j:(off.toNat-s.sh.data)%1024<1024:=Nat.mod_lt _ U;refine⟨g,d,?_,?_⟩
   ·refine Nat.div_lt_of_lt_mul ?_;rw[NR,f];exact j
   ·unfold CY;rw[k,Nat.add_zero]at e;rw[e];omega
def AO.cls(e:Bq L s){off c:Nat}(h:AO s off c):c=1\/c=2:=by
 obtain⟨g,f,d,b,rfl,_⟩:=h;obtain⟨c,a,_,_⟩:=e.Pz d b;rw[a.class];exact a.cls
def AO.class(a:Bq L s){off c:Nat}(h:AO s off c):DC s off=c:=by
 have i:=h.cls a;obtain⟨n,m,e,b,d,rfl⟩:=h;obtain⟨f,j,k,l⟩:=a.Pz e b;have g:c=f:=by rw[<-d,j.class]
 subst g;unfold DC;rw[Uz a e k i l];simp only[b,if_true,d]
def RY(f:Bq L s){off:Int}{c:Nat}(h:DC s off=c)(a:c≠0):∃e:Nat,off=e/\AO s e c:=by
 unfold DC at h;split at h
 ·exact absurd h.symm a
 ·rename_i m g l;obtain⟨d,o,p,k⟩:=qX f l;split at h
  ·rename_i b;obtain⟨n,i,j,_⟩:=f.Pz d b;refine⟨_,k,m,g,d,b,h,?_⟩;rw[j,<-h,i.class]
  ·exact absurd h.symm a
def AO.bounds(a:Bq L s){off c:Nat}(h:AO s off c):s.sh.data<=off/\off+64*Bf c<=64*L/\off%64=0:=by
 have e:=h.cls a;obtain⟨l,m,j,g,i,rfl⟩:=h;obtain⟨b,f,o,k⟩:=a.Pz j g;have d:c=b:=by rw[<-i,f.class]
 subst d;have n:=Nk (sh:=s.sh) (i:=l) e k;have:=a.sh.fits;have:=a.sh.data;refine⟨O,O,?_⟩;unfold CY;rw[NR];omega
def Eo.cls(e:Bq L s){off c:Nat}(h:Eo s off c):c=1\/c=2:=by
 obtain⟨g,f,d,b,rfl,_⟩:=h;obtain⟨c,a,_,_⟩:=e.az d b;rw[a.class];exact a.cls
def Eo.bounds(a:Bq L s){off c:Nat}(h:Eo s off c):s.sh.data<=off/\off+64*Bf c<=64*L/\off%64=0:=by
 have e:=h.cls a;obtain⟨l,m,j,g,i,rfl⟩:=h;obtain⟨b,f,o,k⟩:=a.az j g;have d:c=b:=by rw[<-i,f.class]
 subst d;have n:=Nk (sh:=s.sh) (i:=l) e k;have:=a.sh.fits;have:=a.sh.data;refine⟨O,O,?_⟩;unfold CY;rw[NR];omega
def qY(a:Bq L s){o p c b:Nat}(h:AO s o c)(k:AO s p b)(v:o≠p):o+64*Bf c<=p\/p+64*Bf b<=o:=by
 have l:=h.cls a;have k12:=k.cls a;obtain⟨A,w,q,m,f,rfl⟩:=h;obtain⟨j,x,r,n,g,rfl⟩:=k;obtain⟨y,d,_,t⟩:=a.Pz q m;obtain⟨z,e,_,u⟩:=a.Pz r n;rw[d.class]at f;rw[e.class]at g;subst f g;refine XF l k12 t u (λi=>?_) v;subst i;rw[<-d.class,<-e.class]
def Me(a:Bq L s){o p c l:Nat}(h:Eo s o c)(k:AO s p l):o≠p/\(o+64*Bf c<=p\/p+64*Bf l<=o):=by
 have d:=h.cls a;have k12:=k.cls a;obtain⟨f,g,u,e,q,rfl⟩:=h;obtain⟨j,z,C,n,t,rfl⟩:=k;obtain⟨i,A,D,v⟩:=a.az u e;obtain⟨m,B,y,w⟩:=a.Pz C n;rw[A.class]at q;rw[B.class]at t;subst q t;have r:f=j->i=m:=λb=>by subst b;rw[<-D,<-y]
 have x:CY s.sh f i g≠CY s.sh j m z:=λb=>by
  obtain rfl:=WQ d k12 v w b;obtain rfl:=r rfl;obtain rfl:=Uy d b;rw[a.TT f g u n]at e;cases e
 exact⟨x,XF d k12 v w r x⟩
end
def Dt{n:Nat}(h:n<2^64):(Aj n).toNat=n:=by
 rw[UInt64.toNat_ofNat'];exact Nat.mod_eq_of_lt h
def PX{b:Type}(l:List b)(i j:Nat)(x a:b)(hi:i<l.length):(l.set i x).getD j a=if j=i then x else l.getD j a:=by
 rw[Bo,Bo,List.getElem?_set];by_cases h:i=j
 ·subst h;simp[hi]
 ·rw[if_neg h,if_neg (λc=>h c.symm)]
section
variable{L:Nat}{s:St}
def Bq.table(a:Bq L s):s.sh.table=128:=a.sh.table
def Bq.words(a:Bq L s){ws':Nat->UInt64}(h:∀i,i<s.sh.BQ->ws' (16+i)=s.ws (16+i)):Bq L {s with ws:=ws'}:=
 ⟨a.sh,a.L1,a.OA,a.mX,a.tk,a.hd,a.cls,a.TT,λi b=>(h i b).trans (a.tab i b)⟩
def Ho(off c j:Nat):Prop:=off/8<=j/\j<off/8+8*Bf c
def Nl{o p c a j:Nat}(h:o+64*Bf c<=p\/p+64*Bf a<=o)(b:o%64=0)(d:p%64=0)(k:Ho o c j):¬Ho p a j:=by
 unfold Ho at*;omega
def Bq.Dy(a:Bq L s){off c j:Nat}(h1:s.sh.data<=off)(h2:Ho off c j):16+s.sh.BQ<=j:=by
 have:=a.sh.KT;unfold Ho at h2;omega
def kZ{c i a:Nat}(h:MM s c=some i)(h2:KP (CE s i) c=some a):i<s.tk.length/\(Bc (CE s i)=c\/Bc (CE s i)=0):=by
 unfold MM at h;split at h
 ·rename_i j e;injection h with h;subst h
  unfold LJ at e;have b:=YA e;have d:=eU e;rw[Bool.and_eq_true,decide_eq_true_eq]at b;exact⟨DY.1 d,.inl b.1⟩
 ·unfold LJ at h;have b:=YA h;have d:=eU h;rw[Bool.and_eq_true,decide_eq_true_eq]at b;exact⟨DY.1 d,.inr b.1⟩
def MB(e:Bq L s){c off:Nat}{s1:St}(B:c=1\/c=2)(h:CP s c=some (off,s1)):
 Bq L s1/\s1.ws=s.ws/\s1.sh=s.sh/\s1.tk=s.tk/\Eo s1 off c/\(∀l i,Eo s l i->Eo s1 l i)/\(∀l i,Eo s1 l i->Eo s l i\/l=off)/\∀l i,AO s1 l i<->AO s l i:=by
 unfold CP at h;split at h
 ·cases h
 ·rename_i a K;split at h
  ·cases h
  ·rename_i g t;simp only[Option.some.injEq,Prod.mk.injEq]at h;obtain⟨rfl,rfl⟩:=h;obtain⟨M,C⟩:=kZ K t;have u:a<s.sh.BQ:=by rw[<-e.OA];exact M
   obtain⟨T,H,J,E⟩:=e.both u;have A:g<Bz c/\(JY (CE s a)).testBit g=false:=by
    unfold KP at t;split at t
    ·exact⟨jT t,Akv t⟩
    ·cases t
   have S:Bz c<=16:=by rcases B with rfl|rfl<;>decide
   have I:(CE s a).testBit g=false:=by
    have:=A.2;unfold JY at this;rw[NZ,Nat.zero_add,Bool.and_eq_false_iff,decide_eq_false_iff_not]at this;rcases this with h|h
    ·omega
    ·exact h
   have N:EH (CE s a) g=false:=by
    unfold EH;rw[Ahi,I,Bool.and_false]
   have z:=H g;rw[show GU s a|||hdN s a=CE s a from rfl,N]at z;obtain⟨P,O⟩:EH (GU s a) g=false/\EH (hdN s a) g=false:=by
    cases f:EH (GU s a) g<;>cases n:EH (hdN s a) g<;>rw[f,n]at z<;>first|exact⟨rfl,rfl⟩|cases z
   have y:hdN s a=0\/SW (hdN s a) c:=by
    rcases e.hd a u with f|⟨i,f⟩
    ·exact .inl f
    ·have b:=E f.ne;rw[show GU s a|||hdN s a=CE s a from rfl,f.class]at b;have:=f.cls;rcases C with n|n
     ·rw[b]at n;subst n;exact .inr f
     ·omega
   have Q:GU s a=0\/Bc (GU s a)=c:=by
    rcases e.tk a u with f|⟨i,f⟩
    ·exact .inl f
    ·have b:=J f.ne;rw[show GU s a|||hdN s a=CE s a from rfl,f.class]at b;have:=f.cls;rcases C with n|n
     ·rw[b]at n;subst n;exact .inr f.class
     ·omega
   obtain⟨_,r,w⟩:=iq (e.hd a u) B y A.1 O;have R:=Dt r.lt;have p:∀j,hdN {s with hd:=s.hd.set a (Aj (FX (hdN s a) c g).1)} j=if j=a then(FX (hdN s a) c g).1 else hdN s j:=λj=>by
    show((s.hd.set a _).getD j 0).toNat=_;rw[PX _ _ _ _ _ (by rw[e.mX];exact u)];split
    ·exact R
    ·rfl
   have D:∀j,GU {s with hd:=s.hd.set a (Aj (FX (hdN s a) c g).1)} j=GU s j:=λj=>rfl
   refine⟨⟨e.sh,e.L1,e.OA,by simp[e.mX],e.tk,λj k=>?_,λj k=>?_,λj m k d=>?_,e.tab⟩,rfl,rfl,rfl,⟨a,g,u,?_,?_,rfl⟩,?_,?_,λl i=>Iff.rfl⟩
   ·rw[p];split
    ·exact .inr ⟨c,r⟩
    ·exact e.hd j k
   ·rw[p,D];by_cases b:j=a
    ·subst b;rw[if_pos rfl,r.class];exact Q.imp id .inr
    ·rw[if_neg b];exact e.cls j k
   ·rw[p];rw[D]at d;by_cases b:j=a
    ·subst b;rw[if_pos rfl,w m,e.TT j m k d,Bool.false_or,decide_eq_false_iff_not];intro G;subst G;rw[P]at d;cases d
    ·rw[if_neg b];exact e.TT j m k d
   ·rw[p,if_pos rfl,w g];simp
   ·rw[p,if_pos rfl,r.class]
   ·rintro l i⟨j,m,k,d,o,v⟩;refine⟨j,m,k,?_,?_,v⟩
    ·rw[p];by_cases b:j=a
     ·subst b;rw[if_pos rfl,w m,d];rfl
     ·rw[if_neg b];exact d
    ·rw[p];by_cases b:j=a
     ·subst b;obtain⟨F,x,_,_⟩:=(e.hd j k).Px d;rw[if_pos rfl,r.class,<-o];rcases y with q|q
      ·exact absurd q x.ne
      ·exact q.class.symm
     ·rw[if_neg b];exact o
   ·rintro l i⟨j,m,k,d,o,v⟩;rw[p]at d o;by_cases b:j=a
    ·subst b;rw[if_pos rfl]at d o;rw[w m,Bool.or_eq_true,decide_eq_true_eq]at d;rw[r.class]at o;subst o;rcases d with d|rfl
     ·obtain⟨F,x,_,_⟩:=(e.hd j k).Px d;refine .inl ⟨j,m,k,d,?_,v⟩;rcases y with q|q
      ·exact absurd q x.ne
      ·exact q.class
     ·exact .inr v
    ·rw[if_neg b]at d o;exact .inl ⟨j,m,k,d,o,v⟩
def lh(f:Bq L s){c off:Nat}(h:Eo s off c):
 ∃n,GV s off=(n,0)/\Bq L n/\n.sh=s.sh/\(∀j,(j<16\/16+s.sh.BQ<=j)->n.ws j=s.ws j)/\
  (∀r o,AO n r o<->AO s r o\/(r=off/\o=c))/\(∀r o,Eo n r o<->Eo s r o/\r≠off):=by
 have F:=h.cls f;have U:=h;obtain⟨b,q,p,D,G,rfl⟩:=U;obtain⟨y,x,ab,I⟩:=f.az p D;have d:y=c:=by rw[<-G,x.class]
 subst d;have Y:EH (GU s b) q=false:=by
  cases a:EH (GU s b) q
  ·rfl
  ·rw[f.TT b q p a]at D;cases D
 have J:GU s b=0\/SW (GU s b) y:=by
  rcases f.tk b p with i|⟨o,i⟩
  ·exact .inl i
  ·rcases f.cls b p with z|z|z
   ·exact absurd z i.ne
   ·exact absurd z x.ne
   ·rw[i.class,x.class]at z;subst z;exact .inr i
 obtain⟨_,A,E⟩:=iq (f.tk b p) F J I Y;obtain⟨_,N,C,K⟩:=iw (f.hd b p) D;have Z:=Dt A.lt;have aa:=Dt N.lt;have M:b<s.tk.length:=by rw[f.OA];exact p
 have S:b<s.hd.length:=by rw[f.mX];exact p
 obtain⟨n,t⟩:∃n,n=({We s b (Aj (FX (GU s b) (Bc (hdN s b)) q).1)with hd:=s.hd.set b (Aj (Ee (hdN s b) q).1)}:St):=⟨_,rfl⟩;have u:∀j,GU n j=if j=b then(FX (GU s b) y q).1 else GU s j:=λj=>by
  rw[t];show((s.tk.set b _).getD j 0).toNat=_;rw[PX _ _ _ _ _ M,G];split
  ·exact Z
  ·rfl
 have B:∀j,hdN n j=if j=b then(Ee (hdN s b) q).1 else hdN s j:=λj=>by
  rw[t];show((s.hd.set b _).getD j 0).toNat=_;rw[PX _ _ _ _ _ S];split
  ·exact aa
  ·rfl
 have m:n.sh=s.sh:=by rw[t];rfl
 have R:∀j,n.ws j=if j=16+b then Aj (FX (GU s b) y q).1 else s.ws j:=λj=>by
  rw[t];show D9 s.ws (s.sh.table/8+b) _ j=_;rw[f.table,G];rfl
 refine⟨n,?_,⟨by rw[m];exact f.sh,f.L1,by rw[t];show(s.tk.set b _).length=_;rw[Di];exact f.OA,by rw[t];show(s.hd.set b _).length=_;rw[Di];exact f.mX,λj e=>?_,λj e=>?_,λj e=>?_,λj k e a=>?_,λj e=>?_⟩,m,λj e=>?_,λr o=>?_,λr o=>?_⟩
 ·unfold GV;rw[Uz f p ab F I];simp only[D,if_true];rw[t]
 ·rw[u];split
  ·exact .inr ⟨_,A⟩
  ·exact f.tk j (by rw[<-m];exact e)
 ·rw[B];split
  ·exact N
  ·exact f.hd j (by rw[<-m];exact e)
 ·rw[u,B];by_cases d:j=b
  ·rw[if_pos d,if_pos d,A.class];rcases K with i|i
   ·exact .inr (.inr (by rw[i,x.class]))
   ·exact .inr (.inl i)
  ·rw[if_neg d,if_neg d];exact f.cls j (by rw[<-m];exact e)
 ·rw[u]at a;rw[B];by_cases d:j=b
  ·subst d;rw[if_pos rfl]at a⊢;rw[E,Bool.or_eq_true,decide_eq_true_eq]at a;rw[C];rcases a with a|rfl
   ·rw[f.TT j k p a];rfl
   ·simp
  ·rw[if_neg d]at a⊢;exact f.TT j k (by rw[<-m];exact e) a
 ·rw[R,t];show _=(s.tk.set b _).getD j 0;rw[PX _ _ _ _ _ M,G];by_cases d:j=b
  ·rw[if_pos O,if_pos d]
  ·rw[if_neg O,if_neg d];exact f.tab j (by rw[<-m];exact e)
 ·rw[R,if_neg O]
 ·constructor
  ·rintro⟨j,k,e,a,g,l⟩;rw[m]at e l;rw[u]at a g;by_cases d:j=b
   ·subst d;rw[if_pos rfl]at a g;rw[A.class]at g;subst g;rw[E,Bool.or_eq_true,decide_eq_true_eq]at a;rcases a with a|rfl
    ·left;refine⟨j,k,e,a,?_,l⟩;rcases J with w|w
     ·rw[w,FC]at a;cases a
     ·exact w.class
    ·exact .inr ⟨l,rfl⟩
   ·rw[if_neg d]at a g;exact .inl ⟨j,k,e,a,g,l⟩
  ·rintro(⟨j,k,e,a,g,l⟩|⟨rfl,rfl⟩)
   ·refine⟨j,k,by rw[m];exact e,?_,?_,by rw[m];exact l⟩
    ·rw[u];by_cases d:j=b
     ·subst d;rw[if_pos rfl,E,a];rfl
     ·rw[if_neg d];exact a
    ·rw[u];by_cases d:j=b
     ·subst d;rw[if_pos rfl,A.class,<-g];rcases J with w|w
      ·rw[w,FC]at a;cases a
      ·exact w.class.symm
     ·rw[if_neg d];exact g
   ·exact⟨b,q,by rw[m];exact p,by rw[u,if_pos rfl,E];simp,by rw[u,if_pos rfl,A.class],by rw[m]⟩
 ·constructor
  ·rintro⟨j,k,e,a,g,l⟩;rw[m]at e l;rw[B]at a g;by_cases d:j=b
   ·subst d;rw[if_pos rfl]at a g;rw[C,Bool.and_eq_true,Bool.not_eq_true',decide_eq_false_iff_not]at a;have V:o=y:=by
     rcases K with i|i
     ·rw[i,x.class]at g;exact g.symm
     ·have:=C k;rw[i,FC,a.1]at this;simp[a.2]at this
    subst V;refine⟨⟨j,k,e,a.1,x.class,l⟩,λv=>?_⟩;rw[l]at v;exact a.2 (Uy F v)
   ·rw[if_neg d]at a g;refine⟨⟨j,k,e,a,g,l⟩,λv=>?_⟩;obtain⟨T,P,ac,W⟩:=f.az e a;have H:T=o:=by rw[<-g,P.class]
    subst H;rw[l]at v;exact d (WQ P.cls F W I v)
  ·rintro⟨⟨j,k,e,a,g,l⟩,X⟩;have Q:j=b->k≠q:=λd v=>by
    subst d v;have H:o=y:=by rw[<-g,x.class]
    subst H;exact X l
   refine⟨j,k,by rw[m];exact e,?_,?_,by rw[m];exact l⟩
   ·rw[B];by_cases d:j=b
    ·subst d;rw[if_pos rfl,C,a];simp[Q rfl]
    ·rw[if_neg d];exact a
   ·rw[B];by_cases d:j=b
    ·subst d;rw[if_pos rfl];rcases K with i|i
     ·rw[i];exact g
     ·have:=C k;rw[i,FC,a]at this;simp[Q rfl]at this
    ·rw[if_neg d];exact g
def Vz(e:Bq L s){c off:Nat}(h:AO s off c):
 ∃g,Fj s off=(g,0)/\Bq L g/\g.sh=s.sh/\g.hd=s.hd/\(∀j,(j<16\/16+s.sh.BQ<=j)->g.ws j=s.ws j)/\
  (∀y t,AO g y t<->AO s y t/\y≠off):=by
 have B:=h.cls e;obtain⟨b,p,r,C,Q,rfl⟩:=h;obtain⟨z,x,W,J⟩:=e.Pz r C;have a:z=c:=by rw[<-Q,x.class]
 subst a;have U:EH (hdN s b) p=false:=e.TT b p r C;obtain⟨P,G,v,E⟩:=iw (e.tk b r) C;have V:=Dt G.lt;have F:b<s.tk.length:=by rw[e.OA];exact r
 obtain⟨g,n⟩:=ε (We s b (Aj (Ee (GU s b) p).1));have u:∀j,GU g j=if j=b then(Ee (GU s b) p).1 else GU s j:=λj=>by
  rw[n];show((s.tk.set b _).getD j 0).toNat=_;rw[PX _ _ _ _ _ F];split
  ·exact V
  ·rfl
 have D:∀j,hdN g j=hdN s j:=λj=>by rw[n];rfl
 have m:g.sh=s.sh:=by rw[n];rfl
 have K:∀j,g.ws j=if j=16+b then Aj (Ee (GU s b) p).1 else s.ws j:=λj=>by
  rw[n];show D9 s.ws (s.sh.table/8+b) _ j=_;rw[e.table];rfl
 refine⟨g,?_,⟨by rw[m];exact e.sh,e.L1,by rw[n];show(s.tk.set b _).length=_;rw[Di];exact e.OA,by rw[n];exact e.mX,λj f=>?_,λj f=>?_,λj f=>?_,λj l f d=>?_,λj f=>?_⟩,m,by rw[n];rfl,λj f=>?_,λy t=>?_⟩
 ·unfold Fj;rw[Uz e r W B J];have N:(Ee (hdN s b) p).2=false:=by unfold Ee;rw[U];rfl
  simp only[N,P,if_true,Bool.false_eq_true,if_false];rw[n]
 ·rw[u];split
  ·exact G
  ·exact e.tk j (by rw[<-m];exact f)
 ·rw[D];exact e.hd j (by rw[<-m];exact f)
 ·rw[u,D];by_cases a:j=b
  ·rw[if_pos a,a];rcases E with i|i
   ·rw[i];rcases e.cls b r with w|w|w
    ·exact absurd w x.ne
    ·exact .inr (.inl w)
    ·exact .inr (.inr w)
   ·exact .inl i
  ·rw[if_neg a];exact e.cls j (by rw[<-m];exact f)
 ·rw[u]at d;rw[D];by_cases a:j=b
  ·subst a;rw[if_pos rfl,v,Bool.and_eq_true]at d;exact e.TT j l r d.1
  ·rw[if_neg a]at d;exact e.TT j l (by rw[<-m];exact f) d
 ·rw[K,n];show _=(s.tk.set b _).getD j 0;rw[PX _ _ _ _ _ F];by_cases a:j=b
  ·rw[if_pos O,if_pos a]
  ·rw[if_neg O,if_neg a];exact e.tab j (by rw[<-m];exact f)
 ·rw[K,if_neg O]
 ·constructor
  ·rintro⟨j,l,f,d,k,o⟩;rw[m]at f o;rw[u]at d k;by_cases a:j=b
   ·subst a;rw[if_pos rfl]at d k;rw[v,Bool.and_eq_true,Bool.not_eq_true',decide_eq_false_iff_not]at d;have R:t=z:=by
     rcases E with i|i
     ·rw[i,x.class]at k;exact k.symm
     ·have:=v l;rw[i,FC,d.1]at this;simp[d.2]at this
    subst R;refine⟨⟨j,l,f,d.1,x.class,o⟩,λq=>?_⟩;rw[o]at q;exact d.2 (Uy B q)
   ·rw[if_neg a]at d k;refine⟨⟨j,l,f,d,k,o⟩,λq=>?_⟩;obtain⟨M,H,X,S⟩:=e.Pz f d;have A:M=t:=by rw[<-k,H.class]
    subst A;rw[o]at q;exact a (WQ H.cls B S J q)
  ·rintro⟨⟨j,l,f,d,k,o⟩,T⟩;have I:j=b->l≠p:=λa q=>by
    subst a q;have A:t=z:=by rw[<-k,x.class]
    subst A;exact T o
   refine⟨j,l,by rw[m];exact f,?_,?_,by rw[m];exact o⟩
   ·rw[u];by_cases a:j=b
    ·subst a;rw[if_pos rfl,v,d];simp[I rfl]
    ·rw[if_neg a];exact d
   ·rw[u];by_cases a:j=b
    ·subst a;rw[if_pos rfl];rcases E with i|i
     ·rw[i];exact k
     ·have:=v l;rw[i,FC,d]at this;simp[I rfl]at this
    ·rw[if_neg a];exact k
end
abbrev Kv:=List UInt8×UInt64
structure Part where
 items:List Kv
 blocks:List Nat
def Cc(a:Nd):List Kv:=if a.val≠0 then[(a.pre,a.val)]else[]
def Fa(pre:List UInt8)(lb:UInt8)(l:List Kv):List Kv:=l.map λa=>(pre++lb::a.1,a.2)
def Bl(pre:List UInt8):List UInt8->List Part->List Kv
 |a::b,c::d=>Fa pre a c.items++Bl pre b d
 |_,_=>[]
def AX(a:List Part):List Nat:=(a.map Part.blocks).flatten
inductive DV(s:St):Nat->UInt64->List Kv->List Nat->Prop
 |mk(r:Nat)(name:UInt64)(nd:Nd)(parts:List Part)(hrd:FN s name=some nd)(hpre:nd.pre.length<=r)(NM:nd.kids≠[]->nd.pre.length+1<=r)(hlen:parts.length=nd.kids.length)
  (hk:∀i(h1:i<nd.kids.length)(h2:i<parts.length),DV s (r-nd.pre.length-1) nd.kids[i] parts[i].items parts[i].blocks):
  DV s r name (Cc nd++Bl nd.pre nd.labels parts) ((Bg name).toNat::AX parts)
section
variable{L:Nat}{s s':St}
def qZ{c a:Nat}(b:c=1\/c=2)(d:a=1\/a=2)(h:Bf c=Bf a):c=a:=by
 rcases b with rfl|rfl<;>rcases d with rfl|rfl<;>first|rfl|(simp[Bf]at h)
def Oa(x:Nd):Dl x=1\/Dl x=2:=by unfold Dl;split<;>simp
def Jp(x:Nd):(DT x).length=8*Bf (Dl x):=by
 rw[Fb];unfold Dl;split<;>rfl
def Ii(i:Bq L s){d:UInt64}{a:Nd}(h:FN s d=some a):
 ∃c:Nat,Bg d=c/\AO s c (Dl a)/\Cf a=true/\wordsAt s.ws (c/8) (8*Bf (Dl a))=DT a:=by
 unfold FN at h;split at h
 ·cases h
 ·rename_i k;split at h
  ·rename_i o;injection h with h
   have m:DC s (Bg d)≠0:=λj=>k (by rw[j];rfl)
   obtain⟨c,g,e⟩:=RY i rfl m;obtain⟨f,b⟩:=Adf _ o;rw[h]at f b;have l:=e.cls i;have n:DC s (Bg d)=Dl a:=by
    refine qZ l (Oa a) ?_;have:=congrArg List.length b;rw[Jp]at this;simp[wordsAt]at this;omega
   rw[n]at e b;rw[g,BU]at b;exact⟨c,g,e,f,b.symm⟩
  ·cases h
def Y2(j:Bq L s){c:UInt64}{a:Nd}{o:Nat}(f:Bg c=o)(g:AO s o (Dl a))(b:Cf a=true)(i:wordsAt s.ws (o/8) (8*Bf (Dl a))=DT a):FN s c=some a:=by
 have e:=g.class j;have d:=Oa a;unfold FN;rw[f,e,BU,i,if_neg (Ω ((FD d).2.1)),if_pos (Ade a b),qQ a b]
def DI(s s':St)(B:Nat->Prop):Prop:=∀a b,B a->AO s a b->AO s' a b/\∀j,Ho a b j->s'.ws j=s.ws j
def DI.mono{B C:Nat->Prop}(h:DI s s' B)(k:∀a,C a->B a):DI s s' C:=λa b c d=>h a b (k a c) d
def DI.trans{e:St}{B:Nat->Prop}(h:DI s s' B)(k:DI s' e B):DI s e B:=λd a b i=>by
 obtain⟨f,g⟩:=h d a b i;obtain⟨l,m⟩:=k d a b f;exact⟨l,λj c=>(m j c).trans (g j c)⟩
def DI.refl(s:St)(B:Nat->Prop):DI s s B:=λ_ _ _ h=>⟨h,λ_ _=>rfl⟩
def U0{o c:Nat}(h:∀j,Ho o c j->s'.ws j=s.ws j):wordsAt s'.ws (o/8) (8*Bf c)=wordsAt s.ws (o/8) (8*Bf c):=by
 unfold wordsAt;refine GG λb a=>?_
 have:=DY.1 a;exact h _ ⟨O,O⟩
def Adg(m:Bq L s)(n:Bq L s'){B:Nat->Prop}(k:DI s s' B){a:UInt64}{d:Nd}(b:B (Bg a).toNat)(h:FN s a=some d):FN s' a=some d:=by
 obtain⟨l,c,i,g,j⟩:=Ii m h;rw[c,BU]at b;obtain⟨e,f⟩:=k l _ b i;exact Y2 n c e g ((U0 f).trans j)
def TU{a:List Part}{i:Nat}(h:i<a.length){o:Nat}(b:o∈a[i].blocks):o∈AX a:=by
 unfold AX;exact List.mem_flatten.2 ⟨_,BM.2 ⟨_,BH h,rfl⟩,b⟩
def DV.keep(g:Bq L s)(j:Bq L s'){B:Nat->Prop}(k:DI s s' B){r:Nat}{name:UInt64}{d:List Kv}{a:List Nat}(h:DV s r name d a)(c:∀b∈a,B b):DV s' r name d a:=by
 induction h with
 |mk r name nd parts hrd hpre NM hlen hk f=>
  refine .mk r name nd parts (Adg g j k (c _ (BA ..)) hrd) hpre NM hlen λi h1 h2=>f i h1 h2 λb e=>c b (BO _ (TU h2 e))
def EW{pre:List UInt8}:∀{d:List UInt8}{e:List Part}{c:Kv},c∈Bl pre d e->∃(b:Nat)(i:b<d.length)(j:b<e.length)(a:Kv),a∈e[b].items/\c=(pre++d[b]::a.1,a.2)
 |[],_,c,h=>by simp[Bl]at h
 |_::_,[],c,h=>by simp[Bl]at h
 |k::d,l::e,c,h=>by
  rw[Bl]at h;rcases AL.1 h with h|h
  ·obtain⟨a,g,f⟩:=BM.1 h;exact⟨0,by simp,by simp,a,g,f.symm⟩
  ·obtain⟨b,i,j,a,g,f⟩:=EW h;exact⟨b+1,by simp;omega,by simp;omega,a,g,f⟩
def FH{a:Nd}{b:Kv}(h:b∈Cc a):b=(a.pre,a.val)/\a.val≠0:=by
 unfold Cc at h;split at h
 ·rename_i c;exact⟨BG.1 h,c⟩
 ·cases h
def DV.nib(t:Bq L s){r:Nat}{name:UInt64}{d:List Kv}{e:List Nat}(h:DV s r name d e):∀a∈d,a.1.all D6=true/\a.1.length<=r/\a.2≠0:=by
 induction h with
 |mk r name nd parts hrd hpre NM hlen hk p=>
  obtain⟨y,w,x,o,_⟩:=Ii t hrd;have b:=(Bv nd).1 o;intro a n;rcases AL.1 n with h1|h1
  ·obtain⟨rfl,g⟩:=FH h1;exact⟨b.2.1,hpre,g⟩
  ·obtain⟨i,h2,c,q,j,rfl⟩:=EW h1;obtain⟨k,u,l⟩:=p i O c q j;have v:=NM (by intro f;rw[f]at hlen;exact absurd c (by rw[hlen];simp));have m:=Ew.1 b.2.2.2.1 _ (BH h2);refine⟨by simp only[List.all_append,List.all_cons,b.2.1,m,k,Bool.and_self],?_,l⟩;simp only[AY,BD];omega
def Ob(p a b:List UInt8):Op.bytesLess (p++a) (p++b)=Op.bytesLess a b:=by
 induction p with
 |nil=>rfl
 |cons d p c=>simp[Op.bytesLess,c]
def iD(p:List UInt8)(x:UInt8)(b:List UInt8):Op.bytesLess p (p++x::b)=true:=by
 induction p with
 |nil=>rfl
 |cons c p a=>simp[Op.bytesLess,a]
def U1{x c:UInt8}(h:x.toNat<c.toNat)(a b:List UInt8):Op.bytesLess (x::a) (c::b)=true:=by
 simp only[Op.bytesLess,Bool.or_eq_true,decide_eq_true_eq];exact .inl (UInt8.lt_iff_toNat_lt.2 h)
def yC(l:List Kv):Prop:=l.Pairwise λa b=>Op.bytesLess a.1 b.1=true
def Adh{pre:List UInt8}{lb:UInt8}{l:List Kv}(h:yC l):yC (Fa pre lb l):=by
 unfold yC Fa;rw[List.pairwise_map];refine h.imp λ{a b}c=>?_
 show Op.bytesLess (pre++lb::a.1) (pre++lb::b.1)=true;rw[Ob];simp[Op.bytesLess,c]
def XG{pre:List UInt8}:∀{a:List UInt8}{c:List Part},ER a=true->(∀b∈c,yC b.items)->yC (Bl pre a c)
 |[],_,_,_=>by simp[Bl,yC]
 |_::_,[],_,_=>by simp[Bl,yC]
 |o::a,b::c,m,h=>by
  obtain⟨f,g⟩:=RU m;rw[Bl];refine uU.2 ⟨Adh (h b (BA ..)),XG f (λp l=>h p (BO _ l)),λq j r k=>?_⟩;obtain⟨d,_,rfl⟩:=BM.1 j;obtain⟨n,i,s,e,_,rfl⟩:=EW k;show Op.bytesLess (pre++o::d.1) (pre++a[n]::e.1)=true;rw[Ob];exact U1 (g _ (BH i)) _ _
def DV.up(l:Bq L s){r:Nat}{name:UInt64}{a:List Kv}{b:List Nat}(h:DV s r name a b):yC a:=by
 induction h with
 |mk r name nd parts hrd hpre NM hlen hk k=>
  obtain⟨v,t,u,g,_⟩:=Ii l hrd;have j:=(Bv nd).1 g;refine uU.2 ⟨?_,XG j.2.2.2.2.1 (λw f=>?_),λm c n d=>?_⟩
  ·unfold Cc;split<;>simp
  ·obtain⟨i,e,rfl⟩:=List.getElem_of_mem f;exact k i O e
  ·obtain⟨rfl,_⟩:=FH c;obtain⟨i,p,q,o,_,rfl⟩:=EW d;exact iD _ _ _
def aA{f:Nat}{ahead pre:List UInt8}:∀(g:List UInt8)(e:List UInt64)(a:List Part)(c:List Kv)(b:List Int),g.length=e.length->a.length=e.length->
 (∀d(h1:d<g.length)(h2:d<e.length)(h3:d<a.length)(c:List Kv)(b:List Int),(∀i∈a[d].blocks,(i:Int)∉b)->Eb s f e[d] (ahead++pre++[g[d]]) (c,b)=some (c++a[d].items.map (λj=>(pairs (ahead++pre++g[d]::j.1),j.2)),b++a[d].blocks.map BZ))->
 (AX a).Nodup->(∀i∈AX a,(i:Int)∉b)->
 (g.zip e).foldlM (λB(t:UInt8×UInt64)=>Eb s f t.2 (ahead++pre++[t.1]) B) (c,b)=some (c++(Bl pre g a).map (λj=>(pairs (ahead++j.1),j.2)),b++(AX a).map BZ)
 |[],e,a,c,b,h1,h2,_,_,_=>by
  have:e=[]:=Dk (by simpa using h1.symm);subst this;have:a=[]:=Dk (by simpa using h2);subst this;simp[Bl,AX]
 |r::g,[],a,c,b,h1,_,_,_,_=>by simp at h1
 |r::g,A::e,[],c,b,_,h2,_,_,_=>by simp at h2
 |r::g,A::e,u::a,c,b,h1,h2,n,q,l=>by
  have o:AX (u::a)=u.blocks++AX a:=rfl;rw[o]at q l;obtain⟨C,x,y⟩:=CJ.1 q;have p:=n 0 Θ Θ Θ c b (λi k=>l i (BJ _ k));simp only[List.getElem_cons_zero]at p;rw[List.zip_cons_cons,List.foldlM_cons,p];simp only[Option.bind_eq_bind,Option.bind_some];rw[aA g e a _ _ (by simpa using h1) (by simpa using h2) (λd h1 h2 h3 c b w=>?_) x (λi k=>?_)]
  ·rw[o,Bl];simp[Fa,AV,Function.comp_def]
  ·have:=n (d+1) (by simp;omega) (by simp;omega) (by simp;omega) c b w;simpa using this
  ·rw[AL];rintro(h|h)
   ·exact l i (Bj _ k) h
   ·obtain⟨m,z,v⟩:=BM.1 h;have:m=i:=Int.ofNat.inj v;subst this;exact y m z m k rfl
def DV.Aol(G:Bq L s){r:Nat}{name:UInt64}{p:List Kv}{j:List Nat}(h:DV s r name p j):∀(f:Nat)(ahead:List UInt8)(g:List Kv)(c:List Int),r<f->ahead.length+r<=32->j.Nodup->(∀q∈j,(q:Int)∉c)->(∀a∈p,J8 (ahead++a.1)=true)->
 Eb s f name ahead (g,c)=some (g++p.map (λa=>(pairs (ahead++a.1),a.2)),c++j.map BZ):=by
 induction h with
 |mk r name nd parts hrd hpre NM hlen hk k=>
  intro f ahead g c J I v n m;obtain⟨q,e,K,E,_⟩:=Ii G hrd;have F:=(Bv nd).1 E;obtain⟨f,rfl⟩:∃y,f=y+1:=⟨f-1,O⟩;obtain⟨C,o⟩:=List.nodup_cons.1 v;rw[Eb,hrd]
  dsimp only
  have u:=n (Bg name).toNat (BA ..);rw[e,BU]at u;rw[if_neg (by
   rw[e];rintro(h|h)
   ·exact u (List.contains_iff_mem.1 h)
   ·simp only[AY]at h;omega)]
  rw[if_neg (by
   rintro⟨h1,h2⟩;have:=m (nd.pre,nd.val) (BJ _ (by unfold Cc;rw[if_pos h1];exact BG.2 rfl));rw[this]at h2;cases h2)]
  have t:∀l∈AX parts,((l:Int))∉c++[Bg name]:=λl w z=>by
   rcases AL.1 z with h|h
   ·exact n l (BO _ w) h
   ·rw[BG,e]at h;refine C ?_;rw[e,BU];have:l=q:=O;exact this▸w
  rw[aA nd.labels nd.kids parts _ _ F.2.2.1 hlen (λi h1 h2 h3 g c A=>?_) o t]
  ·simp only[e,Dc,Ci,BU,AV,Cj,EX];unfold Cc;split<;>simp
  ·have H:=NM (by intro x;rw[x]at h2;simp at h2);have D:parts[i].blocks.Nodup:=by
    have:=(List.pairwise_flatten.1 o).1;exact this _ (BM.2 ⟨_,BH h3,rfl⟩)
   have:=k i h2 h3 f (ahead++nd.pre++[nd.labels[i]]) g c O (by simp only[AY,BD,Dp];omega) D A (λa B=>?_)
   ·rw[this];simp
   ·have:=m (nd.pre++nd.labels[i]::a.1,a.2) (Bj _ ?_)
    ·simpa using this
    ·clear k hk m n t v o hrd NM hlen;have:∀(d:List UInt8)(b:List Part)(i:Nat)(h1:i<d.length)(h3:i<b.length),a∈b[i].items->(nd.pre++d[i]::a.1,a.2)∈Bl nd.pre d b:=by
      intro d;induction d with
      |nil=>intro b i h1;simp at h1
      |cons M d k=>
       intro b i h1 h3 hk;cases b with
       |nil=>simp at h3
       |cons N b=>
        rw[Bl];cases i with
        |zero=>exact BJ _ (BM.2 ⟨a,by simpa using hk,rfl⟩)
        |succ i=>exact Bj _ (by simpa using k b i (by simpa using h1) (by simpa using h3) (by simpa using hk))
     exact this _ _ i h1 h3 B
end
structure Grown(L:Nat)(s0:St)(j:Jb)(B:List Nat):Prop where
 ok:Bq L j.s
 sh:j.s.sh=s0.sh
 nh:∀o d,¬Eo j.s o d
 made:j.made=B.map BZ
 xP:B.Nodup
 new:∀o∈B,∀d,¬AO s0 o d
 tk:∀o,(∃d,AO j.s o d)<->(∃d,AO s0 o d)\/o∈B
 keep:DI s0 j.s (λ_=>True)
 low:∀i,i<16->j.s.ws i=s0.ws i
def Grown.start{L:Nat}{s:St}(ok:Bq L s)(nh:∀o d,¬Eo s o d):Grown L s ⟨s,[]⟩ []:=
 ⟨ok,rfl,nh,rfl,List.nodup_nil,(λ_ h=>nomatch h),(λo=>by simp),DI.refl _ _,λ_ _=>rfl⟩
def Jq{o:Nat}(h:o<=65536):Bg (Aj o)=o:=by
 unfold Bg;rw[Dt O];exact wrap64 _ O O
section
variable{L:Nat}{s0:St}{j:Jb}{B:List Nat}
def O5(g:Grown L s0 j B){n:Nd}(S:Cf n=true):
 FY j n=(j,0,6)\/∃t u b,FY j n=(t,u,0)/\b∉B/\Grown L s0 t (B++[b])/\Bg u=(b:Nat)/\u≠0/\FN t.s u=some n/\DI j.s t.s (λ_=>True):=by
 unfold FY;rw[S];simp only[Bool.not_true,Bool.false_eq_true,if_false];cases an:CP j.s (Dl n)with
 |none=>exact .inl rfl
 |some ar=>
  obtain⟨c,k⟩:=ar;right;obtain⟨C,T,Y,av,J,_,af,aq⟩:=MB g.ok (Oa n) an;have I:=J.bounds C;have aE:=C.sh.KT;have aB:=g.ok.L1;have aa:=Oa n;have M:=Jp n;obtain⟨aH,aL,aM,aR⟩:=FD aa;have z:∀d,¬Ho c (Dl n) d->BK k.ws (c/8) (DT n) d=k.ws d:=λd f=>by
   unfold BK;rw[if_neg];intro h;exact f ⟨h.1,by rw[M]at h;exact h.2⟩
  have Q:∀d,d<16+k.sh.BQ->¬Ho c (Dl n) d:=λd f h=>by
   unfold Ho at h;omega
  obtain⟨o,i⟩:∃o,o=({k with ws:=BK k.ws (c/8) (DT n)}:St):=⟨_,rfl⟩;have l:Bq L o:=i▸C.words (λd f=>z _ (Q _ O));have E:Eo o c (Dl n):=by rw[i];exact J
  obtain⟨p,G,V,ao,A,q,X⟩:=lh l E;have W:o.sh=k.sh:=by rw[i]
  have r:∀b a,AO o b a<->AO j.s b a:=λb a=>by rw[i];exact aq b a
  have R:=Jq (o:=c) O;have K:DI j.s p (λ_=>True):=λb F _ ap=>by
   have v:=(r b F).2 ap;obtain⟨aD,ac⟩:=Me l E v;have U:=v.bounds l;refine⟨(q b F).2 (.inl v),λd f=>?_⟩;rw[A d (.inr (l.Dy U.1 f)),i];show BK k.ws (c/8) (DT n) d=_;rw[z d (λh=>Nl ac I.2.2 U.2.2 h f),T]
  have P:∀a,¬AO j.s c a:=λa e=>(Me l E ((r c a).2 e)).1 rfl
  have N:c∉B:=λh=>by
   obtain⟨a,e⟩:=(g.tk c).2 (.inr h);exact P a e
  have am:FN p (Aj c)=some n:=by
   refine Y2 V R ((q _ _).2 (.inr ⟨rfl,rfl⟩)) S ?_;unfold wordsAt;refine List.ext_getElem (by simp[M]) λD m x=>?_
   simp only[List.getElem_map,List.getElem_range];have aG:D<8*Bf (Dl n):=by simpa using m
   have ah:Ho c (Dl n) (c/8+D):=⟨O,O⟩;rw[A _ (.inr (l.Dy (by rw[W];exact I.1) ah)),i];show BK k.ws (c/8) (DT n) (c/8+D)=_;unfold BK;rw[if_pos ⟨O,O⟩,Nat.add_sub_cancel_left,Bo,Ae x];rfl
  refine⟨⟨p,j.made++[(c:Int)]⟩,Aj c,c,?_,N,⟨V,by rw[ao,W,Y,g.sh],λb a h=>?_,by rw[g.made];simp,?_,λb al a e=>?_,λb=>?_,g.keep.trans K,λd f=>?_⟩,R,?_,am,K⟩
  ·rw[i]at G;simp only[G,if_true]
  ·obtain⟨m,x⟩:=(X b a).1 h;rw[i]at m;rcases af b a m with y|y
   ·exact g.nh b a y
   ·exact x y
  ·exact CJ.2 ⟨g.xP,by simp,λaw ab az H w=>by rw[BG]at H;subst H;exact N (w▸ab)⟩
  ·rcases AL.1 al with h|h
   ·exact g.new b h a e
   ·rw[BG]at h;subst h;obtain⟨Z,ad⟩:=(g.tk b).2 (.inl ⟨a,e⟩);exact P Z ad
  ·have m:(∃a,AO p b a)<->(∃a,AO j.s b a)\/b=c:=by
    constructor
    ·rintro⟨a,e⟩;rcases(q b a).1 e with h|h
     ·exact .inl ⟨a,(r b a).1 h⟩
     ·exact .inr h.1
    ·rintro(⟨a,e⟩|rfl)
     ·exact⟨a,(q b a).2 (.inl ((r b a).2 e))⟩
     ·exact⟨_,(q _ _).2 (.inr ⟨rfl,rfl⟩)⟩
   show(∃a,AO p b a)<->_;rw[m,g.tk b,AL,BG,or_assoc]
  ·show p.ws d=_;rw[A d (.inl f),i];show BK k.ws (c/8) (DT n) d=_;rw[z d (Q d O),T,g.low d f]
  ·intro w;have:=congrArg UInt64.toNat w;rw[Dt O]at this;simp at this;omega
def Ahk(L:Nat)(s0:St)(j:Jb)(B:List Nat)(r:Nat)(l:List UInt8)(e:UInt64)(a:Jb×UInt64×Int):Prop:=
 (a.2.2=6/\∃d,Grown L s0 a.1 d)\/
 (a.2.2=0/\∃b c,Grown L s0 a.1 (B++b)/\DI j.s a.1.s (λ_=>True)/\a.2.1≠0/\DV a.1.s r a.2.1 [(l,e)] c/\c.Perm b)
def Adi{s:St}{a:UInt64}{l:List UInt8}{b:UInt64}{r o:Nat}(h:FN s a=some ⟨l,b,[],[]⟩)(e:Bg a=o)(d:l.length<=r)(f:b≠0):DV s r a [(l,b)] [o]:=by
 have:=DV.mk r a ⟨l,b,[],[]⟩ [] h d (λh=>absurd rfl h) rfl (λg c _=>absurd c Θ);rw[e,BU]at this;simpa[Cc,Bl,AX,f]using this
def U4{pre:List UInt8}{val:UInt64}{b:UInt8}{a:UInt64}(f:pre.length<=15)(e:pre.all D6=true)(c:D6 b=true)(k:a≠0):Jy ⟨pre,val,[],[]⟩ b a=true/\Ib ⟨pre,val,[],[]⟩ b a=⟨pre,val,[b],[a]⟩/\Cf ⟨pre,val,[b],[a]⟩=true/\Cf ⟨pre,val,[],[]⟩=true:=by
 have g:Cf ⟨pre,val,[],[]⟩=true:=by
  rw[Bv];exact⟨f,e,rfl,rfl,rfl,λi h=>absurd h Θ⟩
 have d:a.toNat≠0:=λj=>k (DK.1 (by simpa using j))
 refine⟨?_,rfl,?_,g⟩
 ·rw[RX];exact⟨g,by simpa[D6]using c,d,rfl⟩
 ·rw[Bv];refine⟨f,e,rfl,by simp[c],rfl,λi h=>?_⟩;simp only[BD,Dp]at h;have:i=0:=O;subst this;exact d
def ry{s:St}{a d:UInt64}{pre:List UInt8}{val:UInt64}{e:UInt8}{r o:Nat}{c:List Kv}{b:List Nat}(h:FN s a=some ⟨pre,val,[e],[d]⟩)(i:Bg a=o)(g:pre.length+1<=r)(j:DV s (r-pre.length-1) d c b):
 DV s r a ((if val≠0 then[(pre,val)]else[])++Fa pre e c) (o::b):=by
 have:=DV.mk r a ⟨pre,val,[e],[d]⟩ [⟨c,b⟩] h (by simp only;omega) (λ_=>g) rfl (λk f l=>by
  simp only[BD,Dp]at f;have:k=0:=O;subst this;exact j)
 rw[i,BU]at this;simpa[Cc,Bl,AX]using this
def Y3:∀(f:Nat){j:Jb}{B:List Nat}(_:Grown L s0 j B)(r:Nat)(l:List UInt8)(c:UInt64),l.length<f->l.length<=r->l.all D6=true->c≠0->Ahk L s0 j B r l c (MV f j l c)
 |0,_,_,_,_,_,_,h,_,_,_=>absurd h O
 |f+1,j,B,m,r,l,c,R,F,k,y=>by
  rw[MV];by_cases n:l.length<=15
  ·rw[if_pos n];have I:Cf ⟨l,c,[],[]⟩=true:=by
    rw[Bv];exact⟨n,k,rfl,rfl,rfl,λS h=>absurd h Θ⟩
   rcases O5 m I with a|⟨J,K,d,a,G,g,q,p,s,i⟩
   ·rw[a];exact .inl ⟨rfl,B,m⟩
   ·rw[a];exact .inr ⟨rfl,[d],[d],g,i,p,Adi s q F y,List.Perm.refl _⟩
  ·rw[if_neg n];have z:=Y3 f m (r-15-1) (l.drop 16) c (by rw[AU];omega) (by rw[AU];omega) (UL _ _ _ k) y;generalize MV f j (l.drop 16) c=M at z;obtain⟨T,V,a⟩:=M;simp only;unfold Iy;rcases z with⟨e,A,b⟩|⟨e,u,C,b,v,w,x,H⟩
   ·simp only at e b;subst e;rw[if_pos U];exact .inl ⟨rfl,A,b⟩
   ·simp only at e b v w x;subst e;rw[if_neg Θ];have o:(l.take 15).length=15:=by simp;omega
    have t:l.getD 15 0=l[15]' O:=by rw[Bo,Ae O];rfl
    have E:D6 (l.getD 15 0)=true:=by rw[t];exact Ew.1 k _ (BH _)
    obtain⟨N,P,Q,_⟩:=U4 (val:=0) (Nat.le_of_eq o) (UK _ _ 15 k) E w;rw[if_pos N,P];rcases O5 b Q with a|⟨J,K,d,a,G,g,q,p,s,i⟩
    ·rw[a];exact .inl ⟨rfl,_,b⟩
    ·rw[a];refine .inr ⟨rfl,u++[d],d::C,by rw[<-AV];exact g,v.trans i,p,?_,?_⟩
     ·have:=ry (r:=r) s q (by rw[o];omega) (by rw[o];exact x.keep b.ok g.ok i (λ_ _=>trivial));have D:l.take 15++l.getD 15 0::l.drop 16=l:=by
       rw[t]
       conv=>rhs;rw[<-GZ 15 l]
       rw[EO (by omega:15<l.length)]
      rw[if_neg Θ,EX]at this;unfold Fa at this;simp only[Ci,Gv,D]at this;exact this
     ·refine List.Perm.trans ?_ (List.perm_append_singleton d u).symm;exact List.Perm.cons _ H
end
def NP(pre:List UInt8):∀(a b:List UInt8)(c d:List Part),a.length=c.length->Bl pre (a++b) (c++d)=Bl pre a c++Bl pre b d
 |[],b,[],d,_=>by simp[Bl]
 |[],b,_::_,d,h=>by simp at h
 |_::_,b,[],d,h=>by simp at h
 |f::a,b,e::c,d,h=>by
  simp only[Cj,Bl,NP pre a b c d (by simpa using h),AV]
def Si(pre:List UInt8)(a:List UInt8)(b:List Part)(i:Nat)(h:a.length=b.length):Bl pre a b=Bl pre (a.take i) (b.take i)++Bl pre (a.drop i) (b.drop i):=by
 rw[<-NP _ _ _ _ _ (by simp[h]),GZ,GZ]
def P5(a b:List Part):AX (a++b)=AX a++AX b:=by simp[AX]
def QR(a:List Part)(i:Nat):AX a=AX (a.take i)++AX (a.drop i):=by rw[<-P5,GZ]
def XH{l:List UInt8}{k:Nat}(h:k<l.length):l.getD k 0=l[k]:=by rw[Bo,Ae h];rfl
def Akw{l:List UInt8}{k:Nat}(h:k<l.length):l.take k++l.getD k 0::l.drop (k+1)=l:=by
 rw[XH h,<-EO h,GZ]
def Ahl{x:UInt64}(h:x≠0):x.toNat≠0:=λa=>h (DK.1 (by simpa using a))
section
variable{L:Nat}{s0:St}{j:Jb}{B:List Nat}
def rC(g:Grown L s0 j B){x:Nd}(G:Cf x=true){parts:List Part}(J:parts.length=x.kids.length){c:UInt8}(H:D6 c=true)(M:PE x.labels c=false){d:UInt64}(I:d≠0){r:Nat}(P:x.pre.length+1<=r)
 (E:∀f(h1:f<x.kids.length)(h2:f<parts.length),DV j.s (r-x.pre.length-1) x.kids[f] parts[f].items parts[f].blocks){l:List Kv}{i:List Nat}(R:DV j.s (r-x.pre.length-1) d l i):
 Iy j x c d 0=(j,0,6)\/∃k m t,Iy j x c d 0=(k,m,0)/\Grown L s0 k (B++[t])/\DI j.s k.s (λ_=>True)/\m≠0/\∃A z,DV k.s r m A z/\z.Perm (t::i++AX parts)/\
  ∀q,q∈A<->q∈Cc x++Bl x.pre x.labels parts\/q∈Fa x.pre c l:=by
 have F:Jy x c d=true:=(RX _ _ _).2 ⟨G,by simpa[D6]using H,Ahl I,M⟩;have n:=qW x c d F;have S:=(Bv x).1 G;unfold Iy;rw[if_neg Θ,if_pos F];rcases O5 g n.right with u|⟨k,m,t,u,W,o,N,K,Q,p⟩
 ·exact .inl u
 ·right;obtain⟨a,w⟩:=ε (Gh x.labels c);have X:a<=x.labels.length:=w▸n.place;have V:x.labels.length=x.kids.length:=S.2.2.1;have y:=DV.mk r m (Ib x c d) (JO parts a ⟨l,i⟩) Q (by show x.pre.length<=r;omega) (λ_=>P) (by rw[OU _ _ _ O,n.Asy,J]) (λf h1 h2=>by
   have v:=JR x.kids a d O f;have e:=JR parts a ⟨l,i⟩ O f;have b:(JO x.kids a d)[f]?=some (Ib x c d).kids[f]:=(congrArg (λT=>T[f]?) (show JO x.kids a d=(Ib x c d).kids by rw[w];rfl)).trans (Ae h1);rw[Ae h2]at e;rw[v]at b;show DV k.s (r-x.pre.length-1) (Ib x c d).kids[f] _ _;have U:(Ib x c d).kids.length=x.kids.length+1:=n.Asy;by_cases C:f<a
   ·rw[if_pos C]at b e;rw[Ae O]at b e;injection b with b
    injection e with e
    rw[e];have:=(E f O O).keep g.ok o.ok p (λ_ _=>trivial);simp only[b]at this⊢
    first|exact this|(rw[<-b];exact this)
   ·rw[if_neg C]at b e;by_cases D:f=a
    ·rw[if_pos D]at b e;injection b with b
     injection e with e
     rw[e];have:=R.keep g.ok o.ok p (λ_ _=>trivial)
     first|exact b▸this|(rw[<-b];exact this)
    ·rw[if_neg D]at b e;rw[Ae O]at b e;injection b with b
     injection e with e
     rw[e];have:=(E (f-1) O O).keep g.ok o.ok p (λ_ _=>trivial)
     first|exact b▸this|(rw[<-b];exact this))
  rw[N,BU]at y;refine⟨k,m,t,u,o,p,K,_,_,y,?_,λq=>?_⟩
  ·refine List.Perm.cons _ ?_;unfold JO;rw[P5,QR parts a];show(AX (parts.take a)++(i++AX (parts.drop a))).Perm (i++(AX (parts.take a)++AX (parts.drop a)));rw[<-AV,<-AV];exact List.Perm.append_right _ List.perm_append_comm
  ·have v:Bl x.pre (JO x.labels a c) (JO parts a ⟨l,i⟩)=Bl x.pre (x.labels.take a) (parts.take a)++(Fa x.pre c l++Bl x.pre (x.labels.drop a) (parts.drop a)):=by
    unfold JO;rw[NP _ _ _ _ _ (by simp;omega)];rfl
   rw[show(Ib x c d).labels=JO x.labels a c by rw[w];rfl,show(Ib x c d).pre=x.pre from rfl,show Cc (Ib x c d)=Cc x from rfl,v,Si x.pre x.labels parts a O];simp only[AL]
   grind
def iE(x:Nd)(k:Nat)(g:k<x.pre.length):∀(parts:List Part),Fa (x.pre.take k) (x.pre.getD k 0) (Cc {x with pre:=x.pre.drop (k+1)}++Bl (x.pre.drop (k+1)) x.labels parts)=Cc x++Bl x.pre x.labels parts:=by
 have d:∀c,x.pre.take k++x.pre.getD k 0::(x.pre.drop (k+1)++c)=x.pre++c:=λc=>by
  rw[<-Cj,<-AV,Akw g]
 have f:x.pre.take k++x.pre.getD k 0::x.pre.drop (k+1)=x.pre:=by simpa using d []
 have h:∀(b:List UInt8)(a:List Part),Fa (x.pre.take k) (x.pre.getD k 0) (Bl (x.pre.drop (k+1)) b a)=Bl x.pre b a:=by
  intro b;induction b with
  |nil=>intro a;simp[Bl,Fa]
  |cons l b i=>
   intro a;cases a with
   |nil=>simp[Bl,Fa]
   |cons m a=>
    have:=i a;unfold Fa at this⊢;simp only[Bl,Dc,this];congr 1;unfold Fa;rw[List.map_map];refine GG λj _=>?_
    simp only[Function.comp_apply];rw[d]
 intro parts;have e:=h x.labels parts;unfold Fa at e⊢;rw[Dc,e];congr 1;unfold Cc
 dsimp only
 split
 ·simp only[Ci,Gv];rw[f]
 ·rfl
def Ahm(L:Nat)(s0:St)(r:Nat)(x:Nd)(parts:List Part)(rest:List UInt8)(g:UInt64)(a:Jb×UInt64×Int):Prop:=
 (a.2.2=6/\∃f,Grown L s0 a.1 f)\/
 (a.2.2=0/\∃c e d,Grown L s0 a.1 c/\a.2.1≠0/\DV a.1.s r a.2.1 e d/\d.Perm (c++AX parts)/\∀b,b∈e<->b∈Cc x++Bl x.pre x.labels parts\/b=(rest,g))
def Akx(R:Bq L s0)(a9:∀e aG,¬Eo s0 e aG){x:Nd}(am:Cf x=true){parts:List Part}(ac:parts.length=x.kids.length){r:Nat}(bg:x.pre.length<=r)(aE:x.kids≠[]->x.pre.length+1<=r)
 (Z:∀g(h1:g<x.kids.length)(h2:g<parts.length),DV s0 (r-x.pre.length-1) x.kids[g] parts[g].items parts[g].blocks){rest:List UInt8}{o:UInt64}(bh:rest.length<=r)(A:rest.all D6=true)(Q:o≠0)(a2:x.pre≠rest)
 (a3:common x.pre rest=x.pre.length->PE x.labels (rest.getD (common x.pre rest) 0)=false):Ahm L s0 r x parts rest o (QM ⟨s0,[]⟩ x rest o):=by
 have w:=Grown.start R a9;have n:=(Bv x).1 am;have bc:=Jh x.pre rest;have aL:=FM x.pre rest;have m:=Rq x.pre rest;unfold QM;by_cases s:common x.pre rest=x.pre.length
 ·rw[if_pos s];have l:x.pre.length<rest.length:=by
   rcases Nat.lt_or_ge x.pre.length rest.length with h|h
   ·exact h
   ·exfalso;refine a2 ?_;rw[s,Ny,List.take_of_length_le O]at m;exact m
  have ad:=a3 s;rw[s]at ad m⊢;rw[Ny]at m;have hcut:=Akw l;rw[<-m]at hcut;have y:D6 (rest.getD x.pre.length 0)=true:=by rw[XH l];exact Ew.1 A _ (BH _)
  have q:=Y3 (rest.length+1) w (r-x.pre.length-1) (rest.drop (x.pre.length+1)) o (by rw[AU];omega) (by rw[AU];omega) (UL _ _ _ A) Q;generalize MV (rest.length+1) ⟨s0,[]⟩ (rest.drop (x.pre.length+1)) o=S at q;obtain⟨an,u,c⟩:=S;rcases q with⟨f,C,d⟩|⟨f,k,Y,d,aa,t,ah,a4⟩
  ·simp only at f d;subst f;simp only;unfold Iy;rw[if_pos U];exact .inl ⟨rfl,C,d⟩
  ·simp only at f d aa t ah;subst f;simp only;rw[EX]at d;rcases rC (r:=r) d am ac y ad t O (λg h1 h2=>(Z g h1 h2).keep R d.ok aa (λ_ _=>trivial)) ah with c|⟨a7,ao,e,c,J,a0,M,G,F,D,N,K⟩
   ·rw[c];exact .inl ⟨rfl,_,d⟩
   ·rw[c];refine .inr ⟨rfl,k++[e],G,F,J,M,D,N.trans ?_,λB=>?_⟩
    ·rw[AV];refine List.Perm.trans (l₂:=e::(k++AX parts)) (List.Perm.cons _ (List.Perm.append_right _ a4)) ?_;exact List.perm_middle.symm
    ·rw[K B];unfold Fa;simp only[Ci,Gv,BG,hcut]
 ·rw[if_neg s];have l:common x.pre rest<x.pre.length:=O;obtain⟨b,aR⟩:=ε (common x.pre rest);have af:=Xo x.pre rest;rw[<-aR]at l m aL af⊢;have y:D6 (x.pre.getD b 0)=true:=by rw[XH l];exact Ew.1 n.2.1 _ (BH _)
  have p:(x.pre.take b).length=b:=by simp;omega
  have a1:Cf {x with pre:=x.pre.drop (b+1)}=true:=by
   rw[Bv];exact⟨by simp only[AU];omega,UL _ _ _ n.2.1,n.2.2.1,n.2.2.2.1,n.2.2.2.2.1,n.2.2.2.2.2⟩
  rcases O5 w a1 with c|⟨an,u,i,c,bd,d,aq,t,aw,az⟩
  ·rw[c];simp only;split
   ·unfold Iy;rw[if_pos U];exact .inl ⟨rfl,_,w⟩
   ·rw[if_pos U];exact .inl ⟨rfl,_,w⟩
  ·rw[c];simp only;rw[EX]at d;have E:=DV.mk (r-b-1) u {x with pre:=x.pre.drop (b+1)} parts aw (by simp only[AU];omega) (λh=>by have:=aE h;simp only[AU];omega) ac (λg h1 h2=>by
    have:=(Z g h1 h2).keep R d.ok az (λ_ _=>trivial);have aH:r-b-1-({x with pre:=x.pre.drop (b+1)}:Nd).pre.length-1=r-x.pre.length-1:=by simp only[AU];omega
    rw[aH];exact this)
   rw[aq,BU]at E;by_cases P:b=rest.length
   ·rw[if_pos P];have a6:rest=x.pre.take b:=by rw[m,P,Ny]
    obtain⟨T,V,W,_⟩:=U4 (pre:=x.pre.take b) (val:=o) (by rw[p];omega) (UK _ _ _ n.2.1) y t;unfold Iy;rw[if_neg Θ,if_pos T,V];rcases O5 d W with c|⟨a8,ao,ap,c,be,j,ar,z,aB,aD⟩
    ·rw[c];exact .inl ⟨rfl,_,d⟩
    ·rw[c];have X:=ry (r:=r) aB ar (by rw[p];omega) (by rw[p];exact E.keep d.ok j.ok aD (λ_ _=>trivial));rw[iE x b l parts,if_pos Q]at X;refine .inr ⟨rfl,[i]++[ap],_,_,j,z,X,?_,λB=>?_⟩
     ·exact(List.Perm.swap i ap _)
     ·rw[a6];simp only[Cj,EX,List.mem_cons];exact Or.comm
   ·rw[if_neg P,if_neg Θ];have v:b<rest.length:=O;obtain⟨T,V,W,_⟩:=U4 (pre:=x.pre.take b) (val:=0) (by rw[p];omega) (UK _ _ _ n.2.1) y t;rw[if_pos T,V];have av:D6 (rest.getD b 0)=true:=by rw[XH v];exact Ew.1 A _ (BH _)
    have q:=Y3 (rest.length+1) d (r-b-1) (rest.drop (b+1)) o (by rw[AU];omega) (by rw[AU];omega) (UL _ _ _ A) Q;generalize MV (rest.length+1) an (rest.drop (b+1)) o=S at q;obtain⟨a8,bb,c⟩:=S;rcases q with⟨f,C,j⟩|⟨f,k,Y,j,ab,z,al,a5⟩
    ·simp only at f j;subst f;simp only;unfold Iy;rw[if_pos U];exact .inl ⟨rfl,C,j⟩
    ·simp only at f j ab z al;subst f;simp only;have aM:PE [x.pre.getD b 0] (rest.getD b 0)=false:=by
      have h1:=af l v;unfold PE;simp only[List.any_cons,List.any_nil,Bool.or_false,beq_eq_false_iff_ne];rw[XH l,XH v];exact λc=>h1 (UInt8.toNat_inj.1 c)
     rcases rC (r:=r) (parts:=[⟨_,_⟩]) j W rfl av aM z (by rw[p];omega) (λg h1 h2=>by
      simp only[BD,Dp]at h1;have:g=0:=O;subst this;rw[show(⟨x.pre.take b,0,[x.pre.getD b 0],[u]⟩:Nd).pre.length=b from p];exact E.keep d.ok j.ok ab (λ_ _=>trivial)) (by rw[show(⟨x.pre.take b,0,[x.pre.getD b 0],[u]⟩:Nd).pre.length=b from p];exact al)with c|⟨a7,ao,e,c,J,a0,M,G,F,D,N,K⟩
     ·rw[c];exact .inl ⟨rfl,_,j⟩
     ·rw[c];refine .inr ⟨rfl,[i]++k++[e],G,F,J,M,D,N.trans ?_,λB=>?_⟩
      ·have H:AX [⟨Cc {x with pre:=x.pre.drop (b+1)}++Bl (x.pre.drop (b+1)) x.labels parts,i::AX parts⟩]=i::AX parts:=by simp[AX]
       rw[H];have ba:(e::Y++i::AX parts).Perm (e::k++i::AX parts):=List.Perm.append_right _ (List.Perm.cons _ a5);refine ba.trans ?_;have I:[i]++k++[e]++AX parts=i::(k++e::AX parts):=by simp
       rw[I];refine(Aff (a:=i) (l₁:=e::k) (l₂:=AX parts)).trans (List.Perm.cons _ ?_);exact(Aff (a:=e) (l₁:=k) (l₂:=AX parts)).symm
      ·rw[K B];have H:Cc (⟨x.pre.take b,0,[x.pre.getD b 0],[u]⟩:Nd)++Bl (x.pre.take b) [x.pre.getD b 0] [⟨Cc {x with pre:=x.pre.drop (b+1)}++Bl (x.pre.drop (b+1)) x.labels parts,i::AX parts⟩]=Cc x++Bl x.pre x.labels parts:=by
        rw[<-iE x b l parts];simp[Cc,Bl]
       rw[H];have I:x.pre.take b++rest.getD b 0::rest.drop (b+1)=rest:=by rw[m];exact Akw v
       unfold Fa;simp only[Ci,Gv,BG,I]
end
