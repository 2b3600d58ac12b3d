import Derived.Test.YtfmkofmaabgbkaaGreatDoorJ25
import Derived.Test.YtfmkofmaabgbkaaGreatDoorJ26
set_option linter.defProp false
open List renaming mem_cons_self->Bo,pairwise_cons->Ade,mem_cons->CG,mem_cons_of_mem->Bz,getElem_of_mem->Dw,append_assoc->AY,mem_append->AB,append_cancel_left->E5,mem_append_left->BH,map_cons->BM,reverse_append->VI,reverse_singleton->SS,singleton_append->U7,getElem?_eq_getElem->Ah
open UInt64 renaming ofNat->Az,toNat->NY,toNat_lt->YJ
open Int renaming toNat_natCast->BJ
open Bool renaming true->jm
namespace Go.Proofs.YtfmkofmaabgbkaaGreatDoor
def vP{k:Type}{r:k->k->Prop}(hi:∀c,¬r c c)(n:∀c e,r c e->¬r e c):∀(a b:List k),a.Pairwise r->b.Pairwise r->(∀c,c∈a<->c∈b)->a=b
 |[],[],_,_,_=>rfl
 |[],e::b,_,_,h=>absurd ((h e).2 (Bo ..)) (λh=>nomatch h)
 |c::a,[],_,_,h=>absurd ((h c).1 (Bo ..)) (λh=>nomatch h)
 |c::a,e::b,p,s,h=>by
  obtain⟨l,q⟩:=Ade.1 p;obtain⟨m,t⟩:=Ade.1 s;have d:c=e:=by
   rcases CG.1 ((h c).1 (Bo ..))with d|i
   ·exact d
   ·rcases CG.1 ((h e).2 (Bo ..))with d|o
    ·exact d.symm
    ·exact absurd (l e o) (n e c (m c i))
  subst d;refine congrArg (List.cons c) (vP hi n a b q t λg=>?_);constructor
  ·intro j;rcases CG.1 ((h g).1 (Bz _ j))with d|i
   ·subst d;exact absurd (l g j) (hi g)
   ·exact i
  ·intro j;rcases CG.1 ((h g).2 (Bz _ j))with d|i
   ·subst d;exact absurd (m g j) (hi g)
   ·exact i
section
variable{L:Nat}{s:St}{items items':List Kv}
end
def Zu{a b:List Kv}(d:UpK a)(e:UpK b)(h:∀c,c∈a<->c∈b):a=b:=
 vP (r:=λa b:Kv=>Op.bytesLess a.1 b.1=jm) (λc h=>by rw[FN]at h;cases h) (λc i h g=>by
  have:=N8 _ _ _ h g;rw[FN]at this;cases this) a b d e h
def Anx{l:List Kv}(h:UpK l){a b:Kv}(m:a∈l)(n:b∈l)(e:a.1=b.1):a=b:=by
 obtain⟨d,i,rfl⟩:=Dw m;obtain⟨g,j,rfl⟩:=Dw n;have k:=List.pairwise_iff_getElem.1 h;rcases Nat.lt_trichotomy d g with c|c|c
 ·have:=k d g i j c;rw[e,FN]at this;cases this
 ·subst c;rfl
 ·have:=k g d j i c;rw[e,FN]at this;cases this
section
variable{X:Nat->Prop}{L:Nat}{s:St}{items:List Kv}
def oN(h:Jj X L s items)(key:List UInt8)(H:key.length<=16):(∃t,GR s key=(t,0)/\(Ci key,t)∈items/\t≠0)\/(GR s key=(0,7)/\∀b∈items,b.1≠Ci key):=by
 by_cases p:s.ws 9=0
 ·have G:items=[]:=by
   rcases h.tree with⟨_,F,_⟩|⟨_,j,_⟩
   ·exact F
   ·exact absurd p j
  subst G;refine .inr ⟨?_,λ_ h=>nomatch h⟩;unfold GR ER;rw[ku O1,p,Es,jM rfl];rfl
 ·rcases h.tree with⟨j,_⟩|⟨Q,j,C,I,R,S⟩
  ·exact absurd j p
  ·obtain⟨u,c,r,z,Y,V,parts,A,B,N,P,W,J,g⟩:=around h.ok j C I key H;have m:=g.spot;have w:(u++[c]).getLast?=some c:=by simp
   have y:∀b∈items,b∈A\/b∈B\/∃l,(l,b.2)∈BZ c.nd++Bl c.nd.pre c.nd.labels parts/\b.1=z++l:=λb i=>by
    rw[m.its,AY]at i;rcases AB.1 i with a|a
    ·exact .inl a
    ·rcases AB.1 a with a|a
     ·exact .inr (.inr (Ey.1 a))
     ·exact .inr (.inl a)
   unfold GR;rw[ku O1,J];simp only;by_cases n:c.nd.pre=r
   ·have q:CV (u++[c]) r=some c:=by unfold CV;rw[w];simp only;rw[jM n]
    rw[q];simp only;have x:Ci key=z++c.nd.pre:=by rw[n];exact m.cut
    by_cases k:c.nd.val=0
    ·rw[jM k];refine .inr ⟨rfl,λb i d=>?_⟩;rcases y b i with a|a|⟨l,e,o⟩
     ·exact g.other b (.inl a) d
     ·exact g.other b (.inr a) d
     ·rcases AB.1 e with e|e
      ·exact(Fj e).2 k
      ·obtain⟨K,T,U,M,_,D⟩:=EP e;rw[o,x]at d;have v:=E5 d;have E:l=c.nd.pre++c.nd.labels[K]::M.1:=congrArg Prod.fst D;rw[E]at v;have:=congrArg List.length v;simp at this
    ·rw[ku k];refine .inl ⟨_,rfl,?_,k⟩;rw[m.its,AY];refine List.mem_append_right _ (BH _ (Ey.2 ⟨c.nd.pre,BH _ ?_,x⟩));unfold BZ;rw[jM k];exact List.mem_singleton.2 rfl
   ·have q:CV (u++[c]) r=none:=by unfold CV;rw[w];simp only;rw[ku n]
    rw[q];refine .inr ⟨rfl,λb i d=>?_⟩;rcases y b i with a|a|⟨l,e,o⟩
    ·exact g.other b (.inl a) d
    ·exact g.other b (.inr a) d
    ·rw[o,m.cut]at d;exact g.below n _ e (E5 d)
end
structure CU(L:Nat)(s:St)(items:List Kv)(ch:List UInt8->List Lk):Prop where
 ix:Jj (λo=>∃kv∈items,o∈CX (ch kv.1)) L s items
 chain:∀kv∈items,Dj s kv.2 (ch kv.1)/\kv.2≠0
 none:∀k,(∀kv∈items,kv.1≠k)->ch k=[]
 Uo:∀kv∈items,∀kv'∈items,kv.1≠kv'.1->∀o∈CX (ch kv.1),o∉CX (ch kv'.1)
def Fp(ch:List UInt8->List Lk)(k:List UInt8)(x:Lk):List UInt8->List Lk:=λa=>if a=k then x::ch a else ch a
def Ha(s:St)(stamp:UInt64)(y:Wr):St×UInt64×UInt64×Int:=
 if(GR s y.key.data.toList).2≠0/\(GR s y.key.data.toList).2≠7 then(s,0,0,(GR s y.key.data.toList).2)else
 if y.gone=jm/\(GR s y.key.data.toList).1=0 then(s,0,0,0)else
 if(MG s ⟨stamp,(GR s y.key.data.toList).1,y.gone,y.text⟩).2.2≠0 then((MG s ⟨stamp,(GR s y.key.data.toList).1,y.gone,y.text⟩).1,0,0,(MG s ⟨stamp,(GR s y.key.data.toList).1,y.gone,y.text⟩).2.2)else
 if(Qn (MG s ⟨stamp,(GR s y.key.data.toList).1,y.gone,y.text⟩).1 y.key.data.toList (MG s ⟨stamp,(GR s y.key.data.toList).1,y.gone,y.text⟩).2.1).2≠0 then
  ((FM (Qn (MG s ⟨stamp,(GR s y.key.data.toList).1,y.gone,y.text⟩).1 y.key.data.toList (MG s ⟨stamp,(GR s y.key.data.toList).1,y.gone,y.text⟩).2.1).1 (Bf (MG s ⟨stamp,(GR s y.key.data.toList).1,y.gone,y.text⟩).2.1)).1,0,0,
    (Qn (MG s ⟨stamp,(GR s y.key.data.toList).1,y.gone,y.text⟩).1 y.key.data.toList (MG s ⟨stamp,(GR s y.key.data.toList).1,y.gone,y.text⟩).2.1).2)else
 ((Qn (MG s ⟨stamp,(GR s y.key.data.toList).1,y.gone,y.text⟩).1 y.key.data.toList (MG s ⟨stamp,(GR s y.key.data.toList).1,y.gone,y.text⟩).2.1).1,(GR s y.key.data.toList).1,(MG s ⟨stamp,(GR s y.key.data.toList).1,y.gone,y.text⟩).2.1,0)
def NQ(s s':St):Prop:=s'.sh=s.sh/\∀a,a<16->a≠9->s'.ws a=s.ws a
def NQ.refl(s:St):NQ s s:=⟨rfl,λ_ _ _=>rfl⟩
def NQ.trans{s s' d:St}(h:NQ s s')(k:NQ s' d):NQ s d:=⟨k.1.trans h.1,λc a b=>(k.2 c a b).trans (h.2 c a b)⟩
def Iu.Afv{X:Nat->Prop}{s s':St}(h:Iu X s s'):NQ s s':=⟨h.sh,h.low⟩
section
variable{L:Nat}{s:St}{items:List Kv}{ch:List UInt8->List Lk}
def CU.key(h:CU L s items ch){a b:Kv}(c:a∈items)(d:b∈items)(e:a.1=b.1):a=b:=Anx h.ix.up c d e
def Afw(h:CU L s items ch){k:List UInt8}{lk:Lk}{s1 s2:St}{o:Nat}(M:lk.off=o)(W:DZ lk.rc=jm)(al:o<=65536)(ah:0<o)(V:¬∃a∈items,o∈CX (ch a.1))(Z:Dj s lk.rc.next (ch k))(X:∀ac∈ch k,ac.rc.stamp.toNat<lk.rc.stamp.toNat)
 (Q:D6 s s1 (λ_=>True))(Y:AU s1 o 1)(aa:wordsAt s1.ws (o/8) 8=Ee lk.rc){items':List Kv}(G:D6 s1 s2 (λb=>(∃a∈items,b∈CX (ch a.1))\/b=o))(ab:Jj (λb=>(∃a∈items,b∈CX (ch a.1))\/b=o) L s2 items')(i:QL items items' k (Az o)):
 CU L s2 items' (Fp ch k lk):=by
 have u:∀a∈items',(a=(k,Az o))\/(a∈items/\a.1≠k):=λa v=>(i a).1 v
 have D:(k,Az o)∈items':=(i _).2 (.inl rfl);have n:∀a∈items,a.1≠k->Fp ch k lk a.1=ch a.1:=λa _ B=>by unfold Fp;rw[ku B]
 have q:Fp ch k lk k=lk::ch k:=by unfold Fp;rw[jM rfl]
 have w:CX (lk::ch k)=o::CX (ch k):=by unfold CX;rw[BM,M,BJ]
 have E:∀b∈CX (ch k),∃a∈items,b∈CX (ch a.1):=λb F=>by
  by_cases t:∀a∈items,a.1≠k
  ·rw[h.none k t]at F;cases F
  ·obtain⟨a,g⟩:=Classical.not_forall.1 t;obtain⟨c,e⟩:=Classical.not_imp.1 g;exact⟨a,c,by rw[Classical.not_not.1 e];exact F⟩
 have U:∀a∈items,a.1=k->∀b∈CX (ch a.1),b∈CX (ch k):=λa _ d b i=>by rw[<-d];exact i
 refine⟨ab.congr λb=>?_,λa v=>?_,λP K=>?_,λy S l J I b x p=>?_⟩
 ·constructor
  ·rintro(⟨a,g,c⟩|rfl)
   ·by_cases d:a.1=k
    ·exact⟨_,D,by rw[q,w];exact Bz _ (U a g d b c)⟩
    ·exact⟨a,(i a).2 (.inr ⟨g,d⟩),by rw[n a g d];exact c⟩
   ·exact⟨_,D,by rw[q,w];exact Bo ..⟩
  ·rintro⟨a,g,c⟩;rcases u a g with rfl|⟨e,j⟩
   ·rw[q,w]at c;rcases CG.1 c with c|c
    ·exact .inr c
    ·exact .inl (E b c)
   ·rw[n a e j]at c;exact .inl ⟨a,e,c⟩
 ·rcases u a v with rfl|⟨e,j⟩
  ·rw[q];refine⟨?_,λd=>?_⟩
   ·obtain⟨t1,t2⟩:=G o 1 (.inr rfl) Y;have N:=RX (o:=o) (c:=1) t2;rw[show 8*Bd 1=8 from rfl,aa]at N;have A:=(Z.keep Q (λ_ _=>trivial)).keep G (λb i=>.inl (E b i));have:=Dj.cons o lk.rc (ch k) t1 W N A X;rw[<-M]at this;exact this
   ·have:=congrArg NY d;rw[Dy O1]at this;simp at this;omega
  ·rw[n a e j];exact⟨((h.chain a e).1.keep Q (λ_ _=>trivial)).keep G (λb i=>.inl ⟨a,e,i⟩),(h.chain a e).2⟩
 ·have B:P≠k:=λd=>K _ D d.symm
  unfold Fp;rw[ku B];refine h.none P (λa v d=>?_);exact K a ((i a).2 (.inr ⟨v,by rw[d];exact B⟩)) d
 ·have key:∀m:Kv,m∈items->m.1≠k->∀b,b∈CX (ch m.1)->b∈o::CX (ch k)->False:=λm A T b g c=>by
   rcases CG.1 c with rfl|c
   ·exact V ⟨m,A,g⟩
   ·obtain⟨a,ad,ae⟩:=E b c;by_cases t:∀a∈items,a.1≠k
    ·rw[h.none k t]at c;cases c
    ·obtain⟨a,R⟩:=Classical.not_forall.1 t;obtain⟨e,j⟩:=Classical.not_imp.1 R;have j:=Classical.not_not.1 j;exact h.Uo m A a e (by rw[j];exact T) b g (by rw[j];exact c)
  rcases u y S with rfl|⟨C,H⟩
  ·rcases u l J with rfl|⟨r,z⟩
   ·exact I rfl
   ·rw[q,w]at x;rw[n l r z]at p;exact key l r z b p x
  ·rw[n y C H]at x;rcases u l J with rfl|⟨r,z⟩
   ·rw[q,w]at p;exact key y C H b x p
   ·rw[n l r z]at p;exact h.Uo y C l r I b x p
def CU.keep(h:CU L s items ch){s':St}(k:D6 s s' (λb=>∃kv∈items,b∈CX (ch kv.1)))(ix:Jj (λb=>∃kv∈items,b∈CX (ch kv.1)) L s' items):CU L s' items ch:=
 ⟨ix,λkv a=>⟨(h.chain kv a).1.keep k (λ_ c=>⟨kv,a,c⟩),(h.chain kv a).2⟩,h.none,h.Uo⟩
def Anz(L:Nat)(s:St)(items:List Kv)(ch:List UInt8->List Lk)(stamp:UInt64)(y:Wr)(r:St×UInt64×UInt64×Int):Prop:=
 NQ s r.1/\((r.2=(0,0,6)/\CU L r.1 items ch)\/
  (r=(s,0,0,0)/\y.gone=jm/\∀c∈items,c.1≠Ci y.key.data.toList)\/
  (∃a b items',r.2=(b,Az a,0)/\0<a/\a<=65536/\((b=0/\y.gone=false/\∀c∈items,c.1≠Ci y.key.data.toList)\/(b≠0/\(Ci y.key.data.toList,b)∈items))/\
   CU L r.1 items' (Fp ch (Ci y.key.data.toList) ⟨a,⟨stamp,b,y.gone,y.text⟩⟩)/\QL items items' (Ci y.key.data.toList) (Az a)))
def vS(h:CU L s items ch)(stamp:UInt64)(y:Wr)(hy:Du y=jm)(R:stamp.toNat≠0)(S:∀al∈ch (Ci y.key.data.toList),al.rc.stamp.toNat<stamp.toNat):Anz L s items ch stamp y (Ha s stamp y):=by
 have o:y.key.data.toList.length<=16/\y.text.size<=40/\(y.gone=jm->y.text.size=0):=by
  unfold Du at hy;simp only[Bool.and_eq_true,decide_eq_true_eq,Bool.or_eq_true,Bool.not_eq_true']at hy;exact⟨hy.1.1,hy.1.2,λt=>hy.2.resolve_left (by rw[t];simp)⟩
 have M:∃b a,GR s y.key.data.toList=(b,a)/\¬(a≠0/\a≠7)/\((b=0/\∀w∈items,w.1≠Ci y.key.data.toList)\/(b≠0/\(Ci y.key.data.toList,b)∈items))/\Dj s b (ch (Ci y.key.data.toList)):=by
  rcases oN h.ix y.key.data.toList o.1 with⟨b,a,A,W⟩|⟨a,B⟩
  ·exact⟨b,0,a,by simp,.inr ⟨W,A⟩,(h.chain _ A).1⟩
  ·exact⟨0,7,a,by simp,.inl ⟨rfl,B⟩,by rw[h.none _ B];exact .nil⟩
 obtain⟨b,a,t,K,z,J⟩:=M;unfold Ha;rw[t];simp only;rw[ku K];by_cases m:y.gone=jm/\b=0
 ·rw[jM m];exact⟨NQ.refl s,.inr (.inl ⟨rfl,m.1,(z.resolve_right (λh=>h.1 m.2)).2⟩)⟩
 ·rw[ku m];have E:DZ ⟨stamp,b,y.gone,y.text⟩=true:=(KQ _).2 ⟨R,o.2.1,o.2.2⟩;rcases Aj1 h.ix ⟨stamp,b,y.gone,y.text⟩ E with r|⟨G,d,r,_,ao,u,D,C,V,X,Y,F,am,H⟩
  ·rw[r];simp only;rw[jM U];exact⟨NQ.refl s,.inl ⟨rfl,h⟩⟩
  ·rw[r];simp only;rw[ku Θ];have Q:Az d≠0:=λa=>by
    have:=congrArg NY a;rw[Dy O1]at this;simp at this;omega
   have x:NQ s G:=⟨am,λg e _=>H g e⟩;obtain⟨i,v⟩:=dQ Y y.key.data.toList o.1 (Az d) Q;generalize Qn G y.key.data.toList (Az d)=ac at i v;obtain⟨ap,an⟩:=ac;simp only at i v⊢;rcases v with⟨rfl,p,_⟩|⟨rfl,items',p,n⟩
   ·rw[jM U];obtain⟨ad,I,Z,aa,ae,ah⟩:=oI p (o:=d) (.inr rfl);have P:Bf (Az d)=d:=Jv O1;rw[P,I];refine⟨(x.trans i.Afv).trans ⟨ae,λg e _=>ah g e⟩,.inl ⟨rfl,?_⟩⟩;have ab:D6 s ad (λj=>∃w∈items,j∈CX (ch w.1)):=λj q n T=>by
     obtain⟨u1,u2⟩:=F j q trivial T;obtain⟨u3,u4⟩:=i.keep j q (.inl n) u1;obtain⟨u5,u6⟩:=aa j q (λa=>u (a▸n)) u3;exact⟨u5,λg e=>((u6 g e).trans (u4 g e)).trans (u2 g e)⟩
    refine h.keep ab (Z.congr λj=>?_);constructor
    ·rintro⟨c|c,l⟩
     ·exact c
     ·exact absurd c l
    ·exact λc=>⟨.inl c,λa=>u (a▸c)⟩
   ·rw[ku Θ];refine⟨x.trans i.Afv,.inr (.inr ⟨d,b,items',rfl,C,D,?_,?_,n⟩)⟩
    ·rcases z with⟨c,l⟩|⟨c,l⟩
     ·exact .inl ⟨c,by cases N:y.gone with
       |false=>rfl
       |true=>exact absurd ⟨N,c⟩ m,l⟩
     ·exact .inr ⟨c,l⟩
    ·exact Afw h (k:=Ci y.key.data.toList) (lk:=⟨d,⟨stamp,b,y.gone,y.text⟩⟩) rfl E D C u J S F V X i.keep p n
end
section
variable{L:Nat}{s:St}{items items':List Kv}{ch:List UInt8->List Lk}
def eG{s:St}{L:Nat}(b:BG L s){v:UInt64}{k:Lk}{l:List Lk}(h:Dj s v (k::l)):∃a:Nat,k.off=a/\v=Az a/\AU s a 1/\DZ k.rc=jm/\wordsAt s.ws (a/8) 8=Ee k.rc/\Dj s k.rc.next l/\(∀j∈l,j.rc.stamp.toNat<k.rc.stamp.toNat)/\0<a/\a<=65536:=by
 cases h with
 |cons a p l c e i d g=>
  have o:=c.bounds b;have m:=b.sh.OI;have n:=b.L1;exact⟨a,rfl,rfl,c,e,i,d,g,O1,O1⟩
def Pj(s:St)(key:List UInt8)(v:UInt64):St×Int:=if v=0 then((Qo s key).1,(Qo s key).2.2)else Qn s key v
def XR{s0:St}(m:CU L s0 items ch){key:ByteArray}(W:key.size<=16){lk:Lk}{o:Nat}(aa:lk.off=o)(j:QL items items' (Ci key.data.toList) (Az o))(h:CU L s items' (Fp ch (Ci key.data.toList) lk))
 (z:(lk.rc.next=0/\∀a∈items,a.1≠Ci key.data.toList)\/(lk.rc.next≠0/\(Ci key.data.toList,lk.rc.next)∈items)):
 ∃k t,Pj s key.data.toList lk.rc.next=(k,0)/\FM k o=(t,0)/\CU L t items ch/\NQ s t:=by
 have K:key.data.toList.length<=16:=W;obtain⟨e,v⟩:=ε (Ci key.data.toList);rw[<-v]at j h z;have r:(e,Az o)∈items':=(j _).2 (.inl rfl);have y:Fp ch e lk e=lk::ch e:=by unfold Fp;rw[jM rfl]
 have B:∀D,D≠e->Fp ch e lk D=ch D:=λD Y=>by unfold Fp;rw[ku Y]
 have x:CX (lk::ch e)=o::CX (ch e):=by unfold CX;rw[BM,aa,BJ]
 have G:=(h.chain _ r).1;simp only[y]at G;obtain⟨ar,aq,_,_,_,_,Z,_,_,_⟩:=eG h.ix.ok G;have M:=G.nodup.1;rw[x]at M;obtain⟨X,_⟩:=List.nodup_cons.1 M;have N:∀b,(∃a∈items,b∈CX (ch a.1))->(∃a∈items',b∈CX (Fp ch e lk a.1))/\b≠o:=λb⟨a,i,d⟩=>by
  by_cases c:a.1=e
  ·rw[c]at d;exact⟨⟨_,r,by rw[y,x];exact Bz _ d⟩,λu=>X (u▸d)⟩
  ·refine⟨⟨a,(j a).2 (.inr ⟨i,c⟩),by rw[B _ c];exact d⟩,λu=>?_⟩;subst u;exact h.Uo _ r a ((j a).2 (.inr ⟨i,c⟩)) (λQ=>c Q.symm) b (by rw[y,x];exact Bo ..) (by rw[B _ c];exact d)
 have ac:∀b,(∃a∈items',b∈CX (Fp ch e lk a.1))/\b≠o->∃a∈items,b∈CX (ch a.1):=λb⟨⟨a,i,d⟩,R⟩=>by
  rcases(j a).1 i with rfl|⟨S,T⟩
  ·rw[y,x]at d;have d:=(CG.1 d).resolve_left R;rcases z with⟨l,g⟩|⟨l,g⟩
   ·rw[m.none e g]at d;cases d
   ·exact⟨_,g,d⟩
  ·rw[B _ T]at d;exact⟨a,S,d⟩
 have V:∃k,Pj s key.data.toList lk.rc.next=(k,0)/\Iu (λb=>∃a∈items',b∈CX (Fp ch e lk a.1)) s k/\Jj (λb=>∃a∈items',b∈CX (Fp ch e lk a.1)) L k items:=by
  unfold Pj;rcases z with⟨l,g⟩|⟨l,g⟩
  ·rw[jM l];rcases oJ h.ix key.data.toList K with⟨c,H⟩|⟨n,c,ap,F,q,hcut⟩
   ·exact absurd v (H _ r)
   ·refine⟨(Qo s key.data.toList).1,by rw[c],n,?_⟩;have:F=items:=Zu q.up m.ix.up (λp=>by
     rw[hcut p,j p,<-v];constructor
     ·rintro⟨rfl|⟨i,_⟩,d⟩
      ·exact absurd rfl d
      ·exact i
     ·exact λi=>⟨.inr ⟨i,g p i⟩,g p i⟩)
    rw[<-this];exact q
  ·rw[ku l];obtain⟨n,I⟩:=dQ h.ix key.data.toList K lk.rc.next l;generalize Qn s key.data.toList lk.rc.next=ao at n I;obtain⟨k,c⟩:=ao;simp only at n I;rcases I with⟨_,_,H⟩|⟨rfl,F,q,ab⟩
   ·exact absurd v (H _ r)
   ·refine⟨k,rfl,n,?_⟩;have:F=items:=Zu q.up m.ix.up (λp=>by
     rw[ab p,j p,<-v];constructor
     ·rintro(rfl|⟨rfl|⟨i,_⟩,d⟩)
      ·exact g
      ·exact absurd rfl d
      ·exact i
     ·intro i;by_cases c:p.1=e
      ·exact .inl (m.key i g c)
      ·exact .inr ⟨.inr ⟨i,c⟩,c⟩)
    rw[<-this];exact q
 obtain⟨k,P,n,ah⟩:=V;obtain⟨t,u,q,al,O1,an⟩:=oI ah (o:=o) ⟨_,r,by rw[y,x];exact Bo ..⟩;have am:∀E:Nat->Prop,(∀b,E b->∃a∈items,b∈CX (ch a.1))->D6 s t E:=λE U b J j ad=>by
  obtain⟨l,g⟩:=N b (U b j);obtain⟨u1,u2⟩:=n.keep b J l ad;obtain⟨u3,u4⟩:=al b J g u1;exact⟨u3,λC A=>(u4 C A).trans (u2 C A)⟩
 refine⟨k,t,P,u,⟨q.congr λb=>⟨ac b,N b⟩,λa w=>⟨?_,(m.chain a w).2⟩,m.none,m.Uo⟩,n.Afv.trans ⟨O1,λC A _=>an C A⟩⟩;refine Dj.keep (s:=s) ?_ (am _ (λ_ h=>h)) (λb j=>⟨a,w,j⟩);by_cases c:a.1=e
 ·have ae:a.2=lk.rc.next:=by
   rcases z with⟨_,g⟩|⟨_,g⟩
   ·exact absurd c (g a w)
   ·exact congrArg Prod.snd (m.key w g c)
  rw[ae,c];exact Z
 ·have:=(h.chain a ((j a).2 (.inr ⟨w,c⟩))).1;rw[B _ c]at this;exact this
abbrev Past:=ByteArray×UInt64×UInt64
def MX(s:St):List Past->St
 |[]=>s
 |(key,a,b)::l=>if b=0 then MX s l else if(Pj s key.data.toList a).2≠0 then(Pj s key.data.toList a).1 else MX (FM (Pj s key.data.toList a).1 (Bf b)).1 l
inductive Hist(L:Nat)(items:List Kv)(ch:List UInt8->List Lk)(stamp:UInt64):List Past->List Kv->(List UInt8->List Lk)->Prop
 |nil:Hist L items ch stamp [] items ch
 |skip{l:List Past}{it:List Kv}{c:List UInt8->List Lk}(key:ByteArray):Hist L items ch stamp l it c->Hist L items ch stamp (l++[(key,0,0)]) it c
 |add{l:List Past}{it it':List Kv}{c:List UInt8->List Lk}{key:ByteArray}{lk:Lk}{o:Nat}{s0:St}:Hist L items ch stamp l it c->CU L s0 it c->key.size<=16->lk.off=o->0<o->o<=65536->QL it it' (Ci key.data.toList) (Az o)->
  ((lk.rc.next=0/\∀kv∈it,kv.1≠Ci key.data.toList)\/(lk.rc.next≠0/\(Ci key.data.toList,lk.rc.next)∈it))->lk.rc.stamp=stamp->Hist L items ch stamp (l++[(key,lk.rc.next,Az o)]) it' (Fp c (Ci key.data.toList) lk)
def An0{w:UInt64}{l:List Past}{it:List Kv}{c:List UInt8->List Lk}(h:Hist L items ch w l it c):∀{s:St},CU L s it c->CU L (MX s l.reverse) items ch/\NQ s (MX s l.reverse):=by
 induction h with
 |nil=>exact λa=>⟨a,NQ.refl _⟩
 |skip key _ b=>
  intro s a;rw[VI,SS,U7,MX,jM rfl];exact b a
 |add _ k o r x m t n _ b=>
  intro s a;rename_i v _ _ _;obtain⟨y,z,e,g,u,p⟩:=XR k o r t a n;have q:Az v≠0:=λd=>by
   have:=congrArg NY d;rw[Dy O1]at this;simp at this;omega
  rw[VI,SS,U7,MX,ku q,e];simp only;rw[ku Θ,Jv m,g];obtain⟨i,j⟩:=b u;exact⟨i,p.trans j⟩
end
def Dj.len{s:St}{v:UInt64}{l:List Lk}(h:Dj s v l):∀a:Nat,(∀k∈l,k.rc.stamp.toNat<a)->l.length<=a:=by
 induction h with
 |nil=>intro a _;exact Nat.zero_le _
 |cons o r l _ _ _ _ c d=>
  intro a b;have e:=d r.stamp.toNat c;have g:r.stamp.toNat<a:=b _ (Bo ..);rw[List.length_cons];omega
def Dj.listed{L:Nat}{s:St}(a:BG L s){v:UInt64}{l:List Lk}(h:Dj s v l):IE s v=some l:=by
 have:=h.list a 18446744073709551618 [] (Nat.lt_of_le_of_lt (h.len 18446744073709551616 (λk _=>YJ _)) U) (λk _=>YJ _);rw[List.nil_append]at this;exact this
structure Aj6 where
 s:St
 done:List Past
 over:Bool
 end_:Int
def NU(stamp:UInt64)(set:List Wr)(j:Aj6):Aj6×Bool×Int:=
 if j.over=jm then(j,jm,j.end_)else
 match set[j.done.length]? with
 |some a=>if(Ha j.s stamp a).2.2.2≠0 then(⟨MX (Ha j.s stamp a).1 j.done.reverse,j.done,jm,(Ha j.s stamp a).2.2.2⟩,jm,(Ha j.s stamp a).2.2.2)else
  (⟨(Ha j.s stamp a).1,j.done++[(a.key,(Ha j.s stamp a).2.1,(Ha j.s stamp a).2.2.1)],false,0⟩,false,0)
 |none=>(⟨{j.s with ws:=Dt j.s.ws 8 stamp},j.done,jm,0⟩,jm,0)
section
variable{L:Nat}{s:St}{items:List Kv}{ch:List UInt8->List Lk}
def CU.slot(h:CU L s items ch)(v:UInt64):CU L {s with ws:=Dt s.ws 8 v} items ch:=by
 have d:∀a,16<=a->Dt s.ws 8 v a=s.ws a:=λa b=>by unfold Dt;rw[ku O1]
 have g:BG L {s with ws:=Dt s.ws 8 v}:=h.ix.ok.words (λj _=>d _ O1);have e:D6 s {s with ws:=Dt s.ws 8 v} (λ_=>True):=λo i _ c=>⟨c,λa b=>d a (Ω (h.ix.ok.D5 (c.bounds h.ix.ok).1 b))⟩
 exact h.keep (e.mono (λ_ _=>trivial)) (h.ix.same g h.ix.nh (λ_=>Iff.rfl) e (by show Dt s.ws 8 v 9=_;unfold Dt;rw[ku U]))
def Aj7{a b:List UInt8}(h:Ci a=Ci b):a=b:=by rw[<-UZ a,h,UZ]
structure Ac1(L:Nat)(s0:St)(items:List Kv)(ch:List UInt8->List Lk)(stamp:UInt64)(set:List Wr)(j:Aj6):Prop where
 it:∃it c,Hist L items ch stamp j.done it c/\CU L j.s it c/\(∀i,j.done.length<=i->∀y,set[i]?=some y->c (Ci y.key.data.toList)=ch (Ci y.key.data.toList))/\(∀k,∀x∈c k,x.rc.stamp.toNat<=stamp.toNat)
 low:NQ s0 j.s
 len:j.done.length<=set.length
 run:j.over=false/\j.end_=0
def Afx(h:CU L s items ch)(stamp:UInt64)(set:List Wr)(c:∀a,∀b∈ch a,b.rc.stamp.toNat<stamp.toNat):Ac1 L s items ch stamp set ⟨s,[],false,0⟩:=
 ⟨⟨items,ch,.nil,h,λ_ _ _ _=>rfl,λa b d=>Nat.le_of_lt (c a b d)⟩,NQ.refl s,Nat.zero_le _,rfl,rfl⟩
def step_ok{s0:St}{stamp:UInt64}{set:List Wr}{j:Aj6}(h:Ac1 L s0 items ch stamp set j)(Q:∀b∈set,Du b=jm)(V:WA set)(S:stamp.toNat≠0)(U:∀l,∀e∈ch l,e.rc.stamp.toNat<stamp.toNat):
 (j.done.length<set.length/\(NU stamp set j).2=(false,0)/\(NU stamp set j).1.done.length=j.done.length+1/\Ac1 L s0 items ch stamp set (NU stamp set j).1)\/
 (j.done.length<set.length/\(NU stamp set j).2=(jm,6)/\(NU stamp set j).1.over=jm/\CU L (NU stamp set j).1.s items ch/\NQ s0 (NU stamp set j).1.s)\/
 (j.done.length=set.length/\(NU stamp set j).2=(jm,0)/\(NU stamp set j).1.over=jm/\(NU stamp set j).1.s.ws 8=stamp/\(NU stamp set j).1.s.sh=s0.sh/\(∀a,a<16->a≠8->a≠9->(NU stamp set j).1.s.ws a=s0.ws a)/\∃v m,CU L (NU stamp set j).1.s v m/\∀l,∀e∈m l,e.rc.stamp.toNat<=stamp.toNat):=by
 obtain⟨⟨v,m,z,q,y,p⟩,o,ad,R,ab⟩:=h;unfold NU;rw[ku (by rw[R];decide)];by_cases k:j.done.length<set.length
 ·rw[Ah k];simp only;obtain⟨b,t⟩:=ε (set[j.done.length]);rw[<-t];have u:Du b=true:=Q b (t▸List.getElem_mem k);have X:b.key.size<=16:=by
   unfold Du at u;simp only[Bool.and_eq_true,decide_eq_true_eq]at u;exact u.1.1
  have H:=y j.done.length (Nat.le_refl _) b (by rw[t];exact Ah k);have N:∀a,j.done.length+1<=a->∀g,set[a]?=some g->Ci g.key.data.toList≠Ci b.key.data.toList:=λa n g d i=>by
   obtain⟨J,d⟩:=List.getElem?_eq_some_iff.1 d;have:=V.lt k J n;rw[d,<-t]at this;unfold Gp at this;rw[ByteArray.toList_eq,ByteArray.toList_eq,Aj7 i,FN]at this;cases this
  obtain⟨A,W⟩:=vS q stamp b u S (λe c=>by rw[H]at c;exact U _ e c);rcases W with⟨i,r⟩|⟨i,ac,ae⟩|⟨Z,aa,Y,i,K,M,G,r,P⟩
  ·right;left;have B:(Ha j.s stamp b).2.2.2=6:=by rw[i]
   rw[jM (by rw[B];decide),B];obtain⟨w,x⟩:=An0 z r;exact⟨k,rfl,rfl,w,(o.trans A).trans x⟩
  ·left;rw[i];rw[ku Θ];refine⟨k,rfl,by simp,⟨⟨v,m,.skip b.key z,q,λa n g d=>y a (by simp at n;omega) g d,p⟩,o,by simp;omega,rfl,rfl⟩⟩
  ·left;obtain⟨s',T⟩:=ε ((Ha j.s stamp b).1);rw[<-T]at A r⊢;rw[i];rw[ku Θ];refine⟨k,rfl,by simp,⟨⟨Y,_,Hist.add (lk:=⟨Z,⟨stamp,aa,b.gone,b.text⟩⟩) z q X rfl K M P ?_ rfl,r,λa n g d=>?_,λl e c=>?_⟩,o.trans A,by simp;omega,rfl,rfl⟩⟩
   ·rcases G with⟨w,_,x⟩|C
    ·exact .inl ⟨w,x⟩
    ·exact .inr C
   ·have I:j.done.length+1<=a:=by simpa using n
    unfold Fp;rw[ku (N a I g d)];exact y a O1 g d
   ·unfold Fp at c;split at c
    ·rcases CG.1 c with rfl|c
     ·exact Nat.le_refl _
     ·exact p l e c
    ·exact p l e c
 ·right;right;rw[List.getElem?_eq_none O1];refine⟨O1,rfl,rfl,by show Dt j.s.ws 8 stamp 8=_;unfold Dt;rw[jM rfl],o.1,λa D E F=>?_,v,m,q.slot stamp,p⟩;show Dt j.s.ws 8 stamp a=_;unfold Dt;rw[ku E];exact o.2 a D F
end
def Dj.Au1{s:St}{v:UInt64}{l:List Lk}(h:Dj s v l):l.map (·.off)=(CX l).map Int.ofNat:=by
 induction h with
 |nil=>rfl
 |cons o r l _ _ _ _ _ a=>
  unfold CX at a⊢;rw[BM,BM,BM,a];rfl
section
variable{L:Nat}{s:St}{items:List Kv}{ch:List UInt8->List Lk}
end
structure E8(Y:Nat->Prop)(L:Nat)(s:St)(items:List Kv)(ch:List UInt8->List Lk):Prop where
 ix:Jj (λo=>(∃kv∈items,o∈CX (ch kv.1))\/Y o) L s items
 chain:∀kv∈items,Dj s kv.2 (ch kv.1)/\kv.2≠0
 none:∀k,(∀kv∈items,kv.1≠k)->ch k=[]
 Uo:∀kv∈items,∀kv'∈items,kv.1≠kv'.1->∀o∈CX (ch kv.1),o∉CX (ch kv'.1)
 loose:∀kv∈items,∀o∈CX (ch kv.1),¬Y o
section
variable{Y:Nat->Prop}{L:Nat}{s:St}{items:List Kv}{ch:List UInt8->List Lk}
def CU.y(h:CU L s items ch):E8 (λ_=>False) L s items ch:=
 ⟨h.ix.congr (λ_=>⟨.inl,λh=>h.elim id False.elim⟩),h.chain,h.none,h.Uo,λ_ _ _ _ h=>h⟩
def E8.ok(h:E8 Y L s items ch)(a:∀o,¬Y o):CU L s items ch:=
 ⟨h.ix.congr (λo=>⟨λh=>h.resolve_right (a o),.inl⟩),h.chain,h.none,h.Uo⟩
def E8.drop(h:E8 Y L s items ch){o:Nat}(k:Y o):∃d,FM s o=(d,0)/\E8 (λa=>Y a/\a≠o) L d items ch/\d.sh=s.sh/\∀i,i<16->d.ws i=s.ws i:=by
 obtain⟨d,p,l,r,m,t⟩:=oI h.ix (o:=o) (.inr k);have j:∀kv∈items,∀a∈CX (ch kv.1),a≠o:=λkv b a c n=>h.loose kv b a c (n▸k)
 refine⟨d,p,⟨l.congr (λa=>?_),λkv b=>⟨(h.chain kv b).1.keep r (λa c=>j kv b a c),(h.chain kv b).2⟩,h.none,h.Uo,λkv b a c q=>h.loose kv b a c q.1⟩,m,t⟩;constructor
 ·rintro⟨e|e,g⟩
  ·exact .inl e
  ·exact .inr ⟨e,g⟩
 ·rintro(⟨kv,b,c⟩|⟨e,g⟩)
  ·exact⟨.inl ⟨kv,b,c⟩,j kv b a c⟩
  ·exact⟨.inr e,g⟩
def E8.congr{Z:Nat->Prop}(h:E8 Y L s items ch)(a:∀o,Y o<->Z o):E8 Z L s items ch:=
 ⟨h.ix.congr (λo=>or_congr Iff.rfl (a o)),h.chain,h.none,h.Uo,λkv c o d b=>h.loose kv c o d ((a o).2 b)⟩
def E8.again{s':St}{Z:Nat->Prop}(h:E8 Y L s items ch)(t:BG L s')(z:∀o a,¬Ej s' o a)(p:D6 s s' (λ_=>True))(m:s'.ws 9=s.ws 9)(g:∀o,Z o<->(∃a,AU s' o a)/\((∃a,AU s o a)->Y o)):E8 Z L s' items ch:=by
 have n:∀kv∈items,∀o∈CX (ch kv.1),∃a,AU s o a:=λkv c o b=>by
  rcases h.ix.tree with⟨_,_,e⟩|⟨_,_,_,_,_,e⟩
  ·exact(e o).2 (.inl ⟨kv,c,b⟩)
  ·exact(e o).2 (.inr (.inl ⟨kv,c,b⟩))
 have q:∀o,(∃a,AU s o a)->∃a,AU s' o a:=λo⟨a,x⟩=>⟨a,(p o a trivial x).1⟩
 refine⟨⟨t,z,?_,h.ix.even⟩,λkv c=>⟨(h.chain kv c).1.keep p (λ_ _=>trivial),(h.chain kv c).2⟩,h.none,h.Uo,λkv c o b i=>h.loose kv c o b (((g o).1 i).2 (n kv c o b))⟩;rcases h.ix.tree with⟨l,w,e⟩|⟨v,l,u,y,r,e⟩
 ·refine .inl ⟨m.trans l,w,λo=>?_⟩;constructor
  ·intro k;by_cases j:∃a,AU s o a
   ·rcases(e o).1 j with d|d
    ·exact .inl d
    ·exact .inr ((g o).2 ⟨k,λ_=>d⟩)
   ·exact .inr ((g o).2 ⟨k,λh=>absurd h j⟩)
  ·rintro(⟨kv,c,b⟩|i)
   ·exact q o (n kv c o b)
   ·exact((g o).1 i).1
 ·refine .inr ⟨v,by rw[m];exact l,?_,y,λo b=>?_,λo=>?_⟩
  ·rw[m];exact u.keep h.ix.ok t p (λ_ _=>trivial)
  ·rintro(⟨kv,c,d⟩|i)
   ·exact r o b (.inl ⟨kv,c,d⟩)
   ·exact r o b (.inr (((g o).1 i).2 ((e o).2 (.inl b))))
  ·constructor
   ·intro k;by_cases j:∃a,AU s o a
    ·rcases(e o).1 j with d|d|d
     ·exact .inl d
     ·exact .inr (.inl d)
     ·exact .inr (.inr ((g o).2 ⟨k,λ_=>d⟩))
    ·exact .inr (.inr ((g o).2 ⟨k,λh=>absurd h j⟩))
   ·rintro(b|⟨kv,c,b⟩|i)
    ·exact q o ((e o).2 (.inl b))
    ·exact q o (n kv c o b)
    ·exact((g o).1 i).1
end
section
variable{X Y:Nat->Prop}{L:Nat}{s:St}{items:List Kv}{ch:List UInt8->List Lk}
end
structure Loose(L:Nat)(s0 s:St)(Y:Nat->Prop)(items:List Kv)(ch:List UInt8->List Lk):Prop where
 sto:E8 Y L s items ch
 sh:s.sh=s0.sh
 low:∀j,j<16->s.ws j=s0.ws j
 tk:∀o,(∃d,AU s0 o d)<->(∃d,AU s o d)/\¬Y o
section
variable{Y:Nat->Prop}{L:Nat}{s0 s s':St}{items:List Kv}{ch:List UInt8->List Lk}
end
def Aq8{L:Nat}{sh:Sh}(a:L<=1024)(b:shapeOf L=some sh):CU L (st0 sh) [] (λ_=>[]):=
 ⟨(Aq6 a b).congr (λ_=>⟨λh=>h.elim,λ⟨_,h,_⟩=>(nomatch h)⟩),(λ_ h=>(nomatch h)),(λ_ _=>rfl),(λ_ h=>(nomatch h))⟩
