import Derived.Test.YtekhjimghoibfaaGreatDoorI21
import Derived.Test.YtekhjimghoibfaaGreatDoorI22
set_option linter.defProp false
open List renaming mem_cons_self->BA,pairwise_cons->OB,mem_cons->Ea,mem_cons_of_mem->BO,mem_range->DY,mem_map->BM,pairwise_map->Jf,range->DW,length_range->VU,getElem_of_mem->Cm,append_assoc->AV,mem_append->AL,append_cancel_left->ED,mem_append_left->BJ,mem_singleton->BG,map_cons->Ci,reverse_append->UG,reverse_singleton->Rn,singleton_append->TA,getElem?_eq_getElem->Ae,nodup_append->CJ,mem_flatten->QW,mergeSort_perm->Gp,pairwise_mergeSort->mQ,pairwise_and_iff->uC,map_flatten->Afh,map_map->Io,map_congr_left->GG,map_append->Dc,length_map->BX,length_append->AY,length_flatten->zK,ext_getElem->EC,replicate->BC,getD_eq_getElem?_getD->Bo
open UInt64 renaming ofNat->Aj,toNat->NH,toNat_lt->XX
open Int renaming toNat_natCast->BU,ofNat->BZ
namespace Go.Proofs.YtekhjimghoibfaaGreatDoor
def V9{j:Type}{r:j->j->Prop}(hi:∀c,¬r c c)(m:∀c e,r c e->¬r e c):∀(a b:List j),a.Pairwise r->b.Pairwise r->(∀c,c∈a<->c∈b)->a=b
 |[],[],_,_,_=>rfl
 |[],e::b,_,_,h=>absurd ((h e).2 (BA ..)) (λh=>nomatch h)
 |c::a,[],_,_,h=>absurd ((h c).1 (BA ..)) (λh=>nomatch h)
 |c::a,e::b,o,q,h=>by
  obtain⟨k,p⟩:=OB.1 o;obtain⟨l,s⟩:=OB.1 q;have d:c=e:=by
   rcases Ea.1 ((h c).1 (BA ..))with d|g
   ·exact d
   ·rcases Ea.1 ((h e).2 (BA ..))with d|n
    ·exact d.symm
    ·exact absurd (k e n) (m e c (l c g))
  subst d;refine congrArg (List.cons c) (V9 hi m a b p s λf=>?_);constructor
  ·intro i;rcases Ea.1 ((h f).1 (BO _ i))with d|g
   ·subst d;exact absurd (k f i) (hi f)
   ·exact g
  ·intro i;rcases Ea.1 ((h f).2 (BO _ i))with d|g
   ·subst d;exact absurd (l f i) (hi f)
   ·exact g
section
variable{l:List It}{key:ByteArray}
end
section
variable{L:Nat}{s:St}{items items':List Kv}
def Qa{w:Nat}{a:Nat}(d:OkW w):a∈IZ w<->EH w a=true:=by
 unfold IZ;rw[List.mem_filter,DY];refine⟨λh=>h.2,λh=>⟨?_,h⟩⟩;obtain⟨e,c,b,_⟩:=d.Px h;rw[c.class];exact b
def Lc(c:Bq L s)(o:Nat):o∈En s<->∃f,AO s o f:=by
 unfold En;rw[List.mem_flatMap];constructor
 ·rintro⟨b,a,g⟩;rw[DY,c.OA]at a;obtain⟨d,e,rfl⟩:=BM.1 g;exact⟨_,b,d,a,(Qa (c.tk b a)).1 e,rfl,rfl⟩
 ·rintro⟨f,b,d,a,e,rfl,rfl⟩;exact⟨b,by rw[DY,c.OA];exact a,BM.2 ⟨d,(Qa (c.tk b a)).2 e,rfl⟩⟩
def Ah0(w:Nat):(IZ w).Pairwise (·<·):=by
 unfold IZ;exact List.Pairwise.filter _ List.pairwise_lt_range
def QI(e:Bq L s):(En s).Pairwise (·<·):=by
 unfold En;rw[List.flatMap_def,List.pairwise_flatten];refine⟨λl q=>?_,?_⟩
 ·obtain⟨i,c,rfl⟩:=BM.1 q;rw[DY,e.OA]at c;rw[Jf];refine(Ah0 (GU s i)).imp_of_mem λ{a b}f n m=>?_
  obtain⟨j,d,_,_⟩:=(e.tk i c).Px ((Qa (e.tk i c)).1 f);have o:0<64*Bf (Bc (GU s i)):=by
   rw[d.class];have:=(FD d.cls).2.1;omega
  unfold CY;have:=Nat.mul_lt_mul_of_pos_left m o;omega
 ·rw[Jf];refine List.pairwise_lt_range.imp_of_mem λ{i g}c p w x r y t=>?_
  rw[DY,e.OA]at c p;obtain⟨a,f,rfl⟩:=BM.1 r;obtain⟨b,n,rfl⟩:=BM.1 t;obtain⟨j,d,k,_⟩:=(e.tk i c).Px ((Qa (e.tk i c)).1 f);rw[d.class];have:=(Nk (sh:=s.sh) (i:=i) d.cls k).2;have u:s.sh.data+1024*g<=CY s.sh g (Bc (GU s g)) b:=by unfold CY;omega
  have v:=(FD d.cls).2.1;omega
end
def Aa3{L:Nat}{s:St}(c:Bq L s):(En s).length<=65537:=by
 have f:(En s).Nodup:=(QI c).imp (λ{a b}k=>O);have e:=JS (En s) (DW 65537) f (λi g=>by
  obtain⟨j,d⟩:=(Lc c i).1 g;have:=(d.bounds c).2.1;have:=c.L1;exact DY.2 O)
 rwa [VU]at e
def VA{a b:List Kv}(d:yC a)(e:yC b)(h:∀c,c∈a<->c∈b):a=b:=
 V9 (r:=λa b:Kv=>Op.bytesLess a.1 b.1=true) (λc h=>by rw[EU]at h;cases h) (λc g h f=>by
  have:=Nb _ _ _ h f;rw[EU]at this;cases this) a b d e h
def Ak7{l:List Kv}(h:yC l){a b:Kv}(k:a∈l)(m:b∈l)(e:a.1=b.1):a=b:=by
 obtain⟨d,g,rfl⟩:=Cm k;obtain⟨f,i,rfl⟩:=Cm m;have j:=List.pairwise_iff_getElem.1 h;rcases Nat.lt_trichotomy d f with c|c|c
 ·have:=j d f g i c;rw[e,EU]at this;cases this
 ·subst c;rfl
 ·have:=j f d i g c;rw[e,EU]at this;cases this
section
variable{X:Nat->Prop}{L:Nat}{s:St}{items:List Kv}
def lI(h:IW X L s items)(key:List UInt8)(G:key.length<=16):(∃r,GH s key=(r,0)/\(CG key,r)∈items/\r≠0)\/(GH s key=(0,7)/\∀b∈items,b.1≠CG key):=by
 by_cases o:s.ws 9=0
 ·have F:items=[]:=by
   rcases h.tree with⟨_,E,_⟩|⟨_,i,_⟩
   ·exact E
   ·exact absurd o i
  subst F;refine .inr ⟨?_,λ_ h=>nomatch h⟩;unfold GH EY;rw[if_neg O,o,Et,if_pos rfl];rfl
 ·rcases h.tree with⟨i,_⟩|⟨P,i,B,H,Q,R⟩
  ·exact absurd i o
  ·obtain⟨t,c,q,y,W,U,parts,z,A,M,N,V,I,f⟩:=around h.ok i B H key G;have l:=f.spot;have v:(t++[c]).getLast?=some c:=by simp
   have x:∀b∈items,b∈z\/b∈A\/∃k,(k,b.2)∈Cc c.nd++Bl c.nd.pre c.nd.labels parts/\b.1=y++k:=λb g=>by
    rw[l.its,AV]at g;rcases AL.1 g with a|a
    ·exact .inl a
    ·rcases AL.1 a with a|a
     ·exact .inr (.inr (E8.1 a))
     ·exact .inr (.inl a)
   unfold GH;rw[if_neg O,I];simp only;by_cases m:c.nd.pre=q
   ·have p:CX (t++[c]) q=some c:=by unfold CX;rw[v];simp only;rw[if_pos m]
    rw[p];simp only;have w:CG key=y++c.nd.pre:=by rw[m];exact l.cut
    by_cases j:c.nd.val=0
    ·rw[if_pos j];refine .inr ⟨rfl,λb g d=>?_⟩;rcases x b g with a|a|⟨k,e,n⟩
     ·exact f.other b (.inl a) d
     ·exact f.other b (.inr a) d
     ·rcases AL.1 e with e|e
      ·exact(FH e).2 j
      ·obtain⟨J,S,T,K,_,C⟩:=EW e;rw[n,w]at d;have u:=ED d;have D:k=c.nd.pre++c.nd.labels[J]::K.1:=congrArg Prod.fst C;rw[D]at u;have:=congrArg List.length u;simp at this
    ·rw[if_neg j];refine .inl ⟨_,rfl,?_,j⟩;rw[l.its,AV];refine List.mem_append_right _ (BJ _ (E8.2 ⟨c.nd.pre,BJ _ ?_,w⟩));unfold Cc;rw[if_pos j];exact BG.2 rfl
   ·have p:CX (t++[c]) q=none:=by unfold CX;rw[v];simp only;rw[if_neg m]
    rw[p];refine .inr ⟨rfl,λb g d=>?_⟩;rcases x b g with a|a|⟨k,e,n⟩
    ·exact f.other b (.inl a) d
    ·exact f.other b (.inr a) d
    ·rw[n,l.cut]at d;exact f.below m _ e (ED d)
end
structure Ce(L:Nat)(s:St)(items:List Kv)(ch:List UInt8->List Lk):Prop where
 ix:IW (λo=>∃kv∈items,o∈Dz (ch kv.1)) L s items
 chain:∀kv∈items,Dh s kv.2 (ch kv.1)/\kv.2≠0
 none:∀k,(∀kv∈items,kv.1≠k)->ch k=[]
 TT:∀kv∈items,∀kv'∈items,kv.1≠kv'.1->∀o∈Dz (ch kv.1),o∉Dz (ch kv'.1)
def EK(ch:List UInt8->List Lk)(k:List UInt8)(x:Lk):List UInt8->List Lk:=λa=>if a=k then x::ch a else ch a
def Gq(s:St)(stamp:UInt64)(a:Wr):St×UInt64×UInt64×Int:=
 if(GH s a.key.data.toList).2≠0/\(GH s a.key.data.toList).2≠7 then(s,0,0,(GH s a.key.data.toList).2)else
 if a.gone=true/\(GH s a.key.data.toList).1=0 then(s,0,0,0)else
 if(Iq s ⟨stamp,(GH s a.key.data.toList).1,a.gone,a.text⟩).2.2≠0 then((Iq s ⟨stamp,(GH s a.key.data.toList).1,a.gone,a.text⟩).1,0,0,(Iq s ⟨stamp,(GH s a.key.data.toList).1,a.gone,a.text⟩).2.2)else
 if(JD (Iq s ⟨stamp,(GH s a.key.data.toList).1,a.gone,a.text⟩).1 a.key.data.toList (Iq s ⟨stamp,(GH s a.key.data.toList).1,a.gone,a.text⟩).2.1).2≠0 then
  ((Fj (JD (Iq s ⟨stamp,(GH s a.key.data.toList).1,a.gone,a.text⟩).1 a.key.data.toList (Iq s ⟨stamp,(GH s a.key.data.toList).1,a.gone,a.text⟩).2.1).1 (Bg (Iq s ⟨stamp,(GH s a.key.data.toList).1,a.gone,a.text⟩).2.1)).1,0,0,
    (JD (Iq s ⟨stamp,(GH s a.key.data.toList).1,a.gone,a.text⟩).1 a.key.data.toList (Iq s ⟨stamp,(GH s a.key.data.toList).1,a.gone,a.text⟩).2.1).2)else
 ((JD (Iq s ⟨stamp,(GH s a.key.data.toList).1,a.gone,a.text⟩).1 a.key.data.toList (Iq s ⟨stamp,(GH s a.key.data.toList).1,a.gone,a.text⟩).2.1).1,(GH s a.key.data.toList).1,(Iq s ⟨stamp,(GH s a.key.data.toList).1,a.gone,a.text⟩).2.1,0)
def MC(s s':St):Prop:=s'.sh=s.sh/\∀a,a<16->a≠9->s'.ws a=s.ws a
def MC.refl(s:St):MC s s:=⟨rfl,λ_ _ _=>rfl⟩
def MC.trans{s s' d:St}(h:MC s s')(k:MC s' d):MC s d:=⟨k.1.trans h.1,λc a b=>(k.2 c a b).trans (h.2 c a b)⟩
def Ij.Ah1{X:Nat->Prop}{s s':St}(h:Ij X s s'):MC s s':=⟨h.sh,h.low⟩
section
variable{L:Nat}{s:St}{items:List Kv}{ch:List UInt8->List Lk}
def Ce.key(h:Ce L s items ch){a b:Kv}(c:a∈items)(d:b∈items)(e:a.1=b.1):a=b:=Ak7 h.ix.up c d e
def Adw(h:Ce L s items ch){k:List UInt8}{lk:Lk}{s1 s2:St}{o:Nat}(K:lk.off=o)(V:DN lk.rc=true)(ah:o<=65536)(af:0<o)(U:¬∃a∈items,o∈Dz (ch a.1))(Y:Dh s lk.rc.next (ch k))(W:∀ab∈ch k,ab.rc.stamp.toNat<lk.rc.stamp.toNat)
 (P:DI s s1 (λ_=>True))(X:AO s1 o 1)(Z:wordsAt s1.ws (o/8) 8=CW lk.rc){items':List Kv}(F:DI s1 s2 (λb=>(∃a∈items,b∈Dz (ch a.1))\/b=o))(aa:IW (λb=>(∃a∈items,b∈Dz (ch a.1))\/b=o) L s2 items')(g:PY items items' k (Aj o)):
 Ce L s2 items' (EK ch k lk):=by
 have t:∀a∈items',(a=(k,Aj o))\/(a∈items/\a.1≠k):=λa u=>(g a).1 u
 have C:(k,Aj o)∈items':=(g _).2 (.inl rfl);have m:∀a∈items,a.1≠k->EK ch k lk a.1=ch a.1:=λa _ A=>by unfold EK;rw[if_neg A]
 have p:EK ch k lk k=lk::ch k:=by unfold EK;rw[if_pos rfl]
 have v:Dz (lk::ch k)=o::Dz (ch k):=by unfold Dz;rw[Ci,K,BU]
 have D:∀b∈Dz (ch k),∃a∈items,b∈Dz (ch a.1):=λb E=>by
  by_cases r:∀a∈items,a.1≠k
  ·rw[h.none k r]at E;cases E
  ·obtain⟨a,f⟩:=Classical.not_forall.1 r;obtain⟨c,e⟩:=Classical.not_imp.1 f;exact⟨a,c,by rw[Classical.not_not.1 e];exact E⟩
 have T:∀a∈items,a.1=k->∀b∈Dz (ch a.1),b∈Dz (ch k):=λa _ d b g=>by rw[<-d];exact g
 refine⟨aa.congr λb=>?_,λa u=>?_,λN J=>?_,λx R j I H b w n=>?_⟩
 ·constructor
  ·rintro(⟨a,f,c⟩|rfl)
   ·by_cases d:a.1=k
    ·exact⟨_,C,by rw[p,v];exact BO _ (T a f d b c)⟩
    ·exact⟨a,(g a).2 (.inr ⟨f,d⟩),by rw[m a f d];exact c⟩
   ·exact⟨_,C,by rw[p,v];exact BA ..⟩
  ·rintro⟨a,f,c⟩;rcases t a f with rfl|⟨e,i⟩
   ·rw[p,v]at c;rcases Ea.1 c with c|c
    ·exact .inr c
    ·exact .inl (D b c)
   ·rw[m a e i]at c;exact .inl ⟨a,e,c⟩
 ·rcases t a u with rfl|⟨e,i⟩
  ·rw[p];refine⟨?_,λd=>?_⟩
   ·obtain⟨t1,t2⟩:=F o 1 (.inr rfl) X;have M:=U0 (o:=o) (c:=1) t2;rw[show 8*Bf 1=8 from rfl,Z]at M;have z:=(Y.keep P (λ_ _=>trivial)).keep F (λb g=>.inl (D b g));have:=Dh.cons o lk.rc (ch k) t1 V M z W;rw[<-K]at this;exact this
   ·have:=congrArg NH d;rw[Dt O]at this;simp at this;omega
  ·rw[m a e i];exact⟨((h.chain a e).1.keep P (λ_ _=>trivial)).keep F (λb g=>.inl ⟨a,e,g⟩),(h.chain a e).2⟩
 ·have A:N≠k:=λd=>J _ C d.symm
  unfold EK;rw[if_neg A];refine h.none N (λa u d=>?_);exact J a ((g a).2 (.inr ⟨u,by rw[d];exact A⟩)) d
 ·have key:∀l:Kv,l∈items->l.1≠k->∀b,b∈Dz (ch l.1)->b∈o::Dz (ch k)->False:=λl z S b f c=>by
   rcases Ea.1 c with rfl|c
   ·exact U ⟨l,z,f⟩
   ·obtain⟨a,ac,ad⟩:=D b c;by_cases r:∀a∈items,a.1≠k
    ·rw[h.none k r]at c;cases c
    ·obtain⟨a,Q⟩:=Classical.not_forall.1 r;obtain⟨e,i⟩:=Classical.not_imp.1 Q;have i:=Classical.not_not.1 i;exact h.TT l z a e (by rw[i];exact S) b f (by rw[i];exact c)
  rcases t x R with rfl|⟨B,G⟩
  ·rcases t j I with rfl|⟨q,y⟩
   ·exact H rfl
   ·rw[p,v]at w;rw[m j q y]at n;exact key j q y b n w
  ·rw[m x B G]at w;rcases t j I with rfl|⟨q,y⟩
   ·rw[p,v]at n;exact key x B G b w n
   ·rw[m j q y]at n;exact h.TT x B j q H b w n
def Ce.keep(h:Ce L s items ch){s':St}(k:DI s s' (λb=>∃kv∈items,b∈Dz (ch kv.1)))(ix:IW (λb=>∃kv∈items,b∈Dz (ch kv.1)) L s' items):Ce L s' items ch:=
 ⟨ix,λkv a=>⟨(h.chain kv a).1.keep k (λ_ c=>⟨kv,a,c⟩),(h.chain kv a).2⟩,h.none,h.TT⟩
def Ak8(L:Nat)(s:St)(items:List Kv)(ch:List UInt8->List Lk)(stamp:UInt64)(a:Wr)(r:St×UInt64×UInt64×Int):Prop:=
 MC s r.1/\((r.2=(0,0,6)/\Ce L r.1 items ch)\/
  (r=(s,0,0,0)/\a.gone=true/\∀d∈items,d.1≠CG a.key.data.toList)\/
  (∃b c items',r.2=(c,Aj b,0)/\0<b/\b<=65536/\((c=0/\a.gone=false/\∀d∈items,d.1≠CG a.key.data.toList)\/(c≠0/\(CG a.key.data.toList,c)∈items))/\
   Ce L r.1 items' (EK ch (CG a.key.data.toList) ⟨b,⟨stamp,c,a.gone,a.text⟩⟩)/\PY items items' (CG a.key.data.toList) (Aj b)))
def VB(h:Ce L s items ch)(stamp:UInt64)(a:Wr)(hy:Dx a=true)(R:stamp.toNat≠0)(S:∀al∈ch (CG a.key.data.toList),al.rc.stamp.toNat<stamp.toNat):Ak8 L s items ch stamp a (Gq s stamp a):=by
 have o:a.key.data.toList.length<=16/\a.text.size<=40/\(a.gone=true->a.text.size=0):=by
  unfold Dx at hy;simp only[Bool.and_eq_true,decide_eq_true_eq,Bool.or_eq_true,Bool.not_eq_true']at hy;exact⟨hy.1.1,hy.1.2,λt=>hy.2.resolve_left (by rw[t];simp)⟩
 have M:∃c b,GH s a.key.data.toList=(c,b)/\¬(b≠0/\b≠7)/\((c=0/\∀w∈items,w.1≠CG a.key.data.toList)\/(c≠0/\(CG a.key.data.toList,c)∈items))/\Dh s c (ch (CG a.key.data.toList)):=by
  rcases lI h.ix a.key.data.toList o.1 with⟨c,b,z,W⟩|⟨b,A⟩
  ·exact⟨c,0,b,by simp,.inr ⟨W,z⟩,(h.chain _ z).1⟩
  ·exact⟨0,7,b,by simp,.inl ⟨rfl,A⟩,by rw[h.none _ A];exact .nil⟩
 obtain⟨c,b,t,K,y,J⟩:=M;unfold Gq;rw[t];simp only;rw[if_neg K];by_cases m:a.gone=true/\c=0
 ·rw[if_pos m];exact⟨MC.refl s,.inr (.inl ⟨rfl,m.1,(y.resolve_right (λh=>h.1 m.2)).2⟩)⟩
 ·rw[if_neg m];have C:DN ⟨stamp,c,a.gone,a.text⟩=true:=(KD _).2 ⟨R,o.2.1,o.2.2⟩;rcases Ahu h.ix ⟨stamp,c,a.gone,a.text⟩ C with r|⟨F,e,r,_,an,u,D,B,V,X,Y,E,ah,H⟩
  ·rw[r];simp only;rw[if_pos U];exact⟨MC.refl s,.inl ⟨rfl,h⟩⟩
  ·rw[r];simp only;rw[if_neg Θ];have Q:Aj e≠0:=λb=>by
    have:=congrArg NH b;rw[Dt O]at this;simp at this;omega
   have x:MC s F:=⟨ah,λg f _=>H g f⟩;obtain⟨i,v⟩:=WY Y a.key.data.toList o.1 (Aj e) Q;generalize JD F a.key.data.toList (Aj e)=ac at i v;obtain⟨ao,am⟩:=ac;simp only at i v⊢;rcases v with⟨rfl,p,_⟩|⟨rfl,items',p,n⟩
   ·rw[if_pos U];obtain⟨ad,I,Z,aa,af,G⟩:=lD p (o:=e) (.inr rfl);have P:Bg (Aj e)=e:=Jq O;rw[P,I];refine⟨(x.trans i.Ah1).trans ⟨af,λg f _=>G g f⟩,.inl ⟨rfl,?_⟩⟩;have ab:DI s ad (λj=>∃w∈items,j∈Dz (ch w.1)):=λj q n T=>by
     obtain⟨u1,u2⟩:=E j q trivial T;obtain⟨u3,u4⟩:=i.keep j q (.inl n) u1;obtain⟨u5,u6⟩:=aa j q (λb=>u (b▸n)) u3;exact⟨u5,λg f=>((u6 g f).trans (u4 g f)).trans (u2 g f)⟩
    refine h.keep ab (Z.congr λj=>?_);constructor
    ·rintro⟨d|d,l⟩
     ·exact d
     ·exact absurd d l
    ·exact λd=>⟨.inl d,λb=>u (b▸d)⟩
   ·rw[if_neg Θ];refine⟨x.trans i.Ah1,.inr (.inr ⟨e,c,items',rfl,B,D,?_,?_,n⟩)⟩
    ·rcases y with⟨d,l⟩|⟨d,l⟩
     ·exact .inl ⟨d,by cases N:a.gone with
       |false=>rfl
       |true=>exact absurd ⟨N,d⟩ m,l⟩
     ·exact .inr ⟨d,l⟩
    ·exact Adw h (k:=CG a.key.data.toList) (lk:=⟨e,⟨stamp,c,a.gone,a.text⟩⟩) rfl C D B u J S E V X i.keep p n
end
section
variable{L:Nat}{s:St}{items items':List Kv}{ch:List UInt8->List Lk}
def aU{s:St}{L:Nat}(b:Bq L s){v:UInt64}{k:Lk}{l:List Lk}(h:Dh s v (k::l)):∃a:Nat,k.off=a/\v=Aj a/\AO s a 1/\DN k.rc=true/\wordsAt s.ws (a/8) 8=CW k.rc/\Dh s k.rc.next l/\(∀i∈l,i.rc.stamp.toNat<k.rc.stamp.toNat)/\0<a/\a<=65536:=by
 cases h with
 |cons a o l c e g d f=>
  have n:=c.bounds b;have j:=b.sh.KT;have m:=b.L1;exact⟨a,rfl,rfl,c,e,g,d,f,O,O⟩
def O7(s:St)(key:List UInt8)(v:UInt64):St×Int:=if v=0 then((QX s key).1,(QX s key).2.2)else JD s key v
def Xa{s0:St}(l:Ce L s0 items ch){key:ByteArray}(V:key.size<=16){lk:Lk}{o:Nat}(Z:lk.off=o)(i:PY items items' (CG key.data.toList) (Aj o))(h:Ce L s items' (EK ch (CG key.data.toList) lk))
 (y:(lk.rc.next=0/\∀a∈items,a.1≠CG key.data.toList)\/(lk.rc.next≠0/\(CG key.data.toList,lk.rc.next)∈items)):
 ∃j r,O7 s key.data.toList lk.rc.next=(j,0)/\Fj j o=(r,0)/\Ce L r items ch/\MC s r:=by
 have J:key.data.toList.length<=16:=V;obtain⟨e,u⟩:=ε (CG key.data.toList);rw[<-u]at i h y;have q:(e,Aj o)∈items':=(i _).2 (.inl rfl);have x:EK ch e lk e=lk::ch e:=by unfold EK;rw[if_pos rfl]
 have A:∀C,C≠e->EK ch e lk C=ch C:=λC X=>by unfold EK;rw[if_neg X]
 have w:Dz (lk::ch e)=o::Dz (ch e):=by unfold Dz;rw[Ci,Z,BU]
 have F:=(h.chain _ q).1;simp only[x]at F;obtain⟨aq,ap,_,_,_,_,Y,_,_,_⟩:=aU h.ix.ok F;have K:=F.nodup.1;rw[w]at K;obtain⟨W,_⟩:=List.nodup_cons.1 K;have M:∀b,(∃a∈items,b∈Dz (ch a.1))->(∃a∈items',b∈Dz (EK ch e lk a.1))/\b≠o:=λb⟨a,g,d⟩=>by
  by_cases c:a.1=e
  ·rw[c]at d;exact⟨⟨_,q,by rw[x,w];exact BO _ d⟩,λt=>W (t▸d)⟩
  ·refine⟨⟨a,(i a).2 (.inr ⟨g,c⟩),by rw[A _ c];exact d⟩,λt=>?_⟩;subst t;exact h.TT _ q a ((i a).2 (.inr ⟨g,c⟩)) (λP=>c P.symm) b (by rw[x,w];exact BA ..) (by rw[A _ c];exact d)
 have ab:∀b,(∃a∈items',b∈Dz (EK ch e lk a.1))/\b≠o->∃a∈items,b∈Dz (ch a.1):=λb⟨⟨a,g,d⟩,Q⟩=>by
  rcases(i a).1 g with rfl|⟨R,S⟩
  ·rw[x,w]at d;have d:=(Ea.1 d).resolve_left Q;rcases y with⟨k,f⟩|⟨k,f⟩
   ·rw[l.none e f]at d;cases d
   ·exact⟨_,f,d⟩
  ·rw[A _ S]at d;exact⟨a,R,d⟩
 have U:∃j,O7 s key.data.toList lk.rc.next=(j,0)/\Ij (λb=>∃a∈items',b∈Dz (EK ch e lk a.1)) s j/\IW (λb=>∃a∈items',b∈Dz (EK ch e lk a.1)) L j items:=by
  unfold O7;rcases y with⟨k,f⟩|⟨k,f⟩
  ·rw[if_pos k];rcases lF h.ix key.data.toList J with⟨c,G⟩|⟨m,c,ao,E,p,hcut⟩
   ·exact absurd u (G _ q)
   ·refine⟨(QX s key.data.toList).1,by rw[c],m,?_⟩;have:E=items:=VA p.up l.ix.up (λn=>by
     rw[hcut n,i n,<-u];constructor
     ·rintro⟨rfl|⟨g,_⟩,d⟩
      ·exact absurd rfl d
      ·exact g
     ·exact λg=>⟨.inr ⟨g,f n g⟩,f n g⟩)
    rw[<-this];exact p
  ·rw[if_neg k];obtain⟨m,H⟩:=WY h.ix key.data.toList J lk.rc.next k;generalize JD s key.data.toList lk.rc.next=an at m H;obtain⟨j,c⟩:=an;simp only at m H;rcases H with⟨_,_,G⟩|⟨rfl,E,p,aa⟩
   ·exact absurd u (G _ q)
   ·refine⟨j,rfl,m,?_⟩;have:E=items:=VA p.up l.ix.up (λn=>by
     rw[aa n,i n,<-u];constructor
     ·rintro(rfl|⟨rfl|⟨g,_⟩,d⟩)
      ·exact f
      ·exact absurd rfl d
      ·exact g
     ·intro g;by_cases c:n.1=e
      ·exact .inl (l.key g f c)
      ·exact .inr ⟨.inr ⟨g,c⟩,c⟩)
    rw[<-this];exact p
 obtain⟨j,O,m,ah⟩:=U;obtain⟨r,t,p,al,af,N⟩:=lD ah (o:=o) ⟨_,q,by rw[x,w];exact BA ..⟩;have am:∀D:Nat->Prop,(∀b,D b->∃a∈items,b∈Dz (ch a.1))->DI s r D:=λD T b I i ac=>by
  obtain⟨k,f⟩:=M b (T b i);obtain⟨u1,u2⟩:=m.keep b I k ac;obtain⟨u3,u4⟩:=al b I f u1;exact⟨u3,λB z=>(u4 B z).trans (u2 B z)⟩
 refine⟨j,r,O,t,⟨p.congr λb=>⟨ab b,M b⟩,λa v=>⟨?_,(l.chain a v).2⟩,l.none,l.TT⟩,m.Ah1.trans ⟨af,λB z _=>N B z⟩⟩;refine Dh.keep (s:=s) ?_ (am _ (λ_ h=>h)) (λb i=>⟨a,v,i⟩);by_cases c:a.1=e
 ·have ad:a.2=lk.rc.next:=by
   rcases y with⟨_,f⟩|⟨_,f⟩
   ·exact absurd c (f a v)
   ·exact congrArg Prod.snd (l.key v f c)
  rw[ad,c];exact Y
 ·have:=(h.chain a ((i a).2 (.inr ⟨v,c⟩))).1;rw[A _ c]at this;exact this
abbrev Past:=ByteArray×UInt64×UInt64
def MF(s:St):List Past->St
 |[]=>s
 |(key,a,b)::l=>if b=0 then MF s l else if(O7 s key.data.toList a).2≠0 then(O7 s key.data.toList a).1 else MF (Fj (O7 s key.data.toList a).1 (Bg b)).1 l
inductive Hist(L:Nat)(items:List Kv)(ch:List UInt8->List Lk):List Past->List Kv->(List UInt8->List Lk)->Prop
 |nil:Hist L items ch [] items ch
 |skip{l:List Past}{it:List Kv}{c:List UInt8->List Lk}(key:ByteArray):Hist L items ch l it c->Hist L items ch (l++[(key,0,0)]) it c
 |add{l:List Past}{it it':List Kv}{c:List UInt8->List Lk}{key:ByteArray}{lk:Lk}{o:Nat}{s0:St}:Hist L items ch l it c->Ce L s0 it c->key.size<=16->lk.off=o->0<o->o<=65536->PY it it' (CG key.data.toList) (Aj o)->
  ((lk.rc.next=0/\∀kv∈it,kv.1≠CG key.data.toList)\/(lk.rc.next≠0/\(CG key.data.toList,lk.rc.next)∈it))->Hist L items ch (l++[(key,lk.rc.next,Aj o)]) it' (EK c (CG key.data.toList) lk)
def Ak9{l:List Past}{d:List Kv}{c:List UInt8->List Lk}(h:Hist L items ch l d c):∀{s:St},Ce L s d c->Ce L (MF s l.reverse) items ch/\MC s (MF s l.reverse):=by
 induction h with
 |nil=>exact λa=>⟨a,MC.refl _⟩
 |skip key _ b=>
  intro s a;rw[UG,Rn,TA,MF,if_pos rfl];exact b a
 |add _ k o r w m t n b=>
  intro s a;rename_i v _ _;obtain⟨x,y,f,g,u,p⟩:=Xa k o r t a n;have q:Aj v≠0:=λe=>by
   have:=congrArg NH e;rw[Dt O]at this;simp at this;omega
  rw[UG,Rn,TA,MF,if_neg q,f];simp only;rw[if_neg Θ,Jq m,g];obtain⟨i,j⟩:=b u;exact⟨i,p.trans j⟩
end
def Dh.len{s:St}{v:UInt64}{l:List Lk}(h:Dh s v l):∀a:Nat,(∀k∈l,k.rc.stamp.toNat<a)->l.length<=a:=by
 induction h with
 |nil=>intro a _;exact Nat.zero_le _
 |cons o r l _ _ _ _ c d=>
  intro a b;have e:=d r.stamp.toNat c;have f:r.stamp.toNat<a:=b _ (BA ..);rw[List.length_cons];omega
def Dh.listed{L:Nat}{s:St}(a:Bq L s){v:UInt64}{l:List Lk}(h:Dh s v l):Lu s v=some l:=by
 have:=h.list a 18446744073709551618 [] (Nat.lt_of_le_of_lt (h.len 18446744073709551616 (λk _=>XX _)) U) (λk _=>XX _);rw[List.nil_append]at this;exact this
structure Ah3 where
 s:St
 done:List Past
 over:Bool
 end_:Int
def NF(stamp:UInt64)(set:List Wr)(a:Ah3):Ah3×Bool×Int:=
 if a.over=true then(a,true,a.end_)else
 match set[a.done.length]? with
 |some b=>if(Gq a.s stamp b).2.2.2≠0 then(⟨MF (Gq a.s stamp b).1 a.done.reverse,a.done,true,(Gq a.s stamp b).2.2.2⟩,true,(Gq a.s stamp b).2.2.2)else
  (⟨(Gq a.s stamp b).1,a.done++[(b.key,(Gq a.s stamp b).2.1,(Gq a.s stamp b).2.2.1)],false,0⟩,false,0)
 |none=>(⟨{a.s with ws:=D9 a.s.ws 8 stamp},a.done,true,0⟩,true,0)
section
variable{L:Nat}{s:St}{items:List Kv}{ch:List UInt8->List Lk}
def Ce.slot(h:Ce L s items ch)(v:UInt64):Ce L {s with ws:=D9 s.ws 8 v} items ch:=by
 have d:∀a,16<=a->D9 s.ws 8 v a=s.ws a:=λa b=>by unfold D9;rw[if_neg O]
 have f:Bq L {s with ws:=D9 s.ws 8 v}:=h.ix.ok.words (λi _=>d _ O);have e:DI s {s with ws:=D9 s.ws 8 v} (λ_=>True):=λo g _ c=>⟨c,λa b=>d a (Ω (h.ix.ok.Dy (c.bounds h.ix.ok).1 b))⟩
 exact h.keep (e.mono (λ_ _=>trivial)) (h.ix.same f h.ix.nh (λ_=>Iff.rfl) e (by show D9 s.ws 8 v 9=_;unfold D9;rw[if_neg U]))
def Ah4{a b:List UInt8}(h:CG a=CG b):a=b:=by rw[<-Ub a,h,Ub]
structure Aa4(L:Nat)(s0:St)(items:List Kv)(ch:List UInt8->List Lk)(stamp:UInt64)(set:List Wr)(j:Ah3):Prop where
 it:∃it c,Hist L items ch j.done it c/\Ce L j.s it c/\(∀i,j.done.length<=i->∀y,set[i]?=some y->c (CG y.key.data.toList)=ch (CG y.key.data.toList))/\(∀k,∀x∈c k,x.rc.stamp.toNat<=stamp.toNat)
 low:MC s0 j.s
 len:j.done.length<=set.length
 run:j.over=false/\j.end_=0
def Ady(h:Ce L s items ch)(stamp:UInt64)(set:List Wr)(c:∀a,∀b∈ch a,b.rc.stamp.toNat<stamp.toNat):Aa4 L s items ch stamp set ⟨s,[],false,0⟩:=
 ⟨⟨items,ch,.nil,h,λ_ _ _ _=>rfl,λa b d=>Nat.le_of_lt (c a b d)⟩,MC.refl s,Nat.zero_le _,rfl,rfl⟩
def step_ok{s0:St}{stamp:UInt64}{set:List Wr}{a:Ah3}(h:Aa4 L s0 items ch stamp set a)(N:∀c∈set,Dx c=true)(T:VQ set)(Q:stamp.toNat≠0)(S:∀k,∀f∈ch k,f.rc.stamp.toNat<stamp.toNat):
 (a.done.length<set.length/\(NF stamp set a).2=(false,0)/\(NF stamp set a).1.done.length=a.done.length+1/\Aa4 L s0 items ch stamp set (NF stamp set a).1)\/
 (a.done.length<set.length/\(NF stamp set a).2=(true,6)/\(NF stamp set a).1.over=true/\Ce L (NF stamp set a).1.s items ch/\MC s0 (NF stamp set a).1.s)\/
 (a.done.length=set.length/\(NF stamp set a).2=(true,0)/\(NF stamp set a).1.over=true/\(NF stamp set a).1.s.ws 8=stamp/\(NF stamp set a).1.s.sh=s0.sh/\(∀b,b<16->b≠8->b≠9->(NF stamp set a).1.s.ws b=s0.ws b)/\∃u l,Ce L (NF stamp set a).1.s u l/\∀k,∀f∈l k,f.rc.stamp.toNat<=stamp.toNat):=by
 obtain⟨⟨u,l,y,p,x,o⟩,n,ac,P,aa⟩:=h;unfold NF;rw[if_neg (by rw[P];decide)];by_cases j:a.done.length<set.length
 ·rw[Ae j];simp only;obtain⟨c,r⟩:=ε (set[a.done.length]);rw[<-r];have t:Dx c=true:=N c (r▸List.getElem_mem j);have V:c.key.size<=16:=by
   unfold Dx at t;simp only[Bool.and_eq_true,decide_eq_true_eq]at t;exact t.1.1
  have G:=x a.done.length (Nat.le_refl _) c (by rw[r];exact Ae j);have K:∀b,a.done.length+1<=b->∀g,set[b]?=some g->CG g.key.data.toList≠CG c.key.data.toList:=λb m g e i=>by
   obtain⟨I,e⟩:=List.getElem?_eq_some_iff.1 e;have:=T.lt j I m;rw[e,<-r]at this;unfold Gl at this;rw[ByteArray.toList_eq,ByteArray.toList_eq,Ah4 i,EU]at this;cases this
  obtain⟨z,U⟩:=VB p stamp c t Q (λf d=>by rw[G]at d;exact S _ f d);rcases U with⟨i,q⟩|⟨i,ab,ad⟩|⟨Y,Z,X,i,J,W,F,q,M⟩
  ·right;left;have A:(Gq a.s stamp c).2.2.2=6:=by rw[i]
   rw[if_pos (by rw[A];decide),A];obtain⟨v,w⟩:=Ak9 y q;exact⟨j,rfl,rfl,v,(n.trans z).trans w⟩
  ·left;rw[i];rw[if_neg Θ];refine⟨j,rfl,by simp,⟨⟨u,l,.skip c.key y,p,λb m g e=>x b (by simp at m;omega) g e,o⟩,n,by simp;omega,rfl,rfl⟩⟩
  ·left;obtain⟨s',R⟩:=ε ((Gq a.s stamp c).1);rw[<-R]at z q⊢;rw[i];rw[if_neg Θ];refine⟨j,rfl,by simp,⟨⟨X,_,Hist.add (lk:=⟨Y,⟨stamp,Z,c.gone,c.text⟩⟩) y p V rfl J W M ?_,q,λb m g e=>?_,λk f d=>?_⟩,n.trans z,by simp;omega,rfl,rfl⟩⟩
   ·rcases F with⟨v,_,w⟩|B
    ·exact .inl ⟨v,w⟩
    ·exact .inr B
   ·have H:a.done.length+1<=b:=by simpa using m
    unfold EK;rw[if_neg (K b H g e)];exact x b O g e
   ·unfold EK at d;split at d
    ·rcases Ea.1 d with rfl|d
     ·exact Nat.le_refl _
     ·exact o k f d
    ·exact o k f d
 ·right;right;rw[List.getElem?_eq_none O];refine⟨O,rfl,rfl,by show D9 a.s.ws 8 stamp 8=_;unfold D9;rw[if_pos rfl],n.1,λb C D E=>?_,u,l,p.slot stamp,o⟩;show D9 a.s.ws 8 stamp b=_;unfold D9;rw[if_neg D];exact n.2 b C E
end
def Dh.As9{s:St}{v:UInt64}{l:List Lk}(h:Dh s v l):l.map (·.off)=(Dz l).map BZ:=by
 induction h with
 |nil=>rfl
 |cons o r l _ _ _ _ _ a=>
  unfold Dz at a⊢;rw[Ci,Ci,Ci,a];rfl
def aV{s:St}{ch:List UInt8->List Lk}{f:Kv->List UInt8×UInt64}(c:∀a,(f a).2=a.2):∀(l:List Kv)(b:List Int),(∀a∈l,Lu s a.2=some (ch a.1))->Gt s (l.map f) b=some (b++(l.map λa=>(ch a.1).map (·.off)).flatten)
 |[],b,_=>by simp[Gt]
 |a::e,b,h=>by
  rw[Ci,Gt,c,h a (BA ..)];simp only;rw[aV c e _ (λg d=>h g (BO _ d))];simp
def lJ:∀{l:List Int},l.Pairwise (λd e=>d<e)->Ic l=true
 |[],_=>rfl
 |[_],_=>rfl
 |f::a::i,h=>by
  obtain⟨b,c⟩:=OB.1 h;have g:=b a (BA ..);unfold Ic;rw[lJ c,Bool.and_true,Bool.not_eq_true',beq_eq_false_iff_ne];omega
def U7{ch:List UInt8->List Lk}:∀(l:List Kv),l.Pairwise (λa b=>a.1≠b.1)->(∀c∈l,(Dz (ch c.1)).Nodup)->(∀a∈l,∀b∈l,a.1≠b.1->∀t∈Dz (ch a.1),t∉Dz (ch b.1))->((l.map λc=>Dz (ch c.1)).flatten).Nodup
 |[],_,_,_=>List.nodup_nil
 |c::u,h,i,f=>by
  obtain⟨m,n⟩:=OB.1 h;rw[Ci,List.flatten_cons];refine CJ.2 ⟨i c (BA ..),U7 u n (λe d=>i e (BO _ d)) (λa o b p=>f a (BO _ o) b (BO _ p)),λe d w s k=>?_⟩;subst k;obtain⟨v,q,r⟩:=QW.1 s;obtain⟨j,g,rfl⟩:=BM.1 q;exact f c (BA ..) j (BO _ g) (m j g) e d r
section
variable{L:Nat}{s:St}{items:List Kv}{ch:List UInt8->List Lk}
def yN(g:Bq L s){N:List Nat}(o:N.Nodup)(i:∀e,e∈N<->∃k,AO s e k){r:List Int}(q:r.Perm (N.map BZ)):Du r=(En s).map BZ:=by
 unfold Du;have j:=(Gp r (λc d=>decide (c<=d))).trans q;have p:(r.mergeSort (λc d=>decide (c<=d))).Nodup:=j.nodup_iff.2 (Jf.2 (o.imp λ{a b}m l=>m (by injection l)));have t:(r.mergeSort (λc d=>decide (c<=d))).Pairwise (λc d=>decide (c<=d)=true):=mQ (λa b v h u=>by simp at h u⊢;omega) (λa b=>by simp;omega) _;have n:(r.mergeSort (λc d=>decide (c<=d))).Pairwise (λ(c d:Int)=>c<d):=(uC.2 ⟨t,p⟩).imp (λ{a b}h=>by
  have w:a<=b:=by simpa using h.1
  have x:a≠b:=h.2;omega)
 refine V9 (r:=λ(c d:Int)=>c<d) (λc=>O) (λc d h=>O) _ _ n (by rw[Jf];exact(QI g).imp λ{a b}h=>by show(a:Int)<b;omega) λc=>?_
 rw[j.mem_iff];simp only[BM];constructor
 ·rintro⟨e,f,rfl⟩;exact⟨e,(Lc g e).2 ((i e).1 f),rfl⟩
 ·rintro⟨e,f,rfl⟩;exact⟨e,(i e).2 ((Lc g e).1 f),rfl⟩
def aW(h:Ce L s items ch):∃r d m,DZ s=some (r,d)/\r=items.map (λc=>(pairs c.1,c.2))/\Gt s r (Du d)=some m/\m.length<=100000/\Du m=(En s).map BZ/\Ic (Du m)=true/\
 (En s).length=d.length+((items.map λc=>ch c.1).flatten).length:=by
 obtain⟨d,B,C,D,E⟩:=Sz h.ix;obtain⟨j,p⟩:=ε (d++(items.map λc=>Dz (ch c.1)).flatten);have y:∀e,e∈(items.map λc=>Dz (ch c.1)).flatten<->∃c∈items,e∈Dz (ch c.1):=λe=>by
  rw[QW];constructor
  ·rintro⟨l,H,i⟩;obtain⟨c,q,rfl⟩:=BM.1 H;exact⟨c,q,i⟩
  ·rintro⟨c,q,i⟩;exact⟨_,BM.2 ⟨c,q,rfl⟩,i⟩
 have v:∀e,e∈j<->∃t,AO s e t:=λe=>by rw[p,AL,y,E e]
 have w:j.Nodup:=by
  rw[p];refine CJ.2 ⟨C,U7 items (h.ix.up.imp λ{a b}u o=>by rw[o,EU]at u;cases u) (λc g=>(h.chain c g).1.nodup.1) h.TT,λn M z N o=>?_⟩;subst o;exact D n M ((y n).1 N)
 have J:(items.map λc=>(ch c.1).map (·.off)).flatten=((items.map λc=>Dz (ch c.1)).flatten).map BZ:=by
  rw[Afh,Io];congr 1;exact GG λc g=>(h.chain c g).1.As9
 have K:=aV (s:=s) (ch:=ch) (f:=λc=>(pairs c.1,c.2)) (λ_=>rfl) items (Du (d.map BZ)) (λc g=>(h.chain c g).1.listed h.ix.ok);have x:(Du (d.map BZ)++(items.map λc=>(ch c.1).map (·.off)).flatten).Perm (j.map BZ):=by
  rw[p,Dc,J];exact List.Perm.append_right _ (Gp _ _)
 have k:=yN h.ix.ok w v x;have I:(Du (d.map BZ)++(items.map λc=>(ch c.1).map (·.off)).flatten).length=(En s).length:=by
  have:=(Gp (Du (d.map BZ)++(items.map λc=>(ch c.1).map (·.off)).flatten) (λn z=>decide (n<=z))).length_eq;unfold Du at k;unfold Du at this⊢;rw[k,BX]at this;exact this.symm
 refine⟨_,d.map BZ,_,B,rfl,K,?_,k,?_,?_⟩
 ·have F:=JS j (DW 65537) w (λe i=>by
   obtain⟨t,G⟩:=(v e).1 i;have:=(G.bounds h.ix.ok).2.1;have:=h.ix.ok.L1;exact DY.2 O)
  rw[x.length_eq,BX];rw[VU]at F;omega
 ·rw[k];refine lJ ?_;rw[Jf];exact(QI h.ix.ok).imp λ{a b}h=>by show(a:Int)<b;omega
 ·rw[<-I,AY];have A:(Du (d.map BZ)).length=(d.map BZ).length:=(Gp _ _).length_eq;rw[A];congr 1;simp only[zK,Io];congr 1;exact GG λc _=>by simp
end
structure D5(Y:Nat->Prop)(L:Nat)(s:St)(items:List Kv)(ch:List UInt8->List Lk):Prop where
 ix:IW (λo=>(∃kv∈items,o∈Dz (ch kv.1))\/Y o) L s items
 chain:∀kv∈items,Dh s kv.2 (ch kv.1)/\kv.2≠0
 none:∀k,(∀kv∈items,kv.1≠k)->ch k=[]
 TT:∀kv∈items,∀kv'∈items,kv.1≠kv'.1->∀o∈Dz (ch kv.1),o∉Dz (ch kv'.1)
 loose:∀kv∈items,∀o∈Dz (ch kv.1),¬Y o
section
variable{Y:Nat->Prop}{L:Nat}{s:St}{items:List Kv}{ch:List UInt8->List Lk}
def Ce.y(h:Ce L s items ch):D5 (λ_=>False) L s items ch:=
 ⟨h.ix.congr (λ_=>⟨.inl,λh=>h.elim id False.elim⟩),h.chain,h.none,h.TT,λ_ _ _ _ h=>h⟩
def D5.ok(h:D5 Y L s items ch)(a:∀o,¬Y o):Ce L s items ch:=
 ⟨h.ix.congr (λo=>⟨λh=>h.resolve_right (a o),.inl⟩),h.chain,h.none,h.TT⟩
def D5.taken(h:D5 Y L s items ch){o:Nat}(b:Y o):∃c,AO s o c:=by
 rcases h.ix.tree with⟨_,_,a⟩|⟨_,_,_,_,_,a⟩
 ·exact(a o).2 (.inr b)
 ·exact(a o).2 (.inr (.inr b))
def lK(h:D5 Y L s items ch):∃z i o,DZ s=some (z,i)/\z=items.map (λc=>(pairs c.1,c.2))/\Gt s z (Du i)=some o/\o.length<=100000/\Ic (Du o)=true/\(Du o).Pairwise (λg j=>g<j)/\
 (∀d:Nat,(d:Int)∈Du o<->(∃t,AO s d t)/\¬Y d)/\o.length=i.length+((items.map λc=>ch c.1).flatten).length:=by
 obtain⟨i,A,B,C,v⟩:=Sz h.ix;obtain⟨p,w⟩:=ε (i++(items.map λc=>Dz (ch c.1)).flatten);have I:∀d,d∈(items.map λc=>Dz (ch c.1)).flatten<->∃c∈items,d∈Dz (ch c.1):=λd=>by
  rw[QW];constructor
  ·rintro⟨l,P,e⟩;obtain⟨c,n,rfl⟩:=BM.1 P;exact⟨c,n,e⟩
  ·rintro⟨c,n,e⟩;exact⟨_,BM.2 ⟨c,n,rfl⟩,e⟩
 have E:∀d,d∈p<->(∃t,AO s d t)/\¬Y d:=λd=>by
  rw[w,AL,I];constructor
  ·rintro(e|⟨c,n,e⟩)
   ·exact⟨(v d).2 (.inl e),λr=>C d e (.inr r)⟩
   ·exact⟨(v d).2 (.inr (.inl ⟨c,n,e⟩)),h.loose c n d e⟩
  ·rintro⟨T,r⟩;rcases(v d).1 T with e|e|e
   ·exact .inl e
   ·exact .inr e
   ·exact absurd e r
 have F:p.Nodup:=by
  rw[w];refine CJ.2 ⟨B,U7 items (h.ix.up.imp λ{a b}u k=>by rw[k,EU]at u;cases u) (λc q=>(h.chain c q).1.nodup.1) h.TT,λg y j r k=>?_⟩;subst k;exact C g y (.inl ((I g).1 r))
 have R:(items.map λc=>(ch c.1).map (·.off)).flatten=((items.map λc=>Dz (ch c.1)).flatten).map BZ:=by
  rw[Afh,Io];congr 1;exact GG λc q=>(h.chain c q).1.As9
 have G:=aV (s:=s) (ch:=ch) (f:=λc=>(pairs c.1,c.2)) (λ_=>rfl) items (Du (i.map BZ)) (λc q=>(h.chain c q).1.listed h.ix.ok);have x:(Du (i.map BZ)++(items.map λc=>(ch c.1).map (·.off)).flatten).Perm (p.map BZ):=by
  rw[w,Dc,R];exact List.Perm.append_right _ (Gp _ _)
 generalize K:Du (i.map BZ)++(items.map λc=>(ch c.1).map (·.off)).flatten=m at G x;have H:=(Gp m (λg j=>decide (g<=j))).trans x;have Q:(Du m).Nodup:=H.nodup_iff.2 (Jf.2 (F.imp λ{a b}u k=>u (by injection k)));have S:(Du m).Pairwise (λg j=>decide (g<=j)=true):=mQ (λa b V h U=>by simp at h U⊢;omega) (λa b=>by simp;omega) _;have D:(Du m).Pairwise (λ(g j:Int)=>g<j):=(uC.2 ⟨S,Q⟩).imp (λ{a b}h=>by
  have A:a<=b:=by simpa using h.1
  have B:a≠b:=h.2;omega)
 refine⟨_,i.map BZ,m,A,rfl,G,?_,lJ D,D,λd=>?_,?_⟩
 ·have M:=JS p (DW 65537) F (λd e=>by
   obtain⟨t,N⟩:=((E d).1 e).1;have:=(N.bounds h.ix.ok).2.1;have:=h.ix.ok.L1;exact DY.2 O)
  rw[x.length_eq,BX];rw[VU]at M;omega
 ·rw[show((d:Int)∈Du m<->(d:Int)∈p.map BZ)from H.mem_iff,<-E d,BM];constructor
  ·rintro⟨g,y,k⟩;have:g=d:=by injection k
   exact this▸y
  ·exact λe=>⟨d,e,rfl⟩
 ·rw[<-K,AY];have J:(Du (i.map BZ)).length=(i.map BZ).length:=(Gp _ _).length_eq;rw[J];congr 1;simp only[zK,Io];congr 1;exact GG λc _=>by simp
def D5.drop(h:D5 Y L s items ch){o:Nat}(j:Y o):∃d,Fj s o=(d,0)/\D5 (λa=>Y a/\a≠o) L d items ch/\d.sh=s.sh/\∀g,g<16->d.ws g=s.ws g:=by
 obtain⟨d,n,l,r,q,k⟩:=lD h.ix (o:=o) (.inr j);have i:∀kv∈items,∀a∈Dz (ch kv.1),a≠o:=λkv b a c m=>h.loose kv b a c (m▸j)
 refine⟨d,n,⟨l.congr (λa=>?_),λkv b=>⟨(h.chain kv b).1.keep r (λa c=>i kv b a c),(h.chain kv b).2⟩,h.none,h.TT,λkv b a c p=>h.loose kv b a c p.1⟩,q,k⟩;constructor
 ·rintro⟨e|e,f⟩
  ·exact .inl e
  ·exact .inr ⟨e,f⟩
 ·rintro(⟨kv,b,c⟩|⟨e,f⟩)
  ·exact⟨.inl ⟨kv,b,c⟩,i kv b a c⟩
  ·exact⟨.inr e,f⟩
def D5.Ala(h:D5 Y L s items ch){o:Nat}(d:Y o){s2:St}(e:Fj s o=(s2,0)):∀a b,AO s2 a b<->AO s a b/\a≠o:=by
 obtain⟨i,f⟩:=h.taken d;obtain⟨j,c,_,_,_,_,g⟩:=Vz h.ix.ok f;rw[c]at e;cases e;exact g
def D5.congr{Z:Nat->Prop}(h:D5 Y L s items ch)(a:∀o,Y o<->Z o):D5 Z L s items ch:=
 ⟨h.ix.congr (λo=>or_congr Iff.rfl (a o)),h.chain,h.none,h.TT,λkv c o d b=>h.loose kv c o d ((a o).2 b)⟩
def D5.again{s':St}{Z:Nat->Prop}(h:D5 Y L s items ch)(r:Bq L s')(y:∀o a,¬Eo s' o a)(n:DI s s' (λ_=>True))(l:s'.ws 9=s.ws 9)(f:∀o,Z o<->(∃a,AO s' o a)/\((∃a,AO s o a)->Y o)):D5 Z L s' items ch:=by
 have m:∀kv∈items,∀o∈Dz (ch kv.1),∃a,AO s o a:=λkv c o b=>by
  rcases h.ix.tree with⟨_,_,e⟩|⟨_,_,_,_,_,e⟩
  ·exact(e o).2 (.inl ⟨kv,c,b⟩)
  ·exact(e o).2 (.inr (.inl ⟨kv,c,b⟩))
 have p:∀o,(∃a,AO s o a)->∃a,AO s' o a:=λo⟨a,w⟩=>⟨a,(n o a trivial w).1⟩
 refine⟨⟨r,y,?_,h.ix.even⟩,λkv c=>⟨(h.chain kv c).1.keep n (λ_ _=>trivial),(h.chain kv c).2⟩,h.none,h.TT,λkv c o b g=>h.loose kv c o b (((f o).1 g).2 (m kv c o b))⟩;rcases h.ix.tree with⟨k,v,e⟩|⟨u,k,t,x,q,e⟩
 ·refine .inl ⟨l.trans k,v,λo=>?_⟩;constructor
  ·intro j;by_cases i:∃a,AO s o a
   ·rcases(e o).1 i with d|d
    ·exact .inl d
    ·exact .inr ((f o).2 ⟨j,λ_=>d⟩)
   ·exact .inr ((f o).2 ⟨j,λh=>absurd h i⟩)
  ·rintro(⟨kv,c,b⟩|g)
   ·exact p o (m kv c o b)
   ·exact((f o).1 g).1
 ·refine .inr ⟨u,by rw[l];exact k,?_,x,λo b=>?_,λo=>?_⟩
  ·rw[l];exact t.keep h.ix.ok r n (λ_ _=>trivial)
  ·rintro(⟨kv,c,d⟩|g)
   ·exact q o b (.inl ⟨kv,c,d⟩)
   ·exact q o b (.inr (((f o).1 g).2 ((e o).2 (.inl b))))
  ·constructor
   ·intro j;by_cases i:∃a,AO s o a
    ·rcases(e o).1 i with d|d|d
     ·exact .inl d
     ·exact .inr (.inl d)
     ·exact .inr (.inr ((f o).2 ⟨j,λ_=>d⟩))
    ·exact .inr (.inr ((f o).2 ⟨j,λh=>absurd h i⟩))
   ·rintro(b|⟨kv,c,b⟩|g)
    ·exact p o ((e o).2 (.inl b))
    ·exact p o (m kv c o b)
    ·exact((f o).1 g).1
end
section
variable{X Y:Nat->Prop}{L:Nat}{s:St}{items:List Kv}{ch:List UInt8->List Lk}
end
structure Loose(L:Nat)(s0 s:St)(Y:Nat->Prop)(items:List Kv)(ch:List UInt8->List Lk):Prop where
 sto:D5 Y L s items ch
 sh:s.sh=s0.sh
 low:∀j,j<16->s.ws j=s0.ws j
 tk:∀o,(∃d,AO s0 o d)<->(∃d,AO s o d)/\¬Y o
section
variable{Y:Nat->Prop}{L:Nat}{s0 s s':St}{items:List Kv}{ch:List UInt8->List Lk}
def Adz(d:Bq L s)(e:Bq L s')(h:∀a,(∃c,AO s a c)<->∃c,AO s' a c):En s=En s':=
 V9 (r:=λ(b f:Nat)=>b<f) (λb=>Nat.lt_irrefl b) (λb f h=>O) _ _ (QI d) (QI e) λa=>by rw[Lc d,Lc e,h a]
def Loose.start(h:Ce L s items ch):Loose L s s (λ_=>False) items ch:=⟨h.y,rfl,λ_ _=>rfl,λ_=>⟨λh=>⟨h,id⟩,λh=>h.1⟩⟩
def Loose.opened(h:Loose L s0 s Y items ch):D5 Y L (Fp s.ws s.sh) items ch/\∀o d,AO (Fp s.ws s.sh) o d<->AO s o d:=by
 obtain⟨g,b,f⟩:=Tj h.sto.ix.ok (Gi s);refine⟨h.sto.again g (Y5 _ _) f rfl (λo=>⟨λc=>?_,λ⟨⟨d,a⟩,e⟩=>e ⟨d,(b o d).1 a⟩⟩),b⟩;obtain⟨d,a⟩:=h.sto.taken c;exact⟨⟨d,(b o d).2 a⟩,λ_=>c⟩
def Loose.freed(h:Loose L s0 s Y items ch)(f:Bq L s0)(e:Bq L s')(c:∀o d,AO s' o d<->AO (Fp s.ws s.sh) o d/\¬Y o):En s'=En s0:=by
 refine Adz e f λo=>?_
 rw[h.tk o];constructor
 ·rintro⟨d,b⟩;obtain⟨g,a⟩:=(c o d).1 b;exact⟨⟨d,(h.opened.2 o d).1 g⟩,a⟩
 ·rintro⟨⟨d,b⟩,a⟩;exact⟨d,(c o d).2 ⟨(h.opened.2 o d).2 b,a⟩⟩
def Ao0{sh:Sh}(h1:s.sh=sh)(h:∀a,a<8->s.ws a=(st0 sh).ws a):wordsAt s.ws 0 8=wordsOf s.sh:=by
 have b:wordsAt s.ws 0 8=wordsAt (MN sh) 0 8:=by
  apply EC
  ·simp[wordsAt]
  ·intro c h1 b;rw[Gf,Gf];exact h _ (by simp[wordsAt]at h1;omega)
 rw[b,RJ,h1]
end
def yO{L:Nat}{sh:Sh}(a:L<=1024)(b:shapeOf L=some sh):Ce L (st0 sh) [] (λ_=>[]):=
 ⟨(Aox a b).congr (λ_=>⟨λh=>h.elim,λ⟨_,h,_⟩=>(nomatch h)⟩),(λ_ h=>(nomatch h)),(λ_ _=>rfl),(λ_ h=>(nomatch h))⟩
def FT:Sh:={lines:=100,BQ:=6,table:=128,data:=192}
def VC:shapeOf 100=some FT:=by decide+kernel
def JU:ByteArray:=⟨#[97]⟩
def JH:ByteArray:=⟨#[120]⟩
def Ata:ByteArray:=⟨#[98]⟩
def rY:xR FT JU JH=true:=by decide+kernel
def Xb:Wr:=⟨JU,JH,false⟩
def Aa5:Gq (st0 FT) 1 Xb=(RP FT JU JH,0,OT FT JH,0):=by
 have b:GH (st0 FT) Xb.key.data.toList=(0,7):=Aam FT JU U;have a:Iq (st0 FT) ⟨1,0,Xb.gone,Xb.text⟩=(one1 FT JH,OT FT JH,0):=one_add rY;have c:JD (one1 FT JH) Xb.key.data.toList (OT FT JH)=(RP FT JU JH,0):=Aal rY;unfold Gq;rw[b];simp only;rw[if_neg Θ,if_neg (by simp[Xb]),a];simp only;rw[if_neg Θ,c];simp
def rZ:∃b,OT FT JH=Aj b/\Ce 100 (RP FT JU JH) [(CG JU.data.toList,Aj b)] (EK (λ_=>[]) (CG JU.data.toList) ⟨b,⟨1,0,false,JH⟩⟩)/\(RP FT JU JH).ws 8=0:=by
 have h:=VB (yO (L:=100) U VC) 1 Xb (by decide+kernel) U (λd j=>(nomatch j));rw[Aa5]at h;obtain⟨g,a⟩:=h;have e:(RP FT JU JH).ws 8=0:=(g.2 8 U U).trans (I7 FT 8 U);rcases a with⟨a,_⟩|⟨_,a,_⟩|⟨b,m,items',a,_,_,l,c,i⟩
 ·exact absurd (congrArg (λk=>k.2.2) a) U
 ·cases a
 ·simp only[Prod.mk.injEq]at a;obtain⟨rfl,a,_⟩:=a;refine⟨b,a,?_,e⟩;have f:items'=[(CG JU.data.toList,Aj b)]:=VA c.ix.up (List.pairwise_singleton _ _) (λd=>by
   rw[i d];simp only[List.not_mem_nil,false_and,or_false,BG];exact Iff.rfl)
  rw[f]at c;exact c
section
variable{L:Nat}{s:St}{items:List Kv}{ch:List UInt8->List Lk}
def Ik(s:St)(ws:Nat->UInt64):St:={sh:=s.sh,ws:=ws,tk:=s.tk,hd:=BC s.sh.BQ 0}
def Tt(s:St)(ws:Nat->UInt64)(i:Nat):hdN (Ik s ws) i=0:=by
 unfold hdN Ik;simp only[Bo,List.getElem?_replicate];split<;>rfl
def Ad0(b:Bq L s){ws:Nat->UInt64}(h:∀c,c<16+s.sh.BQ->ws c=s.ws c):Bq L (Ik s ws):=
 ⟨b.sh,b.L1,b.OA,by simp[Ik],b.tk,λa _=>.inl (Tt s ws a),λa _=>.inr (.inl (Tt s ws a)),λa e _ _=>by rw[Tt,FC],λa d=>(h (16+a) (by have:a<s.sh.BQ:=d;omega)).trans (b.tab a d)⟩
def Ad1(s:St)(ws:Nat->UInt64)(o b:Nat):¬Eo (Ik s ws) o b:=by
 rintro⟨d,c,_,a,_⟩;rw[Tt,FC]at a;cases a
def Ad2(a:Bq L s):wordsAt s.ws (s.sh.table/8) s.sh.BQ=s.tk:=by
 apply EC
 ·simp[wordsAt,a.OA]
 ·intro b d c;rw[Gf,a.sh.table,show 128/8+b=16+b by omega,a.tab b (by rw[<-a.OA];exact c),Bo,Ae c];rfl
def lL(b:Bq L s):∀a,a<s.sh.BQ->FW (s.ws (s.sh.table/8+a)).toNat=true:=λa c=>by
 rw[b.sh.table,show 128/8+a=16+a by omega,b.tab a c];exact(b.tk a c).right
def yP(h:Ce L s items ch){c off:Nat}{s1:St}(w:c=1\/c=2)(x:CP s c=some (off,s1)){l:List UInt64}(B:l.length<=8*Bf c){ws:Nat->UInt64}(z:Half s1.ws (BK s1.ws (off/8) l) ws):
 Ce L (Ik s ws) items ch/\∀a,a<16+s.sh.BQ->ws a=s.ws a:=by
 obtain⟨d,q,t,A,k,_,_,y⟩:=MB h.ix.ok w x;have j:=k.bounds d;have n:∀a,¬Ho off c a->ws a=s.ws a:=λa b=>by
  rcases z a with e|e
  ·rw[e,q]
  ·rw[e];unfold BK;rw[if_neg,q];intro i;exact b ⟨i.1,Ω i.2⟩
 have g:∀a,a<16+s.sh.BQ->ws a=s.ws a:=λa b=>n a (λf=>by
  have:=d.Dy (by exact j.1) f;rw[t]at this;omega)
 have m:DI s (Ik s ws) (λ_=>True):=λr u _ o=>by
  have p:=(y r u).2 o;obtain⟨C,v⟩:=Me d k p;exact⟨o,λa b=>n a (λf=>Nl v j.2.2 (p.bounds d).2.2 f b)⟩
 exact⟨h.keep (m.mono λ_ _=>trivial) (h.ix.same (Ad0 h.ix.ok g) (Ad1 s ws) (λr=>Iff.rfl) m (g 9 O)),g⟩
end
def Ao1:ByteArray:=⟨#[121]⟩
def Atb:ByteArray:=⟨#[122]⟩
def Alb:Wr:=⟨JU,Ao1,false⟩
def Ao2:Wr:=⟨Ata,Atb,false⟩
def Gu:St:={RP FT JU JH with ws:=D9 (RP FT JU JH).ws 8 1}
def aX:Rc:=⟨2,OT FT JH,false,Ao1⟩
def Amv:Bool:=match CP Gu 1 with
 |none=>false
 |some (a,b)=>(GV {b with ws:=BK b.ws (a/8) (CW aX)} a).2==0
def Atc:Amv=true:=by decide+kernel
def Ao3:∃a b,CP Gu 1=some (a,b)/\(GV {b with ws:=BK b.ws (a/8) (CW aX)} a).2=0:=by
 have h:=Atc;unfold Amv at h;cases c:CP Gu 1 with
 |none=>rw[c]at h;cases h
 |some d=>
  obtain⟨a,b⟩:=d;rw[c]at h;exact⟨a,b,rfl,by simpa using h⟩
def Atd:(En (RP FT JU JH)).length=2:=by decide+kernel
def Alc:DN aX=true:=by decide+kernel
def Ao4:(OT FT JH).toNat≠0:=by decide+kernel
def Ate:GH Gu JU.data.toList=(OT FT JH,0):=by
 obtain⟨f,d,e,_⟩:=rZ;rcases lI (e.slot 1).ix JU.data.toList U with⟨g,b,a,_⟩|⟨_,c⟩
 ·rw[BG]at a;have:g=Aj f:=congrArg Prod.snd a;rw[d,<-this];exact b
 ·exact absurd rfl (c _ (BG.2 rfl))
def Amw:MC (st0 FT) (RP FT JU JH):=by
 have h:=VB (yO (L:=100) U VC) 1 Xb (by decide+kernel) U (λb a=>(nomatch a));rw[Aa5]at h;exact h.1
def Ald:∃e c,CP Gu 1=some (e,c)/\(GV {c with ws:=BK c.ws (e/8) (CW aX)} e).2=0/\
 ∀a,Half c.ws (BK c.ws (e/8) (CW aX)) a->a 8=1/\wordsAt a 0 8=wordsOf FT/\(∃d,Ce 100 (Ik Gu a) [(CG JU.data.toList,Aj d)] (EK (λ_=>[]) (CG JU.data.toList) ⟨d,⟨1,0,false,JH⟩⟩))/\
  (∀l,l<FT.BQ->FW (a (FT.table/8+l)).toNat=true)/\Ik Gu a={sh:=FT,ws:=a,tk:=wordsAt a (FT.table/8) FT.BQ,hd:=BC FT.BQ 0}:=by
 obtain⟨e,c,f,g⟩:=Ao3;refine⟨e,c,f,g,λa v=>?_⟩;obtain⟨d,x,t,_⟩:=rZ;have u:Ce 100 Gu [(CG JU.data.toList,Aj d)] (EK (λ_=>[]) (CG JU.data.toList) ⟨d,⟨1,0,false,JH⟩⟩):=t.slot 1;obtain⟨o,i⟩:=yP u (.inl rfl) f (by decide+kernel) v;have j:Gu.sh=FT:=Amw.1;rw[j]at i;have y:FT.BQ=6:=rfl;have r:a 8=1:=(i 8 O).trans (by show D9 (RP FT JU JH).ws 8 1 8=1;unfold D9;rw[if_pos rfl]);have s:∀b,b<8->a b=MN FT b:=λb w=>(i b O).trans (by
  show D9 (RP FT JU JH).ws 8 1 b=_;unfold D9;rw[if_neg O];exact Amw.2 b O O)
 have m:Bq 100 (Ik Gu a):=o.ix.ok;have k:=Ad2 m;have n:=lL m;have p:(Ik Gu a).sh=FT:=j;rw[p]at k n;refine⟨r,?_,⟨d,o⟩,n,?_⟩
 ·have g:wordsAt a 0 8=wordsAt (MN FT) 0 8:=by
   apply EC
   ·simp[wordsAt]
   ·intro l f g;rw[Gf,Gf];exact s _ (by have:=f;simp[wordsAt]at this;omega)
  rw[g,RJ]
 ·have q:(Ik Gu a).tk=Gu.tk:=rfl;rw[q]at k;show({sh:=Gu.sh,ws:=a,tk:=Gu.tk,hd:=BC Gu.sh.BQ 0}:St)=_;rw[j,<-k];rfl
