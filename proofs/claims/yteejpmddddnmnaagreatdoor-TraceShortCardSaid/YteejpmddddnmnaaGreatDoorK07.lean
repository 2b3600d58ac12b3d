import Derived.Test.YteejpmddddnmnaaGreatDoorK06
set_option linter.defProp false
set_option maxHeartbeats 32000000
set_option maxRecDepth 100000
open List renaming mem_cons_self->Bf,mem_cons_of_mem->Bi,getElem_set->MX,length_set->Di,findIdx?_eq_some_iff_getElem->NG,getD_eq_getElem?_getD->Bv,getElem?_eq_getElem->Ag,drop_eq_getElem_cons->BX,append_assoc->Ba,nodup_cons->Gz,nodup_append->DF,getElem?_map->CP,getElem?_range->WM,cons_append->BM,length_append->AO,length_cons->Bg,mem_append->AP,mem_map->CU,length_drop->AU,getElem_drop->bF,ext_getElem->ER,getElem_set_self->UD,getElem_set_ne->Afw,mem_flatten->U8,map_cons->Ci,foldl_cons->Aqh,mem_cons->Cb,nil_append->DR,mem_singleton->BB,mem_append_right->BA,mem_append_left->BK,append_cancel_left->En,length->Qg,getElem?_append_right->Ez,nodup_nil->WJ,getLast?_singleton->wL,length_eq_one_iff->xg,append_nil->EN,map_nil->FW,map_append->CJ,reverse_append->XG,getElem?_cons_zero->Af,getElem?_cons_succ->Ai,length_zip->mf,getElem?_replicate->Jw,replicate->BJ,getLast?_append->A4w,getElem?_drop->DX,reverse_perm->Ald,map_reverse->Alr,drop_append_of_le_length->dD,mem_reverse->Tu,pairwise_cons->Ir,getElem_of_mem->CW,reverse_singleton->UE,singleton_append->VX
open Int renaming toNat_natCast->BC,ofNat->Gt
open Nat renaming lt_or_gt_of_ne->A4x,le_refl->Ae,le_of_lt->Lh,lt_of_le_of_lt->KF,le_trans->AZ,zero_le->Bd,not_lt_zero->Wn
open Option renaming map_eq_some_iff->Tt,some_or->A4y
open Go.Lib renaming hid->Ac
open UInt64 renaming toNat_inj->Eb,ofNat->Az,toNat->P9,toNat_lt->bD
open Go.Value renaming slice->fM,int->gz
open Go.Ending renaming returned->iO
open Go.IntKind renaming i64->iU
open Option renaming some->jm,none->jw
open Bool renaming true->jO,false->jS
namespace Go.Proofs.YteejpmddddnmnaaGreatDoor
open Go.Proofs.Tryz
def MQ(ws:Nat->ni)(j n t:Nat)(h:t<(wordsAt ws j n).length):(wordsAt ws j n)[t]=ws (j+t):=by
 simp[wordsAt]
def Vl:∀(b:List nC)(a:List ni)(row:List ni)(j:Nat)(k:ni),(∀c∈b,4+c.toNat≠j)->Dj (row.set j k) b a=(Dj row b a).set j k
 |[],a,row,j,k,_=>by cases a<;>simp[Dj]
 |d::b,[],row,j,k,_=>by simp[Dj]
 |d::b,f::a,row,j,k,h=>by
  rw[Dj,Dj,<-List.set_comm _ _ (h d (Bf ..)),Vl b a _ j k (λc e=>h c (Bi _ e))]
def Vm:∀(a:List nC)(b:List ni)(row:List ni)(i:Nat)(k:ni)(h1:i<a.length),a.length=b.length->Es a=jO->Dj row a (b.set i k)=(Dj row a b).set (4+a[i].toNat) k
 |f::a,g::b,row,0,k,_,_,e=>by
  obtain⟨_,j⟩:=MP e;rw[List.set_cons_zero,Dj,Dj];have c:∀d∈a,4+d.toNat≠4+f.toNat:=λd l=>Ω (j d l)
  rw[Vl a b row _ k c,Vl a b row _ g c];simp only[List.getElem_cons_zero,List.set_set]
 |f::a,g::b,row,i+1,k,h1,m,e=>by
  obtain⟨c,_⟩:=MP e;rw[List.set_cons_succ,Dj,Dj,Vm a b _ i k (by simpa using h1) (by simpa using m) c];rfl
def MR(x:Nd)(i:Nat)(k:ni):Nd:={x with kids:=x.kids.set i k}
def zX{x:Nd}(h:CG x=jO)(i:Nat){k:ni}(m:k≠0):CG (MR x i k)=true:=by
 obtain⟨c,d,e,f,g,l⟩:=(BD x).1 h;rw[BD];have b:∀j(a:j<(x.kids.set i k).length),(x.kids.set i k)[j].toNat≠0:=λj a=>by
  rw[MX];split
  ·exact Aof m
  ·exact l j (by rwa [Di]at a)
 exact⟨c,d,by show _=(x.kids.set i k).length;rw[Di];exact e,f,g,b⟩
def aT(x:Nd)(i:Nat)(k:ni):DI (MR x i k)=DI x:=by
 unfold DI MR;rw[Di]
def Ajs{x:Nd}(h:CG x=jO){i:Nat}(hi:i<x.kids.length)(k:ni):Eh (MR x i k)=(Eh x).set (RG x i) k:=by
 obtain⟨d,e,b,f,c,g⟩:=(BD x).1 h;unfold Eh RG;rw[show(MR x i k).kids=x.kids.set i k from rfl,Di];by_cases a:x.kids.length<=4
 ·rw[kX a,kX a,kX a];unfold encS;rw[show(MR x i k).kids=x.kids.set i k from rfl,show(MR x i k).pre=x.pre from rfl,show(MR x i k).val=x.val from rfl,show(MR x i k).labels=x.labels from rfl,Di];rw[List.set_append_left _ _ (by simp;omega),List.set_append_right _ _ Θ];simp
 ·rw[lg a,lg a,lg a];unfold UI;rw[show headB (MR x i k)=headB x by unfold headB;rw[show(MR x i k).kids=x.kids.set i k from rfl,Di];rfl,show(MR x i k).labels=x.labels from rfl,show(MR x i k).kids=x.kids.set i k from rfl];rw[Vm x.labels x.kids (headB x) i k O b c,aS O]
def Ajt{x:Nd}(h:CG x=jO){c:nC}{g:ni}{i:Nat}(b:Ru x c=jm (g,i)):∃(a:Nat)(k:a<x.kids.length)(l:a<x.labels.length),x.labels[a]=c/\g=x.kids[a]/\i=RG x a:=by
 have m:=((BD x).1 h).2.2.1;unfold Ru at b;split at b
 ·rename_i a e;rw[kX h]at b;simp only[Option.some.injEq,Prod.mk.injEq]at b;unfold Kq at e;obtain⟨f,j,_⟩:=NG.1 e;have d:x.labels[a]=c:=UInt8.toNat_inj.1 (by simpa using j);refine⟨a,O,f,d,?_,?_⟩
  ·rw[<-b.1,Bv,Ag O];rfl
  ·rw[<-b.2];unfold RG;rw[aS f,d]
 ·cases b
def qx{x:Nd}(h:CG x=jO){c:nC}(a:Ru x c=jw):RY x.labels c=false:=by
 unfold Ru at a;split at a
 ·rw[kX h]at a;cases a
 ·rename_i b;unfold Kq at b;rw[List.findIdx?_eq_none_iff]at b;unfold RY;rw[List.any_eq_false];intro e d;have:=b e d;simpa using this
def Vo(pre:List nC)(a:List nC)(b:List Part)(i:Nat)(h1:i<a.length)(h2:i<b.length)(h:a.length=b.length):
 BI pre a b=BI pre (a.take i) (b.take i)++(Gx pre a[i] b[i].nJ++BI pre (a.drop (i+1)) (b.drop (i+1))):=by
 rw[Vk pre a b i h,BX h1,BX h2];rfl
def N9(a:List Part)(i:Nat)(h2:i<a.length):Bl a=Bl (a.take i)++(a[i].nT++Bl (a.drop (i+1))):=by
 rw[U6 a i,BX h2];rfl
def Wi(q:List nC)(l:List Kv):List Kv:=l.map λa=>(q++a.1,a.2)
def zY(l:List Kv):Wi [] l=l:=by simp[Wi]
def aU(pre:List nC)(lb:nC)(q:List nC)(A l B:List Kv):Gx pre lb (A++Wi q l++B)=Gx pre lb A++Wi (pre++lb::q) l++Gx pre lb B:=by
 unfold Gx Wi;simp[List.map_map,Function.comp_def,Ba]
structure aV(L:Nat)(s:St)(r:Nat)(name:ni)(nJ:List Kv)(nT:List Nat)(word:Int)(nM:List nC)(o9:Pl)(pW q:List nC)(rl:Nat)(nl:ni)(nN:List Part)(A B:List Kv)(b1 b2:List Nat):Prop where
 rd:Gu s nl=jm o9.nd
 off:Bz nl=o9.off
 pre:o9.nd.pre.length<=rl
 kid:o9.nd.kids≠[]->o9.nd.pre.length+1<=rl
 len:nN.length=o9.nd.kids.length
 sub:∀i(h1:i<o9.nd.kids.length)(h2:i<nN.length),Ep s (rl-o9.nd.pre.length-1) o9.nd.kids[i] nN[i].nJ nN[i].nT
 cut:nM=q++pW
 lens:q.length+rl=r
 its:nJ=A++Wi q (CS o9.nd++BI o9.nd.pre o9.nd.labels nN)++B
 bls:nT=b1++(o9.off.toNat::Bl nN)++b2
 lo:∀kv∈A,∀t,Op.bytesLess kv.1 (q++t)=jO
 hi:∀kv∈B,∀t,Op.bytesLess (q++t) kv.1=jO
 wd:(q=[]/\o9.word=word/\nl=name)\/(q≠[]/\∃p c j,p∈b1/\AX s p c/\IE p c j/\o9.word=((8*j:Nat):Int)/\s.ws j=nl)
 swap:∀(s':St)(name':ni)(Zw:List Kv)(X4:List Nat),BZ L s'->name'≠0->Ep s' rl name' Zw X4->(∀o c,(o∈b1\/o∈b2)->AX s o c->AX s' o c/\∀j,IE o c j->s'.ws j=if((8*j:Nat):Int)=o9.word then name' else s.ws j)->
  Ep s' r (if q=[]then name' else name) (A++Wi q Zw++B) (b1++X4++b2)
structure A28(L:Nat)(s:St)(r:Nat)(name:ni)(nJ:List Kv)(nT:List Nat)(word:Int)(nM:List nC)(o9:Pl)(pW q:List nC)(rl:Nat)(nl:ni)(nN:List Part)(A B:List Kv)(b1 b2:List Nat):Prop extends aV L s r name nJ nT word nM o9 pW q rl nl nN A B b1 b2 where
 stop:oW o9.nd.pre pW<o9.nd.pre.length\/oW o9.nd.pre pW=pW.length\/Ru o9.nd (pW.getD (oW o9.nd.pre pW) 0)=jw
section
variable{L:Nat}{s:St}
def SY(a:BZ L s){o p c d j k:Nat}(h:AX s o c)(b:AX s p d)(i:o≠p)(f:IE o c j)(g:IE p d k):j≠k:=λe=>by
 subst e;exact Rj (zQ a h b i) (h.bounds a).2.2 (b.bounds a).2.2 f g
def qy(N:BZ L s){r:Nat}{x:ni}{a:Nd}{nN:List Part}{o:Nat}{nM ac:List nC}{bw:Int}{i:Nat}(v:Bz x=o)(M:AX s o (DI a))(E:CG a=jO)(au:wordsAt s.ws (o/8) (8*Bq (DI a))=Eh a)
 (bd:a.pre.length<=r)(a9:nN.length=a.kids.length)
 (a6:∀i(h1:i<a.kids.length)(h2:i<nN.length),Ep s (r-a.pre.length-1) a.kids[i] nN[i].nJ nN[i].nT)(bb:((Bz x).toNat::Bl nN).Nodup)(D:i<a.kids.length)(R:i<a.labels.length)(T:i<nN.length)(a8:a.pre.length+1<=r)(hcut:a.pre++a.labels[i]::ac=nM)
 {o9:Pl}{pW m:List nC}{rl:Nat}{nl:ni}{ah:List Part}{n q:List Kv}{g t:List Nat}
 (S:aV L s (r-a.pre.length-1) a.kids[i] nN[i].nJ nN[i].nT (Bz x+8*(RG a i:Nat)) ac o9 pW m rl nl ah n q g t):
 aV L s r x (CS a++BI a.pre a.labels nN) ((Bz x).toNat::Bl nN) bw nM o9 pW (a.pre++a.labels[i]::m) rl nl ah (CS a++BI a.pre (a.labels.take i) (nN.take i)++Gx a.pre a.labels[i] n) (Gx a.pre a.labels[i] q++BI a.pre (a.labels.drop (i+1)) (nN.drop (i+1))) (o::Bl (nN.take i)++g) (t++Bl (nN.drop (i+1))):=by
 have Y:=(BD a).1 E;obtain⟨J,aM⟩:=Gz.1 bb;have I:=N9 nN i T;have ad:=aM;rw[I]at ad;obtain⟨bE,bl,bm⟩:=DF.1 ad;obtain⟨bL,bM,bo⟩:=DF.1 bl;rw[v]at J;rw[BC]at J;obtain⟨bO,bQ,_⟩:=Aeh a E i D;have K:(Eh a)[RG a i]?=jm a.kids[i]:=Ag1 a E i D;have bR:=M.bounds N;have ba:=Kw a;have be:IE o (DI a) (o/8+RG a i):=⟨O,O⟩;have aw:s.ws (o/8+RG a i)=a.kids[i]:=by
  rw[<-au]at K;unfold wordsAt at K;rw[CP,WM O]at K;simpa using K
 have av:∃p e j,(p=o\/p∈g)/\AX s p e/\IE p e j/\o9.word=((8*j:Nat):Int)/\s.ws j=nl:=by
  rcases S.wd with⟨k,l,al⟩|⟨_,p,e,j,h1,h2,a3,a4,a5⟩
  ·refine⟨o,_,_,.inl rfl,M,be,?_,by rw[aw,al]⟩;rw[l,v];omega
  ·exact⟨p,e,j,.inr h1,h2,a3,a4,a5⟩
 have az:∀p∈g,p∈nN[i].nT:=λp f=>by rw[S.bls];simp[f]
 have aD:∀j(h:j<a.labels.length),j<i->a.labels[j].toNat<a.labels[i].toNat:=λj h U=>Jt _ Y.2.2.2.2.1 j i U R
 have aW:∀j(h:j<a.labels.length),i<j->a.labels[i].toNat<a.labels[j].toNat:=λj h U=>Jt _ Y.2.2.2.2.1 i j U h
 refine⟨S.rd,S.off,S.pre,S.kid,S.len,S.sub,?_,?_,?_,?_,?_,?_,?_,?_⟩
 ·rw[Ba,BM,<-S.cut];exact hcut.symm
 ·have:=S.lens;simp only[AO,Bg];omega
 ·rw[Vo a.pre a.labels nN i R T O,S.its,aU];simp only[Ba]
 ·rw[v,BC,I,S.bls];simp only[Ba,BM]
 ·intro bk X b;rw[Ba,BM];rcases AP.1 X with h|h
  ·rcases AP.1 h with h|h
   ·obtain⟨rfl,_⟩:=Gj h;exact qp _ _ _
   ·obtain⟨j,Z,bi,w,_,rfl⟩:=Fz h;simp only[List.length_take]at Z;rw[List.getElem_take,Qa];exact Xz (aD j O O) _ _
  ·obtain⟨w,A,rfl⟩:=CU.1 h;have:=S.lo w A b;show Op.bytesLess (a.pre++a.labels[i]::w.1) _=jO;rw[Qa];simp[Op.bytesLess,this]
 ·intro bk X b;rw[Ba,BM];rcases AP.1 X with h|h
  ·obtain⟨w,A,rfl⟩:=CU.1 h;have:=S.hi w A b;show Op.bytesLess _ (a.pre++a.labels[i]::w.1)=jO;rw[Qa];simp[Op.bytesLess,this]
  ·obtain⟨j,Z,bi,w,_,rfl⟩:=Fz h;simp only[AU]at Z;rw[bF,Qa];exact Xz (aW _ O O) _ _
 ·right;refine⟨by simp,?_⟩;obtain⟨p,e,j,h1,h2⟩:=av;refine⟨p,e,j,?_,h2⟩;rcases h1 with rfl|h1
  ·simp
  ·simp[h1]
 ·intro s' aa z y ab aq a0 V;obtain⟨bt,bA,bB,aE,aG,aI,aL,bx⟩:=av;have aR:∀p e j,p≠bt->AX s p e->IE p e j->¬((8*j:Nat):Int)=o9.word:=λp e j f C H c=>by
   have:=SY N C aG f H aI;rw[aL]at c;omega
  have ae:=S.swap s' aa z y ab aq a0 (λp e f C=>V p e (by
   rcases f with f|f
   ·left;simp[f]
   ·right;simp[f]) C)
  obtain⟨d,F⟩:∃bj,bj=(if m=[]then aa else a.kids[i]):=⟨_,rfl⟩;rw[<-F]at ae;have a7:d≠0:=by
   rw[F];split
   ·exact aq
   ·exact λc=>Y.2.2.2.2.2 i D (by rw[c];rfl)
  obtain⟨t1,t2⟩:=V o _ (by left;simp) M;have bg:Gu s' x=jm (MR a i d):=by
   refine dP ab v (by rw[aT];exact t1) (zX E i a7) ?_;rw[aT,Ajs E D d];refine ER (by simp[wordsAt,ba]) λb Q an=>?_
   have bh:b<8*Bq (DI a):=by simpa[wordsAt]using Q
   have ar:s.ws (o/8+b)=(Eh a)[b]' O:=by
    have:(wordsAt s.ws (o/8) (8*Bq (DI a)))[b]?=(Eh a)[b]?:=by rw[au]
    unfold wordsAt at this;rw[CP,WM bh,Ag O]at this;simpa using this
   have ao:IE o (DI a) (o/8+b):=⟨O,O⟩;rw[MQ,t2 _ ao,MX];rcases S.wd with⟨k,l,al⟩|⟨k,p,e,j,bp,bq,br,bs,bN⟩
   ·have W:d=aa:=by rw[F,kX k]
    by_cases c:b=RG a i
    ·rw[kX (by rw[l,v];omega),kX c.symm,W]
    ·rw[lg (by rw[l,v];omega),lg (λh=>c h.symm)];exact ar
   ·have W:d=a.kids[i]:=by rw[F,lg k]
    have bc:p≠o:=λc=>J (by rw[<-c,I];simp[az p bp])
    have:¬((8*(o/8+b):Nat):Int)=o9.word:=λc=>by
     have:=SY N M bq (λc=>bc c.symm) ao br;rw[bs]at c;omega
    rw[lg this];by_cases c:RG a i=b
    ·subst c;rw[kX rfl,W,aw]
    ·rw[lg c];exact ar
  have G:=Ep.mk (s:=s') r x (MR a i d) (nN.set i ⟨n++Wi m z++q,g++y++t⟩) bg bd (λ_=>a8) (by show _=(a.kids.set i d).length;rw[Di,Di];exact a9) (λb Q an=>by
   have am:b<a.kids.length:=by have:b<(a.kids.set i d).length:=Q;rwa [Di]at this
   have a2:b<nN.length:=by rwa [Di]at an
   by_cases c:i=b
   ·subst c;have k:(MR a i d).kids[i]=d:=by show(a.kids.set i d)[i]'(by rw[Di];exact D)=d;rw[UD]
    have l:(nN.set i ⟨n++Wi m z++q,g++y++t⟩)[i]=⟨n++Wi m z++q,g++y++t⟩:=by rw[UD]
    rw[k,l];exact ae
   ·have k:(MR a i d).kids[b]=a.kids[b]:=by show(a.kids.set i d)[b]'(by rw[Di];exact am)=a.kids[b];rw[Afw c]
    have l:(nN.set i ⟨n++Wi m z++q,g++y++t⟩)[b]=nN[b]:=by rw[Afw c]
    rw[k,l];refine(a6 b am a2).keep N ab (B:=λp=>p∈nN[b].nT) (λp e f C=>?_) (λ_ h=>h);have P:p∈Bl (nN.take i)\/p∈Bl (nN.drop (i+1)):=by
     unfold Bl;rcases A4x c with h|h
     ·right;exact U8.2 ⟨_,CU.2 ⟨nN[b],List.mem_drop_iff_getElem.2 ⟨b-(i+1),O,by simp only[show i+1+(b-(i+1))=b by omega]⟩,rfl⟩,f⟩
     ·left;exact U8.2 ⟨_,CU.2 ⟨nN[b],List.mem_take_iff_getElem.2 ⟨b,O,rfl⟩,rfl⟩,f⟩
    obtain⟨u1,u2⟩:=V p e (by
     rcases P with h|h
     ·left;simp[h]
     ·right;simp[h]) C
    refine⟨u1,λj H=>?_⟩;rw[u2 j H,lg];refine aR p e j (λa1=>?_) C H;subst a1;rcases aE with h|h
    ·subst h;refine J ?_;rw[I];rcases P with h|h<;>simp[h]
    ·have A:=az _ h;rcases P with h2|h2
     ·exact bm _ h2 _ (by simp[A]) rfl
     ·exact bo _ A _ h2 rfl)
  rw[lg Θ];have ap:i<(nN.set i (⟨n++Wi m z++q,g++y++t⟩:Part)).length:=by rw[Di];exact T
  rw[v,BC,show(MR a i d).pre=a.pre from rfl,show(MR a i d).labels=a.labels from rfl,show CS (MR a i d)=CS a from rfl,
   Vo a.pre a.labels _ i R ap (by rw[Di];omega),N9 _ i ap]at G
  simp only[UD,List.take_set_of_le (Ae i),List.drop_set_of_lt (Nat.lt_succ_self i)]at G;rw[aU]at G;simpa only[Ba,BM]using G
def Zy{r:Nat}{c:ni}{a:Nd}{nN:List Part}{nM:List nC}{l:nC}{d:Int}(k:Gu s c=jm a)(j:a.pre.length<=r)(e:a.kids≠[]->a.pre.length+1<=r)(i:nN.length=a.kids.length)
 (g:∀b(h1:b<a.kids.length)(h2:b<nN.length),Ep s (r-a.pre.length-1) a.kids[b] nN[b].nJ nN[b].nT):
 aV L s r c (CS a++BI a.pre a.labels nN) ((Bz c).toNat::Bl nN) d nM ⟨a,Bz c,l,d⟩ nM [] r c nN [] [] [] []:=
 ⟨k,rfl,j,e,i,g,rfl,by simp,by simp[zY],by simp,(λ_ h=>by cases h),(λ_ h=>by cases h),.inl ⟨rfl,rfl,rfl⟩,λs' o n m _ _ f _=>by simpa[zY]using f⟩
def Zz{a:Nd}{nM:List nC}{j:ni}{k:Nat}(m:CG a=jO)(h1:¬(oW a.pre nM<a.pre.length\/oW a.pre nM=nM.length))(l:Ru a (nM.getD (oW a.pre nM) 0)=jm (j,k)):
 oW a.pre nM=a.pre.length/\a.pre.length<nM.length/\∃(b:Nat)(f:b<a.kids.length)(g:b<a.labels.length),j=a.kids[b]/\k=RG a b/\a.labels[b]=nM.getD a.pre.length 0/\a.pre++a.labels[b]::nM.drop (a.pre.length+1)=nM:=by
 obtain⟨b,f,g,d,rfl,rfl⟩:=Ajt m l;have e:oW a.pre nM=a.pre.length:=Ω (JY a.pre nM);have i:a.pre.length<nM.length:=Ω (LM a.pre nM);have c:=UH a.pre nM;rw[e]at c d;rw[List.take_length]at c;have hcut:=Asn i;rw[<-c,<-d]at hcut;exact⟨e,i,b,f,g,rfl,rfl,d,hcut⟩
def qA(y:BZ L s):∀(f r:Nat)(b:ni)(nJ:List Kv)(nT:List Nat)(nM:List nC)(e:nC)(d:Int)(l:List Pl),Ep s r b nJ nT->nT.Nodup->nM.length<f->nM.length<=r->b≠0->
 ∃o9 pW q rl nl nN A B b1 b2 m,ES s f b nM e d l=jm (l++m++[o9],pW)/\A28 L s r b nJ nT d nM o9 pW q rl nl nN A B b1 b2
 |0,_,_,_,_,_,_,_,_,_,_,h,_,_=>absurd h O
 |f+1,r,b,nJ,nT,nM,e,d,l,N,E,X,aa,K=>by
  cases N with
  |mk _ _ a nN k w n v j=>
   obtain⟨o,M,P,x,Q⟩:=JC y k;rw[ES,lg K,k]
   dsimp only
   by_cases i:oW a.pre nM<a.pre.length\/oW a.pre nM=nM.length
   ·rw[kX i];exact⟨⟨a,Bz b,e,d⟩,_,_,_,_,_,_,_,_,_,[],by simp,⟨Zy k w n v j,i.imp id .inl⟩⟩
   ·rw[lg i];cases D:Ru a (nM.getD (oW a.pre nM) 0)with
    |none=>exact⟨⟨a,Bz b,e,d⟩,_,_,_,_,_,_,_,_,_,[],by simp,⟨Zy k w n v j,.inr (.inr D)⟩⟩
    |some R=>
     obtain⟨ab,ac⟩:=R;obtain⟨H,Z,c,g,I,rfl,rfl,Y,hcut⟩:=Zz x i D;have t:c<nN.length:=O;have J:=n (λp=>by rw[p]at g;simp at g);have z:=(Gz.1 E).2;rw[N9 nN c t]at z;have S:=(DF.1 (DF.1 z).2.1).1;obtain⟨o9,pW,ad,rl,nl,G,T,U,V,W,m,F,C⟩:=qA y f (r-a.pre.length-1) a.kids[c] nN[c].nJ nN[c].nT (nM.drop (a.pre.length+1)) (nM.getD (oW a.pre nM) 0) (Bz b+8*(RG a c:Nat)) (l++[⟨a,Bz b,e,d⟩]) (j c g t) S (by rw[AU];omega) (by rw[AU];omega) (λp=>((BD a).1 x).2.2.2.2.2 c g (by rw[p];rfl));simp only;rw[H]at F⊢;exact⟨o9,pW,_,rl,nl,G,_,_,_,_,⟨a,Bz b,e,d⟩::m,by rw[F];simp,⟨qy y M P x Q w v j E g I t J hcut C.toaV,C.stop⟩⟩
end
structure JQ(X:Nat->Prop)(L:Nat)(s:St)(nJ:List Kv):Prop where
 ok:BZ L s
 nh:∀o d,¬EK s o d
 tree:(s.ws 9=0/\nJ=[]/\∀o,(∃d,AX s o d)<->X o)\/(∃nT,s.ws 9≠0/\Ep s 32 (s.ws 9) nJ nT/\nT.Nodup/\(∀o∈nT,¬X o)/\∀o,(∃d,AX s o d)<->o∈nT\/X o)
 even:∀kv∈nJ,OB kv.1=jO
abbrev A3d:=JQ (λ_=>False)
structure Jj(X:Nat->Prop)(s s':St):Prop where
 sh:s'.sh=s.sh
 low:∀j,j<16->j≠9->s'.ws j=s.ws j
 keep:DV s s' X
def Jj.refl(X:Nat->Prop)(s:St):Jj X s s:=⟨rfl,λ_ _ _=>rfl,DV.refl _ _⟩
section
variable{X:Nat->Prop}{L:Nat}{s:St}
def Qb{s s':St}(h1:s'.hd=s.hd)(h2:s'.sh=s.sh)(o d:Nat):EK s' o d<->EK s o d:=by
 unfold EK hdN;rw[h1,h2]
def Y1:∀(l:List Nat){s:St}(_:BZ L s),l.Nodup->(∀o∈l,∃d,AX s o d)->
 ∃a,ET s (l.map Gt)=a/\BZ L a/\a.sh=s.sh/\a.hd=s.hd/\(∀j,(j<16\/16+s.sh.CE<=j)->a.ws j=s.ws j)/\∀o d,AX a o d<->AX s o d/\o∉l
 |[],s,b,_,_=>⟨s,rfl,b,rfl,rfl,λ_ _=>rfl,λo d=>by simp⟩
 |o::l,s,b,z,g=>by
  obtain⟨A,B⟩:=Gz.1 z;obtain⟨d,v⟩:=g o (Bf ..);obtain⟨H,r,C,i,x,n,k⟩:=dO b v;obtain⟨a,t,D,m,y,F,E⟩:=Y1 l C B (λp f=>by
   obtain⟨c,w⟩:=g p (Bi _ f);exact⟨c,(k p c).2 ⟨w,λq=>A (q▸f)⟩⟩)
  refine⟨a,?_,D,m.trans i,y.trans x,λj e=>(F j (by rw[i];exact e)).trans (n j e),λp G=>?_⟩
  ·rw[<-t];unfold ET;rw[Ci,Aqh];show List.foldl _ (GG s (Gt o)).1 _=_;rw[show(Gt o)=(o:Int)from rfl,r]
  ·rw[E,k,Cb,not_or];exact⟨λh=>⟨h.1.1,h.1.2,h.2⟩,λh=>⟨⟨h.1,h.2.1⟩,h.2.2⟩⟩
def jP:∀(l:List Nat){s:St}(_:BZ L s),l.Nodup->(∀o∈l,∃d,AX s o d)->LV s (l.map Gt) 0=(ET s (l.map Gt),0)
 |[],s,_,_,_=>rfl
 |o::l,s,q,k,c=>by
  obtain⟨m,n⟩:=Gz.1 k;obtain⟨d,i⟩:=c o (Bf ..);obtain⟨x,g,r,y,w,v,t⟩:=dO q i;have e:=jP l r n (λp b=>by
   obtain⟨a,j⟩:=c p (Bi _ b);exact⟨a,(t p a).2 ⟨j,λf=>m (f▸b)⟩⟩)
  unfold ET at e⊢;rw[Ci,Aqh,LV,show(Gt o)=(o:Int)from rfl,g];simpa using e
def uV{s0:St}{j:Jb}{B:List Nat}(_:BZ L s0)(g:Grown L s0 j B):∃a,ET j.s j.made=a/\BZ L a/\(∀o d,¬EK a o d)/\(∀o,(∃d,AX a o d)<->∃d,AX s0 o d)/\DV s0 a (λ_=>True)/\(∀c,c<16->a.ws c=s0.ws c)/\a.sh=s0.sh:=by
 obtain⟨a,r,w,l,t,q,k⟩:=Y1 B g.ok g.nod (λo v=>(g.tk o).2 (.inr v));refine⟨a,by rw[g.made];exact r,w,λo d h=>g.nh o d ((Qb t l o d).1 h),λo=>?_,λo e _ p=>?_,λc m=>(q c (.inl m)).trans (g.low c m),l.trans g.sh⟩
 ·constructor
  ·rintro⟨d,h⟩;obtain⟨b,f⟩:=(k o d).1 h;exact((g.tk o).1 ⟨d,b⟩).resolve_right f
  ·rintro⟨d,h⟩;obtain⟨b,_⟩:=g.keep o d trivial h;exact⟨d,(k o d).2 ⟨b,λi=>g.new o i d h⟩⟩
 ·obtain⟨b,f⟩:=g.keep o e trivial p;refine⟨(k o e).2 ⟨b,λi=>g.new o i e p⟩,λj n=>?_⟩;rw[q j (.inr ?_),f j n];have:=g.ok.DU (b.bounds g.ok).1 n;exact this
def JQ.same{s':St}{nJ:List Kv}(h:JQ X L s nJ)(g:BZ L s')(m:∀o d,¬EK s' o d)(f:∀o,(∃d,AX s' o d)<->∃d,AX s o d)(l:DV s s' (λ_=>True))(e:s'.ws 9=s.ws 9):JQ X L s' nJ:=by
 refine⟨g,m,?_,h.even⟩;rcases h.tree with⟨a,b,c⟩|⟨i,a,b,c,k,j⟩
 ·exact .inl ⟨by rw[e,a],b,λo=>(f o).trans (c o)⟩
 ·exact .inr ⟨i,by rw[e];exact a,by rw[e];exact b.keep h.ok g l (λ_ _=>trivial),c,k,λo=>(f o).trans (j o)⟩
def Y2{a b:List nC}(h:Op.bytesLess a b=jO):a≠b:=λc=>by rw[c,DC]at h;cases h
def EW{q:List nC}{l:List Kv}{a:Kv}:a∈Wi q l<->∃b,(b,a.2)∈l/\a.1=q++b:=by
 unfold Wi;rw[CU];constructor
 ·rintro⟨d,h,rfl⟩;exact⟨d.1,h,rfl⟩
 ·rintro⟨b,h,c⟩;exact⟨(b,a.2),h,by cases a;simp only at c;subst c;rfl⟩
def Tc(nJ pX:List Kv)(k:List nC)(v:ni):Prop:=∀a,a∈pX<->a=(k,v)\/(a∈nJ/\a.1≠k)
def Ag6(X:Nat->Prop)(L:Nat)(s:St)(nJ:List Kv)(k:List nC)(v:ni)(r:St×Int):Prop:=
 Jj X s r.1/\((r.2=6/\JQ X L r.1 nJ/\∀a∈nJ,a.1≠k)\/(r.2=0/\∃pX,JQ X L r.1 pX/\Tc nJ pX k v))
def Z4(k:List nC):OB (CO k)=true:=Ab4 k
def Aju{nJ:List Kv}(h:JQ X L s nJ)(v:s.ws 9=0)(key:List nC)(ac:key.length<=16)(k:ni)(B:k≠0):Ag6 X L s nJ (CO key) k (RZ s key k):=by
 have b:nJ=[]/\∀o,(∃d,AX s o d)<->X o:=by
  rcases h.tree with⟨_,J,K⟩|⟨_,I,_⟩
  ·exact⟨J,K⟩
  ·exact absurd v I
 have ad:=JX key;have n:FC s key=jm ([],CO key):=by
  unfold FC;rw[v,ES,kX rfl]
 have w:=dQ ((CO key).length+1) (Grown.start h.ok h.nh) 32 (CO key) k O O (eQ key) B;unfold RZ;rw[lg O,lg B,n];simp only[Dw,List.getLast?_nil];generalize OC ((CO key).length+1) ⟨s,[]⟩ (CO key) k=Y at w;obtain⟨j,q,ab⟩:=Y;rcases w with⟨l,Z,a⟩|⟨l,aa,t,a,Q,z,r,n⟩
 ·simp only at l a;subst l;simp only[Fb];rw[kX U];obtain⟨ae,H,V,T,W,C,E,G⟩:=uV h.ok a;rw[H];refine⟨⟨G,λj f _=>E j f,λo e _ i=>C o e trivial i⟩,?_⟩;exact .inl ⟨rfl,h.same V T W C (E 9 U),λD m=>by rw[b.1]at m;cases m⟩
 ·simp only at l a Q z r;subst l;rw[DR]at a;simp only[Fb,LV];rw[lg Θ];obtain⟨s',g⟩:∃s',s'=({j.s with ws:=DD j.s.ws ((72:Int).toNat/8) q}:St):=⟨_,rfl⟩;rw[<-g];have p:∀c,s'.ws c=if c=9 then q else j.s.ws c:=λc=>by rw[g];rfl
  have F:BZ L s':=g▸a.ok.words (λc b=>by
   show DD j.s.ws 9 q (16+c)=_;unfold DD;rw[lg O])
  have A:∀o d,AX s' o d<->AX j.s o d:=λo d=>by rw[g];exact Iff.rfl
  have y:DV j.s s' (λ_=>True):=λo e _ i=>⟨(A o e).2 i,λc b=>by
   rw[p,lg];have:=a.ok.DU (i.bounds a.ok).1 b;omega⟩
  have M:∀o∈t,¬X o:=λo R S=>by
   obtain⟨d,N⟩:=(b.2 o).2 S;exact a.new o (n.mem_iff.1 R) d N
  refine⟨⟨by rw[g];exact a.sh,λj f P=>by rw[p,lg P,a.low j f],λo e _ i=>?_⟩,?_⟩
  ·obtain⟨u1,u2⟩:=a.keep o e trivial i;obtain⟨u3,u4⟩:=y o e trivial u1;exact⟨u3,λj f=>(u4 j f).trans (u2 j f)⟩
  right;refine⟨rfl,[(CO key,k)],?_,λD=>by rw[b.1];simp⟩;refine⟨F,λo d x=>a.nh o d (by rw[g]at x;exact x),.inr ⟨t,by rw[p,kX rfl];exact z,by rw[p,kX rfl];exact r.keep a.ok F y (λ_ _=>trivial),n.nodup_iff.2 a.nod,M,λo=>?_⟩,λD m=>by rw[BB]at m;subst m;exact Z4 key⟩;rw[show(∃d,AX s' o d)<->∃d,AX j.s o d from exists_congr (A o),a.tk o,n.mem_iff,b.2 o];exact or_comm
end
def Ajv(x:Nd)(v:ni):Eh {x with val:=v}=(Eh x).set 2 v:=by
 refine List.ext_getElem? λa=>?_
 rw[List.getElem?_set];by_cases h:2=a
 ·subst h;rw[Al0,kX rfl,kX];rw[I8];split<;>omega
 ·rw[lg h,Alz x v a (λb=>h b.symm)]
section
variable{X:Nat->Prop}{L:Nat}{s:St}
structure Rk(L:Nat)(s:St)(nJ:List Kv)(nT:List Nat)(key:List nC)(o9:Pl)(pW q:List nC)(rl:Nat)(nl:ni)(nN:List Part)(A B:List Kv)(b1 b2:List Nat)(o:Nat):Prop where
 spot:aV L s 32 (s.ws 9) nJ nT 72 (CO key) o9 pW q rl nl nN A B b1 b2
 off:o9.off=o
 tk:AX s o (DI o9.nd)
 right:CG o9.nd=jO
 words:wordsAt s.ws (o/8) (8*Bq (DI o9.nd))=Eh o9.nd
 n1:o∉b1
 n2:o∉b2
 n3:o∉Bl nN
 d1:∀p∈b1,p∉Bl nN
 d2:∀p∈b2,p∉Bl nN
 d3:∀p∈b1,p∉b2
 m1:b1.Nodup
 m2:b2.Nodup
 m3:(Bl nN).Nodup
 bls:nT=b1++(o::Bl nN)++b2
structure Z5(L:Nat)(s:St)(nJ:List Kv)(nT:List Nat)(key:List nC)(o9:Pl)(pW q:List nC)(rl:Nat)(nl:ni)(nN:List Part)(A B:List Kv)(b1 b2:List Nat)(o:Nat):Prop extends Rk L s nJ nT key o9 pW q rl nl nN A B b1 b2 o where
 stop:oW o9.nd.pre pW<o9.nd.pre.length\/oW o9.nd.pre pW=pW.length\/Ru o9.nd (pW.getD (oW o9.nd.pre pW) 0)=jw
def uX(h:BZ L s){nJ:List Kv}{nT:List Nat}{key pW q:List nC}{o9:Pl}{rl:Nat}{nl:ni}{nN:List Part}{A B:List Kv}{b1 b2:List Nat}(i:nT.Nodup)(S:aV L s 32 (s.ws 9) nJ nT 72 (CO key) o9 pW q rl nl nN A B b1 b2):
 ∃o,Rk L s nJ nT key o9 pW q rl nl nN A B b1 b2 o:=by
 obtain⟨o,j,l,k,m⟩:=JC h S.rd;have f:o9.off=o:=S.off.symm.trans j;have c:=S.bls;rw[f,BC]at c;have e:=i;rw[c]at e;obtain⟨n,r,d⟩:=DF.1 e;obtain⟨t,v,g⟩:=DF.1 n;obtain⟨w,x⟩:=Gz.1 v;exact⟨o,⟨S,f,l,k,m,λh=>g _ h _ (Bf ..) rfl,λh=>d _ Θ _ h rfl,w,λp b a=>g _ b _ (Bi _ a) rfl,λp b a=>d _ (by simp[a]) _ b rfl,λp b a=>d _ (by simp[b]) _ a rfl,t,r,x,c⟩⟩
def around(h:BZ L s){nJ:List Kv}{nT:List Nat}(e:s.ws 9≠0)(T:Ep s 32 (s.ws 9) nJ nT)(b:nT.Nodup)(key:List nC)(i:key.length<=16):
 ∃g o9 pW q rl nl nN A B b1 b2 o,FC s key=jm (g++[o9],pW)/\Z5 L s nJ nT key o9 pW q rl nl nN A B b1 b2 o:=by
 have j:=JX key;obtain⟨o9,pW,q,rl,nl,nN,A,B,b1,b2,c,f,a⟩:=qA h (2*key.length+1) 32 (s.ws 9) nJ nT (CO key) 0 72 [] T b O O e;obtain⟨o,d⟩:=uX h b a.toaV;exact⟨c,o9,pW,q,rl,nl,nN,A,B,b1,b2,o,by unfold FC;rw[f];simp,⟨d,a.stop⟩⟩
variable{nJ:List Kv}{nT:List Nat}{key:List nC}{o9:Pl}{pW q:List nC}{rl:Nat}{nl:ni}{nN:List Part}{A B:List Kv}{b1 b2:List Nat}{o:Nat}
def Rk.word(i:BZ L s)(a:Rk L s nJ nT key o9 pW q rl nl nN A B b1 b2 o):∃b:Nat,o9.word=((8*b:Nat):Int)/\s.ws b=nl/\(b<16\/16+s.sh.CE<=b)/\((q=[]/\b=9)\/(q≠[]/\∃p c,p∈b1/\AX s p c/\IE p c b)):=by
 rcases a.spot.wd with⟨e,f,d⟩|⟨e,p,c,j,f,d,g,k,l⟩
 ·exact⟨9,by rw[f];rfl,d.symm,.inl U,.inl ⟨e,rfl⟩⟩
 ·exact⟨j,k,l,.inr (i.DU (d.bounds i).1 g),.inr ⟨e,p,c,f,d,g⟩⟩
def Rk.other(a:Rk L s nJ nT key o9 pW q rl nl nN A B b1 b2 o)(b:Kv)(h:b∈A\/b∈B):b.1≠CO key:=by
 rw[a.spot.cut];rcases h with h|h
 ·exact Y2 (a.spot.lo b h pW)
 ·exact λc=>Y2 (a.spot.hi b h pW) c.symm
def zZ{nJ:List Kv}{nT:List Nat}(h:JQ X L s nJ)(Q:s.ws 9≠0)(ah:∀o,(∃d,AX s o d)<->o∈nT\/X o)(K:∀o∈nT,¬X o)(Z:nT.Nodup)(a:Rk L s nJ nT key o9 pW q rl nl nN A B b1 b2 o)(i:o9.nd.pre=pW)(f:ni):
 Jj X s (TG s o9 f)/\JQ X L (TG s o9 f) (A++Wi q (CS {o9.nd with val:=f}++BI o9.nd.pre o9.nd.labels nN)++B):=by
 have m:=h.ok;obtain⟨ar,V,w,ap,N⟩:=a.word m;have am:=a.tk.bounds m;have e:=a.spot;obtain⟨s',k⟩:=ε (TG s o9 f);have x:∀l,s'.ws l=if l=o/8+2 then f else s.ws l:=λl=>by
  rw[k];show DD s.ws (o9.off.toNat/8+2) f l=_;rw[a.off,BC];rfl
 have M:IE o (DI o9.nd) (o/8+2):=⟨O,by
  have:=(Hz (PZ o9.nd)).2.1;omega⟩
 have aq:=m.DU am.1 M;have y:BZ L s':=by
  rw[k];exact m.words (λl ao=>by
   show DD s.ws (o9.off.toNat/8+2) f (16+l)=_;rw[a.off,BC];unfold DD;rw[lg O])
 have z:∀p d,AX s' p d<->AX s p d:=λp d=>by rw[k];exact Iff.rfl
 have D:DV s s' (λp=>p≠o):=λp t i n=>⟨(z p t).2 n,λj v=>by
  rw[x,lg (SY m n a.tk i v M)]⟩
 have ad:Gu s' nl=jm {o9.nd with val:=f}:=by
  refine dP y (e.off.trans a.off) ((z _ _).2 a.tk) (by rw[Ab9];exact a.right) ?_;rw[show DI {o9.nd with val:=f}=DI o9.nd from rfl,Ajv];refine ER (by simp[wordsAt,Kw]) λr T an=>?_
  have E:r<8*Bq (DI o9.nd):=by simpa[wordsAt]using T
  have ab:s.ws (o/8+r)=(Eh o9.nd)[r]'(by rw[Kw];exact E):=by
   have:(wordsAt s.ws (o/8) (8*Bq (DI o9.nd)))[r]?=(Eh o9.nd)[r]?:=by rw[a.words]
   unfold wordsAt at this;rw[CP,WM E,Ag (by rw[Kw];exact E)]at this;simpa using this
  rw[MQ,x,MX];by_cases b:r=2
  ·rw[kX O,kX b.symm]
  ·rw[lg O,lg (λh=>b h.symm)];exact ab
 have G:=Ep.mk (s:=s') rl nl {o9.nd with val:=f} nN ad e.pre e.kid e.len (λl c g=>(e.sub l c g).keep m y D (λp i b=>a.n3 (b▸WG g i)));rw[e.off,a.off,BC]at G;have H:=e.swap s' nl _ _ y (λb=>by
  rcases N with⟨c,g⟩|⟨c,g⟩
  ·rw[g]at w;exact Q (w.trans b)
  ·have:=e.rd;rw[b]at this;obtain⟨au,aa,ae,_⟩:=JC m this;have:=(ae.bounds m).1;have al:Bz 0=0:=by decide
   rw[al]at aa;have:=m.sh.Qo;omega) G (λp t i n=>by
  have ac:p≠o:=λb=>by subst b;exact i.elim a.n1 a.n2
  obtain⟨u1,u2⟩:=D p t ac n;refine⟨u1,λj v=>?_⟩;rw[u2 j v];split
  ·rename_i b;rw[V]at b;rw[<-w];congr 1;omega
  ·rfl)
 have J:s'.ws 9=s.ws 9:=by rw[x,lg O]
 have Y:(if q=[]then nl else s.ws 9)=s.ws 9:=by
  split
  ·rename_i b;rcases N with⟨_,g⟩|⟨c,_⟩
   ·rw[<-w,g]
   ·exact absurd b c
  ·rfl
 rw[Y]at H;have W:CO key=q++o9.nd.pre:=by rw[i];exact e.cut
 refine⟨⟨by rfl,λj v _=>by rw[<-k,x,lg O],λp t i n=>by rw[<-k];exact D p t (λb=>K o (by rw[a.bls];simp) (b▸i)) n⟩,?_⟩;refine⟨by rw[<-k];exact y,λp d U=>h.nh p d ((Qb (by rfl) (by rfl) p d).1 U),.inr ⟨nT,by rw[<-k,J];exact Q,?_,Z,K,λp=>?_⟩,?_⟩
 ·rw[<-k,J,a.bls];exact H
 ·rw[<-k,show(∃d,AX s' p d)<->∃d,AX s p d from exists_congr (z p)];exact ah p
 ·intro F P;rw[Ba]at P;rcases AP.1 P with c|c
  ·exact h.even F (by rw[e.its];simp[c])
  ·rcases AP.1 c with c|c
   ·obtain⟨R,g,I⟩:=EW.1 c;rcases AP.1 g with C|C
    ·obtain⟨b,_⟩:=Gj C;rw[I];have S:R=o9.nd.pre:=congrArg Prod.fst b;rw[S,<-W];exact Z4 key
    ·refine h.even F ?_;rw[e.its,Ba];exact BA _ (BK _ (EW.2 ⟨R,BA _ C,I⟩))
   ·exact h.even F (by rw[e.its];simp[c])
def Ajw{nJ:List Kv}{nT:List Nat}(h:JQ X L s nJ)(F:s.ws 9≠0)(H:∀o,(∃d,AX s o d)<->o∈nT\/X o)(D:∀o∈nT,¬X o)(G:nT.Nodup)(a:Z5 L s nJ nT key o9 pW q rl nl nN A B b1 b2 o)(w:o9.nd.pre=pW)(j:ni)(I:j≠0):
 Ag6 X L s nJ (CO key) j (TG s o9 j,0):=by
 have i:=a.spot;have l:CO key=q++o9.nd.pre:=by rw[w];exact i.cut
 obtain⟨z,C⟩:=zZ h F H D G a.toRk w j;refine⟨z,?_⟩;right;refine⟨rfl,_,C,?_⟩;intro m;have x:∀e,(e,m.2)∈BI o9.nd.pre o9.nd.labels nN->q++e≠CO key:=λe E f=>by
  obtain⟨J,b,k,K,_,p⟩:=Fz E;rw[l]at f;have:=En f;have y:e=o9.nd.pre++o9.nd.labels[J]::K.1:=congrArg Prod.fst p;rw[y]at this;have:=congrArg Qg this;simp at this
 constructor
 ·intro v;rw[Ba]at v;rcases AP.1 v with b|b
  ·exact .inr ⟨by rw[i.its];simp[b],a.other m (.inl b)⟩
  ·rcases AP.1 b with b|b
   ·obtain⟨e,k,c⟩:=EW.1 b;rcases AP.1 k with g|g
    ·obtain⟨f,_⟩:=Gj g;left;have n:e=o9.nd.pre:=congrArg Prod.fst f;have p:m.2=j:=congrArg Prod.snd f;refine Prod.ext ?_ p;rw[c,n,l]
    ·refine .inr ⟨?_,by rw[c];exact x e g⟩;rw[i.its,Ba];exact BA _ (BK _ (EW.2 ⟨e,BA _ g,c⟩))
   ·exact .inr ⟨by rw[i.its];simp[b],a.other m (.inr b)⟩
 ·rintro(rfl|⟨b,k⟩)
  ·rw[Ba];refine BA _ (BK _ (EW.2 ⟨o9.nd.pre,BK _ ?_,l⟩));unfold CS;rw[kX I];exact BB.2 rfl
  ·rw[i.its,Ba]at b;rw[Ba];rcases AP.1 b with c|c
   ·exact BK _ c
   ·rcases AP.1 c with c|c
    ·obtain⟨e,g,t⟩:=EW.1 c;rcases AP.1 g with r|r
     ·obtain⟨f,_⟩:=Gj r;have n:e=o9.nd.pre:=congrArg Prod.fst f;exact absurd (by rw[t,n,l]) k
     ·exact BA _ (BK _ (EW.2 ⟨e,BA _ r,t⟩))
    ·exact BA _ (BA _ c)
end
section
variable{X:Nat->Prop}{L:Nat}{s:St}{nJ:List Kv}{nT:List Nat}{key:List nC}{o9:Pl}{pW q:List nC}{rl:Nat}{nl:ni}{nN:List Part}{A B:List Kv}{b1 b2:List Nat}{o:Nat}
def qE(h:JQ X L s nJ)(bl:s.ws 9≠0)(aD:∀o,(∃d,AX s o d)<->o∈nT\/X o)(R:∀o∈nT,¬X o)(a:Rk L s nJ nT key o9 pW q rl nl nN A B b1 b2 o){j:Jb}{C:List Nat}(g:Grown L s j C){w:ni}(a5:w≠0){S:List Kv}{z:List Nat}
 (T:Ep j.s rl w S z){K D dl:List Nat}(am:(Bl nN).Perm (K++D))(E:z.Perm (C++K))(a0:dl.Perm (D++[o]))(bj:∀ao∈S,OB (q++ao.1)=jO):
 ∃n,Fb j 0 o9.word w (dl.map Gt)=(n,0)/\Jj X s n/\JQ X L n (A++Wi q S++B):=by
 have y:=h.ok;obtain⟨an,a3,bA,bB,ad⟩:=a.word y;have ar:=a.spot;obtain⟨J,I⟩:∃J,J=({j.s with ws:=DD j.s.ws (o9.word.toNat/8) w}:St):=⟨_,rfl⟩;have a7:o9.word.toNat/8=an:=by rw[a3,BC];omega
 have bq:∀e,J.ws e=if e=an then w else j.s.ws e:=λe=>by rw[I,<-a7];rfl
 have aq:=g.sh;have a6:BZ L J:=by
  rw[I];refine g.ok.words (λe l=>?_);show DD j.s.ws (o9.word.toNat/8) w (16+e)=_;rw[a7];unfold DD;rw[lg];rw[aq]at l;omega
 have N:∀p d,AX J p d<->AX j.s p d:=λp d=>by rw[I];exact Iff.rfl
 have W:∀p∈C,∀d,¬AX s p d:=g.new;have aw:∀p∈nT,∃d,AX s p d:=λp f=>(aD p).2 (.inl f)
 have bm:o∉C:=λbh=>W o bh _ a.tk
 have be:=am.nodup_iff.1 a.m3;obtain⟨bs,br,bt⟩:=DF.1 be;have P:∀p∈D,p∈Bl nN:=λp f=>am.mem_iff.2 (BA _ f)
 have Q:∀p∈K,p∈Bl nN:=λp f=>am.mem_iff.2 (BK _ f)
 have ae:∀p∈Bl nN,p∈nT:=λp f=>by rw[a.bls];simp[f]
 have H:∀p,p∈dl<->p∈D\/p=o:=λp=>by rw[a0.mem_iff];simp
 have a1:dl.Nodup:=a0.nodup_iff.2 (DF.2 ⟨br,by simp,λx F aG v k=>by rw[BB]at v;exact a.n3 (v▸k▸P x F)⟩);have a2:∀p∈dl,∃d,AX J p d:=λp f=>by
  have bp:∃d,AX s p d:=((H p).1 f).elim (λi=>aw p (ae p (P p i))) (λk=>⟨_,k▸a.tk⟩);obtain⟨d,i⟩:=bp;exact⟨d,(N p d).2 (g.keep p d trivial i).1⟩
 obtain⟨n,bb,aE,aL,bi,bw,Z⟩:=Y1 dl a6 a1 a2;have aM:=jP dl a6 a1 a2;rw[bb]at aM;have a8:J.sh=s.sh:=by rw[I];exact aq
 refine⟨n,by unfold Fb;rw[lg Θ,<-I];exact aM,?_⟩;have Y:∀e,(e<16\/16+s.sh.CE<=e)->n.ws e=if e=an then w else j.s.ws e:=λe l=>by
  rw[bw e (by rw[a8];exact l),bq]
 have av:∀p∈z,p∉dl:=λp ab i=>by
  rcases(H p).1 i with b|b
  ·rcases AP.1 (E.mem_iff.1 ab)with c|c
   ·obtain⟨d,i⟩:=aw p (ae p (P p b));exact W p c d i
   ·exact bt p c p b rfl
  ·subst b;rcases AP.1 (E.mem_iff.1 ab)with c|c
   ·exact bm c
   ·exact a.n3 (Q _ c)
 have az:∀p,p∈b1\/p∈b2->p∉dl:=λp f i=>by
  rcases(H p).1 i with b|b
  ·exact f.elim (λh=>a.d1 p h (P p b)) (λh=>a.d2 p h (P p b))
  ·subst b;exact f.elim a.n1 a.n2
 have a9:∀p m,p∈z->AX j.s p m->AX n p m/\∀e,IE p m e->n.ws e=j.s.ws e:=λp m f t=>by
  refine⟨(Z p m).2 ⟨(N p m).2 t,av p f⟩,λe l=>?_⟩;have M:=g.ok.DU (t.bounds g.ok).1 l;rw[aq]at M;rw[Y e (.inr M),lg];intro k;subst k;rcases ad with⟨_,c⟩|⟨_,ap,V,c,r,G⟩
  ·omega
  ·obtain⟨bc,_⟩:=g.keep ap V trivial r;refine SY g.ok t bc (λk=>?_) l G rfl;subst k;rcases AP.1 (E.mem_iff.1 f)with au|au
   ·exact W p au V r
   ·exact a.d1 p c (Q p au)
 have ba:Ep n rl w S z:=T.keep g.ok aE (B:=λp=>p∈z) a9 (λ_ h=>h);have aI:=ar.swap n w S z aE a5 ba (λp m f t=>by
  obtain⟨u1,u2⟩:=g.keep p m trivial t;refine⟨(Z p m).2 ⟨(N p m).2 u1,az p f⟩,λe l=>?_⟩;have M:=y.DU (t.bounds y).1 l;rw[Y e (.inr M),a3];by_cases k:e=an
  ·rw[kX k,kX O]
  ·rw[lg k,lg O,u2 e l])
 have aR:n.ws 9=if q=[]then w else s.ws 9:=by
  rw[Y 9 (.inl U)];rcases ad with⟨b,c⟩|⟨b,ap,V,c,r,G⟩
  ·rw[kX c.symm,kX b]
  ·have:=y.DU (r.bounds y).1 G;rw[lg O,lg b,g.low 9 U]
 rw[<-aR]at aI;have bd:n.ws 9≠0:=by
  rw[aR];split
  ·exact a5
  ·exact bl
 have aW:∀p∈dl,p∈nT:=λp f=>((H p).1 f).elim (λh=>ae p (P p h)) (λk=>by rw[k,a.bls];simp)
 have bg:Jj X s n:=⟨aL.trans a8,λe l bx=>by
  rw[Y e (.inl l),lg,g.low e l];rcases ad with⟨_,c⟩|⟨_,ap,V,c,r,G⟩
  ·omega
  ·have:=y.DU (r.bounds y).1 G;omega,λp m f t=>by
  obtain⟨u1,u2⟩:=g.keep p m trivial t;refine⟨(Z p m).2 ⟨(N p m).2 u1,λi=>R p (aW p i) f⟩,λe l=>?_⟩;have M:=y.DU (t.bounds y).1 l;rw[Y e (.inr M),lg,u2 e l];intro k;subst k;rcases ad with⟨_,c⟩|⟨_,ap,V,c,r,G⟩
  ·omega
  ·refine SY y t r (λk=>?_) l G rfl;subst k;exact R p (by rw[a.bls];simp[c]) f⟩
 refine⟨bg,aE,λp d bk=>g.nh p d ((Qb (by rw[bi,I]) (by rw[aL,I]) p d).1 bk),.inr ⟨b1++z++b2,bd,aI,?_,λp f al=>?_,λp=>?_⟩,?_⟩
 ·have bo:(b1++z++b2).Perm (b1++(C++K)++b2):=List.Perm.append_right _ (List.Perm.append_left _ E);rw[bo.nodup_iff];have aa:∀p∈C,p∉nT:=λp f ab=>by
   obtain⟨d,i⟩:=aw p ab;exact W p f d i
  rw[a.bls]at aa;refine DF.2 ⟨DF.2 ⟨a.m1,DF.2 ⟨g.nod,bs,λx F aG v k=>?_⟩,λx F aG v k=>?_⟩,a.m2,λx F aG v k=>?_⟩
  ·subst k;exact aa x F (by simp[Q x v])
  ·subst k;rcases AP.1 v with b|b
   ·exact aa x b (by simp[F])
   ·exact a.d1 x F (Q x b)
  ·subst k;rcases AP.1 F with b|b
   ·exact a.d3 x b v
   ·rcases AP.1 b with b|b
    ·exact aa x b (by simp[v])
    ·exact a.d2 x v (Q x b)
 ·rcases AP.1 f with b|b
  ·rcases AP.1 b with b|b
   ·exact R p (by rw[a.bls];simp[b]) al
   ·rcases AP.1 (E.mem_iff.1 b)with c|c
    ·obtain⟨d,i⟩:=(aD p).2 (.inr al);exact W p c d i
    ·exact R p (ae p (Q p c)) al
  ·exact R p (by rw[a.bls];simp[b]) al
 ·have b:(∃d,AX n p d)<->(∃d,AX j.s p d)/\p∉dl:=by
   constructor
   ·rintro⟨d,i⟩;obtain⟨b,c⟩:=(Z p d).1 i;exact⟨⟨d,(N p d).1 b⟩,c⟩
   ·rintro⟨⟨d,i⟩,c⟩;exact⟨d,(Z p d).2 ⟨(N p d).2 i,c⟩⟩
  rw[b,g.tk p,aD p,H p,a.bls];simp only[AP,Cb,E.mem_iff,am.mem_iff];constructor
  ·rintro⟨b|b,c⟩
   ·rcases b with((b|b|b|b)|b)|b
    ·exact .inl (.inl (.inl b))
    ·exact absurd (.inr b) c
    ·exact .inl (.inl (.inr (.inr b)))
    ·exact absurd (.inl b) c
    ·exact .inl (.inr b)
    ·exact .inr b
   ·exact .inl (.inl (.inr (.inl b)))
  ·have ah:∀p,p∈b1\/p∈b2\/p∈C\/p∈K->¬(p∈D\/p=o):=λp f i=>by
    have ac:=(H p).2 i;rcases f with h|h|h|h
    ·exact az p (.inl h) ac
    ·exact az p (.inr h) ac
    ·exact av p (E.mem_iff.2 (BK _ h)) ac
    ·exact av p (E.mem_iff.2 (BA _ h)) ac
   rintro(((b|b|b)|b)|b)
   ·exact⟨.inl (.inl (.inl (.inl b))),ah p (.inl b)⟩
   ·exact⟨.inr b,ah p (.inr (.inr (.inl b)))⟩
   ·exact⟨.inl (.inl (.inl (.inr (.inr (.inl b))))),ah p (.inr (.inr (.inr b)))⟩
   ·exact⟨.inl (.inl (.inr b)),ah p (.inr (.inl b))⟩
   ·exact⟨.inl (.inr b),λi=>R p (aW p ((H p).2 i)) b⟩
 ·intro ao a4;rw[Ba]at a4;rcases AP.1 a4 with b|b
  ·exact h.even ao (by rw[ar.its];simp[b])
  ·rcases AP.1 b with b|b
   ·obtain⟨bE,c,r⟩:=EW.1 b;rw[r];exact bj _ c
   ·exact h.even ao (by rw[ar.its];simp[b])
def Z5.below(a:Z5 L s nJ nT key o9 pW q rl nl nN A B b1 b2 o)(f:o9.nd.pre≠pW):∀d,d∈CS o9.nd++BI o9.nd.pre o9.nd.labels nN->d.1≠pW:=λd g c=>by
 rcases AP.1 g with b|b
 ·obtain⟨rfl,_⟩:=Gj b;exact f c
 ·obtain⟨i,j,k,l,_,rfl⟩:=Fz b;simp only at c;have e:oW o9.nd.pre pW=o9.nd.pre.length:=by rw[<-c,Wu]
  have:RY o9.nd.labels (pW.getD (oW o9.nd.pre pW) 0)=false:=by
   rcases a.stop with b|b|b
   ·omega
   ·exact absurd (UX _ _ e b) f
   ·exact qx a.right b
  rw[e,<-c,Bv,Ez (Ae _),Nat.sub_self]at this;exact Vf _ _ this i j rfl
def Asr(h:JQ X L s nJ)(Z:s.ws 9≠0)(ad:∀o,(∃d,AX s o d)<->o∈nT\/X o)(V:∀o∈nT,¬X o)(_:nT.Nodup)(ar:key.length<=16)(a:Z5 L s nJ nT key o9 pW q rl nl nN A B b1 b2 o)(y:o9.nd.pre≠pW)(v:ni)(ae:v≠0):
 Ag6 X L s nJ (CO key) v (match Uw ⟨s,[]⟩ o9.nd pW v with|(j,J,i)=>Fb j i o9.word J [o9.off]):=by
 have M:=h.ok;have c:=a.spot;have aD:=JX key;have aq:q.length+pW.length=(CO key).length:=by rw[c.cut,AO]
 have N:pW.all DW=true:=by
  have:=eQ key;rw[c.cut,List.all_append,Bool.and_eq_true]at this;exact this.2
 have aa:oW o9.nd.pre pW=o9.nd.pre.length->RY o9.nd.labels (pW.getD (oW o9.nd.pre pW) 0)=false:=λW=>by
  rcases a.stop with b|b|b
  ·omega
  ·exfalso;refine y ?_;exact UX _ _ W b
  ·exact qx a.right b
 have E:=Aso M h.nh a.right c.len c.pre c.kid c.sub (Ω c.lens) N ae y aa;generalize Uw ⟨s,[]⟩ o9.nd pW v=ao at E;obtain⟨j,J,i⟩:=ao;simp only;rcases E with⟨k,au,r⟩|⟨k,av,az,aw,r,G,z,ab,x⟩
 ·simp only at k r;subst k;simp only[Fb];rw[kX U];obtain⟨ap,p,am,al,an,H,I,P⟩:=uV M r;rw[p];refine⟨⟨P,λj Y _=>I j Y,λo Q _ ac=>H o Q trivial ac⟩,?_⟩;refine .inl ⟨rfl,h.same am al an H (I 9 U),λl n i=>?_⟩;rw[c.its,Ba]at n;rcases AP.1 n with m|m
  ·exact a.other l (.inl m) i
  ·rcases AP.1 m with m|m
   ·obtain⟨e,R,S⟩:=EW.1 m;rw[S,c.cut]at i;exact a.below y _ R (En i)
   ·exact a.other l (.inr m) i
 ·simp only at k r G z;subst k;have w:CO key=q++pW:=c.cut;have F:∀e t,(e,t)∈CS o9.nd++BI o9.nd.pre o9.nd.labels nN->(q++e,t)∈nJ:=λe t f=>by
   rw[c.its,Ba];exact BA _ (BK _ (EW.2 ⟨e,f,rfl⟩))
  obtain⟨ap,p,ah,O⟩:=qE h Z ad V a.toRk r G z (K:=Bl nN) (D:=[]) (dl:=[o]) Θ ab Θ (λl n=>by
   obtain⟨e,t⟩:=l;rcases(x _).1 n with f|f
   ·exact h.even _ (F e t f)
   ·have k:e=pW:=congrArg Prod.fst f;show OB (q++e)=jO;rw[k,<-w];exact Z4 key)
  rw[a.off,show[(o:Int)]=[o].map Gt from rfl,p];refine⟨ah,?_⟩;right;refine⟨rfl,_,O,?_⟩;intro l;constructor
  ·intro n;rw[Ba]at n;rcases AP.1 n with b|b
   ·exact .inr ⟨by rw[c.its];simp[b],a.other l (.inl b)⟩
   ·rcases AP.1 b with b|b
    ·obtain⟨e,C,g⟩:=EW.1 b;rcases(x _).1 C with f|f
     ·refine .inr ⟨?_,?_⟩
      ·have:=F e l.2 f;rwa [<-g]at this
      ·rw[g,w];intro i;exact a.below y _ f (En i)
     ·left;have k:e=pW:=congrArg Prod.fst f;have p:l.2=v:=congrArg Prod.snd f;exact Prod.ext (by rw[g,k,w]) p
    ·exact .inr ⟨by rw[c.its];simp[b],a.other l (.inr b)⟩
  ·rintro(rfl|⟨b,C⟩)
   ·rw[Ba];exact BA _ (BK _ (EW.2 ⟨pW,(x _).2 (.inr rfl),w⟩))
   ·rw[c.its,Ba]at b;rw[Ba];rcases AP.1 b with g|g
    ·exact BK _ g
    ·rcases AP.1 g with g|g
     ·obtain⟨e,f,T⟩:=EW.1 g;exact BA _ (BK _ (EW.2 ⟨e,(x _).2 (.inl f),T⟩))
     ·exact BA _ (BA _ g)
def jQ(h:JQ X L s nJ)(key:List nC)(e:key.length<=16)(a:ni)(d:a≠0):Ag6 X L s nJ (CO key) a (RZ s key a):=by
 by_cases i:s.ws 9=0
 ·exact Aju h i key e a d
 ·rcases h.tree with⟨b,_⟩|⟨nT,b,l,f,j,k⟩
  ·exact absurd b i
  ·obtain⟨p,o9,pW,q,rl,nl,nN,A,B,b1,b2,o,n,g⟩:=around h.ok b l f key e;unfold RZ;rw[lg O,lg d,n];have m:(p++[o9]).getLast?=jm o9:=by simp
   simp only[Dw,m];by_cases c:o9.nd.pre=pW
   ·rw[kX c];exact Ajw h b k j f g c a d
   ·rw[lg c];exact Asr h b k j f e g c a d
def Q9(h:JQ X L s nJ):∃b:List Nat,Em s=jm (nJ.map (λa=>(pairs a.1,a.2)),b.map Gt)/\b.Nodup/\(∀o∈b,¬X o)/\∀o,(∃d,AX s o d)<->o∈b\/X o:=by
 rcases h.tree with⟨c,g,i⟩|⟨nT,c,f,e,j,l⟩
 ·refine⟨[],?_,WJ,(λ_ h=>nomatch h),λo=>by simp[i o]⟩;unfold Em;rw[kX c,g];rfl
 ·refine⟨nT,?_,e,j,l⟩;unfold Em;rw[lg c];have:=f.Awf h.ok 34 [] [] [] U U e (λ_ _ h=>by cases h) (λa k=>h.even a k);simpa using this
end
section
variable{L:Nat}{s:St}
def QA:∀(f:Nat)(b:ni)(nM:List nC)(d:nC)(e:Int)(a:List Pl),ES s f b nM d e a=(ES s f b nM d e []).map λp=>(a++p.1,p.2)
 |0,_,_,_,_,a=>by simp[ES]
 |f+1,b,nM,d,e,a=>by
  rw[ES,ES];split
  ·simp
  ·split
   ·rfl
   ·rename_i x _;split
    ·simp
    ·split
     ·simp
     ·rename_i c g _;rw[QA f c _ _ _ (a++_),QA f c _ _ _ ([]++_)];cases ES s f c (nM.drop (oW x.pre nM+1)) (nM.getD (oW x.pre nM) 0) (Bz b+8*g) []<;>simp
def qF{f:Nat}{e:ni}{nM:List nC}{d:nC}{g:Int}{c:List Pl}{l:List nC}(h:ES s (f+1) e nM d g []=jm (c,l))(k:e≠0):∃x i,c=x::i/\x.label=d/\x.word=g:=by
 rw[ES,lg k]at h;split at h
 ·cases h
 ·rename_i x _;split at h
  ·injection h with h;injection h with a b
   exact⟨_,_,a.symm,rfl,rfl⟩
  ·split at h
   ·injection h with h;injection h with a b
    exact⟨_,_,a.symm,rfl,rfl⟩
   ·rw[QA]at h;obtain⟨p,_,b⟩:=Tt.1 h;injection b with j m
    exact⟨_,_,j.symm,rfl,rfl⟩
def uY(D:BZ L s):∀(m f r:Nat)(g:ni)(nJ:List Kv)(nT:List Nat)(nM:List nC)(C:nC)(n:Int),Ep s r g nJ nT->nT.Nodup->nM.length<f->nM.length<=r->g≠0->
 ∀(j:List Pl)(E:List nC),ES s f g nM C n []=jm (j,E)->m+1<j.length->
 ∃d pW q rl nl nN A B b1 b2 b k w',j[m]?=jm d/\aV L s r g nJ nT n nM d pW q rl nl nN A B b1 b2/\∃(l:b<d.nd.kids.length)(H:b<d.nd.labels.length),
  d.nd.pre++d.nd.labels[b]::pW.drop (d.nd.pre.length+1)=pW/\(pW.drop (d.nd.pre.length+1)).length<k/\d.nd.kids[b]≠0/\ES s k d.nd.kids[b] (pW.drop (d.nd.pre.length+1)) d.nd.labels[b] w' []=jm (j.drop (m+1),E)
 |m,0,_,_,_,_,_,_,_,_,_,h,_,_,_,_,_,_=>absurd h O
 |m,f+1,r,g,nJ,nT,nM,C,n,am,P,av,az,ah,j,E,a,e=>by
  cases am with
  |mk _ _ c nN z R G N w=>
   obtain⟨o,al,an,y,ao⟩:=JC D z;rw[ES,lg ah,z]at a
   dsimp only at a
   by_cases l:oW c.pre nM<c.pre.length\/oW c.pre nM=nM.length
   ·rw[kX l]at a;injection a with a;injection a with a _
    rw[<-a]at e;simp at e
   ·rw[lg l]at a;cases x:Ru c (nM.getD (oW c.pre nM) 0)with
    |none=>
     rw[x]at a;injection a with a;injection a with a _
     rw[<-a]at e;simp at e
    |some aq=>
     obtain⟨aD,aE⟩:=aq;obtain⟨ac,aw,b,i,K,rfl,rfl,ae,hcut⟩:=Zz y l x;rw[x]at a;simp only at a;rw[ac,<-ae,QA]at a;obtain⟨p,Q,H⟩:=Tt.1 a;obtain⟨T,au⟩:=p;injection H with I J
     simp only at I J;subst J;subst I;have v:b<nN.length:=O;have ad:=G (λt=>by rw[t]at i;simp at i);have M:c.kids[b]≠0:=λt=>((BD c).1 y).2.2.2.2.2 b i (by rw[t];rfl)
     have F:=(Gz.1 P).2;rw[N9 nN b v]at F;have ar:=(DF.1 (DF.1 F).2.1).1
     match m,e with
     |0,e=>exact⟨⟨c,Bz g,C,n⟩,nM,[],r,g,nN,[],[],[],[],b,f,_,by simp,Zy z R G N w,i,K,hcut,by rw[AU];show nM.length-(c.pre.length+1)<f;omega,M,by simpa using Q⟩
     |m+1,e=>
      obtain⟨d,pW,q,rl,nl,U,A,B,b1,b2,ap,k,w',V,S,W,X,Y,Z,aa,ab⟩:=uY D m f (r-c.pre.length-1) c.kids[b] nN[b].nJ nN[b].nT (nM.drop (c.pre.length+1)) c.labels[b] (Bz g+8*(RG c b:Nat)) (w b i v) ar (by rw[AU];omega) (by rw[AU];omega) M T au Q (by simpa using e);exact⟨d,pW,_,rl,nl,U,_,_,_,_,ap,k,w',by simpa using V,qy D al an y ao R N w P i K v ad hcut S,W,X,Y,Z,aa,by simpa using ab⟩
def Z7(S:BZ L s):∀(f r:Nat)(d:ni)(nJ:List Kv)(nT:List Nat)(nM:List nC)(l:nC)(q:Int),Ep s r d nJ nT->nM.length<f->d≠0->
 ∀(e:List Pl)(n:List nC)(o9:Pl),ES s f d nM l q []=jm (e,n)->Dw e n=jm o9->o9.nd.kids.length=0->o9.nd.val≠0->
 (∀g k,g+1<e.length->e[g]?=jm k->k.nd.val=0/\k.nd.kids.length=1)->nJ=[(nM,o9.nd.val)]/\nT.map Gt=e.map (·.off)
 |0,_,_,_,_,_,_,_,_,h,_,_,_,_,_,_,_,_,_=>absurd h O
 |f+1,r,d,nJ,nT,nM,l,q,A,aq,ad,e,n,o9,b,c,G,B,P=>by
  cases A with
  |mk _ _ a nN N aw ao au Z=>
   obtain⟨o,ae,az,z,aD⟩:=JC S N;rw[ES,lg ad,N]at b
   dsimp only at b
   have J:Gt (Bz d).toNat=Bz d:=by rw[ae,BC];rfl
   have T:[(⟨a,Bz d,l,q⟩:Pl)]=e->nM=n->CS a++BI a.pre a.labels nN=[(nM,o9.nd.val)]/\((Bz d).toNat::Bl nN).map Gt=e.map (·.off):=λi j=>by
    subst i;subst j;unfold Dw at c;simp only[wL]at c;split at c
    ·rename_i M;injection c with c
     subst c;simp only at G B M⊢;have y:nN=[]:=List.length_eq_zero_iff.1 O;subst y;unfold CS;rw[kX B,M];have:BI nM a.labels []=[]:=by cases a.labels<;>rfl
     rw[this];exact⟨rfl,by rw[Ci,J];rfl⟩
    ·cases c
   by_cases v:oW a.pre nM<a.pre.length\/oW a.pre nM=nM.length
   ·rw[kX v]at b;injection b with b;injection b with i j
    exact T (by simpa using i) j
   ·rw[lg v]at b;cases w:Ru a (nM.getD (oW a.pre nM) 0)with
    |none=>
     rw[w]at b;injection b with b;injection b with i j
     exact T (by simpa using i) j
    |some am=>
     obtain⟨aE,aG⟩:=am;obtain⟨X,av,g,F,ar,rfl,rfl,ab,hcut⟩:=Zz z v w;rw[w]at b;simp only at b;rw[X,<-ab,QA]at b;obtain⟨p,K,W⟩:=Tt.1 b;obtain⟨ap,U⟩:=p;injection W with D E
     simp only at D E;subst E;subst D;have H:a.kids[g]≠0:=λV=>((BD a).1 z).2.2.2.2.2 g F (by rw[V];rfl)
     obtain⟨t,rfl⟩:∃t,f=t+1:=⟨f-1,O⟩;obtain⟨x,C,rfl,_,_⟩:=qF K H;obtain⟨Q,aa⟩:=P 0 ⟨a,Bz d,l,q⟩ Θ Θ;simp only at Q aa;obtain rfl:g=0:=O;have ac:a.labels.length=1:=Ω (((BD a).1 z).2.2.1);obtain⟨p,y⟩:∃p,nN=[p]:=xg.1 O;subst y;obtain⟨m,I⟩:∃m,a.labels=[m]:=xg.1 ac;have ah:Dw (x::C) U=jm o9:=by
      unfold Dw at c⊢;simpa using c
     have R:=Z7 S (t+1) (r-a.pre.length-1) a.kids[0] p.nJ p.nT (nM.drop (a.pre.length+1)) a.labels[0] _ (Z 0 F Θ) (by rw[AU];omega) H (x::C) U o9 K ah G B (λan k A al=>P (an+1) k (by simpa using A) (by simpa using al));refine⟨?_,?_⟩
     ·have Y:a.pre++m::nM.drop (a.pre.length+1)=nM:=by
       have:a.labels[0]=m:=by simp[I]
       rw[this]at hcut;exact hcut
      rw[I];unfold CS;rw[lg (by simp[Q])];simp only[BI,DR,EN,R.1,Gx,Ci,FW];rw[Y]
     ·simp only[Bl,Ci,FW,List.flatten_cons,List.flatten_nil,EN];rw[R.2,J];rfl
def jR(b:List Pl):∀(m:Nat)(_:m<b.length)(f:List Int),∃a,a<=m/\I9 b m f=(a,f++(((b.drop a).take (m-a)).map (·.off)).reverse)/\∀c d,a<=c->c<m->b[c]?=jm d->d.nd.val=0/\d.nd.kids.length=1
 |0,_,f=>⟨0,Ae _,by simp[I9],λc d n g=>absurd g O⟩
 |m+1,h,f=>by
  have i:m<b.length:=O;rw[I9,Ag i,Ag h]
  dsimp only
  split
  ·rename_i p;obtain⟨a,n,g,o⟩:=jR b m i (f++[b[m].off]);refine⟨a,O,?_,λc d j k e=>?_⟩
   ·rw[g,show m+1-a=(m-a)+1 by omega,List.take_succ_eq_append_getElem (by rw[AU];omega),CJ,XG];have:(b.drop a)[m-a]'(by rw[AU];omega)=b[m]:=by rw[bF];congr 1;omega
    simp[this]
   ·by_cases l:c=m
    ·subst l;rw[Ag i]at e;injection e with e
     exact e▸p
    ·exact o c d j O e
  ·exact⟨m+1,Ae _,by simp,λc d j k=>absurd k O⟩
end
open Go.RowKit
section
variable{len:Mode}{w w':World}{pI sb mb x d p L:Nat}{s:St}{F:Nat->Prop}
def Ajy(h:KH len w x d p L s F)(_:∀W,F W->W<pI){nJ:List (List nC×ni)}{b:List Int}{v:Value}(B:Gg w pI sb mb x nJ b v)(f:Nat)(e:ni)(o8:List nC)(A:Option Addr)(c:Nat)(aM:SG w A o8)(bk:o8.length<=c)(bl:o8.length<=33)(a:Nd)(z:Gu s e=jm a)(ac:Bz e∉b)(V:32<(o8++a.pre).length):
 Calls prog 164 #[AB sb,e,fM A o8.length c] w (Ub (EJ s (f+1) e o8 (nJ,b)) pI sb mb x w):=by
 have au:Hid (EJ s (f+1) e o8 (nJ,b)=jw):=Ac (by rw[EJ,z];simp only;rw[kX (.inr V)]);have a4:=dT ((32:Int)<((o8.length+a.pre.length:Nat):Int)) (by rw[AO]at V;omega);obtain⟨R,aw,az⟩:=l9 (Ol h e) z B;have br:IntKind.i64.wrap (e.toNat:Int)=Bz e:=rfl;have bm:=(Om z).1;have ah:=Ac (Yl h z);have ar:=Ac ac;have be:=B.box.p1;have ab:pI<=w:=Lh (KF B.bs B.box.lt);have E:Hid (∀q∈b.map (λo=>(o,(1:Int))),q.1≠Bz e):=Ac (λq a3=>by
  obtain⟨o,a1,rfl⟩:=CU.1 a3;exact λi=>ac (i▸a1))
 have an:=Ac aM;generalize Bz e=g at*;go_in;go_wp2_with(refine R.out.mono ?_;rintro i bd⟨aR,ad⟩;rw[aw.out]at ad;obtain⟨bw,rfl,a0⟩:=ad;obtain⟨m,G,K,X,M,Y,rfl,ae,bb,bc⟩:=a0;obtain⟨r,Z,k,al⟩:=E5 bd 211 [fM m a.pre.length G,a.val,fM K a.labels.length X,fM M a.kids.length Y];have y:η w r:=τ aR k;have l:=az.below y;have a6:=uq Tryz.Pj underlying3 Tryz.uC r mb _ g l.map E;have H:=Ac9 Tryz.Pj underlying3 r mb _ g 1 l.map E;rw[show b.map (λo=>(o,(1:Int)))++[(g,1)]=(b++[g]).map (λo=>(o,(1:Int)))by simp]at H;obtain⟨S,j,P⟩:=l.note ah ar;obtain⟨t,aa⟩:=ε (EU r mb (Jr 0 ((b++[g]).map λo=>(o,1))).toArray ((b++[g]).map λo=>(o,(1:Int))).length);rw[<-aa]at H S j P;have N:=j.box al;have ao:=(an.keep (EG.of_below y)).keep j;have bh:Hid (cO t w (.agg #[fM m a.pre.length G,a.val,fM K a.labels.length X,fM M a.kids.length Y]) a):=Ac (j.nd ⟨_,_,_,_,_,_,rfl,own_below ae k,own_below bb k,own_below bc k⟩);have a2:Rd t m a.pre.length (a.pre.map bv):=(Dk (j.own (.inl rfl) (own_below ae k))).2;clear aa;have I:=l.box.cell 0;have J:=l.box.cell 2;simp only[Af,Ai]at I J;rw[Z]at a6 H I J;clear be R Z);obtain⟨a7,a8,a9,ba,-⟩:=Dp N;obtain⟨Q,aD,aE,D,av,a5⟩:=lN ((y.mono ab).trans P) ((EG.of_below y).trans j) S ao a2 N;go_region_law(refine Ns rfl (.tmp 42) (.tmp 44) 22 rfl Tryz.Jq A o8.length (o8.map bv) (by simp[Act.eval]) (by exact D.1) (λaG i=>by obtain⟨aL,_,_,aI,_⟩:=D.2.1 aG i;exact⟨aL,aI⟩) (λi=>by rw[D.2.2 i];rfl) m a.pre.length G (a.pre.map bv) (by simp[Act.eval]) (by exact av) (JW _) O U ?_;intro bg bj C bo bp aW bi);have n:η t C:=(mX t).trans aW;have T:=aE.below n;have am:=a5.out.ξ n;have aq:=Ac (aD.trans (EG.of_below n));have ap:=Ac (Q.trans (n.mono (AZ ab (by have:=Q.size;exact this))));have bt:(Instr.lookup 221 (.map (jm mb)) (gz iU g) jS).run prog C=.ok (gz iU 1) C:=UT Tryz.Pj underlying3 C mb (b.map λo=>(o,(1:Int))) [] g 1 (by have:=T.map;simpa using this) E.out;obtain⟨I,bx,J⟩:=T.box.p3;obtain⟨a7,a8,a9,ba,-⟩:=Dp am;have bq:(32:Int)<(o8.length:Int)+(a.pre.length:Int):=by simp at a4;omega
 go_wp2;go_ret;refine⟨ap,aq,?_⟩;rw[au.out];rfl
def Ajz(h:KH len w x d p L s F)(_:∀Z,F Z->Z<pI){nJ:List (List nC×ni)}{e:List Int}{v:Value}(D:Gg w pI sb mb x nJ e v)(f:Nat)(g:ni)(o8:List nC)(A:Option Addr)(c:Nat)(a5:SG w A o8)(bq:o8.length<=c)(_:o8.length<=33)(a:Nd)(I:Gu s g=jm a)(H:Bz g∉e)(Y:¬32<(o8++a.pre).length)(am:a.val≠0)(ah:OB (o8++a.pre)=jS):
 Calls prog 164 #[AB sb,g,fM A o8.length c] w (Ub (EJ s (f+1) g o8 (nJ,e)) pI sb mb x w):=by
 have aE:Hid (EJ s (f+1) g o8 (nJ,e)=jw):=Ac (by rw[EJ,I];simp only;rw[lg (λb=>b.elim (λb=>H (by simpa using b)) Y),kX ⟨am,ah⟩]);rw[AO]at Y;have az:=Ac ah;have bx:((a.val.toNat:Int)!=0)=true:=by
  rw[bne_iff_ne];intro b;exact am (Eb.1 (by simp;omega))
 obtain⟨V,aL,aM⟩:=l9 (Ol h g) I D;have bt:IntKind.i64.wrap (g.toNat:Int)=Bz g:=rfl;have ao:=Ac (Yl h I);have aD:=Ac H;have bo:=D.box.p1;have ae:pI<=w:=Lh (KF D.bs D.box.lt);have E:Hid (∀q∈e.map (λo=>(o,(1:Int))),q.1≠Bz g):=Ac (λq bb=>by
  obtain⟨o,a9,rfl⟩:=CU.1 bb;exact λb=>H (b▸a9))
 have ar:=Ac a5;generalize Bz g=i at*;go_in;go_wp2_with(refine V.out.mono ?_;rintro b bm⟨a6,al⟩;rw[aL.out]at al;obtain⟨bA,rfl,a8⟩:=al;obtain⟨r,G,N,aa,P,ab,rfl,an,bk,bl⟩:=a8;obtain⟨z,ac,m,ap⟩:=E5 bm 211 [fM r a.pre.length G,a.val,fM N a.labels.length aa,fM P a.kids.length ab];have C:η w z:=τ a6 m;have n:=aM.below C;have be:=uq Tryz.Pj underlying3 Tryz.uC z mb _ i n.map E;have J:=Ac9 Tryz.Pj underlying3 z mb _ i 1 n.map E;rw[show e.map (λo=>(o,(1:Int)))++[(i,1)]=(e++[i]).map (λo=>(o,(1:Int)))by simp]at J;obtain⟨W,j,S⟩:=n.note ao aD;obtain⟨B,ad⟩:=ε (EU z mb (Jr 0 ((e++[i]).map λo=>(o,1))).toArray ((e++[i]).map λo=>(o,(1:Int))).length);rw[<-ad]at J W j S;have R:=j.box ap;have au:=(ar.keep (EG.of_below C)).keep j;have bp:Hid (cO B w (.agg #[fM r a.pre.length G,a.val,fM N a.labels.length aa,fM P a.kids.length ab]) a):=Ac (j.nd ⟨_,_,_,_,_,_,rfl,own_below an m,own_below bk m,own_below bl m⟩);have ba:Rd B r a.pre.length (a.pre.map bv):=(Dk (j.own (.inl rfl) (own_below an m))).2;clear ad;have K:=n.box.cell 0;have M:=n.box.cell 2;simp only[Af,Ai]at K M;rw[ac]at be J K M;clear bo V ac);obtain⟨bg,bh,bi,bj,-⟩:=Dp R;obtain⟨T,aR,aW,y,aG,bd⟩:=lN ((C.mono ae).trans S) ((EG.of_below C).trans j) W au ba R;go_region_law(refine Ns rfl (.tmp 42) (.tmp 44) 22 rfl Tryz.Jq A o8.length (o8.map bv) (by simp[Act.eval]) (by exact y.1) (λa1 b=>by obtain⟨a4,_,_,a3,_⟩:=y.2.1 a1 b;exact⟨a4,a3⟩) (λb=>by rw[y.2.2 b];rfl) r a.pre.length G (a.pre.map bv) (by simp[Act.eval]) (by exact aG) (JW _) O U ?_;intro Q a2 k br bc a7 a0);have l:η B k:=(mX B).trans a7;have aI:Hid (SG k Q (o8++a.pre)):=Ac (y.cut bc l a0);have X:=aW.below l;have aq:=bd.out.ξ l;have aw:=Ac (aR.trans (EG.of_below l));have av:=Ac (T.trans (l.mono (AZ ae (by have:=T.size;exact this))));have bw:(Instr.lookup 221 (.map (jm mb)) (gz iU i) jS).run prog k=.ok (gz iU 1) k:=UT Tryz.Pj underlying3 k mb (e.map λo=>(o,(1:Int))) [] i 1 (by have:=X.map;simpa using this) E.out;obtain⟨K,bB,M⟩:=X.box.p3;obtain⟨bg,bh,bi,bj,-⟩:=Dp aq;have t:=Au7 Q (o8.length+a.pre.length) a2 (o8++a.pre) k O (by have:=aI.1;rw[AO]at this;exact this) az;have t:=Ac t;go_wp2_with(refine t.out.ro ?_;clear t);go_ret;refine⟨av,aw,?_⟩;rw[aE.out];rfl
end
section
variable{len:Mode}{w w':World}{pI sb mb x d p L:Nat}{s:St}{F:Nat->Prop}
def Aen(h:KH len w x d p L s F)(hF:∀cA,F cA->cA<pI){nJ:List (List nC×ni)}{i:List Int}{v:Value}(ah:Gg w pI sb mb x nJ i v)(f:Nat)(j:ni)(o8:List nC)(A:Option Addr)(c:Nat)(cC:SG w A o8)(d6:o8.length<=c)(_:o8.length<=33)(a:Nd)(z:Gu s j=jm a)(aM:Bz j∉i)(be:¬32<(o8++a.pre).length)(bW:a.val≠0->OB (o8++a.pre)=jO)(dw:x<pI)(dv:0<pI/\1<pI)(cV:∀(l:World)(aW:ni)(ae:List nC)(A:Option Addr)(c:Nat)(it:List (List nC×ni))(mt:List Int)(v:Value),KH len l x d p L s F->Gg l pI sb mb x it mt v->SG l A ae->ae.length<=c->ae.length<=33->34<=f+ae.length->Calls prog 164 #[AB sb,aW,fM A ae.length c] l (Ub (EJ s f aW ae (it,mt)) pI sb mb x l))(d5:34<=f+1+o8.length):
 Calls prog 164 #[AB sb,j,fM A o8.length c] w (Ub (EJ s (f+1) j o8 (nJ,i)) pI sb mb x w):=by
 have bL:Hid (a.val=0->EJ s (f+1) j o8 (nJ,i)=(a.labels.zip a.kids).foldlM (λ(Y:List (List nC×ni)×List Int)(r:nC×ni)=>EJ s f r.2 (o8++a.pre++[r.1]) Y) (nJ,i++[Bz j])):=Ac (λg=>by rw[EJ,z];simp only;rw[lg (λb=>b.elim (λb=>aM (by simpa using b)) be),lg (λb=>b.1 g),lg (λb=>b g)]);have bM:Hid (a.val≠0->EJ s (f+1) j o8 (nJ,i)=(a.labels.zip a.kids).foldlM (λ(Y:List (List nC×ni)×List Int)(r:nC×ni)=>EJ s f r.2 (o8++a.pre++[r.1]) Y) (nJ++[(pairs (o8++a.pre),a.val)],i++[Bz j])):=Ac (λg=>by rw[EJ,z];simp only;rw[lg (λb=>b.elim (λb=>aM (by simpa using b)) be),lg (λb=>by rw[bW g]at b;exact nomatch b.2),kX g]);have c4:=be;rw[AO]at c4;have eg:¬(32:Int)<(o8.length:Int)+(a.pre.length:Int):=O;have ef:=dF ((32:Int)<((o8.length+a.pre.length:Nat):Int));have da:Hid (a.labels.length=a.kids.length):=Ac (by
  obtain⟨_,_,dy,di⟩:=h.L0;exact((BD _).1 (Agk dy di z).1).2.2.1)
 have db:=Ac ah.len;have a8:=Ac bW;clear bW;obtain⟨cn,de,cp,dh⟩:=lL (Ol h j) z ah h;have ei:IntKind.i64.wrap (j.toNat:Int)=Bz j:=rfl;have d9:=(Om z).1;have d8:=(Om z).2.1;have d7:=(Om z).2.2;have c7:=Ac (Yl h z);have ci:=Ac aM;have d1:=ah.box.p1;have S:pI<=w:=Lh (KF ah.bs ah.box.lt);have ba:Hid (∀q∈i.map (λo=>(o,(1:Int))),q.1≠Bz j):=Ac (λq du=>by
  obtain⟨o,dt,rfl⟩:=CU.1 du;exact λb=>aM (b▸dt))
 have cf:=Ac cC;generalize Bz j=K at*;clear h ah z aM cC;go_in;go_wp2_with(refine cn.out.mono ?_;rintro b bl⟨cE,cM⟩;rw[de.out]at cM;obtain⟨ep,rfl,ds⟩:=cM;obtain⟨a2,bR,cc,aD,cd,cB,rfl,b5,c0,c1⟩:=ds;obtain⟨bc,bV,ac,ce⟩:=E5 bl 211 [fM a2 a.pre.length bR,a.val,fM cc a.labels.length aD,fM cd a.kids.length cB];have aI:η w bc:=τ cE ac;have ad:=cp.below aI;have cX:=uq Tryz.Pj underlying3 Tryz.uC bc mb _ K ad.map ba;have bj:=Ac9 Tryz.Pj underlying3 bc mb _ K 1 ad.map ba;rw[show i.map (λo=>(o,(1:Int)))++[(K,1)]=(i++[K]).map (λo=>(o,(1:Int)))by simp]at bj;obtain⟨bQ,W,bt⟩:=ad.note c7 ci;obtain⟨bd,cD⟩:=ε (EU bc mb (Jr 0 ((i++[K]).map λo=>(o,1))).toArray ((i++[K]).map λo=>(o,(1:Int))).length);rw[<-cD]at bj bQ W bt;have bq:=W.box ce;have cg:=(cf.keep (EG.of_below aI)).keep W;have cj:Hid (cO bd w (.agg #[fM a2 a.pre.length bR,a.val,fM cc a.labels.length aD,fM cd a.kids.length cB]) a):=Ac (W.nd ⟨_,_,_,_,_,_,rfl,own_below b5 ac,own_below c0 ac,own_below c1 ac⟩);have cN:Rd bd a2 a.pre.length (a.pre.map bv):=(Dk (W.own (.inl rfl) (own_below b5 ac))).2;clear cD;have G:=ad.box.cell 0;have H:=ad.box.cell 2;simp only[Af,Ai]at G H;rw[bV]at cX bj G H;have d3:=Ac bV;clear d1 cn bV);obtain⟨B,C,D,E,-⟩:=Dp bq;obtain⟨bw,cv,cy,aw,cm,cW⟩:=lN ((aI.mono S).trans bt) ((EG.of_below aI).trans W) bQ cg cN bq;clear cX bj G H cE ac aI ad W bt ce bq cg cN b5 c0 c1 bQ;go_region_law(refine Ns rfl (.tmp 42) (.tmp 44) 22 rfl Tryz.Jq A o8.length (o8.map bv) (by simp[Act.eval]) (by exact aw.1) (λaz b=>by obtain⟨aE,_,_,y,_⟩:=aw.2.1 az b;exact⟨aE,y⟩) (λb=>by rw[aw.2.2 b];rfl) a2 a.pre.length bR (a.pre.map bv) (by simp[Act.eval]) (by exact cm) (JW _) O U ?_;intro a3 dj Z ea cP cF cz);have P:η bd Z:=(mX bd).trans cF;have a9:Hid (SG Z a3 (o8++a.pre)):=Ac (aw.cut cP P cz);have bb:=cy.below P;have br:=cW.out.ξ P;obtain⟨bE,bx,a7⟩:=l9 (cj.below P) (cv.trans (EG.of_below P)) (bw.trans (P.mono (AZ S (by have:=bw.size;exact this))));have cY:(Instr.lookup 221 (.map (jm mb)) (gz iU K) jS).run prog Z=.ok (gz iU 1) Z:=UT Tryz.Pj underlying3 Z mb (i.map λo=>(o,(1:Int))) [] K 1 (by have:=bb.map;simpa using this) ba.out;obtain⟨G,ao,H⟩:=bb.box.p3;obtain⟨B,C,D,E,-⟩:=Dp br;have bN:=Ac bb;have bm:=Ac br;clear P cF cz cP bb br cy aw cm cW cj cv bw cf ba cp ci;generalize cL:o8.length+a.pre.length=a0 at*;have m:=Ac cL;clear cL;by_cases g:a.val=0
 case' pos=>
  have cl:=Ac (bL g);have dA:((a.val.toNat:Int)!=0)=false:=by rw[g];rfl
  clear g bL bM a8;obtain⟨b9,V⟩:=ε Z;rw[<-V]at bN bx a7 a9 bE bm cY G ao H B C D E⊢;clear V;have cr:=bN;have ab:=a7;have bA:=bx;have co:=a9;have ck:=bE;have a5:=bm;go_wp2_with fail
 case' neg=>
  have cl:=Ac (bM g);have a8:=Ac (a8 g);have dA:((a.val.toNat:Int)!=0)=true:=by
   rw[bne_iff_ne];intro b;exact g (Eb.1 (by simp;omega))
  clear g bL bM;have bB:=Ac (Aqu a3 a0 dj (o8++a.pre) Z (Ω m.out) (by have:=a9.1;rw[AO,m.out]at this;exact this) a8);obtain⟨b3,bX⟩:∃b3:nG,b3=⟨(pairs (o8++a.pre)).toArray⟩:=⟨_,rfl⟩;rw[<-bX]at bB;have c9:=Ac bX;clear bX;go_wp2_with(refine bB.out.mono ?_;rintro b a1⟨rfl,Q⟩;have t:=bN.below Q;obtain⟨ca,dd,dc,c8,cu,cq⟩:=lN (bm.out.ξ Q) (a9.keep (EG.of_below Q)) (bE.below Q) (bx.trans (EG.of_below Q)) (a7.trans (Q.mono (AZ S (by have:=a7.size;exact this)))) t;have c5:pI<=a1:=AZ S cu.size;have eb:=t.few;clear G ao H B C D E cY bB Q;have G:=t.box.cell 0;have ao:=t.box.cell 1;have H:=t.box.cell 2;have f1:=t.box.frozen 1;have cR:=t.box.lt;simp only[Af,Ai]at G ao H;obtain⟨B,C,D,E,-⟩:=Dp ca;have ct:Hid (jm sb≠v.ownBlock):=Ac (λb=>t.vs b.symm);clear t);go_region_law(refine PH rfl (.tmp 72) (.tmp 77) 152 rfl Tryz.Arz a1 pI v nJ.length (nJ.map itV).flatten [b3,a.val] rfl cq.row rfl rfl rfl rfl a1 1 rfl rfl rfl U (by intro eo cT;simp at cT;rcases cT with rfl|rfl<;>rfl) O U c5 ?_;intro dn J aa cx cw bg cZ;have d2:=(World.cell?_of_block (w:=a1) (a:=Δ sb 1) (bg.2 sb cR ct)).trans ao;have dm:=(World.frozen?_of_block (w:=a1) (a:=Δ sb 1) (bg.2 sb cR ct)).trans f1)
  all_goals
   obtain⟨b7,an,b8⟩:=cq.add (pairs (o8++a.pre),a.val) (by have:=db.out;simp;omega) (by have:=cx;rw[c9.out]at this;exact this) cw bg cZ;obtain⟨b9,V⟩:=ε (aa.setCell (Δ sb 1) (fM (jm (Φ dn)) (nJ.length+1) J));rw[<-V]at b7 an b8;obtain⟨cr,ab,bA,co,ck,a5,dg⟩:=lQ b7 (cu.trans b8) (c8.trans an) (dd.keep an) (an.nd dc) (an.box ca) V;clear B C D E;obtain⟨B,C,D,E,-⟩:=Dp a5;rw[V]at B C D E;clear b7 an b8 V;go_wp2_with fail;rw[<-dg.out];clear cx cw bg cZ d2 dm G ao H f1
 all_goals(
  go_loopw [84](λb1 wr=>∃(e:Nat)(it:List (List nC×ni))(mt:List Int)(bk:Value),e<=a.kids.length/\b1=gz iU (e:Nat)/\Gg wr pI sb mb x it mt bk/\EG b9 wr/\Below pI b9 wr/\((a.labels.zip a.kids).drop e).foldlM (λ(Y:List (List nC×ni)×List Int)(r:nC×ni)=>EJ s f r.2 (o8++a.pre++[r.1]) Y) (it,mt)=EJ s (f+1) j o8 (nJ,i))(λb1 _=>a.kids.length-(intOf b1).toNat)
  case atStart=>exact⟨0,_,_,_,Bd _,rfl,cr,EG.refl _,mZ,by rw[cl.out];rfl⟩
  case round=>
   obtain⟨e,it,mt,bk,ec,rfl,cS,cK,cG,cI⟩:=hrel;obtain⟨cs,N,R,ch⟩:=lL cS cK cG cI;clear cS cK cG cI B C D E;by_cases b0:e<a.kids.length
   ·have bi:e<a.labels.length:=by rw[da.out];exact b0
    have cU:e<(a.labels.zip a.kids).length:=by rw[mf];omega
    have cH:(a.labels.zip a.kids).drop e=(a.labels[e],a.kids[e])::(a.labels.zip a.kids).drop (e+1):=by
     rw[BX cU,List.getElem_zip]
    have bo:=ch.out;rw[cH,List.foldlM_cons]at bo;obtain⟨_,_,_,_,_,_,bS,dz,b6,c2⟩:=N.nd ck;simp only[Value.agg.injEq]at bS;simp at bS;obtain⟨⟨rfl,rfl⟩,⟨rfl,rfl⟩,⟨rfl,rfl⟩⟩:=bS;obtain⟨el,em,rfl,ed,cJ⟩:=(Dk c2).2.2 O;obtain⟨al,am,rfl,ee,bY⟩:=(Dk b6).2.2 O;have bp:=cJ e b0;rw[CP,Ag b0]at bp;replace bp:_=jm (Value.int .u64 (a.kids[e].toNat:Int)):=bp;have a6:=bY e bi;rw[CP,Ag bi]at a6;replace a6:_=jm (Value.int .u8 (a.labels[e].toNat:Int)):=a6;generalize a.kids[e]=aW at*;generalize a.labels[e]=n at*;have cb:=Ac bo;obtain⟨B,C,D,E,-⟩:=Dp (N.box a5);have M:=Ac (co.out.keep N);have a4:Hid (∀l,EG wr l->l.cell? (Δ bl 2)=jm (fM (jm (Δ al am)) a.labels.length aD)/\l.cell? (Δ al (am+e))=jm (gz .u8 (n.toNat:Int))):=Ac (λl aG=>by
     refine⟨(Dp (aG.box (N.box a5))).2.2.1,?_⟩;obtain⟨d4,en,y,_,dp⟩:=(Dk (aG.own (.inl rfl) b6)).2.2 O;injection y with y
     injection y with dk dl
     subst dk dl;rw[dp e bi,<-bY e bi];exact a6)
    have au:=Ac (λ(l:World)(aG:η wr l)(I:Option Addr)(J:Nat)(X:SG l I (o8++a.pre++[n]))(bh:a0+1<=J)=>cV l aW (o8++a.pre++[n]) I J it mt bk (dh.past ((ab.out.trans R).trans (aG.mono (AZ S (AZ ab.out.size R.size)))) hF dw dv) (cs.below aG) X (by have:=m.out;simp;omega) (by simp at be⊢;omega) (by simp;omega));rw[show(o8++a.pre++[n]).length=a0+1 by have:=m.out;simp;omega]at au;have ej:(e:Int)<(a.kids.length:Int):=O;have ek:(e:Int)<(a.labels.length:Int):=O;have eh:IntKind.i64.wrap ((e:Int)+1)=(e:Int)+1:=wrap64 _ O O;clear cJ bY dz b6 c2 cH cU bo;go_wp2_with fail;cases g:EJ s f aW (o8++a.pre++[n]) (it,mt)with
    |none=>
     have bO:Hid (EJ s (f+1) j o8 (nJ,i)=jw):=Ac (by rw[<-cb.out];simp only[g];rfl);rw[g]at au;clear g;go_region_held_law(λw'=>w'.cell? (Δ bl 2)=jm (fM (jm (Δ al am)) a.labels.length aD)/\w'.cell? (Δ al (am+e))=jm (gz .u8 (n.toNat:Int)))(first|go_keep|exact a4 _ ((EG.of_below k).trans T)|exact a4 _ (EG.of_below k))
      (first
      |(refine Wx rfl (.tmp 96) (.tmp 102) 22 rfl Tryz.Jq wr a3 a0 ((o8++a.pre).map bv) (by simp[Act.eval]) (by have:=M.1;rw[AO,m.out]at this;exact this) (λaz b=>by obtain⟨aE,_,_,y,_⟩:=M.2.1 az b;exact⟨aE,y⟩) (λb=>by have:=congrArg Qg (M.2.2 b);rw[AO,m.out]at this;exact this) (gz .u8 (n.toNat:Int)) rfl rfl rfl rfl wr 1 (by simp[Act.eval]) rfl rfl (Ω m.out) U ?_;intro I J aa bh X k ap;have aq:SG aa I (o8++a.pre++[n]):=M.cut (by rw[AO,m.out];exact X) k ap)
      |(go_at_call 164;refine(au aa k I J aq bh).mono ?_;rintro b c3⟨aL,T,aR⟩;replace aR:b=iO (gz iU 5):=aR;subst aR))
     all_goals(have ar:=Ac ((ab.out.trans R).trans ((k.mono (AZ S (AZ ab.out.size R.size))).trans aL));have av:=Ac (((bA.out.trans N).trans (EG.of_below k)).trans T);clear k aL T X ap aq;go_wp2_with fail)
     all_goals(go_ret)
     all_goals(refine⟨ar,av,?_⟩)
     all_goals(rw[bO.out])
     all_goals rfl
    |some dx=>
     obtain⟨b2,b4⟩:=dx;have c6:Hid (((a.labels.zip a.kids).drop (e+1)).foldlM (λ(Y:List (List nC×ni)×List Int)(r:nC×ni)=>EJ s f r.2 (o8++a.pre++[r.1]) Y) (b2,b4)=EJ s (f+1) j o8 (nJ,i)):=Ac (by rw[<-cb.out];simp only[g];rfl);rw[g]at au;clear g;go_region_held_law(λw'=>w'.cell? (Δ bl 2)=jm (fM (jm (Δ al am)) a.labels.length aD)/\w'.cell? (Δ al (am+e))=jm (gz .u8 (n.toNat:Int)))(first|go_keep|exact a4 _ ((EG.of_below k).trans T)|exact a4 _ (EG.of_below k))
      (first
      |(refine Wx rfl (.tmp 96) (.tmp 102) 22 rfl Tryz.Jq wr a3 a0 ((o8++a.pre).map bv) (by simp[Act.eval]) (by have:=M.1;rw[AO,m.out]at this;exact this) (λaz b=>by obtain⟨aE,_,_,y,_⟩:=M.2.1 az b;exact⟨aE,y⟩) (λb=>by have:=congrArg Qg (M.2.2 b);rw[AO,m.out]at this;exact this) (gz .u8 (n.toNat:Int)) rfl rfl rfl rfl wr 1 (by simp[Act.eval]) rfl rfl (Ω m.out) U ?_;intro I J aa bh X k ap;have aq:SG aa I (o8++a.pre++[n]):=M.cut (by rw[AO,m.out];exact X) k ap)
      |(go_at_call 164;refine(au aa k I J aq bh).mono ?_;rintro b c3⟨aL,T,aR⟩;obtain⟨dq,d0,cQ⟩:=(aR:b=iO (gz iU 0)/\∃dU,Gg c3 pI sb mb x b2 b4 dU);subst dq))
     all_goals(obtain⟨ar,av,df⟩:=l9 (R.trans ((k.mono (AZ S (AZ ab.out.size R.size))).trans aL)) ((N.trans (EG.of_below k)).trans T) cQ;clear k aL T X ap aq cQ;go_wp2_with fail)
     all_goals(go_roundw)
     all_goals first
      |(case rel=>exact⟨e+1,b2,b4,d0,O,by go_num,df,av,ar,c6⟩)
      |(case measure=>simp[intOf];omega)
   ·have dr:e=a.kids.length:=O;have bO:Hid (EJ s (f+1) j o8 (nJ,i)=jm (it,mt)):=Ac (by
     rw[<-ch.out,List.drop_of_length_le (by rw[mf];omega)];rfl)
    have ar:=Ac (ab.out.trans R);have av:=Ac (bA.out.trans N);subst dr;clear cV;go_wp2;go_ret;refine⟨ar,av,?_⟩;rw[bO.out];exact⟨rfl,bk,cs⟩)
end
def qG{len:Mode}{pI sb mb x d p L:Nat}{s:St}{F:Nat->Prop}(hF:∀z,F z->z<pI)(C:x<pI)(B:0<pI/\1<pI):∀(f:Nat)(w:World)(a:ni)(o8:List nC)(A:Option Addr)(c:Nat)(nJ:List (List nC×ni))(l:List Int)(v:Value),KH len w x d p L s F->Gg w pI sb mb x nJ l v->SG w A o8->o8.length<=c->o8.length<=33->34<=f+o8.length->
 Calls prog 164 #[AB sb,a,fM A o8.length c] w (Ub (EJ s f a o8 (nJ,l)) pI sb mb x w)
 |0,w,a,o8,A,c,nJ,l,v,h,e,g,i,j,t=>absurd t O
 |f+1,w,a,o8,A,c,nJ,l,v,h,e,g,i,j,t=>by
  cases k:Gu s a with
  |none=>exact Ad2 h hF e f a o8 A c k
  |some b=>
   by_cases m:Bz a∈l
   ·exact Ai5 h hF e f a o8 A c g i j b k m
   ·by_cases o:32<(o8++b.pre).length
    ·exact Ajy h hF e f a o8 A c g i j b k m o
    ·have K:=λ(n:World)(M:ni)(E:List nC)(A:Option Addr)(c:Nat)(D:List (List nC×ni))(mt:List Int)(v:Value)(q:KH len n x d p L s F)(r:Gg n pI sb mb x D mt v)G H I J=>qG hF C B f n M E A c D mt v q r G H I J
     by_cases y:b.val≠0/\OB (o8++b.pre)=jS
     ·exact Ajz h hF e f a o8 A c g i j b k m o y.1 y.2
     ·exact Aen h hF e f a o8 A c g i j b k m o (λq=>(Bool.eq_false_or_eq_true _).resolve_right λr=>y ⟨q,r⟩) C B K t
def Asw(w:World)(pI:Nat)(v:Value)(nJ:List (List nC×ni)):Prop:=w.ownsRow pI 157 2 v nJ.length (nJ.map itV).flatten
def Aok(s:St)(w:World)(x:Nat)(e:Ending)(w':World):Prop:=
 η w w'/\match Em s with
  |none=>e=iO (.tuple #[.pointer jw,gz iU 5])
  |some (nJ,a)=>∃sb mb b,e=iO (.tuple #[AB sb,gz iU 0])/\Gg w' w sb mb x nJ a b
section
variable{len:Mode}{w w':World}{x d p L:Nat}{s:St}{F:Nat->Prop}
def Y4(h:KH len w x d p L s F):Calls prog 109 #[AB x] w (Aok s w x):=by
 have j:=Ac (Jc h ⟨#[]⟩ U);rw[lg U]at j;have W:=h.box.lt;have R:=h.sys.lt;have V:=h.sys.tabs.lt;have M:=Ac h;have Z:=λN=>run_makeMap (P:=prog) 221 N
 obtain⟨H,i⟩:=ε ((w.alloc (.map #[] 0)).alloc (.cells #[AB x,fM jw 0 0,.map (jm w.heap.size)] 223));have n:η w H:=by
  have C:η w (w.alloc (.map #[] 0)):=mZ.alloc (Ae _) _;rw[i];exact C.alloc C.size _
 have v:Gg H w (w+1) w x [] [] (fM jw 0 0):=by
  refine⟨i▸Agq w _ _ _,World.ownsRow_nil _ _ _ _,?_,O,Ae _,(λa=>nomatch a),WJ,(λo T=>nomatch T),Ae _⟩;rw[i];exact(χ _ _ Θ).trans (heap_alloc_new _ _)
 obtain⟨A,z,q,B⟩:=lL v n (iP (h.below n)) i;by_cases f:s.ws 9=0
 ·have e:Hid (Em s=jm ([],[])):=Ac (by unfold Em;rw[kX f]);have t0:(((s.ws 9).toNat:Int)!=0)=false:=by rw[f];rfl
  clear h v n i f;go_in;go_wp2_with(first|(refine j.out.ro ?_;clear j)|(rw[<-B.out];refine q.mono ?_;rintro a I⟨rfl,c⟩;have k:=Ac (τ z.out c);have Q:=Ac (A.below c);clear c q));go_ret2;refine⟨k,?_⟩;rw[e.out];exact⟨_,_,_,rfl,Q⟩
 ·have e:Hid (Em s=EJ s 34 (s.ws 9) [] ([],[])):=Ac (by unfold Em;rw[lg f]);have t0:(((s.ws 9).toNat:Int)!=0)=true:=by
   rw[bne_iff_ne];intro a;exact f (Eb.1 (by simp;omega))
  clear h v n i f;go_in;go_wp2_with(refine j.out.ro ?_;clear j);rw[<-B.out];refine q.mono ?_;rintro a I⟨rfl,c⟩;have k:=Ac (τ z.out c);have b:=Ac (qG R W V 34 I (s.ws 9) [] jw 0 [] [] _ (M.below k) (A.below c) (SG.nil _) (Ae _) U U);clear c q;simp only[List.length_nil]at b;cases g:EJ s 34 (s.ws 9) [] ([],[])with
  |none=>
   have t:Hid (Em s=jw):=Ac (by rw[e.out,g]);rw[g]at b;clear g e;go_wp2_with(refine b.out.mono ?_;rintro a J⟨l,y,m⟩;replace m:a=iO (gz iU 5):=m;subst m;have r:=Ac (k.trans l);clear l y b);go_ret2;refine⟨r,?_⟩;rw[t.out];rfl
  |some X=>
   obtain⟨E,G⟩:=X;have t:Hid (Em s=jm (E,G)):=Ac (by rw[e.out,g]);rw[g]at b;clear g e;go_wp2_with(refine b.out.mono ?_;rintro a J⟨l,y,m⟩;obtain⟨S,aa,D⟩:=(m:a=iO (gz iU 0)/\∃Y,Gg J w (w+1) w x E G Y);subst S;have r:=Ac (k.trans l);have K:=Ac D;clear l y b D);go_ret2;refine⟨r,?_⟩;rw[t.out];exact⟨_,_,_,rfl,K⟩
def Asx(s:St)(w:World)(e:Ending)(w':World):Prop:=
 η w w'/\match Em s with
  |none=>e=iO (.tuple #[fM jw 0 0,gz iU 5])
  |some (nJ,_)=>∃a,e=iO (.tuple #[a,gz iU 0])/\Asw w' w a nJ/\nJ.length<=65537
def VI(h:KH len w x d p L s F):Calls prog 60 #[AB x] w (Asx s w):=by
 have e:=Ac (Y4 h);cases g:Em s with
 |none=>
  have b:=Ac g;clear h g;go_in;go_wp2_with(refine e.out.mono ?_;rintro j o⟨c,a⟩;rw[b.out]at a;replace a:j=iO (.tuple #[.pointer jw,gz iU 5]):=a;subst a;have i:=Ac c;clear c e);go_ret2;refine⟨i,?_⟩;rw[b.out];rfl
 |some m=>
  obtain⟨r,t⟩:=m;have b:=Ac g;clear h g;go_in;go_wp2_with(refine e.out.mono ?_;rintro j o⟨c,a⟩;rw[b.out]at a;obtain⟨sb,mb,n,rfl,f⟩:=a;have q:=f.box.cell 1;simp only[Ai,Af]at q;obtain⟨i,l,k⟩:=l9 c f.row f.few;clear c e f);go_ret2;refine⟨i,?_⟩;rw[b.out];exact⟨n,rfl,l,k⟩
end
def qH{w:World}{pI base' k n:Nat}{e:TypeId}{v:Value}{xs:List Value}(h:w.ownsRow pI e k v n xs)(i:base'<=pI):w.ownsRow base' e k v n xs:=
 ⟨h.1,h.2.imp id (λ⟨c,a,b,d,f,g⟩=>⟨c,a,b,d,AZ i f,g⟩)⟩
def Aol{a b c d:nC}(g:a.toNat<16)(i:b.toNat<16)(j:c.toNat<16)(k:d.toNat<16):(a*16+b<c*16+d)<->(a<c\/(a=c/\b<d)):=by
 have e:(a*16+b).toNat=a.toNat*16+b.toNat:=by
  simp only[UInt8.toNat_add,UInt8.toNat_mul];have:(16:nC).toNat=16:=rfl;rw[this];omega
 have f:(c*16+d).toNat=c.toNat*16+d.toNat:=by
  simp only[UInt8.toNat_add,UInt8.toNat_mul];have:(16:nC).toNat=16:=rfl;rw[this];omega
 rw[UInt8.lt_iff_toNat_lt,UInt8.lt_iff_toNat_lt,UInt8.lt_iff_toNat_lt,e,f,<-UInt8.toNat_inj];omega
def Aom{a b c d:nC}(g:a.toNat<16)(i:b.toNat<16)(j:c.toNat<16)(k:d.toNat<16):(a*16+b=c*16+d)<->(a=c/\b=d):=by
 constructor
 ·intro h;have e:=eG a b g i;have f:=eG c d j k;rw[h]at e;exact⟨e.1.symm.trans f.1,e.2.symm.trans f.2⟩
 ·rintro⟨rfl,rfl⟩;rfl
def jU:∀(a b:List nC),a.length%2=0->b.length%2=0->a.all DW=jO->b.all DW=jO->Op.bytesLess (pairs a) (pairs b)=Op.bytesLess a b
 |[],[],_,_,_,_=>rfl
 |[],[_],_,h,_,_=>by simp at h
 |[],_::_::_,_,_,_,_=>by simp[pairs,Op.bytesLess]
 |[_],_,h,_,_,_=>by simp at h
 |_::_::_,[],_,_,_,_=>by simp[pairs,Op.bytesLess]
 |_::_::_,[_],_,h,_,_=>by simp at h
 |x::r::a,s::q::b,n,o,d,e=>by
  simp only[List.all_cons,Bool.and_eq_true]at d e;have f:x.toNat<16:=by simpa[DW]using d.1
  have g:r.toNat<16:=by simpa[DW]using d.2.1
  have i:s.toNat<16:=by simpa[DW]using e.1
  have j:q.toNat<16:=by simpa[DW]using e.2.1
  have p:=jU a b (by simp only[Bg]at n;omega) (by simp only[Bg]at o;omega) d.2.2 e.2.2;have k:=Aol f g i j;have m:=Aom f g i j;rw[Bool.eq_iff_iff];simp only[pairs,Op.bytesLess,p,Bool.or_eq_true,Bool.and_eq_true,decide_eq_true_eq,beq_iff_eq,k,m];constructor
  ·rintro((h|⟨h,c⟩)|⟨⟨h,c⟩,l⟩)
   ·exact .inl h
   ·exact .inr ⟨h,.inl c⟩
   ·exact .inr ⟨h,.inr ⟨c,l⟩⟩
  ·rintro(h|⟨h,c|⟨c,l⟩⟩)
   ·exact .inl (.inl h)
   ·exact .inl (.inr ⟨h,c⟩)
   ·exact .inr ⟨⟨h,c⟩,l⟩
def RJ{g:Type} [DecidableEq g]:∀(c a:List g),c.Nodup->(∀x∈c,x∈a)->c.length<=a.length
 |[],_,_,_=>by simp
 |b::n,a,l,e=>by
  obtain⟨j,k⟩:=Gz.1 l;have d:=e b (Bf ..);have m:=RJ n (a.erase b) k (λx f=>(List.mem_erase_of_ne (λi:x=b=>j (by rw[<-i];exact f))).2 (e x (Bi _ f)));rw[List.length_erase_of_mem d]at m;have:=List.length_pos_of_mem d;rw[Bg];omega
section
variable{X:Nat->Prop}{L:Nat}{s:St}{nJ:List Kv}
def JQ.up(h:JQ X L s nJ):UpK nJ:=by
 rcases h.tree with⟨_,b,_⟩|⟨_,_,a,_⟩
 ·rw[b];exact List.Pairwise.nil
 ·exact a.up h.ok
def Awo{sh:Sh}(i:L<=1024)(m:shapeOf L=jm sh):A3d L (st0 sh) []:=by
 have l:=J4 m;have c:∀a,Iu (st0 sh) a=0:=λa=>by
  unfold Iu st0;simp only[Bv,Jw];split<;>rfl
 have f:∀a,hdN (st0 sh) a=0:=λa=>by
  unfold hdN st0;simp only[Bv,Jw];split<;>rfl
 have g:∀a,8<=a->(st0 sh).ws a=0:=λa n=>by
  show CQ (λ_=>0) 0 (wordsOf sh) a=0;unfold CQ;rw[lg];simp[wordsOf,headW];omega
 have k:∀o d,¬AX (st0 sh) o d:=λo d=>by
  rintro⟨a,e,_,b,_⟩;rw[c,GX]at b;cases b
 refine⟨⟨l,i,by simp[st0],by simp[st0],λa _=>.inl (c a),λa _=>.inl (f a),λa _=>.inl (c a),λa e _ b=>?_,λa _=>?_⟩,λo d=>?_,.inl ⟨g 9 U,rfl,λo=>⟨λ⟨d,j⟩=>k o d j,λh=>h.elim⟩⟩,λ_ h=>by cases h⟩
 ·rw[c,GX]at b;cases b
 ·rw[g _ O];show _=(BJ sh.CE (0:ni)).getD a 0;simp only[Bv,Jw];split<;>rfl
 ·rintro⟨a,e,_,b,_⟩;rw[f,GX]at b;cases b
end
inductive D8(s:St):ni->List Lk->Prop
 |nil:D8 s 0 []
 |cons(o:Nat)(r:Rc)(l:List Lk):AX s o 1->Et r=jO->wordsAt s.ws (o/8) 8=EE r->D8 s r.next l->(∀k∈l,k.rc.nK.toNat<r.nK.toNat)->D8 s (Az o) (⟨o,r⟩::l)
def Dy(l:List Lk):List Nat:=l.map (·.off.toNat)
section
variable{L:Nat}{s s':St}
def Aac{v:ni}{l:List Lk}(h:D8 s v l)(a:v≠0):l≠[]:=by
 cases h with
 |nil=>exact absurd rfl a
 |cons=>simp
def D8.taken{v:ni}{l:List Lk}(h:D8 s v l):∀o∈Dy l,AX s o 1:=by
 induction h with
 |nil=>intro o b;cases b
 |cons o r l c _ _ _ _ d=>
  intro p a;unfold Dy at a;rw[Ci,Cb]at a;rcases a with rfl|a
  ·exact c
  ·exact d p a
def D8.keep{v:ni}{l:List Lk}(h:D8 s v l){B:Nat->Prop}(k:DV s s' B)(a:∀o∈Dy l,B o):D8 s' v l:=by
 induction h with
 |nil=>exact .nil
 |cons o r l i f j _ g m=>
  obtain⟨b,d⟩:=k o 1 (a o (Bf ..)) i;refine .cons o r l b f ?_ (m (λp e=>a p (Bi _ e))) g;have:=Uk (o:=o) (c:=1) d;rw[show 8*Bq 1=8 from rfl]at this;rw[this,j]
def D8.nodup{v:ni}{l:List Lk}(h:D8 s v l):(Dy l).Nodup/\∀k∈l,wordsAt s.ws (k.off.toNat/8) 8=EE k.rc/\Et k.rc=true:=by
 induction h with
 |nil=>exact⟨WJ,λ_ h=>nomatch h⟩
 |cons o r l p c d _ n b=>
  refine⟨Gz.2 ⟨λm=>?_,b.1⟩,λk a=>?_⟩
  ·obtain⟨k,a,e⟩:=CU.1 m;obtain⟨i,j⟩:=b.2 k a;have f:EE k.rc=EE r:=by
    rw[<-i,<-d];have:k.off.toNat=o:=e;rw[this]
   have g:k.rc=r:=by rw[<-WT k.rc j,f,WT r c]
   have:=n k a;rw[g]at this;omega
  ·rcases Cb.1 a with rfl|a
   ·exact⟨d,c⟩
   ·exact b.2 k a
def D8.list(c:BZ L s){v:ni}{l:List Lk}(h:D8 s v l):∀(f:Nat)(a:List Lk),l.length<f->(∀k∈l,k.rc.nK.toNat<FD a)->WU s f v a=jm (a++l):=by
 induction h with
 |nil=>
  intro f a b _;cases f with
  |zero=>exact absurd b (Wn _)
  |succ f=>unfold WU;rw[kX U,EN]
 |cons o r l d i n _ j p=>
  intro f a b m;have x:=d.bounds c;have q:=c.sh.Qo;have t:=c.L1;cases f with
  |zero=>exact absurd b (Wn _)
  |succ f=>
   unfold WU;rw[lg (by rw[DN O];omega),Ky O,d.class c,lg Θ,BC,n,Ahv r i];simp only;have w:r.nK.toNat<FD a:=m _ (Bf ..);have e:=p f (a++([⟨(o:Int),r⟩]:List Lk)) (by simpa using b) (λk g=>by
    have:=j k g;unfold FD;rw[A4w,wL,A4y];exact this)
   rw[lg O,e,Ba];rfl
end
section
variable{X:Nat->Prop}{L:Nat}{s:St}{nJ:List Kv}
def JQ.congr{Y:Nat->Prop}(h:JQ X L s nJ)(e:∀o,X o<->Y o):JQ Y L s nJ:=by
 have:X=Y:=funext λo=>propext (e o)
 exact this▸h
def Aon(h:JQ X L s nJ)(r:Rc)(an:Et r=jO):
 NY s r=(s,0,6)\/∃k o,NY s r=(k,Az o,0)/\(∀a c,Ei s 1=jm (a,c)->(Np {c with ws:=CQ c.ws (a/8) (EE r)} a).2=0)/\¬(∃d,AX s o d)/\¬X o/\o<=65536/\0<o/\AX k o 1/\wordsAt k.ws (o/8) 8=EE r/\
  JQ (λp=>X p\/p=o) L k nJ/\DV s k (λ_=>True)/\k.sh=s.sh/\∀j,j<16->k.ws j=s.ws j:=by
 unfold NY;rw[lg (by rw[an];simp)];cases ao:Ei s 1 with
 |none=>exact .inl rfl
 |some p=>
  obtain⟨a,c⟩:=p;right;obtain⟨H,S,au,av,M,_,al,ar⟩:=Q7 h.ok (.inl rfl) ao;have K:=M.bounds H;have aE:=H.sh.Qo;have aw:=h.ok.L1;have P:=Jp r;have az:Bq 1=1:=rfl;have E:∀b,¬IE a 1 b->CQ c.ws (a/8) (EE r) b=c.ws b:=λb m=>by
   unfold CQ;rw[lg];intro h;exact m ⟨h.1,by rw[P]at h;omega⟩
  have Q:∀b,b<16+c.sh.CE->¬IE a 1 b:=λb m h=>by
   unfold IE at h;omega
  obtain⟨n,g⟩:∃n,n=({c with ws:=CQ c.ws (a/8) (EE r)}:St):=⟨_,rfl⟩;have l:BZ L n:=g▸H.words (λb m=>E _ (Q _ O));have A:EK n a 1:=by rw[g];exact M
  obtain⟨z,C,T,ap,F,v,Y⟩:=uU l A;have W:n.sh=c.sh:=by rw[g]
  have y:∀o d,AX n o d<->AX s o d:=λo d=>by rw[g];exact ar o d
  have N:DV s z (λ_=>True):=λo I _ aq=>by
   have G:=(y o I).2 aq;obtain⟨aD,ae⟩:=Qz l A G;have V:=G.bounds l;refine⟨(v o I).2 (.inl G),λb m=>?_⟩;rw[F b (.inr (l.DU V.1 m)),g];show CQ c.ws (a/8) (EE r) b=_;rw[E b (λh=>Rj ae K.2.2 V.2.2 h m),S]
  have D:¬∃d,AX s a d:=λ⟨d,q⟩=>(Qz l A ((y a d).2 q)).1 rfl
  have x:∀j,j<16->z.ws j=s.ws j:=λj am=>by
   rw[F j (.inl am),g];show CQ c.ws (a/8) (EE r) j=_;rw[E j (Q j O),S]
  have R:∀o,(∃d,AX z o d)<->(∃d,AX s o d)\/o=a:=λo=>by
   constructor
   ·rintro⟨d,q⟩;rcases(v o d).1 q with e|⟨e,_⟩
    ·exact .inl ⟨d,(y o d).1 e⟩
    ·exact .inr e
   ·rintro(⟨d,q⟩|rfl)
    ·exact⟨d,(v o d).2 (.inl ((y o d).2 q))⟩
    ·exact⟨1,(v _ _).2 (.inr ⟨rfl,rfl⟩)⟩
  have ad:∀o,X o->∃d,AX s o d:=λo t=>by
   rcases h.tree with⟨_,_,f⟩|⟨_,_,_,_,_,f⟩
   ·exact(f o).2 t
   ·exact(f o).2 (.inr t)
  rw[g]at C;refine⟨z,a,by simp only[C,if_true],λaG t2 B=>?_,D,λw=>D (ad a w),O,O,(v _ _).2 (.inr ⟨rfl,rfl⟩),?_,⟨T,λo d ah=>?_,?_,h.even⟩,N,by rw[ap,W,au],x⟩
  ·injection B with B
   injection B with aa ab
   subst aa;subst ab;rw[C]
  ·refine ER (by simp[wordsAt,P]) λb e i=>?_
   rw[MQ,F _ (.inr (l.DU (by rw[W];exact K.1) (c:=1) ⟨O,O⟩)),g];show CQ c.ws (a/8) (EE r) (a/8+b)=_;unfold CQ;rw[kX ⟨O,O⟩,Nat.add_sub_cancel_left,Bv,Ag i];rfl
  ·obtain⟨e,i⟩:=(Y o d).1 ah;rw[g]at e;rcases al o d e with f|f
   ·exact h.nh o d f
   ·exact i f
  ·rcases h.tree with⟨e,i,f⟩|⟨Z,e,i,f,ac,J⟩
   ·exact .inl ⟨by rw[x 9 U,e],i,λo=>by rw[R o,f o]⟩
   ·refine .inr ⟨Z,by rw[x 9 U];exact e,by rw[x 9 U];exact i.keep h.ok T N (λ_ _=>trivial),f,λo t w=>?_,λo=>by rw[R o,J o,or_assoc]⟩;rcases w with w|rfl
    ·exact ac o t w
    ·exact D ((J _).2 (.inl t))
def uZ(h:JQ X L s nJ){o:Nat}(n:X o):∃a,GG s o=(a,0)/\JQ (λp=>X p/\p≠o) L a nJ/\DV s a (λp=>p≠o)/\a.sh=s.sh/\∀j,j<16->a.ws j=s.ws j:=by
 have E:∃d,AX s o d:=by
  rcases h.tree with⟨_,_,e⟩|⟨_,_,_,_,_,e⟩
  ·exact(e o).2 n
  ·exact(e o).2 (.inr n)
 obtain⟨J,H⟩:=E;obtain⟨a,C,z,A,F,f,q⟩:=dO h.ok H;have v:DV s a (λp=>p≠o):=λp d i x=>⟨(q p d).2 ⟨x,i⟩,λj m=>f j (.inr (h.ok.DU (x.bounds h.ok).1 m))⟩
 have y:∀p,(∃d,AX a p d)<->(∃d,AX s p d)/\p≠o:=λp=>by
  constructor
  ·rintro⟨d,l⟩;obtain⟨g,c⟩:=(q p d).1 l;exact⟨⟨d,g⟩,c⟩
  ·rintro⟨⟨d,l⟩,c⟩;exact⟨d,(q p d).2 ⟨l,c⟩⟩
 refine⟨a,C,⟨z,λp d G=>h.nh p d ((Qb F A p d).1 G),?_,h.even⟩,v,A,λj m=>f j (.inl m)⟩;rcases h.tree with⟨g,c,e⟩|⟨r,g,c,e,t,D⟩
 ·exact .inl ⟨by rw[f 9 (.inl U),g],c,λp=>by rw[y p,e p]⟩
 ·have w:∀p∈r,p≠o:=λp i B=>t p i (B▸n)
  refine .inr ⟨r,by rw[f 9 (.inl U)];exact g,by rw[f 9 (.inl U)];exact c.keep h.ok z v w,e,λp i I=>t p i I.1,λp=>?_⟩;rw[y p,D p];constructor
  ·rintro⟨b|b,k⟩
   ·exact .inl b
   ·exact .inr ⟨b,k⟩
  ·rintro(b|⟨b,k⟩)
   ·exact⟨.inl b,w p b⟩
   ·exact⟨.inr b,k⟩
end
def Aoo{c:Type}(xs:List c)(i t:Nat)(h:i<=xs.length):(Lj xs i)[t]?=if t<i then xs[t]? else xs[t+1]?:=by
 unfold Lj;have a:(xs.take i).length=i:=by simp;omega
 split
 ·rename_i b;rw[List.getElem?_append_left O,List.getElem?_take,kX b]
 ·rw[Ez O,a,DX];congr 1;omega
def Vq{a:Type}(xs:List a)(i:Nat)(h:i<xs.length):(Lj xs i).length+1=xs.length:=by unfold Lj;simp;omega
def VJ{d:Type}(xs:List d)(i t:Nat)(h:i<xs.length)(c:t<(Lj xs i).length):∃(a:(if t<i then t else t+1)<xs.length),(Lj xs i)[t]=xs[if t<i then t else t+1]:=by
 have e:=Vq xs i h;have a:(if t<i then t else t+1)<xs.length:=by split<;>omega
 refine⟨a,?_⟩;have:=Aoo xs i t O;rw[Ag c]at this;have b:(if t<i then xs[t]? else xs[t+1]?)=xs[if t<i then t else t+1]?:=by split<;>rfl
 rw[b,Ag a]at this;exact Option.some.inj this
def Aop{a:Type}{xs:List a}{i:Nat}{x:a}(h:x∈Lj xs i):x∈xs:=by
 unfold Lj at h;rcases AP.1 h with h|h
 ·exact List.mem_of_mem_take h
 ·exact List.mem_of_mem_drop h
def Aj0{x:Nd}(h:CG x=jO){i:Nat}(hi:i<x.kids.length):CG (UJ x i)=true:=by
 obtain⟨k,l,s,f,m,n⟩:=(BD x).1 h;have c:i<x.labels.length:=O;have q:=Vq x.labels i c;have r:=Vq x.kids i hi;refine(BD _).2 ⟨k,l,by show(Lj x.labels i).length=(Lj x.kids i).length;omega,?_,?_,λa d=>?_⟩
 ·rw[List.all_eq_true]at f⊢;exact λp o=>f p (Aop o)
 ·show Es (Lj x.labels i)=jO;rw[IJ];intro a d;obtain⟨e,b⟩:=VJ x.labels i a c O;obtain⟨g,j⟩:=VJ x.labels i (a+1) c d;rw[b,j];exact Jt _ m _ _ (by split<;>split<;>omega) g
 ·obtain⟨e,b⟩:=VJ x.kids i a hi d;show(Lj x.kids i)[a].toNat≠0;rw[b];exact n _ e
def Asy{l:List nC}(c:Es l=jO){i:Nat}(hi:i<l.length):Kq l l[i]=jm i:=by
 unfold Kq;rw[NG];refine⟨hi,by simp,λj b=>?_⟩;have:=Jt _ c j i b hi;simp;intro a;rw[a]at this;omega
def Vr(nJ pX:List Kv)(k:List nC):Prop:=∀a,a∈pX<->a∈nJ/\a.1≠k
def A0k(X:Nat->Prop)(L:Nat)(s:St)(nJ:List Kv)(k:List nC)(r:St×ni×Int):Prop:=
 (r=(s,0,7)/\∀a∈nJ,a.1≠k)\/(Jj X s r.1/\r.2.2=0/\(k,r.2.1)∈nJ/\∃pX,JQ X L r.1 pX/\Vr nJ pX k)
section
variable{X:Nat->Prop}{L:Nat}{s:St}{nJ:List Kv}{nT:List Nat}{key:List nC}
def Awp(h:JQ X L s nJ)(Z:s.ws 9≠0)(am:∀o,(∃d,AX s o d)<->o∈nT\/X o)(R:∀o∈nT,¬X o)(aa:nT.Nodup){a:Pl}{m q:List nC}{rl:Nat}{nl:ni}{nN:List Part}{A B:List Kv}{b1 b2:List Nat}
 (S:aV L s 32 (s.ws 9) nJ nT 72 (CO key) a m q rl nl nN A B b1 b2){i:Nat}(h1:i<a.nd.kids.length)(h2:i<a.nd.labels.length)(h3:i<nN.length){H:List nC}(hcut:a.nd.pre++a.nd.labels[i]::H=m){v:ni}(ae:nN[i].nJ=[(H,v)]):
 (CO key,v)∈nJ/\∃y C,(match GN ⟨s,[]⟩ (UJ a.nd i)with|(ap,G,c)=>Fb ap c a.word G ((nN[i].nT.map Gt).reverse++[a.off]))=(y,C)/\
  ((C=6/\y=s)\/(C=0/\Jj X s y/\∃pX,JQ X L y pX/\Vr nJ pX (CO key))):=by
 obtain⟨o,n⟩:=uX h.ok aa S;have M:=(BD a.nd).1 n.right;have F:CO key=q++m:=S.cut;have J:=Vo a.nd.pre a.nd.labels nN i h2 h3 (Ω S.len);rw[ae]at J;have an:Gx a.nd.pre a.nd.labels[i] [(H,v)]=[(m,v)]:=by unfold Gx;simp[hcut]
 have V:BI a.nd.pre (Lj a.nd.labels i) (Lj nN i)=BI a.nd.pre (a.nd.labels.take i) (nN.take i)++BI a.nd.pre (a.nd.labels.drop (i+1)) (nN.drop (i+1)):=by
  unfold Lj;exact PM _ _ _ _ _ (by simp;omega)
 have T:Bl (Lj nN i)=Bl (nN.take i)++Bl (nN.drop (i+1)):=by
  unfold Lj;exact RI _ _
 have w:∀b x,(b,x)∈CS a.nd++BI a.nd.pre a.nd.labels nN<->(b,x)∈CS a.nd++BI a.nd.pre (Lj a.nd.labels i) (Lj nN i)\/(b,x)=(m,v):=λb x=>by
  rw[J,V,an];simp only[AP,BB];constructor
  ·rintro(g|g|g|g)
   ·exact .inl (.inl g)
   ·exact .inl (.inr (.inl g))
   ·exact .inr g
   ·exact .inl (.inr (.inr g))
  ·rintro((g|g|g)|g)
   ·exact .inl g
   ·exact .inr (.inl g)
   ·exact .inr (.inr (.inr g))
   ·exact .inr (.inr (.inl g))
 have ab:∀b x,(b,x)∈CS a.nd++BI a.nd.pre (Lj a.nd.labels i) (Lj nN i)->b≠m:=λb x U c=>by
  have W:∀f(g:f<a.nd.labels.length),f≠i->a.nd.labels[f]≠a.nd.labels[i]:=λf g al c=>by
   rcases A4x al with j|j
   ·have:=Jt _ M.2.2.2.2.1 f i j h2;rw[c]at this;omega
   ·have:=Jt _ M.2.2.2.2.1 i f j g;rw[c]at this;omega
  rcases AP.1 U with g|g
  ·obtain⟨g,_⟩:=Gj g;injection g with g _
   rw[g,<-hcut]at c;have:=congrArg Qg c;simp at this
  ·obtain⟨f,t1,t2,au,_,g⟩:=Fz g;injection g with g _
   rw[g,<-hcut]at c;have p:=En c;injection p with p _
   obtain⟨e,j⟩:=VJ a.nd.labels i f h2 t1;rw[j]at p;exact W _ e (by split<;>omega) p
 have E:∀b x,(b,x)∈CS a.nd++BI a.nd.pre a.nd.labels nN->(q++b,x)∈nJ:=λb x Q=>by
  rw[S.its,Ba];exact BA _ (BK _ (EW.2 ⟨b,Q,rfl⟩))
 refine⟨by rw[F];exact E m v ((w m v).2 (.inr rfl)),?_⟩;rcases Q8 (Grown.start h.ok h.nh) (Aj0 n.right h1)with c|⟨ao,G,av,c,_,g,ac,Y,ah,_⟩
 ·rw[c];exact⟨s,6,rfl,.inl ⟨rfl,rfl⟩⟩
 ·rw[c];simp only;have z:=Ep.mk (s:=ao.s) rl G (UJ a.nd i) (Lj nN i) ah S.pre (λ_=>S.kid (λc=>by rw[c]at h1;exact absurd h1 Θ)) (by
   have:=Vq nN i h3;have:=Vq a.nd.kids i h1;show(Lj nN i).length=(Lj a.nd.kids i).length;have:=S.len;omega) (λf e j=>by
   obtain⟨u1,u2⟩:=VJ a.nd.kids i f h1 e;obtain⟨u3,u4⟩:=VJ nN i f h3 j;have O:(UJ a.nd i).kids[f]=a.nd.kids[if f<i then f else f+1]:=u2;rw[O,u4];exact(S.sub _ u1 u3).keep h.ok g.ok g.keep (λ_ _=>trivial))
  rw[ac,BC]at z;have ad:CS (UJ a.nd i)=CS a.nd:=rfl;rw[ad]at z;obtain⟨ar,p,aq,N⟩:=qE h Z am R n g Y z (K:=Bl (Lj nN i)) (D:=nN[i].nT) (dl:=nN[i].nT.reverse++[o])
   (by
    rw[N9 nN i h3,T];have:(Bl (nN.take i)++(nN[i].nT++Bl (nN.drop (i+1)))).Perm (Bl (nN.take i)++(Bl (nN.drop (i+1))++nN[i].nT)):=List.Perm.append_left _ List.perm_append_comm;simpa[Ba]using this)
   Θ (List.Perm.append_right _ (Ald _)) (λl t=>by
    obtain⟨b,x⟩:=l;exact h.even _ (E b x ((w b x).2 (.inl t))))
  refine⟨ar,0,?_,.inr ⟨rfl,aq,_,N,λl=>?_⟩⟩
  ·rw[n.off,<-p,CJ,Alr];rfl
  ·constructor
   ·intro t;rw[Ba]at t;rcases AP.1 t with e|e
    ·exact⟨by rw[S.its];simp[e],n.other l (.inl e)⟩
    ·rcases AP.1 e with e|e
     ·obtain⟨b,j,k⟩:=EW.1 e;have:=E b l.2 ((w b l.2).2 (.inl j));refine⟨by rw[<-k]at this;exact this,λc=>?_⟩;rw[k,F]at c;exact ab b l.2 j (En c)
     ·exact⟨by rw[S.its];simp[e],n.other l (.inr e)⟩
   ·rintro⟨e,j⟩;rw[S.its,Ba]at e;rw[Ba];rcases AP.1 e with k|k
    ·exact BK _ k
    ·rcases AP.1 k with k|k
     ·obtain⟨b,P,I⟩:=EW.1 k;rcases(w b l.2).1 P with r|r
      ·exact BA _ (BK _ (EW.2 ⟨b,r,I⟩))
      ·injection r with r _
       exact absurd (by rw[I,r,F]) j
     ·exact BA _ (BA _ k)
def Aj1(h:JQ X L s nJ)(x:s.ws 9≠0)(C:∀o,(∃d,AX s o d)<->o∈nT\/X o)(v:∀o∈nT,¬X o)(y:nT.Nodup){o9:Pl}{pW q:List nC}{rl:Nat}{nl:ni}{nN:List Part}{A B:List Kv}{b1 b2:List Nat}{o:Nat}
 (a:Z5 L s nJ nT key o9 pW q rl nl nN A B b1 b2 o)(l:o9.nd.pre=pW):Jj X s (TG s o9 0)/\∃pX,JQ X L (TG s o9 0) pX/\Vr nJ pX (CO key):=by
 obtain⟨r,t⟩:=zZ h x C v y a.toRk l 0;refine⟨r,_,t,λi=>?_⟩;have j:=a.spot;have k:CO key=q++o9.nd.pre:=by rw[l];exact j.cut
 have D:CS {o9.nd with val:=0}=[]:=rfl;have m:∀e,(e,i.2)∈BI o9.nd.pre o9.nd.labels nN->q++e≠CO key:=λe w f=>by
  obtain⟨E,c,g,F,_,n⟩:=Fz w;rw[k]at f;have:=En f;have p:e=o9.nd.pre++o9.nd.labels[E]::F.1:=congrArg Prod.fst n;rw[p]at this;have:=congrArg Qg this;simp at this
 rw[D,DR,j.its];simp only[AP,EW];constructor
 ·rintro((b|⟨e,c,g⟩)|b)
  ·exact⟨.inl (.inl b),a.other i (.inl b)⟩
  ·exact⟨.inl (.inr ⟨e,.inr c,g⟩),by rw[g];exact m e c⟩
  ·exact⟨.inr b,a.other i (.inr b)⟩
 ·rintro⟨(b|⟨e,c,g⟩)|b,z⟩
  ·exact .inl (.inl b)
  ·rcases c with c|c
   ·obtain⟨f,_⟩:=Gj c;injection f with f _
    exact absurd (by rw[g,f,k]) z
   ·exact .inl (.inr ⟨e,c,g⟩)
  ·exact .inr b
def ve(h:JQ X L s nJ)(key:List nC)(bg:key.length<=16):A0k X L s nJ (CO key) (Si s key):=by
 by_cases ab:s.ws 9=0
 ·have Q:nJ=[]:=by
   rcases h.tree with⟨_,a6,_⟩|⟨_,m,_⟩
   ·exact a6
   ·exact absurd ab m
  subst Q;refine .inl ⟨?_,λ_ h=>nomatch h⟩;unfold Si FC;rw[lg O,ab,ES,kX rfl];rfl
 ·rcases h.tree with⟨m,_⟩|⟨nT,m,Y,E,M,F⟩
  ·exact absurd m ab
  ·obtain⟨a,o9,pW,q,rl,nl,nN,A,B,b1,b2,o,v,r⟩:=around h.ok m Y E key bg;have H:=r.spot;have ac:(a++[o9]).getLast?=jm o9:=by simp
   have aG:∀c∈nJ,c∈A\/c∈B\/∃G,(G,c.2)∈CS o9.nd++BI o9.nd.pre o9.nd.labels nN/\c.1=q++G:=λc t=>by
    rw[H.its,Ba]at t;rcases AP.1 t with b|b
    ·exact .inl b
    ·rcases AP.1 b with b|b
     ·exact .inr (.inr (EW.1 b))
     ·exact .inr (.inl b)
   unfold Si;rw[lg O,v];simp only;by_cases w:o9.nd.pre=pW
   ·have S:Dw (a++[o9]) pW=jm o9:=by unfold Dw;rw[ac];simp only;rw[kX w]
    rw[S];simp only;have aE:CO key=q++o9.nd.pre:=by rw[w];exact H.cut
    by_cases y:o9.nd.val=0
    ·rw[kX y];refine .inl ⟨rfl,λc t g=>?_⟩;rcases aG c t with b|b|⟨G,e,i⟩
     ·exact r.other c (.inl b) g
     ·exact r.other c (.inr b) g
     ·rcases AP.1 e with e|e
      ·exact(Gj e).2 y
      ·obtain⟨f,bQ,bR,bq,_,C⟩:=Fz e;rw[i,aE]at g;have K:=En g;have a2:G=o9.nd.pre++o9.nd.labels[f]::bq.1:=congrArg Prod.fst C;rw[a2]at K;have:=congrArg Qg K;simp at this
    ·rw[lg y];right;have W:(CO key,o9.nd.val)∈nJ:=by
      rw[H.its,Ba];refine BA _ (BK _ (EW.2 ⟨o9.nd.pre,BK _ ?_,aE⟩));unfold CS;rw[kX y];exact BB.2 rfl
     have N:=Aj1 h m F M E r w;by_cases R:o9.nd.kids.length=0
     ·rw[kX R];have bh:(a++[o9]).length-1=a.length:=by simp
      obtain⟨n,a9,g,aM⟩:=jR (a++[o9]) a.length Θ [o9.off];have aI:ES s (2*key.length+1) (s.ws 9) (CO key) 0 72 []=jm (a++[o9],pW):=v;have bO:=JX key;have a7:∀f,f<=a.length->[o9.off]++((((a++[o9]).drop f).take (a.length-f)).map (·.off)).reverse=(((a++[o9]).drop f).map (·.off)).reverse:=λf Q=>by
       rw[dD Q,List.take_append_of_le_length Θ,List.take_of_length_le Θ];simp
      rw[a7 n a9]at g;unfold LW;rw[bh,ac];simp only[Option.map_some,Option.getD_some];rw[g];cases n with
      |zero=>
       simp only[List.drop_zero];obtain⟨Z,C⟩:=Z7 h.ok (2*key.length+1) 32 (s.ws 9) nJ nT (CO key) 0 72 Y O m (a++[o9]) pW o9 aI S R y (λf V e i=>aM f V (Bd _) (by simp at e;omega) i);have K:((a++[o9]).map (·.off)).reverse=nT.reverse.map Gt:=by rw[<-C,Alr]
       obtain⟨z,k⟩:∃z,z=({s with ws:=DD s.ws 9 0}:St):=⟨_,rfl⟩;have aR:BZ L z:=by
        rw[k];exact h.ok.words (λf Q=>by unfold DD;rw[lg O])
       have J:∀p d,AX z p d<->AX s p d:=λp d=>by rw[k];exact Iff.rfl
       have aw:nT.reverse.Nodup:=(Ald _).nodup_iff.2 E;have az:∀p∈nT.reverse,∃d,AX z p d:=λp v=>by
        obtain⟨d,D⟩:=(F p).2 (.inl (Tu.1 v));exact⟨d,(J p d).2 D⟩
       obtain⟨aW,a3,bs,an,bc,al,ah⟩:=Y1 nT.reverse aR aw az;have ap:=jP nT.reverse aR aw az;rw[a3]at ap;have P:Fb ⟨s,[]⟩ 0 72 0 ((a++[o9]).map (·.off)).reverse=(aW,0):=by
        unfold Fb;rw[lg Θ,K,<-ap,k];rfl
       rw[P];simp only;rw[lg U];simp only[if_true];have a8:Jj X s aW:=⟨an.trans (by rw[k]),λj ad be=>by
        rw[al j (.inl ad),k];show DD s.ws 9 0 j=_;unfold DD;rw[lg be],λp ao v aL=>⟨(ah p ao).2 ⟨(J p ao).2 aL,λae=>M p (Tu.1 ae) v⟩,λj ad=>by
        have a0:=h.ok.DU (aL.bounds h.ok).1 ad;rw[al j (.inr (by rw[k];exact a0)),k];show DD s.ws 9 0 j=_;unfold DD;rw[lg O]⟩⟩
       refine⟨a8,trivial,W,[],⟨bs,λp d bd=>h.nh p d ((Qb (by rw[bc,k]) (by rw[an,k]) p d).1 bd),.inl ⟨?_,rfl,λp=>?_⟩,λ_ h=>nomatch h⟩,λc=>?_⟩
       ·rw[al 9 (.inl U),k];rfl
       ·constructor
        ·rintro⟨d,D⟩;obtain⟨e,i⟩:=(ah p d).1 D;exact((F p).1 ⟨d,(J p d).1 e⟩).resolve_left (λba=>i (Tu.2 ba))
        ·intro T;obtain⟨d,D⟩:=(F p).2 (.inr T);exact⟨d,(ah p d).2 ⟨(J p d).2 D,λae=>M p (Tu.1 ae) T⟩⟩
       ·rw[Z];exact⟨λh=>(nomatch h),λ⟨b,bj⟩=>absurd (by rw[BB.1 b]) bj⟩
      |succ n=>
       simp only;have bi:n+1<(a++[o9]).length:=by simp;omega
       obtain⟨V,bX,bV,bW,bS,bt,bA,bB,bL,bM,f,aa,w',e,I,i,ar,a4,a5,au,av⟩:=uY h.ok n (2*key.length+1) 32 (s.ws 9) nJ nT (CO key) 0 72 Y E O O m (a++[o9]) pW aI bi;have aD:f<bt.length:=Ω I.len;have am:CG V.nd=true:=by
        obtain⟨_,_,_,bk,_⟩:=JC h.ok I.rd;exact bk
       have bl:Dw ((a++[o9]).drop (n+1)) pW=jm o9:=by
        unfold Dw;rw[dD O];simp only[A4w,wL,A4y];rw[kX w]
       obtain⟨Z,C⟩:=Z7 h.ok aa _ _ _ _ _ _ _ (I.sub f i aD) a5 au _ pW o9 av bl R y (λbw bx t1 t2=>aM (n+1+bw) bx O (by simp at t1;omega) (by rw[DX]at t2;exact t2));obtain⟨aq,rfl⟩:∃aq,aa=aq+1:=⟨aa-1,O⟩;obtain⟨x,bE,T,bo,_⟩:=qF av au;have bm:(a++[o9])[n+1]?=jm x:=by
        have:=congrArg (λl=>l[0]?) T;simpa[DX]using this
       rw[e,bm];simp only;rw[bo,Asy ((BD V.nd).1 am).2.2.2.2.1 ar];simp only;rw[kX am];obtain⟨_,z,bN,P,bb⟩:=Awp h m F M E I i ar aD a4 Z;simp only at P;rw[<-C,P];simp only;rcases bb with⟨rfl,rfl⟩|⟨rfl,br,pX,bp,a1⟩
       ·simp only[if_true];exact⟨N.1,trivial,W,N.2⟩
       ·rw[lg U];simp only[if_true];exact⟨br,trivial,W,pX,bp,a1⟩
     ·rw[lg R];simp only[if_true];exact⟨N.1,trivial,W,N.2⟩
   ·have S:Dw (a++[o9]) pW=none:=by unfold Dw;rw[ac];simp only;rw[lg w]
    rw[S];refine .inl ⟨rfl,λc t g=>?_⟩;rcases aG c t with b|b|⟨G,e,i⟩
    ·exact r.other c (.inl b) g
    ·exact r.other c (.inr b) g
    ·rw[i,H.cut]at g;exact r.below w _ e (En g)
end
def NR(ws:Nat->ni)(sh:Sh):St:={sh:=sh,ws:=ws,tk:=wordsAt ws (sh.table/8) sh.CE,hd:=BJ sh.CE 0}
def jV(s:St)(ws':Nat->ni):Prop:=∀j,(∀o a,EK s o a->¬IE o a j)->ws' j=s.ws j
def Fnd(X:Nat->Prop)(L:Nat)(s0:St)(nJ:List Kv)(ws':Nat->ni):Prop:=∃Y:Nat->Prop,(∀o,X o->Y o)/\JQ Y L (NR ws' s0.sh) nJ/\Jj X s0 (NR ws' s0.sh)
section
variable{X:Nat->Prop}{L:Nat}{s0 sF s:St}{nJ its:List Kv}{ws':Nat->ni}
def dR(ws:Nat->ni)(sh:Sh)(i:Nat):hdN (NR ws sh) i=0:=by
 unfold hdN NR;simp only[Bv,Jw];split<;>rfl
def vz(ws:Nat->ni)(sh:Sh)(o d:Nat):¬EK (NR ws sh) o d:=by
 rintro⟨c,b,_,a,_⟩;rw[dR,GX]at a;cases a
def jV.low(a:BZ L s)(h:jV s ws'):∀j,j<16+s.sh.CE->ws' j=s.ws j:=λj e=>h j (λo d b c=>by
 have:=a.DU (b.bounds a).1 c;omega)
def vC(b:BZ L s)(h:jV s ws'):wordsAt ws' (s.sh.table/8) s.sh.CE=s.tk:=by
 apply ER
 ·simp[wordsAt,b.TL]
 ·intro a e c;have d:a<s.sh.CE:=by rw[<-b.TL];exact c
  rw[MQ,b.sh.table,show 128/8+a=16+a by omega,h.low b (16+a) O,b.tab a d,Bv,Ag c];rfl
def Z8(b:BZ L s)(h:jV s ws'):BZ L (NR ws' s.sh)/\(∀o d,AX (NR ws' s.sh) o d<->AX s o d)/\DV s (NR ws' s.sh) (λ_=>True):=by
 have i:∀a,Iu (NR ws' s.sh) a=Iu s a:=λa=>by
  unfold Iu;rw[show(NR ws' s.sh).tk=s.tk from vC b h]
 have g:∀o d,AX (NR ws' s.sh) o d<->AX s o d:=λo d=>by
  unfold AX;simp only[i];exact Iff.rfl
 refine⟨⟨b.sh,b.L1,by rw[show(NR ws' s.sh).tk=s.tk from vC b h];exact b.TL,by simp[NR],λa c=>by rw[i];exact b.tk a c,λa _=>.inl (dR _ _ a),λa _=>.inr (.inl (dR _ _ a)),λa m _ _=>by rw[dR,GX],λa c=>?_⟩,g,λo d _ e=>⟨(g o d).2 e,λj l=>h j (λp n f c=>?_)⟩⟩
 ·show ws' (16+a)=(NR ws' s.sh).tk.getD a 0;rw[show(NR ws' s.sh).tk=s.tk from vC b h,h.low b (16+a) (by have:a<s.sh.CE:=c;omega)];exact b.tab a c
 ·obtain⟨_,k⟩:=Qz b f e;exact Rj k (f.bounds b).2.2 (e.bounds b).2.2 c l
def JQ.again{s':St}(h:JQ X L s nJ)(l:BZ L s')(v:∀o d,¬EK s' o d)(k:DV s s' (λ_=>True))(e:s'.ws 9=s.ws 9):JQ (λo=>(∃d,AX s' o d)/\((∃d,AX s o d)->X o)) L s' nJ:=by
 have t:∀o,(∃d,AX s o d)->∃d,AX s' o d:=λo⟨d,q⟩=>⟨d,(k o d trivial q).1⟩
 refine⟨l,v,?_,h.even⟩;rcases h.tree with⟨c,n,a⟩|⟨nT,c,m,r,p,a⟩
 ·exact .inl ⟨e.trans c,n,λo=>⟨λi=>⟨i,λg=>(a o).1 g⟩,λh=>h.1⟩⟩
 ·refine .inr ⟨nT,by rw[e];exact c,by rw[e];exact m.keep h.ok l k (λ_ _=>trivial),r,λo b f=>p o b (f.2 ((a o).2 (.inl b))),λo=>?_⟩;constructor
  ·intro i;by_cases j:o∈nT
   ·exact .inl j
   ·exact .inr ⟨i,λg=>((a o).1 g).resolve_left j⟩
  ·rintro(b|f)
   ·exact t o ((a o).2 (.inl b))
   ·exact f.1
def JQ.taken(h:JQ X L s nJ){o:Nat}(b:X o):∃d,AX s o d:=by
 rcases h.tree with⟨_,_,a⟩|⟨_,_,_,_,_,a⟩
 ·exact(a o).2 b
 ·exact(a o).2 (.inr b)
def found(hF:JQ X L sF its)(c:Jj X s0 sF)(k:BZ L s)(sh:s.sh=sF.sh)(q:DV sF s (λ_=>True))(low:∀j,j<16->s.ws j=sF.ws j)(f:jV s ws'):Fnd X L s0 its ws':=by
 obtain⟨l,r,i⟩:=Z8 k f;have m:s.sh=s0.sh:=sh.trans c.sh;rw[m]at l r i;have b:DV sF (NR ws' s0.sh) (λ_=>True):=q.trans i;have e:∀j,j<16->(NR ws' s0.sh).ws j=sF.ws j:=λj a=>(f.low k j O).trans (low j a)
 refine⟨_,λo g=>?_,hF.again l (vz _ _) b (e 9 U),⟨rfl,λj a n=>(e j a).trans (c.low j a n),c.keep.trans (b.mono λ_ _=>trivial)⟩⟩;obtain⟨d,p⟩:=hF.taken g;exact⟨⟨d,(b o d trivial p).1⟩,λ_=>g⟩
def Ih(s:St):jV s s.ws:=λ_ _=>rfl
end
def Dn(Good:(Nat->ni)->Prop)(q:Ms):Prop:=∃a,q.pw=.down a/\∀ws',a ws'->Good ws'
def jW(Good:(Nat->ni)->Prop)(r:Ms×Int)(a:St×Int):Prop:=(∃lf,r=(⟨.up lf,a.1⟩,a.2))\/Dn Good r.1
def wX(lf:Int)(j:Jb):Jm:=⟨⟨.up lf,j.s⟩,j.made⟩
def Aoq(Good:(Nat->ni)->Prop)(r:Jm×ni×Int)(a:Jb×ni×Int):Prop:=(∃lf,r=(wX lf a.1,a.2))\/Dn Good r.1.s
section
variable{Good Aup:(Nat->ni)->Prop}{q:Ms}{s:St}{lf:Int}
def Dn.mono(h:Dn Good q)(k:∀ws',Good ws'->Aup ws'):Dn Aup q:=by
 obtain⟨a,b,h⟩:=h;exact⟨a,b,λws' c=>k _ (h ws' c)⟩
def jX(h:Dn Good q)(N:Nat)(c:Nat->ni):Dn Good (KG q N c).1:=by
 obtain⟨a,b,h⟩:=h;refine⟨a,?_,h⟩;unfold KG;rw[b]
def Aad(h:Dn Good q)(i:Nat)(x:ni):Dn Good (NP q i x).1:=by
 have a:=jX h 3 (DD q.s.ws (q.s.sh.table/8+i) x);unfold NP;split;rename_i d c b;rw[b]at a;split
 ·exact a
 ·exact a
def jY(h:Dn Good q)(off:Int):Dn Good (J6 q off).1:=by
 unfold J6;split
 ·exact h
 ·rename_i a c _;split
  ·have b:=Aad h a (Az (GM (Iu q.s a) (Bj (hdN q.s a)) c).1);split;rename_i f e d;rw[d]at b;split<;>exact b
  ·exact h
def OQ(h:Dn Good q)(off:Int):Dn Good (DT q off).1:=by
 unfold DT;split
 ·exact h
 ·split
  ·exact h
  ·split
   ·exact Aad h _ _
   ·exact h
def Td:∀(l:List Int){q:Ms},Dn Good q->Dn Good (Mc q l)
 |[],_,h=>h
 |a::l,q,h=>Td l (q:=(DT q a).1) (OQ h a)
def Ul:∀(l:List Int){q:Ms}(e:Int),Dn Good q->Dn Good (KR q l e).1
 |[],_,_,h=>h
 |a::l,q,_,h=>Ul l (q:=(DT q a).1) _ (OQ h a)
def qI{j:Jm}(h:Dn Good j.s)(n:Nd):Dn Good (DZ j n).1.s:=by
 unfold DZ;split
 ·exact h
 ·split
  ·exact h
  ·rename_i b e _;have a:=jX (q:=⟨j.s.pw,e⟩) (Good:=Good) (by obtain⟨f,c,h⟩:=h;exact⟨f,c,h⟩) (Nu (b/8) (Eh n).length) (CQ e.ws (b/8) (Eh n));split;rename_i l k g;rw[g]at a;split
   ·have d:=jY a (b:Int);split;rename_i m c i;rw[i]at d;split<;>exact d
   ·exact a
def Qc{j:Jm}(h:Dn Good j.s)(n:Nd)(b:nC)(a:ni)(e:Int):Dn Good (Hg j n b a e).1.s:=by
 unfold Hg;split
 ·exact h
 ·split
  ·exact qI h _
  ·exact h
def Aae:∀(f:Nat){j:Jm},Dn Good j.s->∀(l:List nC)(a:ni),Dn Good (Ld f j l a).1.s
 |0,_,h,_,_=>h
 |f+1,j,h,l,a=>by
  unfold Ld;split
  ·exact qI h _
  ·have b:=Aae f h (l.drop 16) a;split;rename_i e g d c;rw[c]at b;exact Qc b _ _ _ _
def Aeo{j:Jm}(h:Dn Good j.s)(e c:Int)(b:ni)(f:List Int):Dn Good (EP j e c b f).1:=by
 unfold EP;split
 ·exact Td _ h
 ·have a:=jX h 3 (DD j.s.s.ws (c.toNat/8) b);split;rename_i i g d;rw[d]at a;split
  ·exact Ul _ _ a
  ·exact Td _ a
def Aj2{ws ws':Nat->ni}{j:Nat}{x:ni}(h:Half ws (DD ws j x) ws'):ws'=ws\/ws'=DD ws j x:=by
 have d:∀a,a≠j->ws' a=ws a:=λa b=>by
  rcases h a with c|c
  ·exact c
  ·rw[c];unfold DD;rw[lg b]
 rcases h j with c|c
 ·refine .inl (funext λa=>?_);by_cases b:a=j
  ·rw[b];exact c
  ·exact d a b
 ·refine .inr (funext λa=>?_);by_cases b:a=j
  ·rw[b];exact c
  ·rw[d a b];unfold DD;rw[lg b]
def Aep(N:Nat)(a:Nat->ni)(b:∀ws',Half s.ws a ws'->Good ws'):jW Good (KG ⟨.up lf,s⟩ N a) ({s with ws:=a},0):=by
 unfold KG;simp only;split
 ·by_cases c:lK lf N=0
  ·exact .inr ⟨_,by rw[kX c],λws' d=>b ws' (by rw[d];exact λ_=>.inr rfl)⟩
  ·exact .inl ⟨lK lf N,by rw[lg c]⟩
 ·exact .inr ⟨_,rfl,b⟩
def VK(j:Nat)(x:ni)(h1:Good s.ws)(h2:Good (DD s.ws j x)):jW Good (KG ⟨.up lf,s⟩ 3 (DD s.ws j x)) ({s with ws:=DD s.ws j x},0):=
 Aep 3 _ (λ_ h=>(Aj2 h).elim (λa=>a▸h1) (λa=>a▸h2))
def Aaf(i:Nat)(x:ni)(h1:Good s.ws)(h2:Good (YU s i x).ws):jW Good (NP ⟨.up lf,s⟩ i x) (YU s i x,0):=by
 have h:=VK (lf:=lf) (s.sh.table/8+i) x h1 h2;unfold NP;rcases h with⟨a,h⟩|h
 ·simp only[h,if_true];exact .inl ⟨a,rfl⟩
 ·right;generalize KG ⟨.up lf,s⟩ 3 (DD s.ws (s.sh.table/8+i) x)=b at h⊢;obtain⟨d,c⟩:=b;simp only at h⊢;split<;>exact h
def Aag(off:Int)(h1:Good s.ws)(h2:Good (Np s off).1.ws):jW Good (J6 ⟨.up lf,s⟩ off) (Np s off):=by
 unfold J6 Np at*;simp only;cases e:Jg s off with
 |none=>exact .inl ⟨lf,rfl⟩
 |some g=>
  obtain⟨a,b⟩:=g;rw[e]at h2;simp only at h2⊢;cases f:Fj (hdN s a) b
  ·exact .inl ⟨lf,rfl⟩
  ·rw[f]at h2;simp only[if_true]at h2⊢;rcases Aaf (lf:=lf) a (Az (GM (Iu s a) (Bj (hdN s a)) b).1) h1 h2 with⟨c,h⟩|h
   ·rw[h];exact .inl ⟨c,rfl⟩
   ·right;generalize NP ⟨.up lf,s⟩ a (Az (GM (Iu s a) (Bj (hdN s a)) b).1)=d at h⊢;obtain⟨j,i⟩:=d;simp only at h⊢;split<;>exact h
def Y5(off:Int)(h1:Good s.ws)(h2:Good (GG s off).1.ws):jW Good (DT ⟨.up lf,s⟩ off) (GG s off):=by
 unfold DT GG at*;simp only;cases e:Jg s off with
 |none=>exact .inl ⟨lf,rfl⟩
 |some f=>
  obtain⟨a,b⟩:=f;rw[e]at h2;simp only at h2⊢;cases c:(EL (hdN s a) b).2
  ·rw[c]at h2;simp only[Bool.false_eq_true,if_false]at h2⊢;cases d:(EL (Iu s a) b).2
   ·exact .inl ⟨lf,rfl⟩
   ·rw[d]at h2;exact Aaf a _ h1 h2
  ·exact .inl ⟨lf,rfl⟩
def qJ:∀(l:List Int){s:St}{lf:Int},(∀d,Good (ET s (l.take d)).ws)->(∃a,Mc ⟨.up lf,s⟩ l=⟨.up a,ET s l⟩)\/Dn Good (Mc ⟨.up lf,s⟩ l)
 |[],s,lf,_=>.inl ⟨lf,rfl⟩
 |b::l,s,lf,h=>by
  show(∃a,Mc (DT ⟨.up lf,s⟩ b).1 l=⟨.up a,ET (GG s b).1 l⟩)\/Dn Good (Mc (DT ⟨.up lf,s⟩ b).1 l);rcases Y5 (s:=s) (lf:=lf) b (h 0) (h 1)with⟨a,c⟩|c
  ·rw[c];exact qJ l (λd=>h (d+1))
  ·exact .inr (Td l c)
def jZ:∀(l:List Int){s:St}{lf:Int}(e:Int),(∀a,Good (ET s (l.take a)).ws)->jW Good (KR ⟨.up lf,s⟩ l e) (LV s l e)
 |[],s,lf,e,_=>.inl ⟨lf,rfl⟩
 |b::l,s,lf,e,h=>by
  unfold KR LV;rcases Y5 (s:=s) (lf:=lf) b (h 0) (h 1)with⟨c,e⟩|e
  ·rw[e];exact jZ l _ (λa=>h (a+1))
  ·exact .inr (Ul l _ e)
end
def kz:∀(l:List Int)(s:St)(e:Int),(LV s l e).1=ET s l
 |[],_,_=>rfl
 |a::l,s,e=>by
  unfold LV;exact kz l _ _
def Aeq(s:St)(off:Int):(GG s off).2=0\/(GG s off).2=7:=by
 unfold GG;split
 ·exact .inr rfl
 ·split
  ·exact .inl rfl
  ·split
   ·exact .inl rfl
   ·exact .inr rfl
def aX:∀(l:List Int)(s:St)(e:Int),e=0\/e=7->(LV s l e).2=0\/(LV s l e).2=7
 |[],_,_,h=>h
 |a::l,s,e,h=>by
  unfold LV;refine aX l _ _ ?_;split
  ·exact Aeq s a
  ·exact h
section
variable{X:Nat->Prop}{L:Nat}{s0 s:St}{nJ:List Kv}{j:Jb}{B:List Nat}
def Aah{w a:Nat}(h:Fj w a=jS):(EL w a).2=false:=by unfold EL;rw[h];rfl
def Aj3(e:BZ L s)(m:∀o d,¬EK s o d)(off:Int):BZ L (GG s off).1/\(∀o d,¬EK (GG s off).1 o d)/\(GG s off).1.sh=s.sh/\(∀j,j<16->(GG s off).1.ws j=s.ws j)/\DV (GG s off).1 s (λ_=>True):=by
 have n:∀b:Int,BZ L (s,b).1/\(∀o d,¬EK (s,b).1 o d)/\(s,b).1.sh=s.sh/\(∀j,j<16->(s,b).1.ws j=s.ws j)/\DV (s,b).1 s (λ_=>True):=λb=>⟨e,m,rfl,λ_ _=>rfl,DV.refl _ _⟩
 cases f:Jg s off with
 |none=>
  rw[show GG s off=(s,7)by unfold GG;rw[f]];exact n 7
 |some E=>
  obtain⟨c,a⟩:=E;obtain⟨i,I,G,B⟩:=zO e f;have A:Fj (hdN s c) a=false:=by
   cases g:Fj (hdN s c) a with
   |false=>rfl
   |true=>exact absurd ⟨c,a,i,g,rfl,rfl⟩ (m _ _)
  cases l:Fj (Iu s c) a with
  |false=>
   rw[show GG s off=(s,7)by unfold GG;rw[f];simp only[Aah A,Aah l,Bool.false_eq_true,if_false]];exact n 7
  |true=>
   obtain⟨q,C,y,H⟩:=e.RH i l;have D:AX s (D7 s.sh c q a) q:=⟨c,a,i,l,C.class,rfl⟩;rw[B,y];obtain⟨J,w,F,t,z,p,v⟩:=dO e D;rw[w];refine⟨F,λo d g=>m o d ((Qb z t o d).1 g),t,λj k=>p j (.inl k),λo d _ r=>⟨((v o d).1 r).1,λj k=>?_⟩⟩;have x:=((v o d).1 r).1;exact(p j (.inr (e.DU (x.bounds e).1 k))).symm
def X7:∀(l:List Int){s:St},BZ L s->(∀o d,¬EK s o d)->BZ L (ET s l)/\(∀o d,¬EK (ET s l) o d)/\(ET s l).sh=s.sh/\(∀j,j<16->(ET s l).ws j=s.ws j)/\DV (ET s l) s (λ_=>True)
 |[],s,b,a=>⟨b,a,rfl,λ_ _=>rfl,DV.refl _ _⟩
 |q::l,s,b,a=>by
  obtain⟨e,f,g,i,k⟩:=Aj3 b a q;obtain⟨b1,b2,m,n,p⟩:=X7 l e f;exact⟨b1,b2,m.trans g,λj c=>(n j c).trans (i j c),p.trans k⟩
def kC(l:List Int)(k:Nat)(n:BZ L s)(m:∀o d,¬EK s o d):BZ L (ET s (l.take k))/\(ET s (l.take k)).sh=(ET s l).sh/\(∀j,j<16->(ET s (l.take k)).ws j=(ET s l).ws j)/\DV (ET s l) (ET s (l.take k)) (λ_=>True):=by
 obtain⟨a,b,p,q,r⟩:=X7 (l.take k) n m;obtain⟨b1,b2,c,e,f⟩:=X7 (l.drop k) a b;have g:ET s l=ET (ET s (l.take k)) (l.drop k):=by
  unfold ET;rw[<-List.foldl_append,List.take_append_drop]
 rw[g];exact⟨a,c.symm,λj i=>(e j i).symm,f⟩
def MS(g:Grown L s0 j B)(n:Nd):∃c,Grown L s0 (GN j n).1 c:=by
 cases b:CG n with
 |false=>exact⟨B,by rw[show GN j n=(j,0,5)by unfold GN;rw[b];rfl];exact g⟩
 |true=>
  rcases Q8 g b with a|⟨e,f,o,a,_,d,_⟩
  ·exact⟨B,by rw[a];exact g⟩
  ·exact⟨_,by rw[a];exact d⟩
def Rl(g:Grown L s0 j B)(n:Nd)(c:nC)(b:ni)(e:Int):∃a,Grown L s0 (Jn j n c b e).1 a:=by
 unfold Jn;split
 ·exact⟨B,g⟩
 ·split
  ·exact MS g _
  ·exact⟨B,g⟩
def MC:∀(f:Nat){j:Jb}{B:List Nat},Grown L s0 j B->∀(l:List nC)(b:ni),∃d,Grown L s0 (OC f j l b).1 d
 |0,j,B,a,_,_=>⟨B,a⟩
 |f+1,j,B,a,l,b=>by
  unfold OC;split
  ·exact MS a _
  ·obtain⟨g,c⟩:=MC f a (l.drop 16) b;split;rename_i k m i e;rw[e]at c;exact Rl c _ _ _ _
def aY(h:JQ X L s0 nJ)(g:Grown L s0 j B):Fnd X L s0 nJ j.s.ws:=found h (Jj.refl _ _) g.ok g.sh g.keep g.low (Ih _)
def VL(h:JQ X L s0 nJ)(g:Grown L s0 j B)(lf:Int)(n:Nd):Aoq (Fnd X L s0 nJ) (DZ (wX lf j) n) (GN j n):=by
 cases m:CG n with
 |false=>
  exact .inl ⟨lf,by rw[show GN j n=(j,0,5)by unfold GN;rw[m];rfl,show DZ (wX lf j) n=(wX lf j,0,5)by unfold DZ;rw[m];rfl]⟩
 |true=>
  cases q:Ei j.s (DI n)with
  |none=>exact .inl ⟨lf,by rw[show GN j n=(j,0,6)by unfold GN;rw[m,q];rfl,show DZ (wX lf j) n=(wX lf j,0,6)by unfold DZ;rw[m];simp only[wX,q];rfl]⟩
  |some T=>
   obtain⟨a,e⟩:=T;obtain⟨S,C,U,_,I,_,_,N⟩:=Q7 g.ok (PZ n) q;have J:=Kw n;have z:∀ws',(∀b,¬IE a (DI n) b->ws' b=e.ws b)->Fnd X L s0 nJ ws':=λws' K=>by
    refine found h (Jj.refl _ _) S (U.trans g.sh) (λo d _ M=>?_) (λb f=>by rw[C];exact g.low b f) (λb f=>K b (f _ _ I));obtain⟨O,P⟩:=g.keep o d trivial M;exact⟨(N o d).2 O,λb f=>by rw[C];exact P b f⟩
   have A:∀b,¬IE a (DI n) b->CQ e.ws (a/8) (Eh n) b=e.ws b:=λb f=>by
    unfold CQ;rw[lg];rintro⟨E,w⟩;exact f ⟨E,by rw[J]at w;exact w⟩
   have x:GN j n=(match Np {e with ws:=CQ e.ws (a/8) (Eh n)} a with
    |(i,c)=>if c=0 then(⟨i,j.made++[(a:Int)]⟩,Az a,0)else(⟨i,j.made++[(a:Int)]⟩,0,c)):=by unfold GN;rw[m,q];rfl
   have G:DZ (wX lf j) n=(match KG ⟨.up lf,e⟩ (Nu (a/8) (Eh n).length) (CQ e.ws (a/8) (Eh n))with
    |(r,t)=>if t=0 then
       match J6 r a with
       |(i,c)=>if c=0 then(⟨i,j.made++[(a:Int)]⟩,Az a,0)else(⟨i,j.made++[(a:Int)]⟩,0,c)
     else(⟨r,j.made++[(a:Int)]⟩,0,t)):=by unfold DZ;rw[m];simp only[wX,q];rfl
   have H:(GN j n).1.s=(Np {e with ws:=CQ e.ws (a/8) (Eh n)} a).1:=by
    rw[x];generalize Np {e with ws:=CQ e.ws (a/8) (Eh n)} a=k;obtain⟨i,c⟩:=k;simp only;split<;>rfl
   obtain⟨V,D⟩:=MS g n;have y:=aY h D;rw[H]at y;rw[G,x];rcases Aep (Good:=Fnd X L s0 nJ) (lf:=lf) (Nu (a/8) (Eh n).length) (CQ e.ws (a/8) (Eh n)) (λws' F=>z ws' (λb f=>by
    rcases F b with c|c
    ·exact c
    ·rw[c];exact A b f))with⟨Q,l⟩|l
   ·rw[l];simp only[if_true];rcases Aag (lf:=Q) (a:Int) (z _ (λb f=>A b f)) y with⟨R,p⟩|p
    ·rw[p];left;refine⟨R,?_⟩;simp only;split<;>rfl
    ·right;generalize J6 _ (a:Int)=k at p⊢;obtain⟨i,c⟩:=k;simp only at p⊢;split<;>exact p
   ·right;generalize KG _ _ _=k at l⊢;obtain⟨r,t⟩:=k;simp only at l⊢;split
    ·have v:=jY l (a:Int);generalize J6 r (a:Int)=k at v⊢;obtain⟨i,c⟩:=k;simp only at v⊢;split<;>exact v
    ·exact l
def VM(h:JQ X L s0 nJ)(g:Grown L s0 j B)(lf:Int)(n:Nd)(b:nC)(a:ni)(e:Int):Aoq (Fnd X L s0 nJ) (Hg (wX lf j) n b a e) (Jn j n b a e):=by
 unfold Hg Jn;split
 ·exact .inl ⟨lf,rfl⟩
 ·split
  ·exact VL h g lf _
  ·exact .inl ⟨lf,rfl⟩
def Y6(h:JQ X L s0 nJ):∀(f:Nat){j:Jb}{B:List Nat},Grown L s0 j B->∀(lf:Int)(l:List nC)(a:ni),Aoq (Fnd X L s0 nJ) (Ld f (wX lf j) l a) (OC f j l a)
 |0,j,B,c,lf,_,_=>.inl ⟨lf,rfl⟩
 |f+1,j,B,c,lf,l,a=>by
  unfold Ld OC;split
  ·exact VL h c lf _
  ·obtain⟨i,d⟩:=MC f c (l.drop 16) a;rcases Y6 h f c lf (l.drop 16) a with⟨g,b⟩|b
   ·rw[b];exact VM h d g _ _ _ _
   ·right;split;rename_i m n k e;rw[e]at b;exact Qc b _ _ _ _
def Aes(g:Grown L s0 j B)(x:Nd)(nM:List nC)(d:ni):∃f,Grown L s0 (Uw j x nM d).1 f:=by
 unfold Uw;split
 ·obtain⟨b,a⟩:=MC (nM.length+1) g (nM.drop (oW x.pre nM+1)) d;split;rename_i l m i c;rw[c]at a;exact Rl a _ _ _ _
 ·obtain⟨b,a⟩:=MS g {x with pre:=x.pre.drop (oW x.pre nM+1)};split;rename_i l m i c;rw[c]at a;split
  ·exact Rl a _ _ _ _
  ·split
   ·exact⟨b,a⟩
   ·split
    ·obtain⟨n,e⟩:=MC (nM.length+1) a (nM.drop (oW x.pre nM+1)) d;split;rename_i q o p k;rw[k]at e;exact Rl e _ _ _ _
    ·exact⟨b,a⟩
def Aor(h:JQ X L s0 nJ)(g:Grown L s0 j B)(lf:Int)(x:Nd)(nM:List nC)(b:ni):Aoq (Fnd X L s0 nJ) (JM (wX lf j) x nM b) (Uw j x nM b):=by
 unfold JM Uw;split
 ·obtain⟨m,d⟩:=MC (nM.length+1) g (nM.drop (oW x.pre nM+1)) b;rcases Y6 h (nM.length+1) g lf (nM.drop (oW x.pre nM+1)) b with⟨e,a⟩|a
  ·rw[a];exact VM h d e _ _ _ _
  ·right;split;rename_i k l i f;rw[f]at a;exact Qc a _ _ _ _
 ·obtain⟨m,d⟩:=MS g {x with pre:=x.pre.drop (oW x.pre nM+1)};rcases VL h g lf {x with pre:=x.pre.drop (oW x.pre nM+1)}with⟨e,a⟩|a
  ·rw[a];generalize GN j {x with pre:=x.pre.drop (oW x.pre nM+1)}=q at*;obtain⟨k,l,i⟩:=q;simp only at d⊢;split
   ·exact VM h d e _ _ _ _
   ·split
    ·exact .inl ⟨e,rfl⟩
    ·split
     ·obtain⟨r,n⟩:=MC (nM.length+1) d (nM.drop (oW x.pre nM+1)) b;rcases Y6 h (nM.length+1) d e (nM.drop (oW x.pre nM+1)) b with⟨p,c⟩|c
      ·rw[c];exact VM h n p _ _ _ _
      ·exact .inr (Qc c _ _ _ _)
     ·exact .inl ⟨e,rfl⟩
  ·right;split;rename_i k l i f;rw[f]at a;split
   ·exact Qc a _ _ _ _
   ·split
    ·exact a
    ·split
     ·have c:=Aae (nM.length+1) a (nM.drop (oW x.pre nM+1)) b;split;rename_i v s t o;rw[o]at c;exact Qc c _ _ _ _
     ·exact a
end
def kD{i:Type}{r:i->i->Prop}(hi:∀x,¬r x x)(l:∀x d,r x d->¬r d x):∀(a b:List i),a.Pairwise r->b.Pairwise r->(∀x,x∈a<->x∈b)->a=b
 |[],[],_,_,_=>rfl
 |[],d::b,_,_,h=>absurd ((h d).2 (Bf ..)) (λh=>nomatch h)
 |x::a,[],_,_,h=>absurd ((h x).1 (Bf ..)) (λh=>nomatch h)
 |x::a,d::b,n,p,h=>by
  obtain⟨j,o⟩:=Ir.1 n;obtain⟨k,q⟩:=Ir.1 p;have c:x=d:=by
   rcases Cb.1 ((h x).1 (Bf ..))with c|f
   ·exact c
   ·rcases Cb.1 ((h d).2 (Bf ..))with c|m
    ·exact c.symm
    ·exact absurd (j d m) (l d x (k x f))
  subst c;refine congrArg (List.cons x) (kD hi l a b o q λe=>?_);constructor
  ·intro g;rcases Cb.1 ((h e).1 (Bi _ g))with c|f
   ·subst c;exact absurd (j e g) (hi e)
   ·exact f
  ·intro g;rcases Cb.1 ((h e).2 (Bi _ g))with c|f
   ·subst c;exact absurd (k e g) (hi e)
   ·exact f
def dS{a b:List Kv}(c:UpK a)(d:UpK b)(h:∀x,x∈a<->x∈b):a=b:=
 kD (r:=λa b:Kv=>Op.bytesLess a.1 b.1=jO) (λx h=>by rw[DC]at h;cases h) (λx f h e=>by
  have:=Ji _ _ _ h e;rw[DC]at this;cases this) a b c d h
def Asz{l:List Kv}(h:UpK l){a b:Kv}(k:a∈l)(m:b∈l)(e:a.1=b.1):a=b:=by
 obtain⟨d,f,rfl⟩:=CW k;obtain⟨j,g,rfl⟩:=CW m;have i:=List.pairwise_iff_getElem.1 h;rcases Nat.lt_trichotomy d j with c|c|c
 ·have:=i d j f g c;rw[e,DC]at this;cases this
 ·subst c;rfl
 ·have:=i j d g f c;rw[e,DC]at this;cases this
section
variable{X:Nat->Prop}{L:Nat}{s:St}{nJ:List Kv}
def Z9(h:JQ X L s nJ)(key:List nC)(G:key.length<=16):(∃r,Ic s key=(r,0)/\(CO key,r)∈nJ/\r≠0)\/(Ic s key=(0,7)/\∀b∈nJ,b.1≠CO key):=by
 by_cases n:s.ws 9=0
 ·have F:nJ=[]:=by
   rcases h.tree with⟨_,E,_⟩|⟨_,g,_⟩
   ·exact E
   ·exact absurd n g
  subst F;refine .inr ⟨?_,λ_ h=>nomatch h⟩;unfold Ic FC;rw[lg O,n,ES,kX rfl];rfl
 ·rcases h.tree with⟨g,_⟩|⟨nT,g,z,H,M,N⟩
  ·exact absurd g n
  ·obtain⟨t,o9,pW,q,rl,nl,nN,A,B,b1,b2,o,I,e⟩:=around h.ok g z H key G;have k:=e.spot;have w:(t++[o9]).getLast?=jm o9:=by simp
   have y:∀b∈nJ,b∈A\/b∈B\/∃j,(j,b.2)∈CS o9.nd++BI o9.nd.pre o9.nd.labels nN/\b.1=q++j:=λb f=>by
    rw[k.its,Ba]at f;rcases AP.1 f with a|a
    ·exact .inl a
    ·rcases AP.1 a with a|a
     ·exact .inr (.inr (EW.1 a))
     ·exact .inr (.inl a)
   unfold Ic;rw[lg O,I];simp only;by_cases l:o9.nd.pre=pW
   ·have p:Dw (t++[o9]) pW=jm o9:=by unfold Dw;rw[w];simp only;rw[kX l]
    rw[p];simp only;have x:CO key=q++o9.nd.pre:=by rw[l];exact k.cut
    by_cases i:o9.nd.val=0
    ·rw[kX i];refine .inr ⟨rfl,λb f c=>?_⟩;rcases y b f with a|a|⟨j,d,m⟩
     ·exact e.other b (.inl a) c
     ·exact e.other b (.inr a) c
     ·rcases AP.1 d with d|d
      ·exact(Gj d).2 i
      ·obtain⟨J,P,Q,K,_,C⟩:=Fz d;rw[m,x]at c;have v:=En c;have D:j=o9.nd.pre++o9.nd.labels[J]::K.1:=congrArg Prod.fst C;rw[D]at v;have:=congrArg Qg v;simp at this
    ·rw[lg i];refine .inl ⟨_,rfl,?_,i⟩;rw[k.its,Ba];refine BA _ (BK _ (EW.2 ⟨o9.nd.pre,BK _ ?_,x⟩));unfold CS;rw[kX i];exact BB.2 rfl
   ·have p:Dw (t++[o9]) pW=none:=by unfold Dw;rw[w];simp only;rw[lg l]
    rw[p];refine .inr ⟨rfl,λb f c=>?_⟩;rcases y b f with a|a|⟨j,d,m⟩
    ·exact e.other b (.inl a) c
    ·exact e.other b (.inr a) c
    ·rw[m,k.cut]at c;exact e.below l _ d (En c)
end
structure CX(L:Nat)(s:St)(nJ:List Kv)(ch:List nC->List Lk):Prop where
 ix:JQ (λo=>∃kv∈nJ,o∈Dy (ch kv.1)) L s nJ
 chain:∀kv∈nJ,D8 s kv.2 (ch kv.1)/\kv.2≠0
 none:∀k,(∀kv∈nJ,kv.1≠k)->ch k=[]
 VH:∀kv∈nJ,∀kv'∈nJ,kv.1≠kv'.1->∀o∈Dy (ch kv.1),o∉Dy (ch kv'.1)
def FV(ch:List nC->List Lk)(k:List nC)(x:Lk):List nC->List Lk:=λa=>if a=k then x::ch a else ch a
def H7(s:St)(nK:ni)(y:Wr):St×ni×ni×Int:=
 if(Ic s y.key).2≠0/\(Ic s y.key).2≠7 then(s,0,0,(Ic s y.key).2)else
 if y.gone=jO/\(Ic s y.key).1=0 then(s,0,0,0)else
 if(NY s ⟨nK,(Ic s y.key).1,y.gone,y.text⟩).2.2≠0 then((NY s ⟨nK,(Ic s y.key).1,y.gone,y.text⟩).1,0,0,(NY s ⟨nK,(Ic s y.key).1,y.gone,y.text⟩).2.2)else
 if(RZ (NY s ⟨nK,(Ic s y.key).1,y.gone,y.text⟩).1 y.key (NY s ⟨nK,(Ic s y.key).1,y.gone,y.text⟩).2.1).2≠0 then
  ((GG (RZ (NY s ⟨nK,(Ic s y.key).1,y.gone,y.text⟩).1 y.key (NY s ⟨nK,(Ic s y.key).1,y.gone,y.text⟩).2.1).1 (Bz (NY s ⟨nK,(Ic s y.key).1,y.gone,y.text⟩).2.1)).1,0,0,
    (RZ (NY s ⟨nK,(Ic s y.key).1,y.gone,y.text⟩).1 y.key (NY s ⟨nK,(Ic s y.key).1,y.gone,y.text⟩).2.1).2)else
 ((RZ (NY s ⟨nK,(Ic s y.key).1,y.gone,y.text⟩).1 y.key (NY s ⟨nK,(Ic s y.key).1,y.gone,y.text⟩).2.1).1,(Ic s y.key).1,(NY s ⟨nK,(Ic s y.key).1,y.gone,y.text⟩).2.1,0)
def Po(s s':St):Prop:=s'.sh=s.sh/\∀j,j<16->j≠9->s'.ws j=s.ws j
def Po.refl(s:St):Po s s:=⟨rfl,λ_ _ _=>rfl⟩
def Po.trans{s s' c:St}(h:Po s s')(k:Po s' c):Po s c:=⟨k.1.trans h.1,λj a b=>(k.2 j a b).trans (h.2 j a b)⟩
def Jj.Aj4{X:Nat->Prop}{s s':St}(h:Jj X s s'):Po s s':=⟨h.sh,h.low⟩
section
variable{L:Nat}{s:St}{nJ:List Kv}{ch:List nC->List Lk}
def CX.key(h:CX L s nJ ch){a b:Kv}(c:a∈nJ)(d:b∈nJ)(e:a.1=b.1):a=b:=Asz h.ix.up c d e
def Aj5(h:CX L s nJ ch){k:List nC}{lk:Lk}{s1 s2:St}{o:Nat}(K:lk.off=o)(V:Et lk.rc=jO)(ae:o<=65536)(ad:0<o)(U:¬∃a∈nJ,o∈Dy (ch a.1))(Y:D8 s lk.rc.next (ch k))(W:∀x∈ch k,x.rc.nK.toNat<lk.rc.nK.toNat)
 (P:DV s s1 (λ_=>True))(X:AX s1 o 1)(Z:wordsAt s1.ws (o/8) 8=EE lk.rc){pX:List Kv}(F:DV s1 s2 (λp=>(∃a∈nJ,p∈Dy (ch a.1))\/p=o))(aa:JQ (λp=>(∃a∈nJ,p∈Dy (ch a.1))\/p=o) L s2 pX)(f:Tc nJ pX k (Az o)):
 CX L s2 pX (FV ch k lk):=by
 have r:∀a∈pX,(a=(k,Az o))\/(a∈nJ/\a.1≠k):=λa t=>(f a).1 t
 have C:(k,Az o)∈pX:=(f _).2 (.inl rfl);have l:∀a∈nJ,a.1≠k->FV ch k lk a.1=ch a.1:=λa _ A=>by unfold FV;rw[lg A]
 have n:FV ch k lk k=lk::ch k:=by unfold FV;rw[kX rfl]
 have v:Dy (lk::ch k)=o::Dy (ch k):=by unfold Dy;rw[Ci,K,BC]
 have D:∀p∈Dy (ch k),∃a∈nJ,p∈Dy (ch a.1):=λp E=>by
  by_cases q:∀a∈nJ,a.1≠k
  ·rw[h.none k q]at E;cases E
  ·obtain⟨a,e⟩:=Classical.not_forall.1 q;obtain⟨b,d⟩:=Classical.not_imp.1 e;exact⟨a,b,by rw[Classical.not_not.1 d];exact E⟩
 have T:∀a∈nJ,a.1=k->∀p∈Dy (ch a.1),p∈Dy (ch k):=λa _ c p f=>by rw[<-c];exact f
 refine⟨aa.congr λp=>?_,λa t=>?_,λN J=>?_,λy R i I H p w m=>?_⟩
 ·constructor
  ·rintro(⟨a,e,b⟩|rfl)
   ·by_cases c:a.1=k
    ·exact⟨_,C,by rw[n,v];exact Bi _ (T a e c p b)⟩
    ·exact⟨a,(f a).2 (.inr ⟨e,c⟩),by rw[l a e c];exact b⟩
   ·exact⟨_,C,by rw[n,v];exact Bf ..⟩
  ·rintro⟨a,e,b⟩;rcases r a e with rfl|⟨d,g⟩
   ·rw[n,v]at b;rcases Cb.1 b with b|b
    ·exact .inr b
    ·exact .inl (D p b)
   ·rw[l a d g]at b;exact .inl ⟨a,d,b⟩
 ·rcases r a t with rfl|⟨d,g⟩
  ·rw[n];refine⟨?_,λc=>?_⟩
   ·obtain⟨t1,t2⟩:=F o 1 (.inr rfl) X;have M:=Uk (o:=o) (c:=1) t2;rw[show 8*Bq 1=8 from rfl,Z]at M;have z:=(Y.keep P (λ_ _=>trivial)).keep F (λp f=>.inl (D p f));have:=D8.cons o lk.rc (ch k) t1 V M z W;rw[<-K]at this;exact this
   ·have:=congrArg P9 c;rw[DN O]at this;simp at this;omega
  ·rw[l a d g];exact⟨((h.chain a d).1.keep P (λ_ _=>trivial)).keep F (λp f=>.inl ⟨a,d,f⟩),(h.chain a d).2⟩
 ·have A:N≠k:=λc=>J _ C c.symm
  unfold FV;rw[lg A];refine h.none N (λa t c=>?_);exact J a ((f a).2 (.inr ⟨t,by rw[c];exact A⟩)) c
 ·have key:∀j:Kv,j∈nJ->j.1≠k->∀p,p∈Dy (ch j.1)->p∈o::Dy (ch k)->False:=λj z S p e b=>by
   rcases Cb.1 b with rfl|b
   ·exact U ⟨j,z,e⟩
   ·obtain⟨a,ab,ac⟩:=D p b;by_cases q:∀a∈nJ,a.1≠k
    ·rw[h.none k q]at b;cases b
    ·obtain⟨a,Q⟩:=Classical.not_forall.1 q;obtain⟨d,g⟩:=Classical.not_imp.1 Q;have g:=Classical.not_not.1 g;exact h.VH j z a d (by rw[g];exact S) p e (by rw[g];exact b)
  rcases r y R with rfl|⟨B,G⟩
  ·rcases r i I with rfl|⟨b1,b2⟩
   ·exact H rfl
   ·rw[n,v]at w;rw[l i b1 b2]at m;exact key i b1 b2 p m w
  ·rw[l y B G]at w;rcases r i I with rfl|⟨b1,b2⟩
   ·rw[n,v]at m;exact key y B G p w m
   ·rw[l i b1 b2]at m;exact h.VH y B i b1 H p w m
def CX.keep(h:CX L s nJ ch){s':St}(k:DV s s' (λp=>∃kv∈nJ,p∈Dy (ch kv.1)))(ix:JQ (λp=>∃kv∈nJ,p∈Dy (ch kv.1)) L s' nJ):CX L s' nJ ch:=
 ⟨ix,λkv a=>⟨(h.chain kv a).1.keep k (λ_ b=>⟨kv,a,b⟩),(h.chain kv a).2⟩,h.none,h.VH⟩
def As0(L:Nat)(s:St)(nJ:List Kv)(ch:List nC->List Lk)(nK:ni)(y:Wr)(r:St×ni×ni×Int):Prop:=
 Po s r.1/\((r.2=(0,0,6)/\CX L r.1 nJ ch)\/
  (r=(s,0,0,0)/\y.gone=jO/\∀b∈nJ,b.1≠CO y.key)\/
  (∃o a pX,r.2=(a,Az o,0)/\0<o/\o<=65536/\((a=0/\y.gone=jS/\∀b∈nJ,b.1≠CO y.key)\/(a≠0/\(CO y.key,a)∈nJ))/\
   CX L r.1 pX (FV ch (CO y.key) ⟨o,⟨nK,a,y.gone,y.text⟩⟩)/\Tc nJ pX (CO y.key) (Az o)))
def kE(h:CX L s nJ ch)(nK:ni)(y:Wr)(hy:D5 y=jO)(T:nK.toNat≠0)(V:∀x∈ch (CO y.key),x.rc.nK.toNat<nK.toNat):As0 L s nJ ch nK y (H7 s nK y):=by
 have l:y.key.data.toList.length<=16/\y.text.size<=40/\(y.gone=jO->y.text.size=0):=by
  unfold D5 at hy;simp only[Bool.and_eq_true,decide_eq_true_eq,Bool.or_eq_true,Bool.not_eq_true']at hy;exact⟨hy.1.1,hy.1.2,λr=>hy.2.resolve_left (by rw[r];simp)⟩
 have P:∃b a,Ic s y.key=(b,a)/\¬(a≠0/\a≠7)/\((b=0/\∀w∈nJ,w.1≠CO y.key)\/(b≠0/\(CO y.key,b)∈nJ))/\D8 s b (ch (CO y.key)):=by
  rcases Z9 h.ix y.key l.1 with⟨b,a,B,Y⟩|⟨a,C⟩
  ·exact⟨b,0,a,by simp,.inr ⟨Y,B⟩,(h.chain _ B).1⟩
  ·exact⟨0,7,a,by simp,.inl ⟨rfl,C⟩,by rw[h.none _ C];exact .nil⟩
 obtain⟨b,a,r,N,A,M⟩:=P;unfold H7;rw[r];simp only;rw[lg N];by_cases g:y.gone=jO/\b=0
 ·rw[kX g];exact⟨Po.refl s,.inr (.inl ⟨rfl,g.1,(A.resolve_right (λh=>h.1 g.2)).2⟩)⟩
 ·rw[lg g];have F:Et ⟨nK,b,y.gone,y.text⟩=true:=(MJ _).2 ⟨T,l.2.1,l.2.2⟩;rcases Aon h.ix ⟨nK,b,y.gone,y.text⟩ F with q|⟨H,o,q,_,ao,t,E,D,X,Z,aa,G,al,J⟩
  ·rw[q];simp only;rw[kX U];exact⟨Po.refl s,.inl ⟨rfl,h⟩⟩
  ·rw[q];simp only;rw[lg Θ];have S:Az o≠0:=λa=>by
    have:=congrArg P9 a;rw[DN O]at this;simp at this;omega
   have z:Po s H:=⟨al,λj d _=>J j d⟩;obtain⟨e,v⟩:=jQ aa y.key l.1 (Az o) S;generalize RZ H y.key (Az o)=ae at e v;obtain⟨ap,an⟩:=ae;simp only at e v⊢;rcases v with⟨rfl,m,_⟩|⟨rfl,pX,m,i⟩
   ·rw[kX U];obtain⟨ah,K,ab,ac,am,I⟩:=uZ m (o:=o) (.inr rfl);have R:Bz (Az o)=o:=Ky O;rw[R,K];refine⟨(z.trans e.Aj4).trans ⟨am,λj d _=>I j d⟩,.inl ⟨rfl,?_⟩⟩;have ad:DV s ah (λp=>∃w∈nJ,p∈Dy (ch w.1)):=λp n i W=>by
     obtain⟨u1,u2⟩:=G p n trivial W;obtain⟨u3,u4⟩:=e.keep p n (.inl i) u1;obtain⟨u5,u6⟩:=ac p n (λa=>t (a▸i)) u3;exact⟨u5,λj d=>((u6 j d).trans (u4 j d)).trans (u2 j d)⟩
    refine h.keep ad (ab.congr λp=>?_);constructor
    ·rintro⟨c|c,f⟩
     ·exact c
     ·exact absurd c f
    ·exact λc=>⟨.inl c,λa=>t (a▸c)⟩
   ·rw[lg Θ];refine⟨z.trans e.Aj4,.inr (.inr ⟨o,b,pX,rfl,D,E,?_,?_,i⟩)⟩
    ·rcases A with⟨c,f⟩|⟨c,f⟩
     ·exact .inl ⟨c,by cases Q:y.gone with
       |false=>rfl
       |true=>exact absurd ⟨Q,c⟩ g,f⟩
     ·exact .inr ⟨c,f⟩
    ·exact Aj5 h (k:=CO y.key) (lk:=⟨o,⟨nK,b,y.gone,y.text⟩⟩) rfl F E D t M V G X Z e.keep m i
end
section
variable{L:Nat}{s:St}{nJ pX:List Kv}{ch:List nC->List Lk}
def kF{s:St}{L:Nat}(a:BZ L s){v:ni}{k:Lk}{l:List Lk}(h:D8 s v (k::l)):∃o:Nat,k.off=o/\v=Az o/\AX s o 1/\Et k.rc=jO/\wordsAt s.ws (o/8) 8=EE k.rc/\D8 s k.rc.next l/\(∀x∈l,x.rc.nK.toNat<k.rc.nK.toNat)/\0<o/\o<=65536:=by
 cases h with
 |cons o m l b d f c e=>
  have j:=b.bounds a;have g:=a.sh.Qo;have i:=a.L1;exact⟨o,rfl,rfl,b,d,f,c,e,O,O⟩
def QB(s:St)(key:List nC)(v:ni):St×Int:=if v=0 then((Si s key).1,(Si s key).2.2)else RZ s key v
def ZA{s0:St}(l:CX L s0 nJ ch){key:nG}(W:key.size<=16){lk:Lk}{o:Nat}(aa:lk.off=o)(g:Tc nJ pX (CO key) (Az o))(h:CX L s pX (FV ch (CO key) lk))
 (A:(lk.rc.next=0/\∀a∈nJ,a.1≠CO key)\/(lk.rc.next≠0/\(CO key,lk.rc.next)∈nJ)):
 ∃i r,QB s key lk.rc.next=(i,0)/\GG i o=(r,0)/\CX L r nJ ch/\Po s r:=by
 have K:key.data.toList.length<=16:=W;obtain⟨d,v⟩:=ε (CO key);rw[<-v]at g h A;have q:(d,Az o)∈pX:=(g _).2 (.inl rfl);have z:FV ch d lk d=lk::ch d:=by unfold FV;rw[kX rfl]
 have D:∀E,E≠d->FV ch d lk E=ch E:=λE Y=>by unfold FV;rw[lg Y]
 have y:Dy (lk::ch d)=o::Dy (ch d):=by unfold Dy;rw[Ci,aa,BC]
 have G:=(h.chain _ q).1;simp only[z]at G;obtain⟨ar,aq,_,_,_,_,Z,_,_,_⟩:=kF h.ix.ok G;have M:=G.nodup.1;rw[y]at M;obtain⟨X,_⟩:=Gz.1 M;have N:∀p,(∃a∈nJ,p∈Dy (ch a.1))->(∃a∈pX,p∈Dy (FV ch d lk a.1))/\p≠o:=λp⟨a,f,c⟩=>by
  by_cases b:a.1=d
  ·rw[b]at c;exact⟨⟨_,q,by rw[z,y];exact Bi _ c⟩,λt=>X (t▸c)⟩
  ·refine⟨⟨a,(g a).2 (.inr ⟨f,b⟩),by rw[D _ b];exact c⟩,λt=>?_⟩;subst t;exact h.VH _ q a ((g a).2 (.inr ⟨f,b⟩)) (λQ=>b Q.symm) p (by rw[z,y];exact Bf ..) (by rw[D _ b];exact c)
 have ac:∀p,(∃a∈pX,p∈Dy (FV ch d lk a.1))/\p≠o->∃a∈nJ,p∈Dy (ch a.1):=λp⟨⟨a,f,c⟩,R⟩=>by
  rcases(g a).1 f with rfl|⟨S,T⟩
  ·rw[z,y]at c;have c:=(Cb.1 c).resolve_left R;rcases A with⟨k,e⟩|⟨k,e⟩
   ·rw[l.none d e]at c;cases c
   ·exact⟨_,e,c⟩
  ·rw[D _ T]at c;exact⟨a,S,c⟩
 have V:∃i,QB s key lk.rc.next=(i,0)/\Jj (λp=>∃a∈pX,p∈Dy (FV ch d lk a.1)) s i/\JQ (λp=>∃a∈pX,p∈Dy (FV ch d lk a.1)) L i nJ:=by
  unfold QB;rcases A with⟨k,e⟩|⟨k,e⟩
  ·rw[kX k];rcases ve h.ix key K with⟨b,H⟩|⟨m,b,ap,F,n,hcut⟩
   ·exact absurd v (H _ q)
   ·refine⟨(Si s key).1,by rw[b],m,?_⟩;have:F=nJ:=dS n.up l.ix.up (λx=>by
     rw[hcut x,g x,<-v];constructor
     ·rintro⟨rfl|⟨f,_⟩,c⟩
      ·exact absurd rfl c
      ·exact f
     ·exact λf=>⟨.inr ⟨f,e x f⟩,e x f⟩)
    rw[<-this];exact n
  ·rw[lg k];obtain⟨m,I⟩:=jQ h.ix key K lk.rc.next k;generalize RZ s key lk.rc.next=an at m I;obtain⟨i,b⟩:=an;simp only at m I;rcases I with⟨_,_,H⟩|⟨rfl,F,n,ab⟩
   ·exact absurd v (H _ q)
   ·refine⟨i,rfl,m,?_⟩;have:F=nJ:=dS n.up l.ix.up (λx=>by
     rw[ab x,g x,<-v];constructor
     ·rintro(rfl|⟨rfl|⟨f,_⟩,c⟩)
      ·exact e
      ·exact absurd rfl c
      ·exact f
     ·intro f;by_cases b:x.1=d
      ·exact .inl (l.key f e b)
      ·exact .inr ⟨.inr ⟨f,b⟩,b⟩)
    rw[<-this];exact n
 obtain⟨i,P,m,ah⟩:=V;obtain⟨r,t,n,al,O,ao⟩:=uZ ah (o:=o) ⟨_,q,by rw[z,y];exact Bf ..⟩;have am:∀B:Nat->Prop,(∀p,B p->∃a∈nJ,p∈Dy (ch a.1))->DV s r B:=λB U p J g ad=>by
  obtain⟨k,e⟩:=N p (U p g);obtain⟨u1,u2⟩:=m.keep p J k ad;obtain⟨u3,u4⟩:=al p J e u1;exact⟨u3,λj C=>(u4 j C).trans (u2 j C)⟩
 refine⟨i,r,P,t,⟨n.congr λp=>⟨ac p,N p⟩,λa w=>⟨?_,(l.chain a w).2⟩,l.none,l.VH⟩,m.Aj4.trans ⟨O,λj C _=>ao j C⟩⟩;refine D8.keep (s:=s) ?_ (am _ (λ_ h=>h)) (λp g=>⟨a,w,g⟩);by_cases b:a.1=d
 ·have ae:a.2=lk.rc.next:=by
   rcases A with⟨_,e⟩|⟨_,e⟩
   ·exact absurd b (e a w)
   ·exact congrArg Prod.snd (l.key w e b)
  rw[ae,b];exact Z
 ·have:=(h.chain a ((g a).2 (.inr ⟨w,b⟩))).1;rw[D _ b]at this;exact this
abbrev Past:=nG×ni×ni
def Ou(s:St):List Past->St
 |[]=>s
 |(key,a,b)::l=>if b=0 then Ou s l else if(QB s key a).2≠0 then(QB s key a).1 else Ou (GG (QB s key a).1 (Bz b)).1 l
inductive Hist(L:Nat)(nJ:List Kv)(ch:List nC->List Lk)(nK:ni):List Past->List Kv->(List nC->List Lk)->Prop
 |nil:Hist L nJ ch nK [] nJ ch
 |skip{l:List Past}{it:List Kv}{c:List nC->List Lk}(key:nG):Hist L nJ ch nK l it c->Hist L nJ ch nK (l++[(key,0,0)]) it c
 |add{l:List Past}{it it':List Kv}{c:List nC->List Lk}{key:nG}{lk:Lk}{o:Nat}{s0:St}:Hist L nJ ch nK l it c->CX L s0 it c->key.size<=16->lk.off=o->0<o->o<=65536->Tc it it' (CO key) (Az o)->
  ((lk.rc.next=0/\∀kv∈it,kv.1≠CO key)\/(lk.rc.next≠0/\(CO key,lk.rc.next)∈it))->lk.rc.nK=nK->Hist L nJ ch nK (l++[(key,lk.rc.next,Az o)]) it' (FV c (CO key) lk)
def As1{w:ni}{l:List Past}{it:List Kv}{c:List nC->List Lk}(h:Hist L nJ ch w l it c):∀{s:St},CX L s it c->CX L (Ou s l.reverse) nJ ch/\Po s (Ou s l.reverse):=by
 induction h with
 |nil=>exact λa=>⟨a,Po.refl _⟩
 |skip key _ b=>
  intro s a;rw[XG,UE,VX,Ou,kX rfl];exact b a
 |add _ j n r x k t m _ b=>
  intro s a;rename_i o _ _ _;obtain⟨y,z,e,f,v,p⟩:=ZA j n r t a m;have q:Az o≠0:=λd=>by
   have:=congrArg P9 d;rw[DN O]at this;simp at this;omega
  rw[XG,UE,VX,Ou,lg q,e];simp only;rw[lg Θ,Ky k,f];obtain⟨g,i⟩:=b v;exact⟨g,p.trans i⟩
end
def D8.len{s:St}{v:ni}{l:List Lk}(h:D8 s v l):∀a:Nat,(∀k∈l,k.rc.nK.toNat<a)->l.length<=a:=by
 induction h with
 |nil=>intro a _;exact Bd _
 |cons o r l _ _ _ _ c d=>
  intro a b;have e:=d r.nK.toNat c;have f:r.nK.toNat<a:=b _ (Bf ..);rw[Bg];omega
def D8.listed{L:Nat}{s:St}(a:BZ L s){v:ni}{l:List Lk}(h:D8 s v l):IU s v=jm l:=by
 have:=h.list a 18446744073709551618 [] (KF (h.len 18446744073709551616 (λk _=>bD _)) U) (λk _=>bD _);rw[DR]at this;exact this
structure Aos where
 s:St
 done:List Past
 over:Bool
 end_:Int
def Pz(nK:ni)(set:List Wr)(j:Aos):Aos×Bool×Int:=
 if j.over=jO then(j,jO,j.end_)else
 match set[j.done.length]? with
 |some a=>if(H7 j.s nK a).2.2.2≠0 then(⟨Ou (H7 j.s nK a).1 j.done.reverse,j.done,jO,(H7 j.s nK a).2.2.2⟩,jO,(H7 j.s nK a).2.2.2)else
  (⟨(H7 j.s nK a).1,j.done++[(a.key,(H7 j.s nK a).2.1,(H7 j.s nK a).2.2.1)],jS,0⟩,jS,0)
 |none=>(⟨{j.s with ws:=DD j.s.ws 8 nK},j.done,jO,0⟩,jO,0)
section
variable{L:Nat}{s:St}{nJ:List Kv}{ch:List nC->List Lk}
def CX.oV(h:CX L s nJ ch)(v:ni):CX L {s with ws:=DD s.ws 8 v} nJ ch:=by
 have c:∀j,16<=j->DD s.ws 8 v j=s.ws j:=λj a=>by unfold DD;rw[lg O]
 have e:BZ L {s with ws:=DD s.ws 8 v}:=h.ix.ok.words (λg _=>c _ O);have d:DV s {s with ws:=DD s.ws 8 v} (λ_=>True):=λo f _ b=>⟨b,λj a=>c j (Ω (h.ix.ok.DU (b.bounds h.ix.ok).1 a))⟩
 exact h.keep (d.mono (λ_ _=>trivial)) (h.ix.same e h.ix.nh (λ_=>Iff.rfl) d (by show DD s.ws 8 v 9=_;unfold DD;rw[lg U]))
def Aaj{a b:List nC}(h:CO a=CO b):a=b:=by rw[<-TC a,h,TC]
structure Ag8(L:Nat)(s0:St)(nJ:List Kv)(ch:List nC->List Lk)(nK:ni)(set:List Wr)(j:Aos):Prop where
 it:∃it c,Hist L nJ ch nK j.done it c/\CX L j.s it c/\(∀i,j.done.length<=i->∀y,set[i]?=jm y->c (CO y.key)=ch (CO y.key))/\(∀k,∀x∈c k,x.rc.nK.toNat<=nK.toNat)
 low:Po s0 j.s
 len:j.done.length<=set.length
 run:j.over=jS/\j.end_=0
def qK(h:CX L s nJ ch)(nK:ni)(set:List Wr)(b:∀a,∀x∈ch a,x.rc.nK.toNat<nK.toNat):Ag8 L s nJ ch nK set ⟨s,[],jS,0⟩:=
 ⟨⟨nJ,ch,.nil,h,λ_ _ _ _=>rfl,λa x c=>Lh (b a x c)⟩,Po.refl s,Bd _,rfl,rfl⟩
def step_ok{s0:St}{nK:ni}{set:List Wr}{j:Aos}(h:Ag8 L s0 nJ ch nK set j)(R:∀b∈set,D5 b=jO)(W:QY set)(T:nK.toNat≠0)(V:∀i,∀x∈ch i,x.rc.nK.toNat<nK.toNat):
 (j.done.length<set.length/\(Pz nK set j).2=(jS,0)/\(Pz nK set j).1.done.length=j.done.length+1/\Ag8 L s0 nJ ch nK set (Pz nK set j).1)\/
 (j.done.length<set.length/\(Pz nK set j).2=(jO,6)/\(Pz nK set j).1.over=jO/\CX L (Pz nK set j).1.s nJ ch/\Po s0 (Pz nK set j).1.s)\/
 (j.done.length=set.length/\(Pz nK set j).2=(jO,0)/\(Pz nK set j).1.over=jO/\(Pz nK set j).1.s.ws 8=nK/\(Pz nK set j).1.s.sh=s0.sh/\(∀a,a<16->a≠8->a≠9->(Pz nK set j).1.s.ws a=s0.ws a)/\∃v k,CX L (Pz nK set j).1.s v k/\∀i,∀x∈k i,x.rc.nK.toNat<=nK.toNat):=by
 obtain⟨⟨v,k,A,p,z,n⟩,m,ad,S,ab⟩:=h;unfold Pz;rw[lg (by rw[S];decide)];by_cases g:j.done.length<set.length
 ·rw[Ag g];simp only;obtain⟨b,r⟩:=ε (set[j.done.length]);rw[<-r];have t:D5 b=true:=R b (r▸List.getElem_mem g);have Y:b.key.size<=16:=by
   unfold D5 at t;simp only[Bool.and_eq_true,decide_eq_true_eq]at t;exact t.1.1
  have I:=z j.done.length (Ae _) b (by rw[r];exact Ag g);have P:∀a,j.done.length+1<=a->∀e,set[a]?=jm e->CO e.key≠CO b.key:=λa l e d f=>by
   obtain⟨K,d⟩:=List.getElem?_eq_some_iff.1 d;have:=W.lt g K l;rw[d,<-r]at this;unfold Gf at this;rw[ByteArray.toList_eq,ByteArray.toList_eq,Aaj f,DC]at this;cases this
  obtain⟨B,X⟩:=kE p nK b t T (λx c=>by rw[I]at c;exact V _ x c);rcases X with⟨f,q⟩|⟨f,ac,ae⟩|⟨o,aa,Z,f,M,N,H,q,Q⟩
  ·right;left;have C:(H7 j.s nK b).2.2.2=6:=by rw[f]
   rw[kX (by rw[C];decide),C];obtain⟨w,y⟩:=As1 A q;exact⟨g,rfl,rfl,w,(m.trans B).trans y⟩
  ·left;rw[f];rw[lg Θ];refine⟨g,rfl,by simp,⟨⟨v,k,.skip b.key A,p,λa l e d=>z a (by simp at l;omega) e d,n⟩,m,by simp;omega,rfl,rfl⟩⟩
  ·left;obtain⟨s',U⟩:=ε ((H7 j.s nK b).1);rw[<-U]at B q⊢;rw[f];rw[lg Θ];refine⟨g,rfl,by simp,⟨⟨Z,_,Hist.add (lk:=⟨o,⟨nK,aa,b.gone,b.text⟩⟩) A p Y rfl M N Q ?_ rfl,q,λa l e d=>?_,λi x c=>?_⟩,m.trans B,by simp;omega,rfl,rfl⟩⟩
   ·rcases H with⟨w,_,y⟩|D
    ·exact .inl ⟨w,y⟩
    ·exact .inr D
   ·have J:j.done.length+1<=a:=by simpa using l
    unfold FV;rw[lg (P a J e d)];exact z a O e d
   ·unfold FV at c;split at c
    ·rcases Cb.1 c with rfl|c
     ·exact Ae _
     ·exact n i x c
    ·exact n i x c
 ·right;right;rw[List.getElem?_eq_none O];refine⟨O,rfl,rfl,by show DD j.s.ws 8 nK 8=_;unfold DD;rw[kX rfl],m.1,λa E F G=>?_,v,k,p.oV nK,n⟩;show DD j.s.ws 8 nK a=_;unfold DD;rw[lg F];exact m.2 a E G
end
def D8.A0m{s:St}{v:ni}{l:List Lk}(h:D8 s v l):l.map (·.off)=(Dy l).map Gt:=by
 induction h with
 |nil=>rfl
 |cons o r l _ _ _ _ _ a=>
  unfold Dy at a⊢;rw[Ci,Ci,Ci,a];rfl
structure EZ(Y:Nat->Prop)(L:Nat)(s:St)(nJ:List Kv)(ch:List nC->List Lk):Prop where
 ix:JQ (λo=>(∃kv∈nJ,o∈Dy (ch kv.1))\/Y o) L s nJ
 chain:∀kv∈nJ,D8 s kv.2 (ch kv.1)/\kv.2≠0
 none:∀k,(∀kv∈nJ,kv.1≠k)->ch k=[]
 VH:∀kv∈nJ,∀kv'∈nJ,kv.1≠kv'.1->∀o∈Dy (ch kv.1),o∉Dy (ch kv'.1)
 loose:∀kv∈nJ,∀o∈Dy (ch kv.1),¬Y o
section
variable{Y:Nat->Prop}{L:Nat}{s:St}{nJ:List Kv}{ch:List nC->List Lk}
def CX.y(h:CX L s nJ ch):EZ (λ_=>False) L s nJ ch:=
 ⟨h.ix.congr (λ_=>⟨.inl,λh=>h.elim id False.elim⟩),h.chain,h.none,h.VH,λ_ _ _ _ h=>h⟩
def EZ.ok(h:EZ Y L s nJ ch)(a:∀o,¬Y o):CX L s nJ ch:=
 ⟨h.ix.congr (λo=>⟨λh=>h.resolve_right (a o),.inl⟩),h.chain,h.none,h.VH⟩
def EZ.drop(h:EZ Y L s nJ ch){o:Nat}(g:Y o):∃c,GG s o=(c,0)/\EZ (λp=>Y p/\p≠o) L c nJ ch/\c.sh=s.sh/\∀j,j<16->c.ws j=s.ws j:=by
 obtain⟨c,m,i,q,k,r⟩:=uZ h.ix (o:=o) (.inr g);have f:∀kv∈nJ,∀p∈Dy (ch kv.1),p≠o:=λkv a p b l=>h.loose kv a p b (l▸g)
 refine⟨c,m,⟨i.congr (λp=>?_),λkv a=>⟨(h.chain kv a).1.keep q (λp b=>f kv a p b),(h.chain kv a).2⟩,h.none,h.VH,λkv a p b n=>h.loose kv a p b n.1⟩,k,r⟩;constructor
 ·rintro⟨d|d,e⟩
  ·exact .inl d
  ·exact .inr ⟨d,e⟩
 ·rintro(⟨kv,a,b⟩|⟨d,e⟩)
  ·exact⟨.inl ⟨kv,a,b⟩,f kv a p b⟩
  ·exact⟨.inr d,e⟩
def EZ.congr{Z:Nat->Prop}(h:EZ Y L s nJ ch)(a:∀o,Y o<->Z o):EZ Z L s nJ ch:=
 ⟨h.ix.congr (λo=>or_congr Iff.rfl (a o)),h.chain,h.none,h.VH,λkv c o d b=>h.loose kv c o d ((a o).2 b)⟩
def EZ.again{s':St}{Z:Nat->Prop}(h:EZ Y L s nJ ch)(r:BZ L s')(y:∀o d,¬EK s' o d)(n:DV s s' (λ_=>True))(l:s'.ws 9=s.ws 9)(f:∀o,Z o<->(∃d,AX s' o d)/\((∃d,AX s o d)->Y o)):EZ Z L s' nJ ch:=by
 have m:∀kv∈nJ,∀o∈Dy (ch kv.1),∃d,AX s o d:=λkv b o a=>by
  rcases h.ix.tree with⟨_,_,e⟩|⟨_,_,_,_,_,e⟩
  ·exact(e o).2 (.inl ⟨kv,b,a⟩)
  ·exact(e o).2 (.inr (.inl ⟨kv,b,a⟩))
 have p:∀o,(∃d,AX s o d)->∃d,AX s' o d:=λo⟨d,w⟩=>⟨d,(n o d trivial w).1⟩
 refine⟨⟨r,y,?_,h.ix.even⟩,λkv b=>⟨(h.chain kv b).1.keep n (λ_ _=>trivial),(h.chain kv b).2⟩,h.none,h.VH,λkv b o a g=>h.loose kv b o a (((f o).1 g).2 (m kv b o a))⟩;rcases h.ix.tree with⟨k,v,e⟩|⟨nT,k,t,x,q,e⟩
 ·refine .inl ⟨l.trans k,v,λo=>?_⟩;constructor
  ·intro j;by_cases i:∃d,AX s o d
   ·rcases(e o).1 i with c|c
    ·exact .inl c
    ·exact .inr ((f o).2 ⟨j,λ_=>c⟩)
   ·exact .inr ((f o).2 ⟨j,λh=>absurd h i⟩)
  ·rintro(⟨kv,b,a⟩|g)
   ·exact p o (m kv b o a)
   ·exact((f o).1 g).1
 ·refine .inr ⟨nT,by rw[l];exact k,?_,x,λo a=>?_,λo=>?_⟩
  ·rw[l];exact t.keep h.ix.ok r n (λ_ _=>trivial)
  ·rintro(⟨kv,b,c⟩|g)
   ·exact q o a (.inl ⟨kv,b,c⟩)
   ·exact q o a (.inr (((f o).1 g).2 ((e o).2 (.inl a))))
  ·constructor
   ·intro j;by_cases i:∃d,AX s o d
    ·rcases(e o).1 i with c|c|c
     ·exact .inl c
     ·exact .inr (.inl c)
     ·exact .inr (.inr ((f o).2 ⟨j,λ_=>c⟩))
    ·exact .inr (.inr ((f o).2 ⟨j,λh=>absurd h i⟩))
   ·rintro(a|⟨kv,b,a⟩|g)
    ·exact p o ((e o).2 (.inl a))
    ·exact p o (m kv b o a)
    ·exact((f o).1 g).1
end
structure Loose(L:Nat)(s0 s:St)(Y:Nat->Prop)(nJ:List Kv)(ch:List nC->List Lk):Prop where
 sto:EZ Y L s nJ ch
 sh:s.sh=s0.sh
 low:∀j,j<16->s.ws j=s0.ws j
 tk:∀o,(∃d,AX s0 o d)<->(∃d,AX s o d)/\¬Y o
def Aot{L:Nat}{sh:Sh}(a:L<=1024)(b:shapeOf L=jm sh):CX L (st0 sh) [] (λ_=>[]):=
 ⟨(Awo a b).congr (λ_=>⟨λh=>h.elim,λ⟨_,h,_⟩=>(nomatch h)⟩),(λ_ h=>(nomatch h)),(λ_ _=>rfl),(λ_ h=>(nomatch h))⟩
