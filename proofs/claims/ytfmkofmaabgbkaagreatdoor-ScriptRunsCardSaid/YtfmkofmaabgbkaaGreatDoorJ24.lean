import Derived.Test.YtfmkofmaabgbkaaGreatDoorJ23
set_option linter.defProp false
open List renaming mem_cons_self->Bo,mem_cons_of_mem->Bz,getElem_set->Lc,length_set->Dh,getD_eq_getElem?_getD->Bg,getElem?_eq_getElem->Ah,drop_eq_getElem_cons->Cf,append_assoc->AY,nodup_cons->GN,nodup_append->Dl,getElem?_map->DJ,getElem?_range->UT,cons_append->BD,length_append->AP,mem_append->AB,mem_map->Dk,length_drop->AQ,getElem_drop->YK,ext_getElem->Fz,getElem_set_self->SQ,getElem_set_ne->Abs,mem_flatten->Ag6,map_cons->BM,foldl_cons->Ald,mem_cons->CG,nil_append->EK,mem_singleton->BQ,mem_append_right->Bj,mem_append_left->BH,append_cancel_left->E5,length_eq_one_iff->qp,append_nil->Ib,map_nil->FP
open Int renaming toNat_natCast->BJ,ofNat->Gt
open Nat renaming le_refl->Ae
open Option renaming map_eq_some_iff->QS
namespace Go.Proofs.YtfmkofmaabgbkaaGreatDoor
def KX(ws:Nat->UInt64)(j n t:Nat)(h:t<(wordsAt ws j n).length):(wordsAt ws j n)[t]=ws (j+t):=by
 simp[wordsAt]
def TP:∀(b:List UInt8)(a:List UInt64)(row:List UInt64)(j:Nat)(k:UInt64),(∀c∈b,4+c.toNat≠j)->CO (row.set j k) b a=(CO row b a).set j k
 |[],a,row,j,k,_=>by cases a<;>simp[CO]
 |d::b,[],row,j,k,_=>by simp[CO]
 |d::b,f::a,row,j,k,h=>by
  rw[CO,CO,<-List.set_comm _ _ (h d (Bo ..)),TP b a _ j k (λc e=>h c (Bz _ e))]
def TQ:∀(a:List UInt8)(b:List UInt64)(row:List UInt64)(i:Nat)(k:UInt64)(h1:i<a.length),a.length=b.length->DY a=true->CO row a (b.set i k)=(CO row a b).set (4+a[i].toNat) k
 |f::a,g::b,row,0,k,_,_,e=>by
  obtain⟨_,j⟩:=KW e;rw[List.set_cons_zero,CO,CO];have c:∀d∈a,4+d.toNat≠4+f.toNat:=λd l=>Ω (j d l)
  rw[TP a b row _ k c,TP a b row _ g c];simp only[List.getElem_cons_zero,List.set_set]
 |f::a,g::b,row,i+1,k,h1,m,e=>by
  obtain⟨c,_⟩:=KW e;rw[List.set_cons_succ,CO,CO,TQ a b _ i k (by simpa using h1) (by simpa using m) c];rfl
def KY(x:Nd)(i:Nat)(k:UInt64):Nd:={x with kids:=x.kids.set i k}
def vg{x:Nd}(h:BU x=true)(i:Nat){k:UInt64}(m:k≠0):BU (KY x i k)=true:=by
 obtain⟨d,e,f,g,j,l⟩:=(Bh x).1 h;rw[Bh];have c:∀a(b:a<(x.kids.set i k).length),(x.kids.set i k)[a].toNat≠0:=λa b=>by
  rw[Lc];split
  ·exact Ajv m
  ·exact l a (by rwa [Dh]at b)
 exact⟨d,e,by show _=(x.kids.set i k).length;rw[Dh];exact f,g,j,c⟩
def Y8(x:Nd)(i:Nat)(k:UInt64):Dp (KY x i k)=Dp x:=by
 unfold Dp KY;rw[Dh]
def Afj{x:Nd}(h:BU x=true){i:Nat}(hi:i<x.kids.length)(k:UInt64):DL (KY x i k)=(DL x).set (Qa x i) k:=by
 obtain⟨d,e,b,f,c,g⟩:=(Bh x).1 h;unfold DL Qa;rw[show(KY x i k).kids=x.kids.set i k from rfl,Dh];by_cases a:x.kids.length<=4
 ·rw[jM a,jM a,jM a];unfold encS;rw[show(KY x i k).kids=x.kids.set i k from rfl,show(KY x i k).pre=x.pre from rfl,show(KY x i k).val=x.val from rfl,show(KY x i k).labels=x.labels from rfl,Dh];rw[List.set_append_left _ _ (by simp;omega),List.set_append_right _ _ Θ];simp
 ·rw[ku a,ku a,ku a];unfold SY;rw[show headB (KY x i k)=headB x by unfold headB;rw[show(KY x i k).kids=x.kids.set i k from rfl,Dh];rfl,show(KY x i k).labels=x.labels from rfl,show(KY x i k).kids=x.kids.set i k from rfl];rw[TQ x.labels x.kids (headB x) i k O1 b c,Y7 O1]
def Afk{x:Nd}(h:BU x=true){c:UInt8}{g:UInt64}{i:Nat}(b:PU x c=some (g,i)):∃(a:Nat)(k:a<x.kids.length)(l:a<x.labels.length),x.labels[a]=c/\g=x.kids[a]/\i=Qa x a:=by
 have m:=((Bh x).1 h).2.2.1;unfold PU at b;split at b
 ·rename_i a e;rw[jM h]at b;simp only[Option.some.injEq,Prod.mk.injEq]at b;unfold Jq at e;obtain⟨f,j,_⟩:=List.findIdx?_eq_some_iff_getElem.1 e;have d:x.labels[a]=c:=UInt8.toNat_inj.1 (by simpa using j);refine⟨a,O1,f,d,?_,?_⟩
  ·rw[<-b.1,Bg,Ah O1];rfl
  ·rw[<-b.2];unfold Qa;rw[Y7 f,d]
 ·cases b
def kz{x:Nd}(h:BU x=true){c:UInt8}(a:PU x c=none):Qm x.labels c=false:=by
 unfold PU at a;split at a
 ·rw[jM h]at a;cases a
 ·rename_i b;unfold Jq at b;rw[List.findIdx?_eq_none_iff]at b;unfold Qm;rw[List.any_eq_false];intro e d;have:=b e d;simpa using this
def TR(pre:List UInt8)(a:List UInt8)(b:List Part)(i:Nat)(h1:i<a.length)(h2:i<b.length)(h:a.length=b.length):
 Bl pre a b=Bl pre (a.take i) (b.take i)++(FK pre a[i] b[i].items++Bl pre (a.drop (i+1)) (b.drop (i+1))):=by
 rw[TN pre a b i h,Cf h1,Cf h2];rfl
def LD(a:List Part)(i:Nat)(h2:i<a.length):Bc a=Bc (a.take i)++(a[i].blocks++Bc (a.drop (i+1))):=by
 rw[SB a i,Cf h2];rfl
def UB(q:List UInt8)(l:List Kv):List Kv:=l.map λa=>(q++a.1,a.2)
def vz(l:List Kv):UB [] l=l:=by simp[UB]
def Y9(pre:List UInt8)(lb:UInt8)(q:List UInt8)(A l B:List Kv):FK pre lb (A++UB q l++B)=FK pre lb A++UB (pre++lb::q) l++FK pre lb B:=by
 unfold FK UB;simp[List.map_map,Function.comp_def,AY]
structure YA(L:Nat)(s:St)(r:Nat)(name:UInt64)(items:List Kv)(blocks:List Nat)(word:Int)(rest:List UInt8)(last:Pl)(rest' q:List UInt8)(rl:Nat)(nl:UInt64)(parts:List Part)(A B:List Kv)(b1 b2:List Nat):Prop where
 rd:FC s nl=some last.nd
 off:Bf nl=last.off
 pre:last.nd.pre.length<=rl
 kid:last.nd.kids≠[]->last.nd.pre.length+1<=rl
 len:parts.length=last.nd.kids.length
 sub:∀i(h1:i<last.nd.kids.length)(h2:i<parts.length),DX s (rl-last.nd.pre.length-1) last.nd.kids[i] parts[i].items parts[i].blocks
 cut:rest=q++rest'
 lens:q.length+rl=r
 its:items=A++UB q (BZ last.nd++Bl last.nd.pre last.nd.labels parts)++B
 bls:blocks=b1++(last.off.toNat::Bc parts)++b2
 lo:∀kv∈A,∀t,Op.bytesLess kv.1 (q++t)=true
 hi:∀kv∈B,∀t,Op.bytesLess (q++t) kv.1=true
 wd:(q=[]/\last.word=word/\nl=name)\/(q≠[]/\∃p c j,p∈b1/\AU s p c/\Hw p c j/\last.word=((8*j:Nat):Int)/\s.ws j=nl)
 swap:∀(s':St)(name':UInt64)(XJ:List Kv)(V9:List Nat),BG L s'->name'≠0->DX s' rl name' XJ V9->(∀o c,(o∈b1\/o∈b2)->AU s o c->AU s' o c/\∀j,Hw o c j->s'.ws j=if((8*j:Nat):Int)=last.word then name' else s.ws j)->
  DX s' r (if q=[]then name' else name) (A++UB q XJ++B) (b1++V9++b2)
structure Aw7(L:Nat)(s:St)(r:Nat)(name:UInt64)(items:List Kv)(blocks:List Nat)(word:Int)(rest:List UInt8)(last:Pl)(rest' q:List UInt8)(rl:Nat)(nl:UInt64)(parts:List Part)(A B:List Kv)(b1 b2:List Nat):Prop extends YA L s r name items blocks word rest last rest' q rl nl parts A B b1 b2 where
 stop:common last.nd.pre rest'<last.nd.pre.length\/common last.nd.pre rest'=rest'.length\/PU last.nd (rest'.getD (common last.nd.pre rest') 0)=none
section
variable{L:Nat}{s:St}
def QK(a:BG L s){o p c d j k:Nat}(h:AU s o c)(b:AU s p d)(i:o≠p)(f:Hw o c j)(g:Hw p d k):j≠k:=λe=>by
 subst e;exact PM (uU a h b i) (h.bounds a).2.2 (b.bounds a).2.2 f g
def kC(M:BG L s){r:Nat}{w:UInt64}{a:Nd}{parts:List Part}{o:Nat}{rest ac:List UInt8}{bs:Int}{i:Nat}(u:Bf w=o)(K:AU s o (Dp a))(D:BU a=true)(av:wordsAt s.ws (o/8) (8*Bd (Dp a))=DL a)
 (bb:a.pre.length<=r)(a7:parts.length=a.kids.length)
 (a4:∀i(h1:i<a.kids.length)(h2:i<parts.length),DX s (r-a.pre.length-1) a.kids[i] parts[i].items parts[i].blocks)(a9:((Bf w).toNat::Bc parts).Nodup)(C:i<a.kids.length)(Q:i<a.labels.length)(R:i<parts.length)(a6:a.pre.length+1<=r)(hcut:a.pre++a.labels[i]::ac=rest)
 {last:Pl}{rest' n:List UInt8}{rl:Nat}{nl:UInt64}{ah:List Part}{p q:List Kv}{k t:List Nat}
 (S:YA L s (r-a.pre.length-1) a.kids[i] parts[i].items parts[i].blocks (Bf w+8*(Qa a i:Nat)) ac last rest' n rl nl ah p q k t):
 YA L s r w (BZ a++Bl a.pre a.labels parts) ((Bf w).toNat::Bc parts) bs rest last rest' (a.pre++a.labels[i]::n) rl nl ah (BZ a++Bl a.pre (a.labels.take i) (parts.take i)++FK a.pre a.labels[i] p) (FK a.pre a.labels[i] q++Bl a.pre (a.labels.drop (i+1)) (parts.drop (i+1))) (o::Bc (parts.take i)++k) (t++Bc (parts.drop (i+1))):=by
 have X:=(Bh a).1 D;obtain⟨I,aE⟩:=GN.1 a9;have H:=LD parts i R;have ad:=aE;rw[H]at ad;obtain⟨bA,bj,bk⟩:=Dl.1 ad;obtain⟨bB,bC,bl⟩:=Dl.1 bj;rw[u]at I;rw[BJ]at I;obtain⟨bE,bG,_⟩:=Aaj a D i C;have J:(DL a)[Qa a i]?=some a.kids[i]:=Acv a D i C;have bH:=K.bounds M;have a8:=Ju a;have bc:Hw o (Dp a) (o/8+Qa a i):=⟨O1,O1⟩;have az:s.ws (o/8+Qa a i)=a.kids[i]:=by
  rw[<-av]at J;unfold wordsAt at J;rw[DJ,UT O1]at J;simpa using J
 have aw:∃d g c,(d=o\/d∈k)/\AU s d g/\Hw d g c/\last.word=((8*c:Nat):Int)/\s.ws c=nl:=by
  rcases S.wd with⟨l,m,al⟩|⟨_,d,g,c,h1,h2,a1,a2,a3⟩
  ·refine⟨o,_,_,.inl rfl,K,bc,?_,by rw[az,al]⟩;rw[m,u];omega
  ·exact⟨d,g,c,.inr h1,h2,a1,a2,a3⟩
 have aD:∀d∈k,d∈parts[i].blocks:=λd j=>by rw[S.bls];simp[j]
 have aL:∀c(h:c<a.labels.length),c<i->a.labels[c].toNat<a.labels[i].toNat:=λc h T=>I8 _ X.2.2.2.2.1 c i T Q
 have aJ:∀c(h:c<a.labels.length),i<c->a.labels[i].toNat<a.labels[c].toNat:=λc h T=>I8 _ X.2.2.2.2.1 i c T h
 refine⟨S.rd,S.off,S.pre,S.kid,S.len,S.sub,?_,?_,?_,?_,?_,?_,?_,?_⟩
 ·rw[AY,BD,<-S.cut];exact hcut.symm
 ·have:=S.lens;simp only[AP,List.length_cons];omega
 ·rw[TR a.pre a.labels parts i Q R O1,S.its,Y9];simp only[AY]
 ·rw[u,BJ,H,S.bls];simp only[AY,BD]
 ·intro bi W b;rw[AY,BD];rcases AB.1 W with h|h
  ·rcases AB.1 h with h|h
   ·obtain⟨rfl,_⟩:=Fj h;exact jY _ _ _
   ·obtain⟨c,Y,bg,v,_,rfl⟩:=EP h;simp only[List.length_take]at Y;rw[List.getElem_take,O7];exact V7 (aL c O1 O1) _ _
  ·obtain⟨v,z,rfl⟩:=Dk.1 h;have:=S.lo v z b;show Op.bytesLess (a.pre++a.labels[i]::v.1) _=true;rw[O7];simp[Op.bytesLess,this]
 ·intro bi W b;rw[AY,BD];rcases AB.1 W with h|h
  ·obtain⟨v,z,rfl⟩:=Dk.1 h;have:=S.hi v z b;show Op.bytesLess _ (a.pre++a.labels[i]::v.1)=true;rw[O7];simp[Op.bytesLess,this]
  ·obtain⟨c,Y,bg,v,_,rfl⟩:=EP h;simp only[AQ]at Y;rw[YK,O7];exact V7 (aJ _ O1 O1) _ _
 ·right;refine⟨by simp,?_⟩;obtain⟨d,g,c,h1,h2⟩:=aw;refine⟨d,g,c,?_,h2⟩;rcases h1 with rfl|h1
  ·simp
  ·simp[h1]
 ·intro ab Z y x aa aq aX U;obtain⟨br,bw,bx,aM,aR,aV,aW,bt⟩:=aw;have aF:∀d g c,d≠br->AU s d g->Hw d g c->¬((8*c:Nat):Int)=last.word:=λd g c j A G e=>by
   have:=QK M A aR j G aV;rw[aW]at e;omega
  have ae:=S.swap ab Z y x aa aq aX (λd g j A=>U d g (by
   rcases j with j|j
   ·left;simp[j]
   ·right;simp[j]) A)
  obtain⟨f,E⟩:∃bh,bh=(if n=[]then Z else a.kids[i]):=⟨_,rfl⟩;rw[<-E]at ae;have a5:f≠0:=by
   rw[E];split
   ·exact aq
   ·exact λe=>X.2.2.2.2.2 i C (by rw[e];rfl)
  obtain⟨t1,t2⟩:=U o _ (by left;simp) K;have bd:FC ab w=some (KY a i f):=by
   refine Zq aa u (by rw[Y8];exact t1) (vg D i a5) ?_;rw[Y8,Afj D C f];refine Fz (by simp[wordsAt,a8]) λb P an=>?_
   have be:b<8*Bd (Dp a):=by simpa[wordsAt]using P
   have ar:s.ws (o/8+b)=(DL a)[b]' O1:=by
    have:(wordsAt s.ws (o/8) (8*Bd (Dp a)))[b]?=(DL a)[b]?:=by rw[av]
    unfold wordsAt at this;rw[DJ,UT be,Ah O1]at this;simpa using this
   have ao:Hw o (Dp a) (o/8+b):=⟨O1,O1⟩;rw[KX,t2 _ ao,Lc];rcases S.wd with⟨l,m,al⟩|⟨l,d,g,c,bm,bo,bp,bq,bD⟩
   ·have V:f=Z:=by rw[E,jM l]
    by_cases e:b=Qa a i
    ·rw[jM (by rw[m,u];omega),jM e.symm,V]
    ·rw[ku (by rw[m,u];omega),ku (λh=>e h.symm)];exact ar
   ·have V:f=a.kids[i]:=by rw[E,ku l]
    have ba:d≠o:=λe=>I (by rw[<-e,H];simp[aD d bm])
    have:¬((8*(o/8+b):Nat):Int)=last.word:=λe=>by
     have:=QK M K bo (λe=>ba e.symm) ao bp;rw[bq]at e;omega
    rw[ku this];by_cases e:Qa a i=b
    ·subst e;rw[jM rfl,V,az]
    ·rw[ku e];exact ar
  have F:=DX.mk (s:=ab) r w (KY a i f) (parts.set i ⟨p++UB n y++q,k++x++t⟩) bd bb (λ_=>a6) (by show _=(a.kids.set i f).length;rw[Dh,Dh];exact a7) (λb P an=>by
   have am:b<a.kids.length:=by have:b<(a.kids.set i f).length:=P;rwa [Dh]at this
   have a0:b<parts.length:=by rwa [Dh]at an
   by_cases e:i=b
   ·subst e;have l:(KY a i f).kids[i]=f:=by show(a.kids.set i f)[i]'(by rw[Dh];exact C)=f;rw[SQ]
    have m:(parts.set i ⟨p++UB n y++q,k++x++t⟩)[i]=⟨p++UB n y++q,k++x++t⟩:=by rw[SQ]
    rw[l,m];exact ae
   ·have l:(KY a i f).kids[b]=a.kids[b]:=by show(a.kids.set i f)[b]'(by rw[Dh];exact am)=a.kids[b];rw[Abs e]
    have m:(parts.set i ⟨p++UB n y++q,k++x++t⟩)[b]=parts[b]:=by rw[Abs e]
    rw[l,m];refine(a4 b am a0).keep M aa (B:=λd=>d∈parts[b].blocks) (λd g j A=>?_) (λ_ h=>h);have N:d∈Bc (parts.take i)\/d∈Bc (parts.drop (i+1)):=by
     unfold Bc;rcases Nat.lt_or_gt_of_ne e with h|h
     ·right;exact Ag6.2 ⟨_,Dk.2 ⟨parts[b],List.mem_drop_iff_getElem.2 ⟨b-(i+1),O1,by simp only[show i+1+(b-(i+1))=b by omega]⟩,rfl⟩,j⟩
     ·left;exact Ag6.2 ⟨_,Dk.2 ⟨parts[b],List.mem_take_iff_getElem.2 ⟨b,O1,rfl⟩,rfl⟩,j⟩
    obtain⟨u1,u2⟩:=U d g (by
     rcases N with h|h
     ·left;simp[h]
     ·right;simp[h]) A
    refine⟨u1,λc G=>?_⟩;rw[u2 c G,ku];refine aF d g c (λaZ=>?_) A G;subst aZ;rcases aM with h|h
    ·subst h;refine I ?_;rw[H];rcases N with h|h<;>simp[h]
    ·have z:=aD _ h;rcases N with h2|h2
     ·exact bk _ h2 _ (by simp[z]) rfl
     ·exact bl _ z _ h2 rfl)
  rw[ku Θ];have ap:i<(parts.set i (⟨p++UB n y++q,k++x++t⟩:Part)).length:=by rw[Dh];exact R
  rw[u,BJ,show(KY a i f).pre=a.pre from rfl,show(KY a i f).labels=a.labels from rfl,show BZ (KY a i f)=BZ a from rfl,
   TR a.pre a.labels _ i Q ap (by rw[Dh];omega),LD _ i ap]at F
  simp only[SQ,List.take_set_of_le (Ae i),List.drop_set_of_lt (Nat.lt_succ_self i)]at F;rw[Y9]at F;simpa only[AY,BD]using F
def XL{r:Nat}{c:UInt64}{a:Nd}{parts:List Part}{rest:List UInt8}{l:UInt8}{d:Int}(k:FC s c=some a)(j:a.pre.length<=r)(e:a.kids≠[]->a.pre.length+1<=r)(i:parts.length=a.kids.length)
 (g:∀b(h1:b<a.kids.length)(h2:b<parts.length),DX s (r-a.pre.length-1) a.kids[b] parts[b].items parts[b].blocks):
 YA L s r c (BZ a++Bl a.pre a.labels parts) ((Bf c).toNat::Bc parts) d rest ⟨a,Bf c,l,d⟩ rest [] r c parts [] [] [] []:=
 ⟨k,rfl,j,e,i,g,rfl,by simp,by simp[vz],by simp,(λ_ h=>by cases h),(λ_ h=>by cases h),.inl ⟨rfl,rfl,rfl⟩,λp o n m _ _ f _=>by simpa[vz]using f⟩
def XM{a:Nd}{rest:List UInt8}{j:UInt64}{k:Nat}(m:BU a=true)(h1:¬(common a.pre rest<a.pre.length\/common a.pre rest=rest.length))(l:PU a (rest.getD (common a.pre rest) 0)=some (j,k)):
 common a.pre rest=a.pre.length/\a.pre.length<rest.length/\∃(b:Nat)(f:b<a.kids.length)(g:b<a.labels.length),j=a.kids[b]/\k=Qa a b/\a.labels[b]=rest.getD a.pre.length 0/\a.pre++a.labels[b]::rest.drop (a.pre.length+1)=rest:=by
 obtain⟨b,f,g,d,rfl,rfl⟩:=Afk m l;have e:common a.pre rest=a.pre.length:=Ω (Jn a.pre rest);have i:a.pre.length<rest.length:=Ω (Kw a.pre rest);have c:=SX a.pre rest;rw[e]at c d;rw[List.take_length]at c;have hcut:=Anl i;rw[<-c,<-d]at hcut;exact⟨e,i,b,f,g,rfl,rfl,d,hcut⟩
def kD(x:BG L s):∀(f r:Nat)(b:UInt64)(items:List Kv)(blocks:List Nat)(rest:List UInt8)(e:UInt8)(d:Int)(l:List Pl),DX s r b items blocks->blocks.Nodup->rest.length<f->rest.length<=r->b≠0->
 ∃last rest' q rl nl parts A B b1 b2 m,Es s f b rest e d l=some (l++m++[last],rest')/\Aw7 L s r b items blocks d rest last rest' q rl nl parts A B b1 b2
 |0,_,_,_,_,_,_,_,_,_,_,h,_,_=>absurd h O1
 |f+1,r,b,items,blocks,rest,e,d,l,M,D,W,Z,J=>by
  cases M with
  |mk _ _ a parts k v n u j=>
   obtain⟨o,K,N,w,P⟩:=IV x k;rw[Es,ku J,k]
   dsimp only
   by_cases i:common a.pre rest<a.pre.length\/common a.pre rest=rest.length
   ·rw[jM i];exact⟨⟨a,Bf b,e,d⟩,_,_,_,_,_,_,_,_,_,[],by simp,⟨XL k v n u j,i.imp id .inl⟩⟩
   ·rw[ku i];cases C:PU a (rest.getD (common a.pre rest) 0)with
    |none=>exact⟨⟨a,Bf b,e,d⟩,_,_,_,_,_,_,_,_,_,[],by simp,⟨XL k v n u j,.inr (.inr C)⟩⟩
    |some Q=>
     obtain⟨aa,ab⟩:=Q;obtain⟨G,Y,c,g,H,rfl,rfl,X,hcut⟩:=XM w i C;have t:c<parts.length:=O1;have I:=n (λp=>by rw[p]at g;simp at g);have y:=(GN.1 D).2;rw[LD parts c t]at y;have R:=(Dl.1 (Dl.1 y).2.1).1;obtain⟨last,rest',ac,rl,nl,F,S,T,U,V,m,E,z⟩:=kD x f (r-a.pre.length-1) a.kids[c] parts[c].items parts[c].blocks (rest.drop (a.pre.length+1)) (rest.getD (common a.pre rest) 0) (Bf b+8*(Qa a c:Nat)) (l++[⟨a,Bf b,e,d⟩]) (j c g t) R (by rw[AQ];omega) (by rw[AQ];omega) (λp=>((Bh a).1 w).2.2.2.2.2 c g (by rw[p];rfl));simp only;rw[G]at E⊢;exact⟨last,rest',_,rl,nl,F,_,_,_,_,⟨a,Bf b,e,d⟩::m,by rw[E];simp,⟨kC x K N w P v u j D g H t I hcut z.toYA,z.stop⟩⟩
end
structure Jj(X:Nat->Prop)(L:Nat)(s:St)(items:List Kv):Prop where
 ok:BG L s
 nh:∀o d,¬Ej s o d
 tree:(s.ws 9=0/\items=[]/\∀o,(∃d,AU s o d)<->X o)\/(∃blocks,s.ws 9≠0/\DX s 32 (s.ws 9) items blocks/\blocks.Nodup/\(∀o∈blocks,¬X o)/\∀o,(∃d,AU s o d)<->o∈blocks\/X o)
 even:∀kv∈items,NS kv.1=true
abbrev Axc:=Jj (λ_=>False)
structure Iu(X:Nat->Prop)(s s':St):Prop where
 sh:s'.sh=s.sh
 low:∀j,j<16->j≠9->s'.ws j=s.ws j
 keep:D6 s s' X
def Iu.refl(X:Nat->Prop)(s:St):Iu X s s:=⟨rfl,λ_ _ _=>rfl,D6.refl _ _⟩
section
variable{X:Nat->Prop}{L:Nat}{s:St}
def O8{s s':St}(h1:s'.hd=s.hd)(h2:s'.sh=s.sh)(o d:Nat):Ej s' o d<->Ej s o d:=by
 unfold Ej hdN;rw[h1,h2]
def WQ:∀(l:List Nat){s:St}(_:BG L s),l.Nodup->(∀o∈l,∃c,AU s o c)->
 ∃a,Et s (l.map Gt)=a/\BG L a/\a.sh=s.sh/\a.hd=s.hd/\(∀b,(b<16\/16+s.sh.BO<=b)->a.ws b=s.ws b)/\∀o c,AU a o c<->AU s o c/\o∉l
 |[],s,d,_,_=>⟨s,rfl,d,rfl,rfl,λ_ _=>rfl,λo c=>by simp⟩
 |o::l,s,d,y,j=>by
  obtain⟨z,A⟩:=GN.1 y;obtain⟨c,u⟩:=j o (Bo ..);obtain⟨G,r,C,m,w,p,k⟩:=Zp d u;obtain⟨a,t,D,n,x,E,B⟩:=WQ l C A (λe i=>by
   obtain⟨f,v⟩:=j e (Bz _ i);exact⟨f,(k e f).2 ⟨v,λq=>z (q▸i)⟩⟩)
  refine⟨a,?_,D,n.trans m,x.trans w,λb g=>(E b (by rw[m];exact g)).trans (p b g),λe F=>?_⟩
  ·rw[<-t];unfold Et;rw[BM,Ald];show List.foldl _ (FM s (Gt o)).1 _=_;rw[show(Gt o)=(o:Int)from rfl,r]
  ·rw[B,k,CG,not_or];exact⟨λh=>⟨h.1.1,h.1.2,h.2⟩,λh=>⟨⟨h.1,h.2.1⟩,h.2.2⟩⟩
def dP:∀(l:List Nat){s:St}(_:BG L s),l.Nodup->(∀o∈l,∃a,AU s o a)->KC s (l.map Gt) 0=(Et s (l.map Gt),0)
 |[],s,_,_,_=>rfl
 |o::l,s,q,m,d=>by
  obtain⟨n,p⟩:=GN.1 m;obtain⟨a,j⟩:=d o (Bo ..);obtain⟨w,i,r,x,v,u,t⟩:=Zp q j;have e:=dP l r p (λf c=>by
   obtain⟨b,k⟩:=d f (Bz _ c);exact⟨b,(t f b).2 ⟨k,λg=>n (g▸c)⟩⟩)
  unfold Et at e⊢;rw[BM,Ald,KC,show(Gt o)=(o:Int)from rfl,i];simpa using e
def oD{e:St}{j:Jb}{B:List Nat}(_:BG L e)(g:Grown L e j B):∃b,Et j.s j.made=b/\BG L b/\(∀o a,¬Ej b o a)/\(∀o,(∃a,AU b o a)<->∃a,AU e o a)/\D6 e b (λ_=>True)/\(∀d,d<16->b.ws d=e.ws d)/\b.sh=e.sh:=by
 obtain⟨b,t,w,m,u,r,l⟩:=WQ B g.ok g.zO (λo v=>(g.tk o).2 (.inr v));refine⟨b,by rw[g.made];exact t,w,λo a h=>g.nh o a ((O8 u m o a).1 h),λo=>?_,λo f _ q=>?_,λd n=>(r d (.inl n)).trans (g.low d n),m.trans g.sh⟩
 ·constructor
  ·rintro⟨a,h⟩;obtain⟨c,i⟩:=(l o a).1 h;exact((g.tk o).1 ⟨a,c⟩).resolve_right i
  ·rintro⟨a,h⟩;obtain⟨c,_⟩:=g.keep o a trivial h;exact⟨a,(l o a).2 ⟨c,λk=>g.new o k a h⟩⟩
 ·obtain⟨c,i⟩:=g.keep o f trivial q;refine⟨(l o f).2 ⟨c,λk=>g.new o k f q⟩,λj p=>?_⟩;rw[r j (.inr ?_),i j p];have:=g.ok.D5 (c.bounds g.ok).1 p;exact this
def Jj.same{s':St}{items:List Kv}(h:Jj X L s items)(g:BG L s')(m:∀o d,¬Ej s' o d)(f:∀o,(∃d,AU s' o d)<->∃d,AU s o d)(l:D6 s s' (λ_=>True))(e:s'.ws 9=s.ws 9):Jj X L s' items:=by
 refine⟨g,m,?_,h.even⟩;rcases h.tree with⟨a,b,c⟩|⟨i,a,b,c,k,j⟩
 ·exact .inl ⟨by rw[e,a],b,λo=>(f o).trans (c o)⟩
 ·exact .inr ⟨i,by rw[e];exact a,by rw[e];exact b.keep h.ok g l (λ_ _=>trivial),c,k,λo=>(f o).trans (j o)⟩
def vC{a b:List UInt8}(h:Op.bytesLess a b=true):a≠b:=λc=>by rw[c,FN]at h;cases h
def Ey{q:List UInt8}{l:List Kv}{a:Kv}:a∈UB q l<->∃b,(b,a.2)∈l/\a.1=q++b:=by
 unfold UB;rw[Dk];constructor
 ·rintro⟨d,h,rfl⟩;exact⟨d.1,h,rfl⟩
 ·rintro⟨b,h,c⟩;exact⟨(b,a.2),h,by cases a;simp only at c;subst c;rfl⟩
def QL(items b:List Kv)(k:List UInt8)(v:UInt64):Prop:=∀a,a∈b<->a=(k,v)\/(a∈items/\a.1≠k)
def Acz(X:Nat->Prop)(L:Nat)(s:St)(items:List Kv)(k:List UInt8)(v:UInt64)(r:St×Int):Prop:=
 Iu X s r.1/\((r.2=6/\Jj X L r.1 items/\∀b∈items,b.1≠k)\/(r.2=0/\∃a,Jj X L r.1 a/\QL items a k v))
def XN(k:List UInt8):NS (Ci k)=true:=xO k
def Afl{items:List Kv}(h:Jj X L s items)(v:s.ws 9=0)(key:List UInt8)(ac:key.length<=16)(l:UInt64)(B:l≠0):Acz X L s items (Ci key) l (Qn s key l):=by
 have d:items=[]/\∀o,(∃c,AU s o c)<->X o:=by
  rcases h.tree with⟨_,J,K⟩|⟨_,I,_⟩
  ·exact⟨J,K⟩
  ·exact absurd v I
 have ad:=Jl key;have p:ER s key=some ([],Ci key):=by
  unfold ER;rw[v,Es,jM rfl]
 have w:=Zr ((Ci key).length+1) (Grown.start h.ok h.nh) 32 (Ci key) l O1 O1 (Z7 key) B;unfold Qn;rw[ku O1,ku B,p];simp only[CV,List.getLast?_nil];generalize Nw ((Ci key).length+1) ⟨s,[]⟩ (Ci key) l=Y at w;obtain⟨b,r,ab⟩:=Y;rcases w with⟨m,Z,a⟩|⟨m,aa,u,a,Q,z,t,p⟩
 ·simp only at m a;subst m;simp only[EG];rw[jM U];obtain⟨ae,H,W,V,T,C,E,G⟩:=oD h.ok a;rw[H];refine⟨⟨G,λb i _=>E b i,λo g _ k=>C o g trivial k⟩,?_⟩;exact .inl ⟨rfl,h.same W V T C (E 9 U),λD n=>by rw[d.1]at n;cases n⟩
 ·simp only at m a Q z t;subst m;rw[EK]at a;simp only[EG,KC];rw[ku Θ];obtain⟨f,j⟩:∃f,f=({b.s with ws:=Dt b.s.ws ((72:Int).toNat/8) r}:St):=⟨_,rfl⟩;rw[<-j];have q:∀e,f.ws e=if e=9 then r else b.s.ws e:=λe=>by rw[j];rfl
  have F:BG L f:=j▸a.ok.words (λe d=>by
   show Dt b.s.ws 9 r (16+e)=_;unfold Dt;rw[ku O1])
  have A:∀o c,AU f o c<->AU b.s o c:=λo c=>by rw[j];exact Iff.rfl
  have y:D6 b.s f (λ_=>True):=λo g _ k=>⟨(A o g).2 k,λe d=>by
   rw[q,ku];have:=a.ok.D5 (k.bounds a.ok).1 d;omega⟩
  have M:∀o∈u,¬X o:=λo R S=>by
   obtain⟨c,N⟩:=(d.2 o).2 S;exact a.new o (p.mem_iff.1 R) c N
  refine⟨⟨by rw[j];exact a.sh,λb i P=>by rw[q,ku P,a.low b i],λo g _ k=>?_⟩,?_⟩
  ·obtain⟨u1,u2⟩:=a.keep o g trivial k;obtain⟨u3,u4⟩:=y o g trivial u1;exact⟨u3,λb i=>(u4 b i).trans (u2 b i)⟩
  right;refine⟨rfl,[(Ci key,l)],?_,λD=>by rw[d.1];simp⟩;refine⟨F,λo c x=>a.nh o c (by rw[j]at x;exact x),.inr ⟨u,by rw[q,jM rfl];exact z,by rw[q,jM rfl];exact t.keep a.ok F y (λ_ _=>trivial),p.nodup_iff.2 a.zO,M,λo=>?_⟩,λD n=>by rw[BQ]at n;subst n;exact XN key⟩;rw[show(∃c,AU f o c)<->∃c,AU b.s o c from exists_congr (A o),a.tk o,p.mem_iff,d.2 o];exact or_comm
end
def Afm(x:Nd)(v:UInt64):DL {x with val:=v}=(DL x).set 2 v:=by
 refine List.ext_getElem? λa=>?_
 rw[List.getElem?_set];by_cases h:2=a
 ·subst h;rw[Ahf,jM rfl,jM];rw[Hm];split<;>omega
 ·rw[ku h,Ahe x v a (λb=>h b.symm)]
section
variable{X:Nat->Prop}{L:Nat}{s:St}
structure PN(L:Nat)(s:St)(items:List Kv)(blocks:List Nat)(key:List UInt8)(last:Pl)(rest' q:List UInt8)(rl:Nat)(nl:UInt64)(parts:List Part)(A B:List Kv)(b1 b2:List Nat)(o:Nat):Prop where
 spot:YA L s 32 (s.ws 9) items blocks 72 (Ci key) last rest' q rl nl parts A B b1 b2
 off:last.off=o
 tk:AU s o (Dp last.nd)
 right:BU last.nd=true
 words:wordsAt s.ws (o/8) (8*Bd (Dp last.nd))=DL last.nd
 n1:o∉b1
 n2:o∉b2
 n3:o∉Bc parts
 d1:∀p∈b1,p∉Bc parts
 d2:∀p∈b2,p∉Bc parts
 d3:∀p∈b1,p∉b2
 m1:b1.Nodup
 m2:b2.Nodup
 m3:(Bc parts).Nodup
 bls:blocks=b1++(o::Bc parts)++b2
structure XO(L:Nat)(s:St)(items:List Kv)(blocks:List Nat)(key:List UInt8)(last:Pl)(rest' q:List UInt8)(rl:Nat)(nl:UInt64)(parts:List Part)(A B:List Kv)(b1 b2:List Nat)(o:Nat):Prop extends PN L s items blocks key last rest' q rl nl parts A B b1 b2 o where
 stop:common last.nd.pre rest'<last.nd.pre.length\/common last.nd.pre rest'=rest'.length\/PU last.nd (rest'.getD (common last.nd.pre rest') 0)=none
def oG(h:BG L s){items:List Kv}{blocks:List Nat}{key rest' q:List UInt8}{last:Pl}{rl:Nat}{nl:UInt64}{parts:List Part}{A B:List Kv}{b1 b2:List Nat}(j:blocks.Nodup)(S:YA L s 32 (s.ws 9) items blocks 72 (Ci key) last rest' q rl nl parts A B b1 b2):
 ∃o,PN L s items blocks key last rest' q rl nl parts A B b1 b2 o:=by
 obtain⟨o,k,m,l,n⟩:=IV h S.rd;have f:last.off=o:=S.off.symm.trans k;have c:=S.bls;rw[f,BJ]at c;have e:=j;rw[c]at e;obtain⟨p,r,d⟩:=Dl.1 e;obtain⟨t,u,i⟩:=Dl.1 p;obtain⟨v,w⟩:=GN.1 u;exact⟨o,⟨S,f,m,l,n,λh=>i _ h _ (Bo ..) rfl,λh=>d _ Θ _ h rfl,v,λg b a=>i _ b _ (Bz _ a) rfl,λg b a=>d _ (by simp[a]) _ b rfl,λg b a=>d _ (by simp[b]) _ a rfl,t,r,w,c⟩⟩
def around(h:BG L s){items:List Kv}{blocks:List Nat}(f:s.ws 9≠0)(d:DX s 32 (s.ws 9) items blocks)(b:blocks.Nodup)(key:List UInt8)(j:key.length<=16):
 ∃i last rest' q rl nl parts A B b1 b2 o,ER s key=some (i++[last],rest')/\XO L s items blocks key last rest' q rl nl parts A B b1 b2 o:=by
 have k:=Jl key;obtain⟨last,rest',q,rl,nl,parts,A,B,b1,b2,c,g,a⟩:=kD h (2*key.length+1) 32 (s.ws 9) items blocks (Ci key) 0 72 [] d b O1 O1 f;obtain⟨o,e⟩:=oG h b a.toYA;exact⟨c,last,rest',q,rl,nl,parts,A,B,b1,b2,o,by unfold ER;rw[g];simp,⟨e,a.stop⟩⟩
variable{items:List Kv}{blocks:List Nat}{key:List UInt8}{last:Pl}{rest' q:List UInt8}{rl:Nat}{nl:UInt64}{parts:List Part}{A B:List Kv}{b1 b2:List Nat}{o:Nat}
def PN.word(i:BG L s)(a:PN L s items blocks key last rest' q rl nl parts A B b1 b2 o):∃b:Nat,last.word=((8*b:Nat):Int)/\s.ws b=nl/\(b<16\/16+s.sh.BO<=b)/\((q=[]/\b=9)\/(q≠[]/\∃p c,p∈b1/\AU s p c/\Hw p c b)):=by
 rcases a.spot.wd with⟨e,f,d⟩|⟨e,p,c,l,f,d,g,j,k⟩
 ·exact⟨9,by rw[f];rfl,d.symm,.inl U,.inl ⟨e,rfl⟩⟩
 ·exact⟨l,j,k,.inr (i.D5 (d.bounds i).1 g),.inr ⟨e,p,c,f,d,g⟩⟩
def PN.other(a:PN L s items blocks key last rest' q rl nl parts A B b1 b2 o)(b:Kv)(h:b∈A\/b∈B):b.1≠Ci key:=by
 rw[a.spot.cut];rcases h with h|h
 ·exact vC (a.spot.lo b h rest')
 ·exact λc=>vC (a.spot.hi b h rest') c.symm
def vF{items:List Kv}{blocks:List Nat}(h:Jj X L s items)(Q:s.ws 9≠0)(ah:∀o,(∃f,AU s o f)<->o∈blocks\/X o)(K:∀o∈blocks,¬X o)(Z:blocks.Nodup)(a:PN L s items blocks key last rest' q rl nl parts A B b1 b2 o)(j:last.nd.pre=rest')(g:UInt64):
 Iu X s (QZ s last g)/\Jj X L (QZ s last g) (A++UB q (BZ {last.nd with val:=g}++Bl last.nd.pre last.nd.labels parts)++B):=by
 have m:=h.ok;obtain⟨ar,V,v,ap,N⟩:=a.word m;have am:=a.tk.bounds m;have e:=a.spot;obtain⟨n,k⟩:=ε (QZ s last g);have w:∀l,n.ws l=if l=o/8+2 then g else s.ws l:=λl=>by
  rw[k];show Dt s.ws (last.off.toNat/8+2) g l=_;rw[a.off,BJ];rfl
 have M:Hw o (Dp last.nd) (o/8+2):=⟨O1,by
  have:=(Gz (O6 last.nd)).2.1;omega⟩
 have aq:=m.D5 am.1 M;have x:BG L n:=by
  rw[k];exact m.words (λl ao=>by
   show Dt s.ws (last.off.toNat/8+2) g (16+l)=_;rw[a.off,BJ];unfold Dt;rw[ku O1])
 have y:∀b f,AU n b f<->AU s b f:=λb f=>by rw[k];exact Iff.rfl
 have C:D6 s n (λb=>b≠o):=λb t j p=>⟨(y b t).2 p,λE u=>by
  rw[w,ku (QK m p a.tk j u M)]⟩
 have ad:FC n nl=some {last.nd with val:=g}:=by
  refine Zq x (e.off.trans a.off) ((y _ _).2 a.tk) (by rw[xW];exact a.right) ?_;rw[show Dp {last.nd with val:=g}=Dp last.nd from rfl,Afm];refine Fz (by simp[wordsAt,Ju]) λr T an=>?_
  have D:r<8*Bd (Dp last.nd):=by simpa[wordsAt]using T
  have ab:s.ws (o/8+r)=(DL last.nd)[r]'(by rw[Ju];exact D):=by
   have:(wordsAt s.ws (o/8) (8*Bd (Dp last.nd)))[r]?=(DL last.nd)[r]?:=by rw[a.words]
   unfold wordsAt at this;rw[DJ,UT D,Ah (by rw[Ju];exact D)]at this;simpa using this
  rw[KX,w,Lc];by_cases c:r=2
  ·rw[jM O1,jM c.symm]
  ·rw[ku O1,ku (λh=>c h.symm)];exact ab
 have G:=DX.mk (s:=n) rl nl {last.nd with val:=g} parts ad e.pre e.kid e.len (λl d i=>(e.sub l d i).keep m x C (λb j c=>a.n3 (c▸UR i j)));rw[e.off,a.off,BJ]at G;have H:=e.swap n nl _ _ x (λc=>by
  rcases N with⟨d,i⟩|⟨d,i⟩
  ·rw[i]at v;exact Q (v.trans c)
  ·have:=e.rd;rw[c]at this;obtain⟨av,aa,ae,_⟩:=IV m this;have:=(ae.bounds m).1;have al:Bf 0=0:=by decide
   rw[al]at aa;have:=m.sh.OI;omega) G (λb t j p=>by
  have ac:b≠o:=λc=>by subst c;exact j.elim a.n1 a.n2
  obtain⟨u1,u2⟩:=C b t ac p;refine⟨u1,λE u=>?_⟩;rw[u2 E u];split
  ·rename_i c;rw[V]at c;rw[<-v];congr 1;omega
  ·rfl)
 have J:n.ws 9=s.ws 9:=by rw[w,ku O1]
 have Y:(if q=[]then nl else s.ws 9)=s.ws 9:=by
  split
  ·rename_i c;rcases N with⟨_,i⟩|⟨d,_⟩
   ·rw[<-v,i]
   ·exact absurd c d
  ·rfl
 rw[Y]at H;have W:Ci key=q++last.nd.pre:=by rw[j];exact e.cut
 refine⟨⟨by rfl,λE u _=>by rw[<-k,w,ku O1],λb t j p=>by rw[<-k];exact C b t (λc=>K o (by rw[a.bls];simp) (c▸j)) p⟩,?_⟩;refine⟨by rw[<-k];exact x,λb f U=>h.nh b f ((O8 (by rfl) (by rfl) b f).1 U),.inr ⟨blocks,by rw[<-k,J];exact Q,?_,Z,K,λb=>?_⟩,?_⟩
 ·rw[<-k,J,a.bls];exact H
 ·rw[<-k,show(∃f,AU n b f)<->∃f,AU s b f from exists_congr (y b)];exact ah b
 ·intro F P;rw[AY]at P;rcases AB.1 P with d|d
  ·exact h.even F (by rw[e.its];simp[d])
  ·rcases AB.1 d with d|d
   ·obtain⟨R,i,I⟩:=Ey.1 d;rcases AB.1 i with z|z
    ·obtain⟨c,_⟩:=Fj z;rw[I];have S:R=last.nd.pre:=congrArg Prod.fst c;rw[S,<-W];exact XN key
    ·refine h.even F ?_;rw[e.its,AY];exact Bj _ (BH _ (Ey.2 ⟨R,Bj _ z,I⟩))
   ·exact h.even F (by rw[e.its];simp[d])
def Afn{items:List Kv}{blocks:List Nat}(h:Jj X L s items)(E:s.ws 9≠0)(G:∀o,(∃w,AU s o w)<->o∈blocks\/X o)(C:∀o∈blocks,¬X o)(F:blocks.Nodup)(a:XO L s items blocks key last rest' q rl nl parts A B b1 b2 o)(u:last.nd.pre=rest')(i:UInt64)(H:i≠0):
 Acz X L s items (Ci key) i (QZ s last i,0):=by
 have g:=a.spot;have k:Ci key=q++last.nd.pre:=by rw[u];exact g.cut
 obtain⟨y,z⟩:=vF h E G C F a.toPN u i;refine⟨y,?_⟩;right;refine⟨rfl,_,z,?_⟩;intro l;have v:∀d,(d,l.2)∈Bl last.nd.pre last.nd.labels parts->q++d≠Ci key:=λd D e=>by
  obtain⟨I,b,j,J,_,n⟩:=EP D;rw[k]at e;have:=E5 e;have x:d=last.nd.pre++last.nd.labels[I]::J.1:=congrArg Prod.fst n;rw[x]at this;have:=congrArg List.length this;simp at this
 constructor
 ·intro t;rw[AY]at t;rcases AB.1 t with b|b
  ·exact .inr ⟨by rw[g.its];simp[b],a.other l (.inl b)⟩
  ·rcases AB.1 b with b|b
   ·obtain⟨d,j,c⟩:=Ey.1 b;rcases AB.1 j with f|f
    ·obtain⟨e,_⟩:=Fj f;left;have m:d=last.nd.pre:=congrArg Prod.fst e;have n:l.2=i:=congrArg Prod.snd e;refine Prod.ext ?_ n;rw[c,m,k]
    ·refine .inr ⟨?_,by rw[c];exact v d f⟩;rw[g.its,AY];exact Bj _ (BH _ (Ey.2 ⟨d,Bj _ f,c⟩))
   ·exact .inr ⟨by rw[g.its];simp[b],a.other l (.inr b)⟩
 ·rintro(rfl|⟨b,j⟩)
  ·rw[AY];refine Bj _ (BH _ (Ey.2 ⟨last.nd.pre,BH _ ?_,k⟩));unfold BZ;rw[jM H];exact BQ.2 rfl
  ·rw[g.its,AY]at b;rw[AY];rcases AB.1 b with c|c
   ·exact BH _ c
   ·rcases AB.1 c with c|c
    ·obtain⟨d,f,r⟩:=Ey.1 c;rcases AB.1 f with p|p
     ·obtain⟨e,_⟩:=Fj p;have m:d=last.nd.pre:=congrArg Prod.fst e;exact absurd (by rw[r,m,k]) j
     ·exact Bj _ (BH _ (Ey.2 ⟨d,Bj _ p,r⟩))
    ·exact Bj _ (Bj _ c)
end
section
variable{X:Nat->Prop}{L:Nat}{s:St}{items:List Kv}{blocks:List Nat}{key:List UInt8}{last:Pl}{rest' q:List UInt8}{rl:Nat}{nl:UInt64}{parts:List Part}{A B:List Kv}{b1 b2:List Nat}{o:Nat}
def kG(h:Jj X L s items)(bi:s.ws 9≠0)(az:∀o,(∃d,AU s o d)<->o∈blocks\/X o)(Q:∀o∈blocks,¬X o)(a:PN L s items blocks key last rest' q rl nl parts A B b1 b2 o){j:Jb}{C:List Nat}(g:Grown L s j C){w:UInt64}(a1:w≠0){R:List Kv}{y:List Nat}
 (a6:DX j.s rl w R y){K D dl:List Nat}(ah:(Bc parts).Perm (K++D))(z:y.Perm (C++K))(aV:dl.Perm (D++[o]))(bg:∀am∈R,NS (q++am.1)=true):
 ∃p,EG j 0 last.word w (dl.map Gt)=(p,0)/\Iu X s p/\Jj X L p (A++UB q R++B):=by
 have x:=h.ok;obtain⟨al,aZ,bt,bw,ab⟩:=a.word x;have ap:=a.spot;obtain⟨I,H⟩:∃I,I=({j.s with ws:=Dt j.s.ws (last.word.toNat/8) w}:St):=⟨_,rfl⟩;have a2:last.word.toNat/8=al:=by rw[aZ,BJ];omega
 have bm:∀f,I.ws f=if f=al then w else j.s.ws f:=λf=>by rw[H,<-a2];rfl
 have ao:=g.sh;have a3:BG L I:=by
  rw[H];refine g.ok.words (λf m=>?_);show Dt j.s.ws (last.word.toNat/8) w (16+f)=_;rw[a2];unfold Dt;rw[ku];rw[ao]at m;omega
 have M:∀b d,AU I b d<->AU j.s b d:=λb d=>by rw[H];exact Iff.rfl
 have T:∀b∈C,∀d,¬AU s b d:=g.new;have av:∀b∈blocks,∃d,AU s b d:=λb i=>(az b).2 (.inl i)
 have bj:o∉C:=λbd=>T o bd _ a.tk
 have bb:=ah.nodup_iff.1 a.m3;obtain⟨bp,bo,bq⟩:=Dl.1 bb;have N:∀b∈D,b∈Bc parts:=λb i=>ah.mem_iff.2 (Bj _ i)
 have P:∀b∈K,b∈Bc parts:=λb i=>ah.mem_iff.2 (BH _ i)
 have ac:∀b∈Bc parts,b∈blocks:=λb i=>by rw[a.bls];simp[i]
 have G:∀b,b∈dl<->b∈D\/b=o:=λb=>by rw[aV.mem_iff];simp
 have aW:dl.Nodup:=aV.nodup_iff.2 (Dl.2 ⟨bo,by simp,λr E aE v l=>by rw[BQ]at v;exact a.n3 (v▸l▸N r E)⟩);have aX:∀b∈dl,∃d,AU I b d:=λb i=>by
  have bl:∃d,AU s b d:=((G b).1 i).elim (λk=>av b (ac b (N b k))) (λl=>⟨_,l▸a.tk⟩);obtain⟨d,k⟩:=bl;exact⟨d,(M b d).2 (g.keep b d trivial k).1⟩
 obtain⟨p,a8,aD,aJ,be,br,W⟩:=WQ dl a3 aW aX;have aL:=dP dl a3 aW aX;rw[a8]at aL;have a4:I.sh=s.sh:=by rw[H];exact ao
 refine⟨p,by unfold EG;rw[ku Θ,<-H];exact aL,?_⟩;have V:∀f,(f<16\/16+s.sh.BO<=f)->p.ws f=if f=al then w else j.s.ws f:=λf m=>by
  rw[br f (by rw[a4];exact m),bm]
 have ar:∀b∈y,b∉dl:=λb Z k=>by
  rcases(G b).1 k with c|c
  ·rcases AB.1 (z.mem_iff.1 Z)with e|e
   ·obtain⟨d,k⟩:=av b (ac b (N b c));exact T b e d k
   ·exact bq b e b c rfl
  ·subst c;rcases AB.1 (z.mem_iff.1 Z)with e|e
   ·exact bj e
   ·exact a.n3 (P _ e)
 have aw:∀b,b∈b1\/b∈b2->b∉dl:=λb i k=>by
  rcases(G b).1 k with c|c
  ·exact i.elim (λh=>a.d1 b h (N b c)) (λh=>a.d2 b h (N b c))
  ·subst c;exact i.elim a.n1 a.n2
 have a5:∀b n,b∈y->AU j.s b n->AU p b n/\∀f,Hw b n f->p.ws f=j.s.ws f:=λb n i u=>by
  refine⟨(W b n).2 ⟨(M b n).2 u,ar b i⟩,λf m=>?_⟩;have J:=g.ok.D5 (u.bounds g.ok).1 m;rw[ao]at J;rw[V f (.inr J),ku];intro l;subst l;rcases ab with⟨_,e⟩|⟨_,an,S,e,t,F⟩
  ·omega
  ·obtain⟨a9,_⟩:=g.keep an S trivial t;refine QK g.ok u a9 (λl=>?_) m F rfl;subst l;rcases AB.1 (z.mem_iff.1 i)with aq|aq
   ·exact T b aq S t
   ·exact a.d1 b e (P b aq)
 have a7:DX p rl w R y:=a6.keep g.ok aD (B:=λb=>b∈y) a5 (λ_ h=>h);have aF:=ap.swap p w R y aD a1 a7 (λb n i u=>by
  obtain⟨u1,u2⟩:=g.keep b n trivial u;refine⟨(W b n).2 ⟨(M b n).2 u1,aw b i⟩,λf m=>?_⟩;have J:=x.D5 (u.bounds x).1 m;rw[V f (.inr J),aZ];by_cases l:f=al
  ·rw[jM l,jM O1]
  ·rw[ku l,ku O1,u2 f m])
 have aM:p.ws 9=if q=[]then w else s.ws 9:=by
  rw[V 9 (.inl U)];rcases ab with⟨c,e⟩|⟨c,an,S,e,t,F⟩
  ·rw[jM e.symm,jM c]
  ·have:=x.D5 (t.bounds x).1 F;rw[ku O1,ku c,g.low 9 U]
 rw[<-aM]at aF;have ba:p.ws 9≠0:=by
  rw[aM];split
  ·exact a1
  ·exact bi
 have aR:∀b∈dl,b∈blocks:=λb i=>((G b).1 i).elim (λh=>ac b (N b h)) (λl=>by rw[l,a.bls];simp)
 have bc:Iu X s p:=⟨aJ.trans a4,λf m bs=>by
  rw[V f (.inl m),ku,g.low f m];rcases ab with⟨_,e⟩|⟨_,an,S,e,t,F⟩
  ·omega
  ·have:=x.D5 (t.bounds x).1 F;omega,λb n i u=>by
  obtain⟨u1,u2⟩:=g.keep b n trivial u;refine⟨(W b n).2 ⟨(M b n).2 u1,λk=>Q b (aR b k) i⟩,λf m=>?_⟩;have J:=x.D5 (u.bounds x).1 m;rw[V f (.inr J),ku,u2 f m];intro l;subst l;rcases ab with⟨_,e⟩|⟨_,an,S,e,t,F⟩
  ·omega
  ·refine QK x u t (λl=>?_) m F rfl;subst l;exact Q b (by rw[a.bls];simp[e]) i⟩
 refine⟨bc,aD,λb d bh=>g.nh b d ((O8 (by rw[be,H]) (by rw[aJ,H]) b d).1 bh),.inr ⟨b1++y++b2,ba,aF,?_,λb i ae=>?_,λb=>?_⟩,?_⟩
 ·have bk:(b1++y++b2).Perm (b1++(C++K)++b2):=List.Perm.append_right _ (List.Perm.append_left _ z);rw[bk.nodup_iff];have Y:∀b∈C,b∉blocks:=λb i Z=>by
   obtain⟨d,k⟩:=av b Z;exact T b i d k
  rw[a.bls]at Y;refine Dl.2 ⟨Dl.2 ⟨a.m1,Dl.2 ⟨g.zO,bp,λr E aE v l=>?_⟩,λr E aE v l=>?_⟩,a.m2,λr E aE v l=>?_⟩
  ·subst l;exact Y r E (by simp[P r v])
  ·subst l;rcases AB.1 v with c|c
   ·exact Y r c (by simp[E])
   ·exact a.d1 r E (P r c)
  ·subst l;rcases AB.1 E with c|c
   ·exact a.d3 r c v
   ·rcases AB.1 c with c|c
    ·exact Y r c (by simp[v])
    ·exact a.d2 r v (P r c)
 ·rcases AB.1 i with c|c
  ·rcases AB.1 c with c|c
   ·exact Q b (by rw[a.bls];simp[c]) ae
   ·rcases AB.1 (z.mem_iff.1 c)with e|e
    ·obtain⟨d,k⟩:=(az b).2 (.inr ae);exact T b e d k
    ·exact Q b (ac b (P b e)) ae
  ·exact Q b (by rw[a.bls];simp[c]) ae
 ·have c:(∃d,AU p b d)<->(∃d,AU j.s b d)/\b∉dl:=by
   constructor
   ·rintro⟨d,k⟩;obtain⟨c,e⟩:=(W b d).1 k;exact⟨⟨d,(M b d).1 c⟩,e⟩
   ·rintro⟨⟨d,k⟩,e⟩;exact⟨d,(W b d).2 ⟨(M b d).2 k,e⟩⟩
  rw[c,g.tk b,az b,G b,a.bls];simp only[AB,CG,z.mem_iff,ah.mem_iff];constructor
  ·rintro⟨c|c,e⟩
   ·rcases c with((c|c|c|c)|c)|c
    ·exact .inl (.inl (.inl c))
    ·exact absurd (.inr c) e
    ·exact .inl (.inl (.inr (.inr c)))
    ·exact absurd (.inl c) e
    ·exact .inl (.inr c)
    ·exact .inr c
   ·exact .inl (.inl (.inr (.inl c)))
  ·have ad:∀b,b∈b1\/b∈b2\/b∈C\/b∈K->¬(b∈D\/b=o):=λb i k=>by
    have aa:=(G b).2 k;rcases i with h|h|h|h
    ·exact aw b (.inl h) aa
    ·exact aw b (.inr h) aa
    ·exact ar b (z.mem_iff.2 (BH _ h)) aa
    ·exact ar b (z.mem_iff.2 (Bj _ h)) aa
   rintro(((c|c|c)|c)|c)
   ·exact⟨.inl (.inl (.inl (.inl c))),ad b (.inl c)⟩
   ·exact⟨.inr c,ad b (.inr (.inr (.inl c)))⟩
   ·exact⟨.inl (.inl (.inl (.inr (.inr (.inl c))))),ad b (.inr (.inr (.inr c)))⟩
   ·exact⟨.inl (.inl (.inr c)),ad b (.inr (.inl c))⟩
   ·exact⟨.inl (.inr c),λk=>Q b (aR b ((G b).2 k)) c⟩
 ·intro am a0;rw[AY]at a0;rcases AB.1 a0 with c|c
  ·exact h.even am (by rw[ap.its];simp[c])
  ·rcases AB.1 c with c|c
   ·obtain⟨bx,e,t⟩:=Ey.1 c;rw[t];exact bg _ e
   ·exact h.even am (by rw[ap.its];simp[c])
def XO.below(a:XO L s items blocks key last rest' q rl nl parts A B b1 b2 o)(f:last.nd.pre≠rest'):∀d,d∈BZ last.nd++Bl last.nd.pre last.nd.labels parts->d.1≠rest':=λd g c=>by
 rcases AB.1 g with b|b
 ·obtain⟨rfl,_⟩:=Fj b;exact f c
 ·obtain⟨i,j,k,l,_,rfl⟩:=EP b;simp only at c;have e:common last.nd.pre rest'=last.nd.pre.length:=by rw[<-c,UI]
  have:Qm last.nd.labels (rest'.getD (common last.nd.pre rest') 0)=false:=by
   rcases a.stop with b|b|b
   ·omega
   ·exact absurd (TA _ _ e b) f
   ·exact kz a.right b
  rw[e,<-c,Bg,List.getElem?_append_right (Ae _),Nat.sub_self]at this;exact TJ _ _ this i j rfl
def Anp(h:Jj X L s items)(Y:s.ws 9≠0)(ac:∀o,(∃P,AU s o P)<->o∈blocks\/X o)(T:∀o∈blocks,¬X o)(_:blocks.Nodup)(ap:key.length<=16)(a:XO L s items blocks key last rest' q rl nl parts A B b1 b2 o)(v:last.nd.pre≠rest')(r:UInt64)(ad:r≠0):
 Acz X L s items (Ci key) r (match Sj ⟨s,[]⟩ last.nd rest' r with|(w,H,g)=>EG w g last.word H [last.off]):=by
 have I:=h.ok;have c:=a.spot;have aD:=Jl key;have aq:q.length+rest'.length=(Ci key).length:=by rw[c.cut,AP]
 have J:rest'.all DV=true:=by
  have:=Z7 key;rw[c.cut,List.all_append,Bool.and_eq_true]at this;exact this.2
 have Z:common last.nd.pre rest'=last.nd.pre.length->Qm last.nd.labels (rest'.getD (common last.nd.pre rest') 0)=false:=λV=>by
  rcases a.stop with b|b|b
  ·omega
  ·exfalso;refine v ?_;exact TA _ _ V b
  ·exact kz a.right b
 have z:=Anm I h.nh a.right c.len c.pre c.kid c.sub (Ω c.lens) J ad v Z;generalize Sj ⟨s,[]⟩ last.nd rest' r=an at z;obtain⟨w,H,g⟩:=an;simp only;rcases z with⟨i,ar,n⟩|⟨i,av,az,aw,n,E,x,aa,u⟩
 ·simp only at i n;subst i;simp only[EG];rw[jM U];obtain⟨ao,m,am,al,ae,F,G,N⟩:=oD I n;rw[m];refine⟨⟨N,λw W _=>G w W,λo O1 _ ab=>F o O1 trivial ab⟩,?_⟩;refine .inl ⟨rfl,h.same am al ae F (G 9 U),λj l g=>?_⟩;rw[c.its,AY]at l;rcases AB.1 l with k|k
  ·exact a.other j (.inl k) g
  ·rcases AB.1 k with k|k
   ·obtain⟨d,Q,R⟩:=Ey.1 k;rw[R,c.cut]at g;exact a.below v _ Q (E5 g)
   ·exact a.other j (.inr k) g
 ·simp only at i n E x;subst i;have t:Ci key=q++rest':=c.cut;have C:∀d p,(d,p)∈BZ last.nd++Bl last.nd.pre last.nd.labels parts->(q++d,p)∈items:=λd p e=>by
   rw[c.its,AY];exact Bj _ (BH _ (Ey.2 ⟨d,e,rfl⟩))
  obtain⟨ao,m,ah,M⟩:=kG h Y ac T a.toPN n E x (K:=Bc parts) (D:=[]) (dl:=[o]) Θ aa Θ (λj l=>by
   obtain⟨d,p⟩:=j;rcases(u _).1 l with e|e
   ·exact h.even _ (C d p e)
   ·have i:d=rest':=congrArg Prod.fst e;show NS (q++d)=true;rw[i,<-t];exact XN key)
  rw[a.off,show[(o:Int)]=[o].map Gt from rfl,m];refine⟨ah,?_⟩;right;refine⟨rfl,_,M,?_⟩;intro j;constructor
  ·intro l;rw[AY]at l;rcases AB.1 l with b|b
   ·exact .inr ⟨by rw[c.its];simp[b],a.other j (.inl b)⟩
   ·rcases AB.1 b with b|b
    ·obtain⟨d,y,f⟩:=Ey.1 b;rcases(u _).1 y with e|e
     ·refine .inr ⟨?_,?_⟩
      ·have:=C d j.2 e
       rwa [<-f]at this
      ·rw[f,t];intro g;exact a.below v _ e (E5 g)
     ·left;have i:d=rest':=congrArg Prod.fst e;have m:j.2=r:=congrArg Prod.snd e;exact Prod.ext (by rw[f,i,t]) m
    ·exact .inr ⟨by rw[c.its];simp[b],a.other j (.inr b)⟩
  ·rintro(rfl|⟨b,y⟩)
   ·rw[AY];exact Bj _ (BH _ (Ey.2 ⟨rest',(u _).2 (.inr rfl),t⟩))
   ·rw[c.its,AY]at b;rw[AY];rcases AB.1 b with f|f
    ·exact BH _ f
    ·rcases AB.1 f with f|f
     ·obtain⟨d,e,S⟩:=Ey.1 f;exact Bj _ (BH _ (Ey.2 ⟨d,(u _).2 (.inl e),S⟩))
     ·exact Bj _ (Bj _ f)
def dQ(h:Jj X L s items)(key:List UInt8)(e:key.length<=16)(a:UInt64)(d:a≠0):Acz X L s items (Ci key) a (Qn s key a):=by
 by_cases i:s.ws 9=0
 ·exact Afl h i key e a d
 ·rcases h.tree with⟨b,_⟩|⟨blocks,b,l,f,j,k⟩
  ·exact absurd b i
  ·obtain⟨p,last,rest',q,rl,nl,parts,A,B,b1,b2,o,n,g⟩:=around h.ok b l f key e;unfold Qn;rw[ku O1,ku d,n];have m:(p++[last]).getLast?=some last:=by simp
   simp only[CV,m];by_cases c:last.nd.pre=rest'
   ·rw[jM c];exact Afn h b k j f g c a d
   ·rw[ku c];exact Anp h b k j f e g c a d
def WR(h:Jj X L s items):∃b:List Nat,DW s=some (items.map (λa=>(pairs a.1,a.2)),b.map Gt)/\b.Nodup/\(∀o∈b,¬X o)/\∀o,(∃f,AU s o f)<->o∈b\/X o:=by
 rcases h.tree with⟨c,g,i⟩|⟨blocks,c,e,d,j,l⟩
 ·refine⟨[],?_,List.nodup_nil,(λ_ h=>nomatch h),λo=>by simp[i o]⟩;unfold DW;rw[jM c,g];rfl
 ·refine⟨blocks,?_,d,j,l⟩;unfold DW;rw[ku c];have:=e.Aqx h.ok 34 [] [] [] U U d (λ_ _ h=>by cases h) (λa k=>h.even a k);simpa using this
end
section
variable{L:Nat}{s:St}
def Ph:∀(f:Nat)(b:UInt64)(rest:List UInt8)(d:UInt8)(e:Int)(a:List Pl),Es s f b rest d e a=(Es s f b rest d e []).map λg=>(a++g.1,g.2)
 |0,_,_,_,_,a=>by simp[Es]
 |f+1,b,rest,d,e,a=>by
  rw[Es,Es];split
  ·simp
  ·split
   ·rfl
   ·rename_i i _;split
    ·simp
    ·split
     ·simp
     ·rename_i c j _;rw[Ph f c _ _ _ (a++_),Ph f c _ _ _ ([]++_)];cases Es s f c (rest.drop (common i.pre rest+1)) (rest.getD (common i.pre rest) 0) (Bf b+8*j) []<;>simp
def kH{f:Nat}{g:UInt64}{rest:List UInt8}{e:UInt8}{i:Int}{d:List Pl}{m:List UInt8}(h:Es s (f+1) g rest e i []=some (d,m))(l:g≠0):∃a j,d=a::j/\a.label=e/\a.word=i:=by
 rw[Es,ku l]at h;split at h
 ·cases h
 ·rename_i a _;split at h
  ·injection h with h;injection h with b c
   exact⟨_,_,b.symm,rfl,rfl⟩
  ·split at h
   ·injection h with h;injection h with b c
    exact⟨_,_,b.symm,rfl,rfl⟩
   ·rw[Ph]at h;obtain⟨o,_,c⟩:=QS.1 h;injection c with k n
    exact⟨_,_,k.symm,rfl,rfl⟩
def oH(z:BG L s):∀(m f r:Nat)(g:UInt64)(items:List Kv)(blocks:List Nat)(rest:List UInt8)(y:UInt8)(n:Int),DX s r g items blocks->blocks.Nodup->rest.length<f->rest.length<=r->g≠0->
 ∀(j:List Pl)(C:List UInt8),Es s f g rest y n []=some (j,C)->m+1<j.length->
 ∃d rest' q rl nl parts A B b1 b2 b k D,j[m]?=some d/\YA L s r g items blocks n rest d rest' q rl nl parts A B b1 b2/\∃(l:b<d.nd.kids.length)(G:b<d.nd.labels.length),
  d.nd.pre++d.nd.labels[b]::rest'.drop (d.nd.pre.length+1)=rest'/\(rest'.drop (d.nd.pre.length+1)).length<k/\d.nd.kids[b]≠0/\Es s k d.nd.kids[b] (rest'.drop (d.nd.pre.length+1)) d.nd.labels[b] D []=some (j.drop (m+1),C)
 |m,0,_,_,_,_,_,_,_,_,_,h,_,_,_,_,_,_=>absurd h O1
 |m,f+1,r,g,items,blocks,rest,y,n,al,N,aw,aD,ae,j,C,a,e=>by
  cases al with
  |mk _ _ c parts x Q F M u=>
   obtain⟨o,ah,am,w,an⟩:=IV z x;rw[Es,ku ae,x]at a
   dsimp only at a
   by_cases l:common c.pre rest<c.pre.length\/common c.pre rest=rest.length
   ·rw[jM l]at a;injection a with a;injection a with a _
    rw[<-a]at e;simp at e
   ·rw[ku l]at a;cases v:PU c (rest.getD (common c.pre rest) 0)with
    |none=>
     rw[v]at a;injection a with a;injection a with a _
     rw[<-a]at e;simp at e
    |some ap=>
     obtain⟨aE,aF⟩:=ap;obtain⟨ab,az,b,i,J,rfl,rfl,ad,hcut⟩:=XM w l v;rw[v]at a;simp only at a;rw[ab,<-ad,Ph]at a;obtain⟨ar,P,G⟩:=QS.1 a;obtain⟨S,av⟩:=ar;injection G with H I
     simp only at H I;subst I;subst H;have t:b<parts.length:=O1;have ac:=F (λp=>by rw[p]at i;simp at i);have K:c.kids[b]≠0:=λp=>((Bh c).1 w).2.2.2.2.2 b i (by rw[p];rfl)
     have E:=(GN.1 N).2;rw[LD parts b t]at E;have aq:=(Dl.1 (Dl.1 E).2.1).1
     match m,e with
     |0,e=>exact⟨⟨c,Bf g,y,n⟩,rest,[],r,g,parts,[],[],[],[],b,f,_,by simp,XL x Q F M u,i,J,hcut,by rw[AQ];show rest.length-(c.pre.length+1)<f;omega,K,by simpa using P⟩
     |m+1,e=>
      obtain⟨d,rest',q,rl,nl,T,A,B,b1,b2,ao,k,D,U,R,V,W,X,Y,Z,aa⟩:=oH z m f (r-c.pre.length-1) c.kids[b] parts[b].items parts[b].blocks (rest.drop (c.pre.length+1)) c.labels[b] (Bf g+8*(Qa c b:Nat)) (u b i t) aq (by rw[AQ];omega) (by rw[AQ];omega) K S av P (by simpa using e);exact⟨d,rest',_,rl,nl,T,_,_,_,_,ao,k,D,by simpa using U,kC z ah am w an Q M u N i J t ac hcut R,V,W,X,Y,Z,by simpa using aa⟩
def XP(Q:BG L s):∀(f r:Nat)(d:UInt64)(items:List Kv)(blocks:List Nat)(rest:List UInt8)(m:UInt8)(q:Int),DX s r d items blocks->rest.length<f->d≠0->
 ∀(e:List Pl)(p:List UInt8)(last:Pl),Es s f d rest m q []=some (e,p)->CV e p=some last->last.nd.kids.length=0->last.nd.val≠0->
 (∀g l,g+1<e.length->e[g]?=some l->l.nd.val=0/\l.nd.kids.length=1)->items=[(rest,last.nd.val)]/\blocks.map Gt=e.map (·.off)
 |0,_,_,_,_,_,_,_,_,h,_,_,_,_,_,_,_,_,_=>absurd h O1
 |f+1,r,d,items,blocks,rest,m,q,y,ap,ac,e,p,last,b,c,E,z,M=>by
  cases y with
  |mk _ _ a parts K aw an ar Y=>
   obtain⟨o,ad,az,x,aD⟩:=IV Q K;rw[Es,ku ac,K]at b
   dsimp only at b
   have H:Gt (Bf d).toNat=Bf d:=by rw[ad,BJ];rfl
   have R:[(⟨a,Bf d,m,q⟩:Pl)]=e->rest=p->BZ a++Bl a.pre a.labels parts=[(rest,last.nd.val)]/\((Bf d).toNat::Bc parts).map Gt=e.map (·.off):=λj k=>by
    subst j;subst k;unfold CV at c;simp only[List.getLast?_singleton]at c;split at c
    ·rename_i J;injection c with c
     subst c;simp only at E z J⊢;have w:parts=[]:=List.length_eq_zero_iff.1 O1;subst w;unfold BZ;rw[jM z,J];have:Bl rest a.labels []=[]:=by cases a.labels<;>rfl
     rw[this];exact⟨rfl,by rw[BM,H];rfl⟩
    ·cases c
   by_cases u:common a.pre rest<a.pre.length\/common a.pre rest=rest.length
   ·rw[jM u]at b;injection b with b;injection b with j k
    exact R (by simpa using j) k
   ·rw[ku u]at b;cases v:PU a (rest.getD (common a.pre rest) 0)with
    |none=>
     rw[v]at b;injection b with b;injection b with j k
     exact R (by simpa using j) k
    |some al=>
     obtain⟨aE,aF⟩:=al;obtain⟨W,av,g,D,aq,rfl,rfl,aa,hcut⟩:=XM x u v;rw[v]at b;simp only at b;rw[W,<-aa,Ph]at b;obtain⟨i,I,V⟩:=QS.1 b;obtain⟨ao,S⟩:=i;injection V with B C
     simp only at B C;subst C;subst B;have F:a.kids[g]≠0:=λU=>((Bh a).1 x).2.2.2.2.2 g D (by rw[U];rfl)
     obtain⟨t,rfl⟩:∃t,f=t+1:=⟨f-1,O1⟩;obtain⟨T,A,rfl,_,_⟩:=kH I F;obtain⟨N,Z⟩:=M 0 ⟨a,Bf d,m,q⟩ Θ Θ;simp only at N Z;obtain rfl:g=0:=O1;have ab:a.labels.length=1:=Ω (((Bh a).1 x).2.2.1);obtain⟨i,w⟩:∃i,parts=[i]:=qp.1 O1;subst w;obtain⟨n,G⟩:∃n,a.labels=[n]:=qp.1 ab;have ae:CV (T::A) S=some last:=by
      unfold CV at c⊢;simpa using c
     have P:=XP Q (t+1) (r-a.pre.length-1) a.kids[0] i.items i.blocks (rest.drop (a.pre.length+1)) a.labels[0] _ (Y 0 D Θ) (by rw[AQ];omega) F (T::A) S last I ae E z (λam l y ah=>M (am+1) l (by simpa using y) (by simpa using ah));refine⟨?_,?_⟩
     ·have X:a.pre++n::rest.drop (a.pre.length+1)=rest:=by
       have:a.labels[0]=n:=by simp[G]
       rw[this]at hcut;exact hcut
      rw[G];unfold BZ;rw[ku (by simp[N])];simp only[Bl,EK,Ib,P.1,FK,BM,FP];rw[X]
     ·simp only[Bc,BM,FP,List.flatten_cons,List.flatten_nil,Ib];rw[P.2,H];rfl
def dR(b:List Pl):∀(m:Nat)(_:m<b.length)(f:List Int),∃a,a<=m/\Ho b m f=(a,f++(((b.drop a).take (m-a)).map (·.off)).reverse)/\∀c d,a<=c->c<m->b[c]?=some d->d.nd.val=0/\d.nd.kids.length=1
 |0,_,f=>⟨0,Ae _,by simp[Ho],λc d n g=>absurd g O1⟩
 |m+1,h,f=>by
  have i:m<b.length:=O1;rw[Ho,Ah i,Ah h]
  dsimp only
  split
  ·rename_i p;obtain⟨a,n,g,o⟩:=dR b m i (f++[b[m].off]);refine⟨a,O1,?_,λc d j k e=>?_⟩
   ·rw[g,show m+1-a=(m-a)+1 by omega,List.take_succ_eq_append_getElem (by rw[AQ];omega),List.map_append,List.reverse_append];have:(b.drop a)[m-a]'(by rw[AQ];omega)=b[m]:=by rw[YK];congr 1;omega
    simp[this]
   ·by_cases l:c=m
    ·subst l;rw[Ah i]at e;injection e with e
     exact e▸p
    ·exact o c d j O1 e
  ·exact⟨m+1,Ae _,by simp,λc d j k=>absurd k O1⟩
end
