import Derived.Test.YtekhjimghoibfaaGreatDoorI19
set_option linter.defProp false
open List renaming mem_cons_self->BA,mem_cons_of_mem->BO,getElem_set->KL,length_set->Di,getD_eq_getElem?_getD->Bo,getElem?_eq_getElem->Ae,drop_eq_getElem_cons->EO,append_assoc->AV,nodup_cons->H9,nodup_append->CJ,getElem?_map->CB,getElem?_range->TW,cons_append->Cj,length_append->AY,mem_append->AL,mem_map->BM,length_drop->AU,getElem_drop->XY,ext_getElem->EC,getElem_set_self->Rl,getElem_set_ne->zJ,mem_flatten->QW,map_cons->Ci,foldl_cons->Ai3,mem_cons->Ea,nil_append->EX,mem_singleton->BG,mem_append_right->Bj,mem_append_left->BJ,append_cancel_left->ED,length_eq_one_iff->nH,append_nil->bZ,map_nil->Gv
open Int renaming toNat_natCast->BU,ofNat->BZ
open Nat renaming le_refl->Ad
open Option renaming map_eq_some_iff->Qc
namespace Go.Proofs.YtekhjimghoibfaaGreatDoor
def Gf(ws:Nat->UInt64)(a n b:Nat)(h:b<(wordsAt ws a n).length):(wordsAt ws a n)[b]=ws (a+b):=by
 simp[wordsAt]
def Sj:∀(c:List UInt8)(b:List UInt64)(row:List UInt64)(a:Nat)(k:UInt64),(∀d∈c,4+d.toNat≠a)->Dw (row.set a k) c b=(Dw row c b).set a k
 |[],b,row,a,k,_=>by cases b<;>simp[Dw]
 |e::c,[],row,a,k,_=>by simp[Dw]
 |e::c,g::b,row,a,k,h=>by
  rw[Dw,Dw,<-List.set_comm _ _ (h e (BA ..)),Sj c b _ a k (λd f=>h d (BO _ f))]
def Sl:∀(a:List UInt8)(b:List UInt64)(row:List UInt64)(i:Nat)(k:UInt64)(h1:i<a.length),a.length=b.length->ER a=true->Dw row a (b.set i k)=(Dw row a b).set (4+a[i].toNat) k
 |f::a,g::b,row,0,k,_,_,e=>by
  obtain⟨_,j⟩:=RU e;rw[List.set_cons_zero,Dw,Dw];have c:∀d∈a,4+d.toNat≠4+f.toNat:=λd l=>Ω (j d l)
  rw[Sj a b row _ k c,Sj a b row _ g c];simp only[List.getElem_cons_zero,List.set_set]
 |f::a,g::b,row,i+1,k,h1,m,e=>by
  obtain⟨c,_⟩:=RU e;rw[List.set_cons_succ,Dw,Dw,Sl a b _ i k (by simpa using h1) (by simpa using m) c];rfl
def KG(x:Nd)(i:Nat)(k:UInt64):Nd:={x with kids:=x.kids.set i k}
def rD{x:Nd}(h:Cf x=true)(i:Nat){k:UInt64}(m:k≠0):Cf (KG x i k)=true:=by
 obtain⟨d,e,f,g,j,l⟩:=(Bv x).1 h;rw[Bv];have c:∀a(b:a<(x.kids.set i k).length),(x.kids.set i k)[a].toNat≠0:=λa b=>by
  rw[KL];split
  ·exact Ahl m
  ·exact l a (by rwa [Di]at b)
 exact⟨d,e,by show _=(x.kids.set i k).length;rw[Di];exact f,g,j,c⟩
def XI(x:Nd)(i:Nat)(k:UInt64):Dl (KG x i k)=Dl x:=by
 unfold Dl KG;rw[Di]
def Adj{x:Nd}(h:Cf x=true){i:Nat}(hi:i<x.kids.length)(k:UInt64):DT (KG x i k)=(DT x).set (Py x i) k:=by
 obtain⟨d,e,b,f,c,g⟩:=(Bv x).1 h;unfold DT Py;rw[show(KG x i k).kids=x.kids.set i k from rfl,Di];by_cases a:x.kids.length<=4
 ·rw[if_pos a,if_pos a,if_pos a];unfold encS;rw[show(KG x i k).kids=x.kids.set i k from rfl,show(KG x i k).pre=x.pre from rfl,show(KG x i k).val=x.val from rfl,show(KG x i k).labels=x.labels from rfl,Di];rw[List.set_append_left _ _ (by simp;omega),List.set_append_right _ _ Θ];simp
 ·rw[if_neg a,if_neg a,if_neg a];unfold Rt;rw[show headB (KG x i k)=headB x by unfold headB;rw[show(KG x i k).kids=x.kids.set i k from rfl,Di];rfl,show(KG x i k).labels=x.labels from rfl,show(KG x i k).kids=x.kids.set i k from rfl];rw[Sl x.labels x.kids (headB x) i k O b c,XH O]
def Adk{x:Nd}(h:Cf x=true){c:UInt8}{g:UInt64}{i:Nat}(b:OY x c=some (g,i)):∃(a:Nat)(k:a<x.kids.length)(l:a<x.labels.length),x.labels[a]=c/\g=x.kids[a]/\i=Py x a:=by
 have m:=((Bv x).1 h).2.2.1;unfold OY at b;split at b
 ·rename_i a e;rw[if_pos h]at b;simp only[Option.some.injEq,Prod.mk.injEq]at b;unfold Jk at e;obtain⟨f,j,_⟩:=List.findIdx?_eq_some_iff_getElem.1 e;have d:x.labels[a]=c:=UInt8.toNat_inj.1 (by simpa using j);refine⟨a,O,f,d,?_,?_⟩
  ·rw[<-b.1,Bo,Ae O];rfl
  ·rw[<-b.2];unfold Py;rw[XH f,d]
 ·cases b
def iF{x:Nd}(h:Cf x=true){c:UInt8}(a:OY x c=none):PE x.labels c=false:=by
 unfold OY at a;split at a
 ·rw[if_pos h]at a;cases a
 ·rename_i b;unfold Jk at b;rw[List.findIdx?_eq_none_iff]at b;unfold PE;rw[List.any_eq_false];intro e d;have:=b e d;simpa using this
def Sm(pre:List UInt8)(a:List UInt8)(b:List Part)(i:Nat)(h1:i<a.length)(h2:i<b.length)(h:a.length=b.length):
 Bl pre a b=Bl pre (a.take i) (b.take i)++(Fa pre a[i] b[i].items++Bl pre (a.drop (i+1)) (b.drop (i+1))):=by
 rw[Si pre a b i h,EO h1,EO h2];rfl
def La(a:List Part)(i:Nat)(h2:i<a.length):AX a=AX (a.take i)++(a[i].blocks++AX (a.drop (i+1))):=by
 rw[QR a i,EO h2];rfl
def TE(q:List UInt8)(l:List Kv):List Kv:=l.map λa=>(q++a.1,a.2)
def rE(l:List Kv):TE [] l=l:=by simp[TE]
def XJ(pre:List UInt8)(lb:UInt8)(q:List UInt8)(A l B:List Kv):Fa pre lb (A++TE q l++B)=Fa pre lb A++TE (pre++lb::q) l++Fa pre lb B:=by
 unfold Fa TE;simp[List.map_map,Function.comp_def,AV]
structure XK(L:Nat)(s:St)(r:Nat)(name:UInt64)(items:List Kv)(blocks:List Nat)(word:Int)(rest:List UInt8)(last:Pl)(rest' q:List UInt8)(rl:Nat)(nl:UInt64)(parts:List Part)(A B:List Kv)(b1 b2:List Nat):Prop where
 rd:FN s nl=some last.nd
 off:Bg nl=last.off
 pre:last.nd.pre.length<=rl
 kid:last.nd.kids≠[]->last.nd.pre.length+1<=rl
 len:parts.length=last.nd.kids.length
 sub:∀i(h1:i<last.nd.kids.length)(h2:i<parts.length),DV s (rl-last.nd.pre.length-1) last.nd.kids[i] parts[i].items parts[i].blocks
 cut:rest=q++rest'
 lens:q.length+rl=r
 its:items=A++TE q (Cc last.nd++Bl last.nd.pre last.nd.labels parts)++B
 bls:blocks=b1++(last.off.toNat::AX parts)++b2
 lo:∀kv∈A,∀t,Op.bytesLess kv.1 (q++t)=true
 hi:∀kv∈B,∀t,Op.bytesLess (q++t) kv.1=true
 wd:(q=[]/\last.word=word/\nl=name)\/(q≠[]/\∃p c j,p∈b1/\AO s p c/\Ho p c j/\last.word=((8*j:Nat):Int)/\s.ws j=nl)
 swap:∀(s':St)(name':UInt64)(WS:List Kv)(U5:List Nat),Bq L s'->name'≠0->DV s' rl name' WS U5->(∀o c,(o∈b1\/o∈b2)->AO s o c->AO s' o c/\∀j,Ho o c j->s'.ws j=if((8*j:Nat):Int)=last.word then name' else s.ws j)->
  DV s' r (if q=[]then name' else name) (A++TE q WS++B) (b1++U5++b2)
structure Avx(L:Nat)(s:St)(r:Nat)(name:UInt64)(items:List Kv)(blocks:List Nat)(word:Int)(rest:List UInt8)(last:Pl)(rest' q:List UInt8)(rl:Nat)(nl:UInt64)(parts:List Part)(A B:List Kv)(b1 b2:List Nat):Prop extends XK L s r name items blocks word rest last rest' q rl nl parts A B b1 b2 where
 stop:common last.nd.pre rest'<last.nd.pre.length\/common last.nd.pre rest'=rest'.length\/OY last.nd (rest'.getD (common last.nd.pre rest') 0)=none
section
variable{L:Nat}{s:St}
def Sr(a:Bq L s){o p c b d k:Nat}(h:AO s o c)(e:AO s p b)(j:o≠p)(g:Ho o c d)(i:Ho p b k):d≠k:=λf=>by
 subst f;exact Nl (qY a h e j) (h.bounds a).2.2 (e.bounds a).2.2 g i
def iG(M:Bq L s){r:Nat}{w:UInt64}{a:Nd}{parts:List Part}{o:Nat}{rest ac:List UInt8}{bw:Int}{i:Nat}(u:Bg w=o)(K:AO s o (Dl a))(D:Cf a=true)(aw:wordsAt s.ws (o/8) (8*Bf (Dl a))=DT a)
 (bd:a.pre.length<=r)(a9:parts.length=a.kids.length)
 (a6:∀i(h1:i<a.kids.length)(h2:i<parts.length),DV s (r-a.pre.length-1) a.kids[i] parts[i].items parts[i].blocks)(bb:((Bg w).toNat::AX parts).Nodup)(C:i<a.kids.length)(Q:i<a.labels.length)(R:i<parts.length)(a8:a.pre.length+1<=r)(hcut:a.pre++a.labels[i]::ac=rest)
 {last:Pl}{rest' p:List UInt8}{rl:Nat}{nl:UInt64}{al:List Part}{q t:List Kv}{k l:List Nat}
 (S:XK L s (r-a.pre.length-1) a.kids[i] parts[i].items parts[i].blocks (Bg w+8*(Py a i:Nat)) ac last rest' p rl nl al q t k l):
 XK L s r w (Cc a++Bl a.pre a.labels parts) ((Bg w).toNat::AX parts) bw rest last rest' (a.pre++a.labels[i]::p) rl nl al (Cc a++Bl a.pre (a.labels.take i) (parts.take i)++Fa a.pre a.labels[i] q) (Fa a.pre a.labels[i] t++Bl a.pre (a.labels.drop (i+1)) (parts.drop (i+1))) (o::AX (parts.take i)++k) (l++AX (parts.drop (i+1))):=by
 have X:=(Bv a).1 D;obtain⟨I,bx⟩:=H9.1 bb;have H:=La parts i R;have ad:=bx;rw[H]at ad;obtain⟨bN,bl,bm⟩:=CJ.1 ad;obtain⟨bO,bR,bo⟩:=CJ.1 bl;rw[u]at I;rw[BU]at I;obtain⟨bV,bW,_⟩:=y9 a D i C;have J:(DT a)[Py a i]?=some a.kids[i]:=Aaw a D i C;have bS:=K.bounds M;have ba:=Jp a;have be:Ho o (Dl a) (o/8+Py a i):=⟨O,O⟩;have aB:s.ws (o/8+Py a i)=a.kids[i]:=by
  rw[<-aw]at J;unfold wordsAt at J;rw[CB,TW O]at J;simpa using J
 have az:∃c g d,(c=o\/c∈k)/\AO s c g/\Ho c g d/\last.word=((8*d:Nat):Int)/\s.ws d=nl:=by
  rcases S.wd with⟨m,n,am⟩|⟨_,c,g,d,h1,h2,a3,a4,a5⟩
  ·refine⟨o,_,_,.inl rfl,K,be,?_,by rw[aB,am]⟩;rw[n,u];omega
  ·exact⟨c,g,d,.inr h1,h2,a3,a4,a5⟩
 have af:∀c∈k,c∈parts[i].blocks:=λc j=>by rw[S.bls];simp[j]
 have bA:∀c∈l,c∈parts[i].blocks:=λc j=>by rw[S.bls];simp[j]
 have aG:∀d(h:d<a.labels.length),d<i->a.labels[d].toNat<a.labels[i].toNat:=λd h T=>IC _ X.2.2.2.2.1 d i T Q
 have aE:∀d(h:d<a.labels.length),i<d->a.labels[i].toNat<a.labels[d].toNat:=λd h T=>IC _ X.2.2.2.2.1 i d T h
 refine⟨S.rd,S.off,S.pre,S.kid,S.len,S.sub,?_,?_,?_,?_,?_,?_,?_,?_⟩
 ·rw[AV,Cj,<-S.cut];exact hcut.symm
 ·have:=S.lens;simp only[AY,List.length_cons];omega
 ·rw[Sm a.pre a.labels parts i Q R O,S.its,XJ];simp only[AV]
 ·rw[u,BU,H,S.bls];simp only[AV,Cj]
 ·intro bk W b;rw[AV,Cj];rcases AL.1 W with h|h
  ·rcases AL.1 h with h|h
   ·obtain⟨rfl,_⟩:=FH h;exact iD _ _ _
   ·obtain⟨d,Y,bi,v,_,rfl⟩:=EW h;simp only[List.length_take]at Y;rw[List.getElem_take,Ob];exact U1 (aG d O O) _ _
  ·obtain⟨v,z,rfl⟩:=BM.1 h;have:=S.lo v z b;show Op.bytesLess (a.pre++a.labels[i]::v.1) _=true;rw[Ob];simp[Op.bytesLess,this]
 ·intro bk W b;rw[AV,Cj];rcases AL.1 W with h|h
  ·obtain⟨v,z,rfl⟩:=BM.1 h;have:=S.hi v z b;show Op.bytesLess _ (a.pre++a.labels[i]::v.1)=true;rw[Ob];simp[Op.bytesLess,this]
  ·obtain⟨d,Y,bi,v,_,rfl⟩:=EW h;simp only[AU]at Y;rw[XY,Ob];exact U1 (aE _ O O) _ _
 ·right;refine⟨by simp,?_⟩;obtain⟨c,g,d,h1,h2⟩:=az;refine⟨c,g,d,?_,h2⟩;rcases h1 with rfl|h1
  ·simp
  ·simp[h1]
 ·intro ab Z y x aa ar a0 U;obtain⟨bt,bE,bL,aM,aR,aH,aL,bB⟩:=az;have aD:∀c g d,c≠bt->AO s c g->Ho c g d->¬((8*d:Nat):Int)=last.word:=λc g d j A G e=>by
   have:=Sr M A aR j G aH;rw[aL]at e;omega
  have ah:=S.swap ab Z y x aa ar a0 (λc g j A=>U c g (by
   rcases j with j|j
   ·left;simp[j]
   ·right;simp[j]) A)
  obtain⟨f,E⟩:∃bj,bj=(if p=[]then Z else a.kids[i]):=⟨_,rfl⟩;rw[<-E]at ah;have a7:f≠0:=by
   rw[E];split
   ·exact ar
   ·exact λe=>X.2.2.2.2.2 i C (by rw[e];rfl)
  obtain⟨t1,t2⟩:=U o _ (by left;simp) K;have bg:FN ab w=some (KG a i f):=by
   refine Y2 aa u (by rw[XI];exact t1) (rD D i a7) ?_;rw[XI,Adj D C f];refine EC (by simp[wordsAt,ba]) λb P ao=>?_
   have bh:b<8*Bf (Dl a):=by simpa[wordsAt]using P
   have av:s.ws (o/8+b)=(DT a)[b]' O:=by
    have:(wordsAt s.ws (o/8) (8*Bf (Dl a)))[b]?=(DT a)[b]?:=by rw[aw]
    unfold wordsAt at this;rw[CB,TW bh,Ae O]at this;simpa using this
   have ap:Ho o (Dl a) (o/8+b):=⟨O,O⟩;rw[Gf,t2 _ ap,KL];rcases S.wd with⟨m,n,am⟩|⟨m,c,g,d,bp,bq,br,bs,bT⟩
   ·have V:f=Z:=by rw[E,if_pos m]
    by_cases e:b=Py a i
    ·rw[if_pos (by rw[n,u];omega),if_pos e.symm,V]
    ·rw[if_neg (by rw[n,u];omega),if_neg (λh=>e h.symm)];exact av
   ·have V:f=a.kids[i]:=by rw[E,if_neg m]
    have bc:c≠o:=λe=>I (by rw[<-e,H];simp[af c bp])
    have:¬((8*(o/8+b):Nat):Int)=last.word:=λe=>by
     have:=Sr M K bq (λe=>bc e.symm) ap br;rw[bs]at e;omega
    rw[if_neg this];by_cases e:Py a i=b
    ·subst e;rw[if_pos rfl,V,aB]
    ·rw[if_neg e];exact av
  have F:=DV.mk (s:=ab) r w (KG a i f) (parts.set i ⟨q++TE p y++t,k++x++l⟩) bg bd (λ_=>a8) (by show _=(a.kids.set i f).length;rw[Di,Di];exact a9) (λb P ao=>by
   have an:b<a.kids.length:=by have:b<(a.kids.set i f).length:=P;rwa [Di]at this
   have a2:b<parts.length:=by rwa [Di]at ao
   by_cases e:i=b
   ·subst e;have m:(KG a i f).kids[i]=f:=by show(a.kids.set i f)[i]'(by rw[Di];exact C)=f;rw[Rl]
    have n:(parts.set i ⟨q++TE p y++t,k++x++l⟩)[i]=⟨q++TE p y++t,k++x++l⟩:=by rw[Rl]
    rw[m,n];exact ah
   ·have m:(KG a i f).kids[b]=a.kids[b]:=by show(a.kids.set i f)[b]'(by rw[Di];exact an)=a.kids[b];rw[zJ e]
    have n:(parts.set i ⟨q++TE p y++t,k++x++l⟩)[b]=parts[b]:=by rw[zJ e]
    rw[m,n];refine(a6 b an a2).keep M aa (B:=λc=>c∈parts[b].blocks) (λc g j A=>?_) (λ_ h=>h);have N:c∈AX (parts.take i)\/c∈AX (parts.drop (i+1)):=by
     unfold AX;rcases Nat.lt_or_gt_of_ne e with h|h
     ·right;exact QW.2 ⟨_,BM.2 ⟨parts[b],List.mem_drop_iff_getElem.2 ⟨b-(i+1),O,by simp only[show i+1+(b-(i+1))=b by omega]⟩,rfl⟩,j⟩
     ·left;exact QW.2 ⟨_,BM.2 ⟨parts[b],List.mem_take_iff_getElem.2 ⟨b,O,rfl⟩,rfl⟩,j⟩
    obtain⟨u1,u2⟩:=U c g (by
     rcases N with h|h
     ·left;simp[h]
     ·right;simp[h]) A
    refine⟨u1,λd G=>?_⟩;rw[u2 d G,if_neg];refine aD c g d (λa1=>?_) A G;subst a1;rcases aM with h|h
    ·subst h;refine I ?_;rw[H];rcases N with h|h<;>simp[h]
    ·have z:=af _ h;rcases N with h2|h2
     ·exact bm _ h2 _ (by simp[z]) rfl
     ·exact bo _ z _ h2 rfl)
  rw[if_neg Θ];have aq:i<(parts.set i (⟨q++TE p y++t,k++x++l⟩:Part)).length:=by rw[Di];exact R
  rw[u,BU,show(KG a i f).pre=a.pre from rfl,show(KG a i f).labels=a.labels from rfl,show Cc (KG a i f)=Cc a from rfl,
   Sm a.pre a.labels _ i Q aq (by rw[Di];omega),La _ i aq]at F
  simp only[Rl,List.take_set_of_le (Ad i),List.drop_set_of_lt (Nat.lt_succ_self i)]at F;rw[XJ]at F;simpa only[AV,Cj]using F
def WU{r:Nat}{c:UInt64}{a:Nd}{parts:List Part}{rest:List UInt8}{l:UInt8}{d:Int}(k:FN s c=some a)(j:a.pre.length<=r)(e:a.kids≠[]->a.pre.length+1<=r)(i:parts.length=a.kids.length)
 (g:∀b(h1:b<a.kids.length)(h2:b<parts.length),DV s (r-a.pre.length-1) a.kids[b] parts[b].items parts[b].blocks):
 XK L s r c (Cc a++Bl a.pre a.labels parts) ((Bg c).toNat::AX parts) d rest ⟨a,Bg c,l,d⟩ rest [] r c parts [] [] [] []:=
 ⟨k,rfl,j,e,i,g,rfl,by simp,by simp[rE],by simp,(λ_ h=>by cases h),(λ_ h=>by cases h),.inl ⟨rfl,rfl,rfl⟩,λp o n m _ _ f _=>by simpa[rE]using f⟩
def WV{a:Nd}{rest:List UInt8}{j:UInt64}{k:Nat}(m:Cf a=true)(h1:¬(common a.pre rest<a.pre.length\/common a.pre rest=rest.length))(l:OY a (rest.getD (common a.pre rest) 0)=some (j,k)):
 common a.pre rest=a.pre.length/\a.pre.length<rest.length/\∃(b:Nat)(f:b<a.kids.length)(g:b<a.labels.length),j=a.kids[b]/\k=Py a b/\a.labels[b]=rest.getD a.pre.length 0/\a.pre++a.labels[b]::rest.drop (a.pre.length+1)=rest:=by
 obtain⟨b,f,g,d,rfl,rfl⟩:=Adk m l;have e:common a.pre rest=a.pre.length:=Ω (Jh a.pre rest);have i:a.pre.length<rest.length:=Ω (FM a.pre rest);have c:=Rq a.pre rest;rw[e]at c d;rw[List.take_length]at c;have hcut:=Akw i;rw[<-c,<-d]at hcut;exact⟨e,i,b,f,g,rfl,rfl,d,hcut⟩
def iH(x:Bq L s):∀(f r:Nat)(b:UInt64)(items:List Kv)(blocks:List Nat)(rest:List UInt8)(e:UInt8)(d:Int)(l:List Pl),DV s r b items blocks->blocks.Nodup->rest.length<f->rest.length<=r->b≠0->
 ∃last rest' q rl nl parts A B b1 b2 m,Et s f b rest e d l=some (l++m++[last],rest')/\Avx L s r b items blocks d rest last rest' q rl nl parts A B b1 b2
 |0,_,_,_,_,_,_,_,_,_,_,h,_,_=>absurd h O
 |f+1,r,b,items,blocks,rest,e,d,l,M,C,W,Z,J=>by
  cases M with
  |mk _ _ a parts k v n u j=>
   obtain⟨o,K,N,w,P⟩:=Ii x k;rw[Et,if_neg J,k]
   dsimp only
   by_cases i:common a.pre rest<a.pre.length\/common a.pre rest=rest.length
   ·rw[if_pos i];exact⟨⟨a,Bg b,e,d⟩,_,_,_,_,_,_,_,_,_,[],by simp,⟨WU k v n u j,i.imp id .inl⟩⟩
   ·rw[if_neg i];cases z:OY a (rest.getD (common a.pre rest) 0)with
    |none=>exact⟨⟨a,Bg b,e,d⟩,_,_,_,_,_,_,_,_,_,[],by simp,⟨WU k v n u j,.inr (.inr z)⟩⟩
    |some Q=>
     obtain⟨aa,ab⟩:=Q;obtain⟨G,Y,c,g,H,rfl,rfl,X,hcut⟩:=WV w i z;have t:c<parts.length:=O;have I:=n (λp=>by rw[p]at g;simp at g);have E:=(H9.1 C).2;rw[La parts c t]at E;have R:=(CJ.1 (CJ.1 E).2.1).1;obtain⟨last,rest',ac,rl,nl,F,S,T,U,V,m,D,y⟩:=iH x f (r-a.pre.length-1) a.kids[c] parts[c].items parts[c].blocks (rest.drop (a.pre.length+1)) (rest.getD (common a.pre rest) 0) (Bg b+8*(Py a c:Nat)) (l++[⟨a,Bg b,e,d⟩]) (j c g t) R (by rw[AU];omega) (by rw[AU];omega) (λp=>((Bv a).1 w).2.2.2.2.2 c g (by rw[p];rfl));simp only;rw[G]at D⊢;exact⟨last,rest',_,rl,nl,F,_,_,_,_,⟨a,Bg b,e,d⟩::m,by rw[D];simp,⟨iG x K N w P v u j C g H t I hcut y.toXK,y.stop⟩⟩
end
structure IW(X:Nat->Prop)(L:Nat)(s:St)(items:List Kv):Prop where
 ok:Bq L s
 nh:∀o d,¬Eo s o d
 tree:(s.ws 9=0/\items=[]/\∀o,(∃d,AO s o d)<->X o)\/(∃blocks,s.ws 9≠0/\DV s 32 (s.ws 9) items blocks/\blocks.Nodup/\(∀o∈blocks,¬X o)/\∀o,(∃d,AO s o d)<->o∈blocks\/X o)
 even:∀kv∈items,J8 kv.1=true
abbrev Av2:=IW (λ_=>False)
structure Ij(X:Nat->Prop)(s s':St):Prop where
 sh:s'.sh=s.sh
 low:∀j,j<16->j≠9->s'.ws j=s.ws j
 keep:DI s s' X
def Ij.refl(X:Nat->Prop)(s:St):Ij X s s:=⟨rfl,λ_ _ _=>rfl,DI.refl _ _⟩
section
variable{X:Nat->Prop}{L:Nat}{s:St}
def Oc{s s':St}(h1:s'.hd=s.hd)(h2:s'.sh=s.sh)(o a:Nat):Eo s' o a<->Eo s o a:=by
 unfold Eo hdN;rw[h1,h2]
def V3:∀(l:List Nat){s:St}(_:Bq L s),l.Nodup->(∀o∈l,∃c,AO s o c)->
 ∃a,Ez s (l.map BZ)=a/\Bq L a/\a.sh=s.sh/\a.hd=s.hd/\(∀b,(b<16\/16+s.sh.BQ<=b)->a.ws b=s.ws b)/\∀o c,AO a o c<->AO s o c/\o∉l
 |[],s,d,_,_=>⟨s,rfl,d,rfl,rfl,λ_ _=>rfl,λo c=>by simp⟩
 |o::l,s,d,x,j=>by
  obtain⟨y,z⟩:=H9.1 x;obtain⟨c,t⟩:=j o (BA ..);obtain⟨G,q,C,m,v,n,k⟩:=Vz d t;obtain⟨a,r,D,A,w,E,B⟩:=V3 l C z (λe i=>by
   obtain⟨f,u⟩:=j e (BO _ i);exact⟨f,(k e f).2 ⟨u,λp=>y (p▸i)⟩⟩)
  refine⟨a,?_,D,A.trans m,w.trans v,λb g=>(E b (by rw[m];exact g)).trans (n b g),λe F=>?_⟩
  ·rw[<-r];unfold Ez;rw[Ci,Ai3];show List.foldl _ (Fj s (BZ o)).1 _=_;rw[show(BZ o)=(o:Int)from rfl,q]
  ·rw[B,k,Ea,not_or];exact⟨λh=>⟨h.1.1,h.1.2,h.2⟩,λh=>⟨⟨h.1,h.2.1⟩,h.2.2⟩⟩
def aC:∀(l:List Nat){s:St}(_:Bq L s),l.Nodup->(∀o∈l,∃a,AO s o a)->JZ s (l.map BZ) 0=(Ez s (l.map BZ),0)
 |[],s,_,_,_=>rfl
 |o::l,s,q,m,d=>by
  obtain⟨n,p⟩:=H9.1 m;obtain⟨a,j⟩:=d o (BA ..);obtain⟨w,i,r,x,v,u,t⟩:=Vz q j;have e:=aC l r p (λf c=>by
   obtain⟨b,k⟩:=d f (BO _ c);exact⟨b,(t f b).2 ⟨k,λg=>n (g▸c)⟩⟩)
  unfold Ez at e⊢;rw[Ci,Ai3,JZ,show(BZ o)=(o:Int)from rfl,i];simpa using e
def lq{s0:St}{e:Jb}{B:List Nat}(_:Bq L s0)(g:Grown L s0 e B):∃b,Ez e.s e.made=b/\Bq L b/\(∀o a,¬Eo b o a)/\(∀o,(∃a,AO b o a)<->∃a,AO s0 o a)/\DI s0 b (λ_=>True)/\(∀d,d<16->b.ws d=s0.ws d)/\b.sh=s0.sh:=by
 obtain⟨b,r,v,p,t,q,k⟩:=V3 B g.ok g.xP (λo u=>(g.tk o).2 (.inr u));refine⟨b,by rw[g.made];exact r,v,λo a h=>g.nh o a ((Oc t p o a).1 h),λo=>?_,λo f _ n=>?_,λd l=>(q d (.inl l)).trans (g.low d l),p.trans g.sh⟩
 ·constructor
  ·rintro⟨a,h⟩;obtain⟨c,i⟩:=(k o a).1 h;exact((g.tk o).1 ⟨a,c⟩).resolve_right i
  ·rintro⟨a,h⟩;obtain⟨c,_⟩:=g.keep o a trivial h;exact⟨a,(k o a).2 ⟨c,λj=>g.new o j a h⟩⟩
 ·obtain⟨c,i⟩:=g.keep o f trivial n;refine⟨(k o f).2 ⟨c,λj=>g.new o j f n⟩,λe m=>?_⟩;rw[q e (.inr ?_),i e m];have:=g.ok.Dy (c.bounds g.ok).1 m;exact this
def IW.same{s':St}{items:List Kv}(h:IW X L s items)(g:Bq L s')(m:∀o d,¬Eo s' o d)(f:∀o,(∃d,AO s' o d)<->∃d,AO s o d)(l:DI s s' (λ_=>True))(e:s'.ws 9=s.ws 9):IW X L s' items:=by
 refine⟨g,m,?_,h.even⟩;rcases h.tree with⟨a,b,c⟩|⟨i,a,b,c,k,j⟩
 ·exact .inl ⟨by rw[e,a],b,λo=>(f o).trans (c o)⟩
 ·exact .inr ⟨i,by rw[e];exact a,by rw[e];exact b.keep h.ok g l (λ_ _=>trivial),c,k,λo=>(f o).trans (j o)⟩
def rF{a b:List UInt8}(h:Op.bytesLess a b=true):a≠b:=λc=>by rw[c,EU]at h;cases h
def E8{q:List UInt8}{l:List Kv}{a:Kv}:a∈TE q l<->∃b,(b,a.2)∈l/\a.1=q++b:=by
 unfold TE;rw[BM];constructor
 ·rintro⟨d,h,rfl⟩;exact⟨d.1,h,rfl⟩
 ·rintro⟨b,h,c⟩;exact⟨(b,a.2),h,by cases a;simp only at c;subst c;rfl⟩
def PY(items b:List Kv)(k:List UInt8)(v:UInt64):Prop:=∀a,a∈b<->a=(k,v)\/(a∈items/\a.1≠k)
def Aaz(X:Nat->Prop)(L:Nat)(s:St)(items:List Kv)(k:List UInt8)(v:UInt64)(r:St×Int):Prop:=
 Ij X s r.1/\((r.2=6/\IW X L r.1 items/\∀b∈items,b.1≠k)\/(r.2=0/\∃a,IW X L r.1 a/\PY items a k v))
def WW(k:List UInt8):J8 (CG k)=true:=ve k
def Adl{items:List Kv}(h:IW X L s items)(v:s.ws 9=0)(key:List UInt8)(ac:key.length<=16)(l:UInt64)(B:l≠0):Aaz X L s items (CG key) l (JD s key l):=by
 have d:items=[]/\∀o,(∃c,AO s o c)<->X o:=by
  rcases h.tree with⟨_,I,J⟩|⟨_,H,_⟩
  ·exact⟨I,J⟩
  ·exact absurd v H
 have ad:=KC key;have p:EY s key=some ([],CG key):=by
  unfold EY;rw[v,Et,if_pos rfl]
 have w:=Y3 ((CG key).length+1) (Grown.start h.ok h.nh) 32 (CG key) l O O (YH key) B;unfold JD;rw[if_neg O,if_neg B,p];simp only[CX,List.getLast?_nil];generalize MV ((CG key).length+1) ⟨s,[]⟩ (CG key) l=Y at w;obtain⟨b,r,ab⟩:=Y;rcases w with⟨m,Z,a⟩|⟨m,aa,u,a,P,z,t,p⟩
 ·simp only at m a;subst m;simp only[EI];rw[if_pos U];obtain⟨af,G,W,V,T,C,E,S⟩:=lq h.ok a;rw[G];refine⟨⟨S,λb i _=>E b i,λo g _ k=>C o g trivial k⟩,?_⟩;exact .inl ⟨rfl,h.same W V T C (E 9 U),λD n=>by rw[d.1]at n;cases n⟩
 ·simp only at m a P z t;subst m;rw[EX]at a;simp only[EI,JZ];rw[if_neg Θ];obtain⟨f,j⟩:∃f,f=({b.s with ws:=D9 b.s.ws ((72:Int).toNat/8) r}:St):=⟨_,rfl⟩;rw[<-j];have q:∀e,f.ws e=if e=9 then r else b.s.ws e:=λe=>by rw[j];rfl
  have F:Bq L f:=j▸a.ok.words (λe d=>by
   show D9 b.s.ws 9 r (16+e)=_;unfold D9;rw[if_neg O])
  have A:∀o c,AO f o c<->AO b.s o c:=λo c=>by rw[j];exact Iff.rfl
  have y:DI b.s f (λ_=>True):=λo g _ k=>⟨(A o g).2 k,λe d=>by
   rw[q,if_neg];have:=a.ok.Dy (k.bounds a.ok).1 d;omega⟩
  have K:∀o∈u,¬X o:=λo Q R=>by
   obtain⟨c,M⟩:=(d.2 o).2 R;exact a.new o (p.mem_iff.1 Q) c M
  refine⟨⟨by rw[j];exact a.sh,λb i N=>by rw[q,if_neg N,a.low b i],λo g _ k=>?_⟩,?_⟩
  ·obtain⟨u1,u2⟩:=a.keep o g trivial k;obtain⟨u3,u4⟩:=y o g trivial u1;exact⟨u3,λb i=>(u4 b i).trans (u2 b i)⟩
  right;refine⟨rfl,[(CG key,l)],?_,λD=>by rw[d.1];simp⟩;refine⟨F,λo c x=>a.nh o c (by rw[j]at x;exact x),.inr ⟨u,by rw[q,if_pos rfl];exact z,by rw[q,if_pos rfl];exact t.keep a.ok F y (λ_ _=>trivial),p.nodup_iff.2 a.xP,K,λo=>?_⟩,λD n=>by rw[BG]at n;subst n;exact WW key⟩;rw[show(∃c,AO f o c)<->∃c,AO b.s o c from exists_congr (A o),a.tk o,p.mem_iff,d.2 o];exact or_comm
end
def Adm(x:Nd)(v:UInt64):DT {x with val:=v}=(DT x).set 2 v:=by
 have c:(DT {x with val:=v}).length=(DT x).length:=by rw[Fb,Fb]
 refine List.ext_getElem? λa=>?_
 rw[List.getElem?_set];by_cases h:2=a
 ·subst h;rw[Afm,if_pos rfl,if_pos];rw[Fb];split<;>omega
 ·rw[if_neg h,Afl x v a (λb=>h b.symm)]
section
variable{X:Nat->Prop}{L:Nat}{s:St}
structure OV(L:Nat)(s:St)(items:List Kv)(blocks:List Nat)(key:List UInt8)(last:Pl)(rest' q:List UInt8)(rl:Nat)(nl:UInt64)(parts:List Part)(A B:List Kv)(b1 b2:List Nat)(o:Nat):Prop where
 spot:XK L s 32 (s.ws 9) items blocks 72 (CG key) last rest' q rl nl parts A B b1 b2
 off:last.off=o
 tk:AO s o (Dl last.nd)
 right:Cf last.nd=true
 words:wordsAt s.ws (o/8) (8*Bf (Dl last.nd))=DT last.nd
 n1:o∉b1
 n2:o∉b2
 n3:o∉AX parts
 d1:∀p∈b1,p∉AX parts
 d2:∀p∈b2,p∉AX parts
 d3:∀p∈b1,p∉b2
 m1:b1.Nodup
 m2:b2.Nodup
 m3:(AX parts).Nodup
 bls:blocks=b1++(o::AX parts)++b2
structure WX(L:Nat)(s:St)(items:List Kv)(blocks:List Nat)(key:List UInt8)(last:Pl)(rest' q:List UInt8)(rl:Nat)(nl:UInt64)(parts:List Part)(A B:List Kv)(b1 b2:List Nat)(o:Nat):Prop extends OV L s items blocks key last rest' q rl nl parts A B b1 b2 o where
 stop:common last.nd.pre rest'<last.nd.pre.length\/common last.nd.pre rest'=rest'.length\/OY last.nd (rest'.getD (common last.nd.pre rest') 0)=none
def lu(h:Bq L s){items:List Kv}{blocks:List Nat}{key rest' q:List UInt8}{last:Pl}{rl:Nat}{nl:UInt64}{parts:List Part}{A B:List Kv}{b1 b2:List Nat}(j:blocks.Nodup)(S:XK L s 32 (s.ws 9) items blocks 72 (CG key) last rest' q rl nl parts A B b1 b2):
 ∃o,OV L s items blocks key last rest' q rl nl parts A B b1 b2 o:=by
 obtain⟨o,k,m,l,n⟩:=Ii h S.rd;have f:last.off=o:=S.off.symm.trans k;have c:=S.bls;rw[f,BU]at c;have e:=j;rw[c]at e;obtain⟨p,r,d⟩:=CJ.1 e;obtain⟨t,u,i⟩:=CJ.1 p;obtain⟨v,w⟩:=H9.1 u;exact⟨o,⟨S,f,m,l,n,λh=>i _ h _ (BA ..) rfl,λh=>d _ Θ _ h rfl,v,λg b a=>i _ b _ (BO _ a) rfl,λg b a=>d _ (by simp[a]) _ b rfl,λg b a=>d _ (by simp[b]) _ a rfl,t,r,w,c⟩⟩
def around(h:Bq L s){items:List Kv}{blocks:List Nat}(f:s.ws 9≠0)(d:DV s 32 (s.ws 9) items blocks)(b:blocks.Nodup)(key:List UInt8)(j:key.length<=16):
 ∃i last rest' q rl nl parts A B b1 b2 o,EY s key=some (i++[last],rest')/\WX L s items blocks key last rest' q rl nl parts A B b1 b2 o:=by
 have k:=KC key;obtain⟨last,rest',q,rl,nl,parts,A,B,b1,b2,c,g,a⟩:=iH h (2*key.length+1) 32 (s.ws 9) items blocks (CG key) 0 72 [] d b O O f;obtain⟨o,e⟩:=lu h b a.toXK;exact⟨c,last,rest',q,rl,nl,parts,A,B,b1,b2,o,by unfold EY;rw[g];simp,⟨e,a.stop⟩⟩
variable{items:List Kv}{blocks:List Nat}{key:List UInt8}{last:Pl}{rest' q:List UInt8}{rl:Nat}{nl:UInt64}{parts:List Part}{A B:List Kv}{b1 b2:List Nat}{o:Nat}
def OV.word(i:Bq L s)(a:OV L s items blocks key last rest' q rl nl parts A B b1 b2 o):∃b:Nat,last.word=((8*b:Nat):Int)/\s.ws b=nl/\(b<16\/16+s.sh.BQ<=b)/\((q=[]/\b=9)\/(q≠[]/\∃p c,p∈b1/\AO s p c/\Ho p c b)):=by
 rcases a.spot.wd with⟨e,f,d⟩|⟨e,p,c,l,f,d,g,j,k⟩
 ·exact⟨9,by rw[f];rfl,d.symm,.inl U,.inl ⟨e,rfl⟩⟩
 ·exact⟨l,j,k,.inr (i.Dy (d.bounds i).1 g),.inr ⟨e,p,c,f,d,g⟩⟩
def OV.other(a:OV L s items blocks key last rest' q rl nl parts A B b1 b2 o)(b:Kv)(h:b∈A\/b∈B):b.1≠CG key:=by
 rw[a.spot.cut];rcases h with h|h
 ·exact rF (a.spot.lo b h rest')
 ·exact λc=>rF (a.spot.hi b h rest') c.symm
def rG{items:List Kv}{blocks:List Nat}(h:IW X L s items)(Q:s.ws 9≠0)(ah:∀o,(∃f,AO s o f)<->o∈blocks\/X o)(K:∀o∈blocks,¬X o)(Z:blocks.Nodup)(a:OV L s items blocks key last rest' q rl nl parts A B b1 b2 o)(j:last.nd.pre=rest')(g:UInt64):
 Ij X s (Qk s last g)/\IW X L (Qk s last g) (A++TE q (Cc {last.nd with val:=g}++Bl last.nd.pre last.nd.labels parts)++B):=by
 have m:=h.ok;obtain⟨ar,V,v,ap,N⟩:=a.word m;have am:=a.tk.bounds m;have e:=a.spot;obtain⟨n,k⟩:=ε (Qk s last g);have w:∀l,n.ws l=if l=o/8+2 then g else s.ws l:=λl=>by
  rw[k];show D9 s.ws (last.off.toNat/8+2) g l=_;rw[a.off,BU];rfl
 have M:Ho o (Dl last.nd) (o/8+2):=⟨O,by
  have:=(FD (Oa last.nd)).2.1;omega⟩
 have aq:=m.Dy am.1 M;have x:Bq L n:=by
  rw[k];exact m.words (λl ao=>by
   show D9 s.ws (last.off.toNat/8+2) g (16+l)=_;rw[a.off,BU];unfold D9;rw[if_neg O])
 have y:∀b f,AO n b f<->AO s b f:=λb f=>by rw[k];exact Iff.rfl
 have C:DI s n (λb=>b≠o):=λb t j p=>⟨(y b t).2 p,λE u=>by
  rw[w,if_neg (Sr m p a.tk j u M)]⟩
 have ad:FN n nl=some {last.nd with val:=g}:=by
  refine Y2 x (e.off.trans a.off) ((y _ _).2 a.tk) (by rw[vG];exact a.right) ?_;rw[show Dl {last.nd with val:=g}=Dl last.nd from rfl,Adm];refine EC (by simp[wordsAt,Jp]) λr T an=>?_
  have D:r<8*Bf (Dl last.nd):=by simpa[wordsAt]using T
  have ab:s.ws (o/8+r)=(DT last.nd)[r]'(by rw[Jp];exact D):=by
   have:(wordsAt s.ws (o/8) (8*Bf (Dl last.nd)))[r]?=(DT last.nd)[r]?:=by rw[a.words]
   unfold wordsAt at this;rw[CB,TW D,Ae (by rw[Jp];exact D)]at this;simpa using this
  rw[Gf,w,KL];by_cases c:r=2
  ·rw[if_pos O,if_pos c.symm]
  ·rw[if_neg O,if_neg (λh=>c h.symm)];exact ab
 have G:=DV.mk (s:=n) rl nl {last.nd with val:=g} parts ad e.pre e.kid e.len (λl d i=>(e.sub l d i).keep m x C (λb j c=>a.n3 (c▸TU i j)));rw[e.off,a.off,BU]at G;have H:=e.swap n nl _ _ x (λc=>by
  rcases N with⟨d,i⟩|⟨d,i⟩
  ·rw[i]at v;exact Q (v.trans c)
  ·have:=e.rd;rw[c]at this;obtain⟨av,aa,af,_⟩:=Ii m this;have:=(af.bounds m).1;have al:Bg 0=0:=by decide
   rw[al]at aa;have:=m.sh.KT;omega) G (λb t j p=>by
  have ac:b≠o:=λc=>by subst c;exact j.elim a.n1 a.n2
  obtain⟨u1,u2⟩:=C b t ac p;refine⟨u1,λE u=>?_⟩;rw[u2 E u];split
  ·rename_i c;rw[V]at c;rw[<-v];congr 1;omega
  ·rfl)
 have J:n.ws 9=s.ws 9:=by rw[w,if_neg O]
 have Y:(if q=[]then nl else s.ws 9)=s.ws 9:=by
  split
  ·rename_i c;rcases N with⟨_,i⟩|⟨d,_⟩
   ·rw[<-v,i]
   ·exact absurd c d
  ·rfl
 rw[Y]at H;have W:CG key=q++last.nd.pre:=by rw[j];exact e.cut
 refine⟨⟨by rfl,λE u _=>by rw[<-k,w,if_neg O],λb t j p=>by rw[<-k];exact C b t (λc=>K o (by rw[a.bls];simp) (c▸j)) p⟩,?_⟩;refine⟨by rw[<-k];exact x,λb f U=>h.nh b f ((Oc (by rfl) (by rfl) b f).1 U),.inr ⟨blocks,by rw[<-k,J];exact Q,?_,Z,K,λb=>?_⟩,?_⟩
 ·rw[<-k,J,a.bls];exact H
 ·rw[<-k,show(∃f,AO n b f)<->∃f,AO s b f from exists_congr (y b)];exact ah b
 ·intro F P;rw[AV]at P;rcases AL.1 P with d|d
  ·exact h.even F (by rw[e.its];simp[d])
  ·rcases AL.1 d with d|d
   ·obtain⟨R,i,I⟩:=E8.1 d;rcases AL.1 i with z|z
    ·obtain⟨c,_⟩:=FH z;rw[I];have S:R=last.nd.pre:=congrArg Prod.fst c;rw[S,<-W];exact WW key
    ·refine h.even F ?_;rw[e.its,AV];exact Bj _ (BJ _ (E8.2 ⟨R,Bj _ z,I⟩))
   ·exact h.even F (by rw[e.its];simp[d])
def Adn{items:List Kv}{blocks:List Nat}(h:IW X L s items)(E:s.ws 9≠0)(G:∀o,(∃w,AO s o w)<->o∈blocks\/X o)(C:∀o∈blocks,¬X o)(F:blocks.Nodup)(a:WX L s items blocks key last rest' q rl nl parts A B b1 b2 o)(u:last.nd.pre=rest')(i:UInt64)(H:i≠0):
 Aaz X L s items (CG key) i (Qk s last i,0):=by
 have g:=a.spot;have k:CG key=q++last.nd.pre:=by rw[u];exact g.cut
 obtain⟨y,z⟩:=rG h E G C F a.toOV u i;refine⟨y,?_⟩;right;refine⟨rfl,_,z,?_⟩;intro l;have v:∀d,(d,l.2)∈Bl last.nd.pre last.nd.labels parts->q++d≠CG key:=λd D e=>by
  obtain⟨I,b,j,J,_,n⟩:=EW D;rw[k]at e;have:=ED e;have x:d=last.nd.pre++last.nd.labels[I]::J.1:=congrArg Prod.fst n;rw[x]at this;have:=congrArg List.length this;simp at this
 constructor
 ·intro t;rw[AV]at t;rcases AL.1 t with b|b
  ·exact .inr ⟨by rw[g.its];simp[b],a.other l (.inl b)⟩
  ·rcases AL.1 b with b|b
   ·obtain⟨d,j,c⟩:=E8.1 b;rcases AL.1 j with f|f
    ·obtain⟨e,_⟩:=FH f;left;have m:d=last.nd.pre:=congrArg Prod.fst e;have n:l.2=i:=congrArg Prod.snd e;refine Prod.ext ?_ n;rw[c,m,k]
    ·refine .inr ⟨?_,by rw[c];exact v d f⟩;rw[g.its,AV];exact Bj _ (BJ _ (E8.2 ⟨d,Bj _ f,c⟩))
   ·exact .inr ⟨by rw[g.its];simp[b],a.other l (.inr b)⟩
 ·rintro(rfl|⟨b,j⟩)
  ·rw[AV];refine Bj _ (BJ _ (E8.2 ⟨last.nd.pre,BJ _ ?_,k⟩));unfold Cc;rw[if_pos H];exact BG.2 rfl
  ·rw[g.its,AV]at b;rw[AV];rcases AL.1 b with c|c
   ·exact BJ _ c
   ·rcases AL.1 c with c|c
    ·obtain⟨d,f,r⟩:=E8.1 c;rcases AL.1 f with p|p
     ·obtain⟨e,_⟩:=FH p;have m:d=last.nd.pre:=congrArg Prod.fst e;exact absurd (by rw[r,m,k]) j
     ·exact Bj _ (BJ _ (E8.2 ⟨d,Bj _ p,r⟩))
    ·exact Bj _ (Bj _ c)
end
section
variable{X:Nat->Prop}{L:Nat}{s:St}{items:List Kv}{blocks:List Nat}{key:List UInt8}{last:Pl}{rest' q:List UInt8}{rl:Nat}{nl:UInt64}{parts:List Part}{A B:List Kv}{b1 b2:List Nat}{o:Nat}
def iL(h:IW X L s items)(bl:s.ws 9≠0)(az:∀o,(∃d,AO s o d)<->o∈blocks\/X o)(Q:∀o∈blocks,¬X o)(a:OV L s items blocks key last rest' q rl nl parts A B b1 b2 o){r:Jb}{C:List Nat}(g:Grown L s r C){w:UInt64}(a5:w≠0){R:List Kv}{y:List Nat}
 (a9:DV r.s rl w R y){K D dl:List Nat}(ah:(AX parts).Perm (K++D))(z:y.Perm (C++K))(a0:dl.Perm (D++[o]))(bj:∀am∈R,J8 (q++am.1)=true):
 ∃n,EI r 0 last.word w (dl.map BZ)=(n,0)/\Ij X s n/\IW X L n (A++TE q R++B):=by
 have x:=h.ok;obtain⟨al,a3,bA,bB,ab⟩:=a.word x;have ap:=a.spot;obtain⟨I,H⟩:∃I,I=({r.s with ws:=D9 r.s.ws (last.word.toNat/8) w}:St):=⟨_,rfl⟩;have aH:last.word.toNat/8=al:=by rw[a3,BU];omega
 have bq:∀f,I.ws f=if f=al then w else r.s.ws f:=λf=>by rw[H,<-aH];rfl
 have ao:=g.sh;have a7:Bq L I:=by
  rw[H];refine g.ok.words (λf l=>?_);show D9 r.s.ws (last.word.toNat/8) w (16+f)=_;rw[aH];unfold D9;rw[if_neg];rw[ao]at l;omega
 have M:∀b d,AO I b d<->AO r.s b d:=λb d=>by rw[H];exact Iff.rfl
 have T:∀b∈C,∀d,¬AO s b d:=g.new;have av:∀b∈blocks,∃d,AO s b d:=λb i=>(az b).2 (.inl i)
 have bm:o∉C:=λbh=>T o bh _ a.tk
 have be:=ah.nodup_iff.1 a.m3;obtain⟨bs,br,bt⟩:=CJ.1 be;have N:∀b∈D,b∈AX parts:=λb i=>ah.mem_iff.2 (Bj _ i)
 have P:∀b∈K,b∈AX parts:=λb i=>ah.mem_iff.2 (BJ _ i)
 have ac:∀b∈AX parts,b∈blocks:=λb i=>by rw[a.bls];simp[i]
 have G:∀b,b∈dl<->b∈D\/b=o:=λb=>by rw[a0.mem_iff];simp
 have a1:dl.Nodup:=a0.nodup_iff.2 (CJ.2 ⟨br,by simp,λp E aD v k=>by rw[BG]at v;exact a.n3 (v▸k▸N p E)⟩);have a2:∀b∈dl,∃d,AO I b d:=λb i=>by
  have bp:∃d,AO s b d:=((G b).1 i).elim (λj=>av b (ac b (N b j))) (λk=>⟨_,k▸a.tk⟩);obtain⟨d,j⟩:=bp;exact⟨d,(M b d).2 (g.keep b d trivial j).1⟩
 obtain⟨n,bb,aB,a6,bi,bw,W⟩:=V3 dl a7 a1 a2;have aL:=aC dl a7 a1 a2;rw[bb]at aL;have aG:I.sh=s.sh:=by rw[H];exact ao
 refine⟨n,by unfold EI;rw[if_neg Θ,<-H];exact aL,?_⟩;have V:∀f,(f<16\/16+s.sh.BQ<=f)->n.ws f=if f=al then w else r.s.ws f:=λf l=>by
  rw[bw f (by rw[aG];exact l),bq]
 have ar:∀b∈y,b∉dl:=λb Z j=>by
  rcases(G b).1 j with c|c
  ·rcases AL.1 (z.mem_iff.1 Z)with e|e
   ·obtain⟨d,j⟩:=av b (ac b (N b c));exact T b e d j
   ·exact bt b e b c rfl
  ·subst c;rcases AL.1 (z.mem_iff.1 Z)with e|e
   ·exact bm e
   ·exact a.n3 (P _ e)
 have aw:∀b,b∈b1\/b∈b2->b∉dl:=λb i j=>by
  rcases(G b).1 j with c|c
  ·exact i.elim (λh=>a.d1 b h (N b c)) (λh=>a.d2 b h (N b c))
  ·subst c;exact i.elim a.n1 a.n2
 have a8:∀b m,b∈y->AO r.s b m->AO n b m/\∀f,Ho b m f->n.ws f=r.s.ws f:=λb m i u=>by
  refine⟨(W b m).2 ⟨(M b m).2 u,ar b i⟩,λf l=>?_⟩;have J:=g.ok.Dy (u.bounds g.ok).1 l;rw[ao]at J;rw[V f (.inr J),if_neg];intro k;subst k;rcases ab with⟨_,e⟩|⟨_,an,S,e,t,F⟩
  ·omega
  ·obtain⟨bc,_⟩:=g.keep an S trivial t;refine Sr g.ok u bc (λk=>?_) l F rfl;subst k;rcases AL.1 (z.mem_iff.1 i)with aq|aq
   ·exact T b aq S t
   ·exact a.d1 b e (P b aq)
 have ba:DV n rl w R y:=a9.keep g.ok aB (B:=λb=>b∈y) a8 (λ_ h=>h);have aE:=ap.swap n w R y aB a5 ba (λb m i u=>by
  obtain⟨u1,u2⟩:=g.keep b m trivial u;refine⟨(W b m).2 ⟨(M b m).2 u1,aw b i⟩,λf l=>?_⟩;have J:=x.Dy (u.bounds x).1 l;rw[V f (.inr J),a3];by_cases k:f=al
  ·rw[if_pos k,if_pos O]
  ·rw[if_neg k,if_neg O,u2 f l])
 have aM:n.ws 9=if q=[]then w else s.ws 9:=by
  rw[V 9 (.inl U)];rcases ab with⟨c,e⟩|⟨c,an,S,e,t,F⟩
  ·rw[if_pos e.symm,if_pos c]
  ·have:=x.Dy (t.bounds x).1 F;rw[if_neg O,if_neg c,g.low 9 U]
 rw[<-aM]at aE;have bd:n.ws 9≠0:=by
  rw[aM];split
  ·exact a5
  ·exact bl
 have aR:∀b∈dl,b∈blocks:=λb i=>((G b).1 i).elim (λh=>ac b (N b h)) (λk=>by rw[k,a.bls];simp)
 have bg:Ij X s n:=⟨a6.trans aG,λf l bx=>by
  rw[V f (.inl l),if_neg,g.low f l];rcases ab with⟨_,e⟩|⟨_,an,S,e,t,F⟩
  ·omega
  ·have:=x.Dy (t.bounds x).1 F;omega,λb m i u=>by
  obtain⟨u1,u2⟩:=g.keep b m trivial u;refine⟨(W b m).2 ⟨(M b m).2 u1,λj=>Q b (aR b j) i⟩,λf l=>?_⟩;have J:=x.Dy (u.bounds x).1 l;rw[V f (.inr J),if_neg,u2 f l];intro k;subst k;rcases ab with⟨_,e⟩|⟨_,an,S,e,t,F⟩
  ·omega
  ·refine Sr x u t (λk=>?_) l F rfl;subst k;exact Q b (by rw[a.bls];simp[e]) i⟩
 refine⟨bg,aB,λb d bk=>g.nh b d ((Oc (by rw[bi,H]) (by rw[a6,H]) b d).1 bk),.inr ⟨b1++y++b2,bd,aE,?_,λb i af=>?_,λb=>?_⟩,?_⟩
 ·have bo:(b1++y++b2).Perm (b1++(C++K)++b2):=List.Perm.append_right _ (List.Perm.append_left _ z);rw[bo.nodup_iff];have Y:∀b∈C,b∉blocks:=λb i Z=>by
   obtain⟨d,j⟩:=av b Z;exact T b i d j
  rw[a.bls]at Y;refine CJ.2 ⟨CJ.2 ⟨a.m1,CJ.2 ⟨g.xP,bs,λp E aD v k=>?_⟩,λp E aD v k=>?_⟩,a.m2,λp E aD v k=>?_⟩
  ·subst k;exact Y p E (by simp[P p v])
  ·subst k;rcases AL.1 v with c|c
   ·exact Y p c (by simp[E])
   ·exact a.d1 p E (P p c)
  ·subst k;rcases AL.1 E with c|c
   ·exact a.d3 p c v
   ·rcases AL.1 c with c|c
    ·exact Y p c (by simp[v])
    ·exact a.d2 p v (P p c)
 ·rcases AL.1 i with c|c
  ·rcases AL.1 c with c|c
   ·exact Q b (by rw[a.bls];simp[c]) af
   ·rcases AL.1 (z.mem_iff.1 c)with e|e
    ·obtain⟨d,j⟩:=(az b).2 (.inr af);exact T b e d j
    ·exact Q b (ac b (P b e)) af
  ·exact Q b (by rw[a.bls];simp[c]) af
 ·have c:(∃d,AO n b d)<->(∃d,AO r.s b d)/\b∉dl:=by
   constructor
   ·rintro⟨d,j⟩;obtain⟨c,e⟩:=(W b d).1 j;exact⟨⟨d,(M b d).1 c⟩,e⟩
   ·rintro⟨⟨d,j⟩,e⟩;exact⟨d,(W b d).2 ⟨(M b d).2 j,e⟩⟩
  rw[c,g.tk b,az b,G b,a.bls];simp only[AL,Ea,z.mem_iff,ah.mem_iff];constructor
  ·rintro⟨c|c,e⟩
   ·rcases c with((c|c|c|c)|c)|c
    ·exact .inl (.inl (.inl c))
    ·exact absurd (.inr c) e
    ·exact .inl (.inl (.inr (.inr c)))
    ·exact absurd (.inl c) e
    ·exact .inl (.inr c)
    ·exact .inr c
   ·exact .inl (.inl (.inr (.inl c)))
  ·have ad:∀b,b∈b1\/b∈b2\/b∈C\/b∈K->¬(b∈D\/b=o):=λb i j=>by
    have aa:=(G b).2 j;rcases i with h|h|h|h
    ·exact aw b (.inl h) aa
    ·exact aw b (.inr h) aa
    ·exact ar b (z.mem_iff.2 (BJ _ h)) aa
    ·exact ar b (z.mem_iff.2 (Bj _ h)) aa
   rintro(((c|c|c)|c)|c)
   ·exact⟨.inl (.inl (.inl (.inl c))),ad b (.inl c)⟩
   ·exact⟨.inr c,ad b (.inr (.inr (.inl c)))⟩
   ·exact⟨.inl (.inl (.inl (.inr (.inr (.inl c))))),ad b (.inr (.inr (.inr c)))⟩
   ·exact⟨.inl (.inl (.inr c)),ad b (.inr (.inl c))⟩
   ·exact⟨.inl (.inr c),λj=>Q b (aR b ((G b).2 j)) c⟩
 ·intro am a4;rw[AV]at a4;rcases AL.1 a4 with c|c
  ·exact h.even am (by rw[ap.its];simp[c])
  ·rcases AL.1 c with c|c
   ·obtain⟨bE,e,t⟩:=E8.1 c;rw[t];exact bj _ e
   ·exact h.even am (by rw[ap.its];simp[c])
def WX.below(a:WX L s items blocks key last rest' q rl nl parts A B b1 b2 o)(f:last.nd.pre≠rest'):∀d,d∈Cc last.nd++Bl last.nd.pre last.nd.labels parts->d.1≠rest':=λd g c=>by
 rcases AL.1 g with b|b
 ·obtain⟨rfl,_⟩:=FH b;exact f c
 ·obtain⟨i,j,k,l,_,rfl⟩:=EW b;simp only at c;have e:common last.nd.pre rest'=last.nd.pre.length:=by rw[<-c,TK]
  have:PE last.nd.labels (rest'.getD (common last.nd.pre rest') 0)=false:=by
   rcases a.stop with b|b|b
   ·omega
   ·exact absurd (RN _ _ e b) f
   ·exact iF a.right b
  rw[e,<-c,Bo,List.getElem?_append_right (Ad _),Nat.sub_self]at this;exact RV _ _ this i j rfl
def Ak0(h:IW X L s items)(W:s.ws 9≠0)(ab:∀o,(∃O,AO s o O)<->o∈blocks\/X o)(S:∀o∈blocks,¬X o)(_:blocks.Nodup)(ap:key.length<=16)(a:WX L s items blocks key last rest' q rl nl parts A B b1 b2 o)(v:last.nd.pre≠rest')(r:UInt64)(ac:r≠0):
 Aaz X L s items (CG key) r (match QM ⟨s,[]⟩ last.nd rest' r with|(w,H,g)=>EI w g last.word H [last.off]):=by
 have I:=h.ok;have c:=a.spot;have aB:=KC key;have aq:q.length+rest'.length=(CG key).length:=by rw[c.cut,AY]
 have M:rest'.all D6=true:=by
  have:=YH key;rw[c.cut,List.all_append,Bool.and_eq_true]at this;exact this.2
 have Y:common last.nd.pre rest'=last.nd.pre.length->PE last.nd.labels (rest'.getD (common last.nd.pre rest') 0)=false:=λT=>by
  rcases a.stop with b|b|b
  ·omega
  ·exfalso;refine v ?_;exact RN _ _ T b
  ·exact iF a.right b
 have z:=Akx I h.nh a.right c.len c.pre c.kid c.sub (Ω c.lens) M ac v Y;generalize QM ⟨s,[]⟩ last.nd rest' r=an at z;obtain⟨w,H,g⟩:=an;simp only;rcases z with⟨i,ar,n⟩|⟨i,av,az,aw,n,E,x,Z,u⟩
 ·simp only at i n;subst i;simp only[EI];rw[if_pos U];obtain⟨ao,m,am,al,af,F,G,ad⟩:=lq I n;rw[m];refine⟨⟨ad,λw V _=>G w V,λo N _ aa=>F o N trivial aa⟩,?_⟩;refine .inl ⟨rfl,h.same am al af F (G 9 U),λj l g=>?_⟩;rw[c.its,AV]at l;rcases AL.1 l with k|k
  ·exact a.other j (.inl k) g
  ·rcases AL.1 k with k|k
   ·obtain⟨d,P,Q⟩:=E8.1 k;rw[Q,c.cut]at g;exact a.below v _ P (ED g)
   ·exact a.other j (.inr k) g
 ·simp only at i n E x;subst i;have t:CG key=q++rest':=c.cut;have C:∀d p,(d,p)∈Cc last.nd++Bl last.nd.pre last.nd.labels parts->(q++d,p)∈items:=λd p e=>by
   rw[c.its,AV];exact Bj _ (BJ _ (E8.2 ⟨d,e,rfl⟩))
  obtain⟨ao,m,ah,J⟩:=iL h W ab S a.toOV n E x (K:=AX parts) (D:=[]) (dl:=[o]) Θ Z Θ (λj l=>by
   obtain⟨d,p⟩:=j;rcases(u _).1 l with e|e
   ·exact h.even _ (C d p e)
   ·have i:d=rest':=congrArg Prod.fst e;show J8 (q++d)=true;rw[i,<-t];exact WW key)
  rw[a.off,show[(o:Int)]=[o].map BZ from rfl,m];refine⟨ah,?_⟩;right;refine⟨rfl,_,J,?_⟩;intro j;constructor
  ·intro l;rw[AV]at l;rcases AL.1 l with b|b
   ·exact .inr ⟨by rw[c.its];simp[b],a.other j (.inl b)⟩
   ·rcases AL.1 b with b|b
    ·obtain⟨d,y,f⟩:=E8.1 b;rcases(u _).1 y with e|e
     ·refine .inr ⟨?_,?_⟩
      ·have:=C d j.2 e
       rwa [<-f]at this
      ·rw[f,t];intro g;exact a.below v _ e (ED g)
     ·left;have i:d=rest':=congrArg Prod.fst e;have m:j.2=r:=congrArg Prod.snd e;exact Prod.ext (by rw[f,i,t]) m
    ·exact .inr ⟨by rw[c.its];simp[b],a.other j (.inr b)⟩
  ·rintro(rfl|⟨b,y⟩)
   ·rw[AV];exact Bj _ (BJ _ (E8.2 ⟨rest',(u _).2 (.inr rfl),t⟩))
   ·rw[c.its,AV]at b;rw[AV];rcases AL.1 b with f|f
    ·exact BJ _ f
    ·rcases AL.1 f with f|f
     ·obtain⟨d,e,R⟩:=E8.1 f;exact Bj _ (BJ _ (E8.2 ⟨d,(u _).2 (.inl e),R⟩))
     ·exact Bj _ (Bj _ f)
def WY(h:IW X L s items)(key:List UInt8)(e:key.length<=16)(a:UInt64)(d:a≠0):Aaz X L s items (CG key) a (JD s key a):=by
 by_cases i:s.ws 9=0
 ·exact Adl h i key e a d
 ·rcases h.tree with⟨b,_⟩|⟨blocks,b,l,f,j,k⟩
  ·exact absurd b i
  ·obtain⟨p,last,rest',q,rl,nl,parts,A,B,b1,b2,o,n,g⟩:=around h.ok b l f key e;unfold JD;rw[if_neg O,if_neg d,n];have m:(p++[last]).getLast?=some last:=by simp
   simp only[CX,m];by_cases c:last.nd.pre=rest'
   ·rw[if_pos c];exact Adn h b k j f g c a d
   ·rw[if_neg c];exact Ak0 h b k j f e g c a d
def Sz(h:IW X L s items):∃b:List Nat,DZ s=some (items.map (λa=>(pairs a.1,a.2)),b.map BZ)/\b.Nodup/\(∀o∈b,¬X o)/\∀o,(∃f,AO s o f)<->o∈b\/X o:=by
 rcases h.tree with⟨c,g,i⟩|⟨blocks,c,e,d,j,l⟩
 ·refine⟨[],?_,List.nodup_nil,(λ_ h=>nomatch h),λo=>by simp[i o]⟩;unfold DZ;rw[if_pos c,g];rfl
 ·refine⟨blocks,?_,d,j,l⟩;unfold DZ;rw[if_neg c];have:=e.Aol h.ok 34 [] [] [] U U d (λ_ _ h=>by cases h) (λa k=>h.even a k);simpa using this
end
section
variable{L:Nat}{s:St}
def O6:∀(f:Nat)(b:UInt64)(rest:List UInt8)(d:UInt8)(e:Int)(a:List Pl),Et s f b rest d e a=(Et s f b rest d e []).map λg=>(a++g.1,g.2)
 |0,_,_,_,_,a=>by simp[Et]
 |f+1,b,rest,d,e,a=>by
  rw[Et,Et];split
  ·simp
  ·split
   ·rfl
   ·rename_i i _;split
    ·simp
    ·split
     ·simp
     ·rename_i c j _;rw[O6 f c _ _ _ (a++_),O6 f c _ _ _ ([]++_)];cases Et s f c (rest.drop (common i.pre rest+1)) (rest.getD (common i.pre rest) 0) (Bg b+8*j) []<;>simp
def iM{f:Nat}{g:UInt64}{rest:List UInt8}{e:UInt8}{i:Int}{d:List Pl}{m:List UInt8}(h:Et s (f+1) g rest e i []=some (d,m))(l:g≠0):∃a j,d=a::j/\a.label=e/\a.word=i:=by
 rw[Et,if_neg l]at h;split at h
 ·cases h
 ·rename_i a _;split at h
  ·injection h with h;injection h with b c
   exact⟨_,_,b.symm,rfl,rfl⟩
  ·split at h
   ·injection h with h;injection h with b c
    exact⟨_,_,b.symm,rfl,rfl⟩
   ·rw[O6]at h;obtain⟨o,_,c⟩:=Qc.1 h;injection c with k n
    exact⟨_,_,k.symm,rfl,rfl⟩
def l7(z:Bq L s):∀(m f r:Nat)(g:UInt64)(items:List Kv)(blocks:List Nat)(rest:List UInt8)(y:UInt8)(n:Int),DV s r g items blocks->blocks.Nodup->rest.length<f->rest.length<=r->g≠0->
 ∀(j:List Pl)(C:List UInt8),Et s f g rest y n []=some (j,C)->m+1<j.length->
 ∃d rest' q rl nl parts A B b1 b2 b k D,j[m]?=some d/\XK L s r g items blocks n rest d rest' q rl nl parts A B b1 b2/\∃(l:b<d.nd.kids.length)(F:b<d.nd.labels.length),
  d.nd.pre++d.nd.labels[b]::rest'.drop (d.nd.pre.length+1)=rest'/\(rest'.drop (d.nd.pre.length+1)).length<k/\d.nd.kids[b]≠0/\Et s k d.nd.kids[b] (rest'.drop (d.nd.pre.length+1)) d.nd.labels[b] D []=some (j.drop (m+1),C)
 |m,0,_,_,_,_,_,_,_,_,_,h,_,_,_,_,_,_=>absurd h O
 |m,f+1,r,g,items,blocks,rest,y,n,al,M,aw,aB,af,j,C,a,e=>by
  cases al with
  |mk _ _ c parts x P E K u=>
   obtain⟨o,ah,am,w,an⟩:=Ii z x;rw[Et,if_neg af,x]at a
   dsimp only at a
   by_cases l:common c.pre rest<c.pre.length\/common c.pre rest=rest.length
   ·rw[if_pos l]at a;injection a with a;injection a with a _
    rw[<-a]at e;simp at e
   ·rw[if_neg l]at a;cases v:OY c (rest.getD (common c.pre rest) 0)with
    |none=>
     rw[v]at a;injection a with a;injection a with a _
     rw[<-a]at e;simp at e
    |some ap=>
     obtain⟨aD,aE⟩:=ap;obtain⟨ab,az,b,i,I,rfl,rfl,ad,hcut⟩:=WV w l v;rw[v]at a;simp only at a;rw[ab,<-ad,O6]at a;obtain⟨ar,N,F⟩:=Qc.1 a;obtain⟨S,av⟩:=ar;injection F with G H
     simp only at G H;subst H;subst G;have t:b<parts.length:=O;have ac:=E (λp=>by rw[p]at i;simp at i);have J:c.kids[b]≠0:=λp=>((Bv c).1 w).2.2.2.2.2 b i (by rw[p];rfl)
     have Q:=(H9.1 M).2;rw[La parts b t]at Q;have aq:=(CJ.1 (CJ.1 Q).2.1).1
     match m,e with
     |0,e=>exact⟨⟨c,Bg g,y,n⟩,rest,[],r,g,parts,[],[],[],[],b,f,_,by simp,WU x P E K u,i,I,hcut,by rw[AU];show rest.length-(c.pre.length+1)<f;omega,J,by simpa using N⟩
     |m+1,e=>
      obtain⟨d,rest',q,rl,nl,T,A,B,b1,b2,ao,k,D,U,R,V,W,X,Y,Z,aa⟩:=l7 z m f (r-c.pre.length-1) c.kids[b] parts[b].items parts[b].blocks (rest.drop (c.pre.length+1)) c.labels[b] (Bg g+8*(Py c b:Nat)) (u b i t) aq (by rw[AU];omega) (by rw[AU];omega) J S av N (by simpa using e);exact⟨d,rest',_,rl,nl,T,_,_,_,_,ao,k,D,by simpa using U,iG z ah am w an P K u M i I t ac hcut R,V,W,X,Y,Z,by simpa using aa⟩
def WZ(Q:Bq L s):∀(f r:Nat)(d:UInt64)(items:List Kv)(blocks:List Nat)(rest:List UInt8)(m:UInt8)(q:Int),DV s r d items blocks->rest.length<f->d≠0->
 ∀(e:List Pl)(p:List UInt8)(last:Pl),Et s f d rest m q []=some (e,p)->CX e p=some last->last.nd.kids.length=0->last.nd.val≠0->
 (∀g l,g+1<e.length->e[g]?=some l->l.nd.val=0/\l.nd.kids.length=1)->items=[(rest,last.nd.val)]/\blocks.map BZ=e.map (·.off)
 |0,_,_,_,_,_,_,_,_,h,_,_,_,_,_,_,_,_,_=>absurd h O
 |f+1,r,d,items,blocks,rest,m,q,y,ap,ac,e,p,last,b,c,E,z,M=>by
  cases y with
  |mk _ _ a parts K aw an ar Y=>
   obtain⟨o,ad,az,x,aB⟩:=Ii Q K;rw[Et,if_neg ac,K]at b
   dsimp only at b
   have H:BZ (Bg d).toNat=Bg d:=by rw[ad,BU];rfl
   have R:[(⟨a,Bg d,m,q⟩:Pl)]=e->rest=p->Cc a++Bl a.pre a.labels parts=[(rest,last.nd.val)]/\((Bg d).toNat::AX parts).map BZ=e.map (·.off):=λj k=>by
    subst j;subst k;unfold CX at c;simp only[List.getLast?_singleton]at c;split at c
    ·rename_i J;injection c with c
     subst c;simp only at E z J⊢;have w:parts=[]:=List.length_eq_zero_iff.1 O;subst w;unfold Cc;rw[if_pos z,J];have:Bl rest a.labels []=[]:=by cases a.labels<;>rfl
     rw[this];exact⟨rfl,by rw[Ci,H];rfl⟩
    ·cases c
   by_cases u:common a.pre rest<a.pre.length\/common a.pre rest=rest.length
   ·rw[if_pos u]at b;injection b with b;injection b with j k
    exact R (by simpa using j) k
   ·rw[if_neg u]at b;cases v:OY a (rest.getD (common a.pre rest) 0)with
    |none=>
     rw[v]at b;injection b with b;injection b with j k
     exact R (by simpa using j) k
    |some al=>
     obtain⟨aD,aE⟩:=al;obtain⟨W,av,g,D,aq,rfl,rfl,aa,hcut⟩:=WV x u v;rw[v]at b;simp only at b;rw[W,<-aa,O6]at b;obtain⟨i,I,V⟩:=Qc.1 b;obtain⟨ao,S⟩:=i;injection V with B C
     simp only at B C;subst C;subst B;have F:a.kids[g]≠0:=λU=>((Bv a).1 x).2.2.2.2.2 g D (by rw[U];rfl)
     obtain⟨t,rfl⟩:∃t,f=t+1:=⟨f-1,O⟩;obtain⟨T,A,rfl,_,_⟩:=iM I F;obtain⟨N,Z⟩:=M 0 ⟨a,Bg d,m,q⟩ Θ Θ;simp only at N Z;obtain rfl:g=0:=O;have ab:a.labels.length=1:=Ω (((Bv a).1 x).2.2.1);obtain⟨i,w⟩:∃i,parts=[i]:=nH.1 O;subst w;obtain⟨n,G⟩:∃n,a.labels=[n]:=nH.1 ab;have af:CX (T::A) S=some last:=by
      unfold CX at c⊢;simpa using c
     have P:=WZ Q (t+1) (r-a.pre.length-1) a.kids[0] i.items i.blocks (rest.drop (a.pre.length+1)) a.labels[0] _ (Y 0 D Θ) (by rw[AU];omega) F (T::A) S last I af E z (λam l y ah=>M (am+1) l (by simpa using y) (by simpa using ah));refine⟨?_,?_⟩
     ·have X:a.pre++n::rest.drop (a.pre.length+1)=rest:=by
       have:a.labels[0]=n:=by simp[G]
       rw[this]at hcut;exact hcut
      rw[G];unfold Cc;rw[if_neg (by simp[N])];simp only[Bl,EX,bZ,P.1,Fa,Ci,Gv];rw[X]
     ·simp only[AX,Ci,Gv,List.flatten_cons,List.flatten_nil,bZ];rw[P.2,H];rfl
def aF(b:List Pl):∀(m:Nat)(_:m<b.length)(f:List Int),∃a,a<=m/\Hg b m f=(a,f++(((b.drop a).take (m-a)).map (·.off)).reverse)/\∀c d,a<=c->c<m->b[c]?=some d->d.nd.val=0/\d.nd.kids.length=1
 |0,_,f=>⟨0,Ad _,by simp[Hg],λc d n g=>absurd g O⟩
 |m+1,h,f=>by
  have i:m<b.length:=O;rw[Hg,Ae i,Ae h]
  dsimp only
  split
  ·rename_i p;obtain⟨a,n,g,o⟩:=aF b m i (f++[b[m].off]);refine⟨a,O,?_,λc d j k e=>?_⟩
   ·rw[g,show m+1-a=(m-a)+1 by omega,List.take_succ_eq_append_getElem (by rw[AU];omega),List.map_append,List.reverse_append];have:(b.drop a)[m-a]'(by rw[AU];omega)=b[m]:=by rw[XY];congr 1;omega
    simp[this]
   ·by_cases l:c=m
    ·subst l;rw[Ae i]at e;injection e with e
     exact e▸p
    ·exact o c d j O e
  ·exact⟨m+1,Ad _,by simp,λc d j k=>absurd k O⟩
end
