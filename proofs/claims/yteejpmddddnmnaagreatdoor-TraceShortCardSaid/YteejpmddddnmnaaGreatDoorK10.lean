import Derived.Test.YteejpmddddnmnaaGreatDoorK09
set_option linter.defProp false
set_option maxHeartbeats 32000000
set_option maxRecDepth 100000
open Go.Lib renaming hid->Ac
open Nat renaming le_refl->Ae,le_trans->AZ,zero_le->Bd,sub_self->Pv,lt_of_lt_of_le->Bc,min_eq_left->EI,min_eq_right->PD,zero_add->Du
open List renaming getElem?_eq_getElem->Ag,length_append->AO,length_drop->AU,drop_eq_getElem_cons->BX,dropWhile_cons_of_pos->mg,dropWhile_cons_of_neg->mi,mem_cons->Cb,not_mem_nil->bH,mem_flatten->U8,mem_map->CU,drop_of_length_le->D9,append_nil->EN,take_succ_eq_append_getElem->BH,map_append->CJ,length_filter_le->JV,length_take->Cc,take_of_length_le->Dq,getElem_mem->BO,cons_append->BM,nil_append->DR,map_cons->Ci,nodup_cons->Gz,mem_append->AP,mem_append_left->BK,mem_singleton->BB,mem_append_right->BA,mem_cons_self->Bf,mem_cons_of_mem->Bi,take_length->I7,map_drop->MZ,range->Ea,mem_range->GH,length_range->Ale,length_map->Df,pairwise_map->Alf,pairwise_iff_forall_sublist->II,eq_nil_or_concat->Abv,concat_eq_append->UF,mem_of_mem_take->Qd,pairwise_cons->Ir,getElem?_eq_none->FO,length_singleton->EO,getElem_append_left->Na,getElem_append_right->LK,takeWhile_append_dropWhile->ZQ,length_cons->Bg,size_toArray->Tn,pairwise_append->WL,pairwise_singleton->wM,getElem_of_mem->CW,foldl_append->Alh,map_map->bG,mem_map_of_mem->Afx,filter_sublist->Afy,mem_filter->Aqi,take_sublist->Ali
open Go.Value renaming ownBlock->AY,int->AA,slice->Ad
open Go.World renaming ownsRow_nil->Ce,cell?_of_block->BQ
open Int renaming ofNat->Gt,toNat_natCast->BC
open Array renaming toList_inj->Alg
open UInt64 renaming ofNat->Az
open Go.Value renaming slice->fM,int->gz,string->ig,bool->iw,tuple->iJ
open Go.Ending renaming returned->iO
open Go.IntKind renaming i64->iU,u64->iV
open Option renaming some->jm,none->jw
open Bool renaming true->jO,false->jS
open Go renaming World->jT,Value->ku
namespace Go.Proofs.YteejpmddddnmnaaGreatDoor
open Go.RowKit
open Go.Proofs.Tryz
def Apf(s:List Wr)(key:nG):Value:=match L8 s key with
 |some x=>iJ #[OY x,jO]
 |none=>iJ #[.agg #[ig ⟨#[]⟩,ig ⟨#[]⟩,jS],jS]
def vV{w:jT}{A:Option Addr}{c:Nat}{s:List Wr}(key:nG)(J:s.length<=100000)(g:Rd w A (s.length*3) (GK s))(y:QY s):
 Calls prog 56 #[fM A s.length c,key] w λl w'=>l=iO (Apf s key)/\η w w':=by
 obtain⟨H,u,e,o⟩:=E5 w 143 [ig ⟨#[]⟩,ig ⟨#[]⟩,jS];obtain⟨d,G,q,t,r⟩:=lM (Yt (c:=c) key J (Rd.below g e) y) (Rd.below g e) o e u;unfold Apf L8;clear u e o y;cases n:ny s key with
 |false=>
  rw[n]at d;rw[lg Bool.false_ne_true];clear g;go_in;go_wp2_with(rw[<-r.out];refine d.mono ?_;rintro l z⟨rfl,b⟩;have a:=q.out.ξ b;obtain⟨B,C,D⟩:=a.p3;have f0:=a.frozen 0;have f1:=a.frozen 1;have f2:=a.frozen 2;have k:=Ac (τ t.out b);clear b a);refine bodyPost_ret (v:=iJ #[.agg #[ig ⟨#[]⟩,ig ⟨#[]⟩,jS],jS]) (by simp[results,results56,go_sem,B,C,D]) rfl ?_;exact⟨rfl,(((k.setCell (p:=Δ w 0) (Ae _) _).setCell (p:=Δ w 1) (Ae _) _).setCell (p:=Δ w 2) (Ae _) _)⟩
 |true=>
  rw[n]at d;rw[kX rfl];have f:=Adm n;rw[Ag f];simp only;obtain⟨m,x⟩:∃m,Hf s key=m:=⟨_,rfl⟩;have j:=Ac (λI(K:η H I)=>pY (Rd.below G K) (Hf s key) f);generalize s[Hf s key]=i at j⊢;rw[x]at d f j;obtain⟨t1,t2⟩:=xk f;have t3:(m:Int)<(s.length:Int):=O;clear g x;go_in;go_wp2_with(rw[<-r.out];refine d.mono ?_;rintro l z⟨rfl,b⟩;obtain⟨P,R,rfl,Q,S,T,U⟩:=j z b;have a:=q.out.ξ b;obtain⟨B,C,D⟩:=a.p3;have f0:=a.frozen 0;have f1:=a.frozen 1;have f2:=a.frozen 2;have k:=Ac (τ t.out b);have F:=Ac a;clear b a);have E:=((F.Be 0 (ig i.key)).Be 1 (ig i.text)).Be 2 (iw i.gone);obtain⟨L,M,N⟩:=E.p3;refine bodyPost_ret (v:=iJ #[OY i,jO]) (by simp[results,results56,go_sem,L,M,N,OY]) rfl ?_;exact⟨rfl,(((k.setCell (p:=Δ w 0) (Ae _) _).setCell (p:=Δ w 1) (Ae _) _).setCell (p:=Δ w 2) (Ae _) _)⟩
section
variable{lm:Mode}{w w':jT}{g d p x tt bk L:Nat}{s:St}{b:Bk}{t:Tb}{F J:Nat->Prop}{oV:ni}{jv:ku}{id:Int}{sv:ku}{st:ni}
def vW(l:List Lk)(a:Nat):nG×Int:=match Je l a with
 |some t=>(t,0)
 |none=>(⟨#[]⟩,7)
def Apg(h:CB (.up lm) w g d p x tt bk L s b t F J oV jv id sv st)(first c:ni){l:List Lk}(u:IU s first=jm l)(v:l.length<=100000):
 Calls prog 59 #[AB g,first,c] w λn w'=>n=iO (iJ #[ig (vW l c.toNat).1,gz iU (vW l c.toNat).2])/\η w w':=by
 have k:=h.box.c0;have m:=h.box.c1;unfold CZ at k m;have j:=Ac (λa(i:η w a)=>VC (h.ix.below i).sys first);unfold jo at j;rw[u]at j;have E:Hid (∀a,η w a->a.cell? (Φ g)=jm (AB d)/\a.cell? (Δ g 1)=jm (AB p)):=Ac (λa i=>⟨(h.box.ξ i).cell 0,(h.box.ξ i).cell 1⟩);have f:=Ac (λ(A:Option Addr)(I:Nat)(a:jT)(N:LkR a A l)=>Ann l A I c a v N);unfold Arx at f;obtain⟨⟨R,Q⟩,e⟩:∃H,vW l c.toNat=H:=⟨_,rfl⟩;rw[e];unfold vW at e;simp only;clear h u v;cases z:Je l c.toNat
 all_goals(
  rw[z]at f e;obtain⟨rfl,rfl⟩:=Prod.mk.inj e;simp only at f;clear e z;go_in;go_wp2_with fail;go_region_held3(λw'=>w'.cell? (Φ g)=jm (AB d)/\w'.cell? (Δ g 1)=jm (AB p))
   (first|exact⟨k,m⟩|exact E _ ((mX w).trans o))
   ((first|(go_at_call 91;refine(j _ (mX w)).mono ?_;rintro n P⟨o,M,S,rfl,q⟩;obtain⟨B,K,O,_,y⟩:=dJ q;subst O))))
 all_goals(
  have G:=Ac y;have C:=Ac (((Dr.drew w).below w).trans o);clear y o M q k m;go_wp2_with(refine(f.out B K P G).mono ?_;rintro n T⟨rfl,r⟩;have D:=Ac (τ C.out r);clear r);go_ret2;exact⟨rfl,D⟩)
def Aa6(s:St)(own:List Wr)(b:Nat)(key:nG):nG×Int:=match L8 own key with
 |some a=>if a.gone then(⟨#[]⟩,7)else(a.text,0)
 |none=>if(Ic s key).2≠0 then(⟨#[]⟩,(Ic s key).2)else vW ((IU s (Ic s key).1).getD []) b
def Aph(h:CB (.up lm) w g d p x tt bk L s b t F J oV jv id sv st){i:Int}(key:nG)(k:key.size<=4294967296)(e:Ey t.wt i=jS\/16<key.size):
 Calls prog 29 #[AB g,i,key] w λf w'=>f=iO (iJ #[ig ⟨#[]⟩,gz iU (if Ey t.wt i=jS then 2 else 3)])/\w=w':=by
 have a:=Ac (aO h i);clear h;cases c:Ey t.wt i with
 |false=>
  rw[c,lg Bool.false_ne_true]at a;go_in;go_wp2_with(refine a.out.ro ?_);go_ret2;exact⟨rfl,rfl⟩
 |true=>
  rw[c,kX rfl]at a;have j:=e.resolve_left (by rw[c];simp);have t1:=dT ((16:Int)<(key.size:Int));clear e j;go_in;go_wp2_with(refine a.out.ro ?_);go_ret2;exact⟨rfl,rfl⟩
def Aw1(h:CB (.up lm) w g d p x tt bk L s b t F J oV jv id sv st){i:Nat}(hi:i<8)(I:t.wt.ops i=jO)(au:(t.sets i).length<=16)(al:QY (t.sets i))(key:nG)(aW:key.size<=16)
 (f:∀u,Ic s key=(u,0)->∃k,IU s u=jm k/\k.length<=100000):
 Calls prog 29 #[AB g,i,key] w λn w'=>n=iO (iJ #[ig (Aa6 s (t.sets i) (t.wt.ats i).toNat key).1,gz iU (Aa6 s (t.sets i) (t.wt.ats i).toNat key).2])/\η w w':=by
 have P:=Ac (aO h (i:Int));rw[kX (Un hi I)]at P;have Q:=Ac (Vd h.tb hi I O);have m:=Ac (λc(j:η w c)=>qg (h.ix.below j) key O);unfold GetPost at m;have v:=Ac (λc(j:η w c)=>Yv (h.tb.below j) (i:Int));rw[SL hi I]at v;have B:=Ac (λ(X:ni)(k:List Lk)(f:IU s X=jm k)(H:k.length<=100000)c(j:η w c)=>Apg (h.below j) X (t.wt.ats i) f H);have R:Hid (∀c,η w c->c.cell? (Δ g 2)=jm (AB x)/\c.cell? (Δ g 3)=jm (AB tt)):=Ac (λc j=>⟨(h.box.ξ j).cell 2,(h.box.ξ j).cell 3⟩);obtain⟨D,E⟩:=R w  mZ;have t1:=dF ((16:Int)<(key.size:Int));have C:=Ac (λ(c:jT)(A:Option Addr)(aq:Nat)(av:Rd c A ((t.sets i).length*3) (GK (t.sets i)))=>vV (c:=aq) key O av al);have q:=Ac f;unfold Apf at C;obtain⟨⟨aE,aD⟩,r⟩:∃ap,Aa6 s (t.sets i) (t.wt.ats i).toNat key=ap:=⟨_,rfl⟩;rw[r];generalize t.sets i=own at Q C r;unfold Aa6 at r;have a:=Ac r;clear h au f al I r;simp only;go_in;go_wp2_with(refine P.out.ro ?_);refine Q.mono ?_;rintro n a1⟨a0,rfl,Y,aa⟩;obtain⟨am,ar,aw,_,ah⟩:=C9 Y;subst aw;have y:=Ac aa;have e:=Ac (C _ am ar ah);clear Y aa Q P D E C ah;cases G:L8 own key with
 |some K=>
  rw[G]at e a;simp only at e a;unfold OY at e;clear B m v q G;go_wp2_with fail;refine e.out.mono ?_;rintro n U⟨rfl,l⟩;obtain⟨aR,Z,ad,M⟩:=E5 U 143 [K.key,K.text,K.gone];have z:=Ac ((τ y.out l).trans (ad.mono (AZ y.size l.size)));rw[Z]at M z;obtain⟨aG,aI,aL⟩:=M.p3;clear l ad M Z;obtain⟨a4,a5,aM⟩:=K;simp only at aG aI aL z a⊢;cases aM with
  |true=>
   rw[kX rfl]at a;obtain⟨rfl,rfl⟩:=Prod.mk.inj a;go_wp2;go_ret2;exact⟨rfl,z⟩
  |false=>
   rw[lg Bool.false_ne_true]at a;obtain⟨rfl,rfl⟩:=Prod.mk.inj a;go_wp2;go_ret2;exact⟨rfl,z⟩
 |none=>
  rw[G]at e a;simp only at e a;clear G;go_wp2_with(refine e.out.mono ?_;rintro n U⟨rfl,l⟩;have S:η w (U.alloc (.cells #[ig ⟨#[]⟩,ig ⟨#[]⟩,jS] 143)):=(τ y.out l).alloc (AZ y.size l.size) _;have V:=Ac S;obtain⟨D,E⟩:=R _ S;obtain⟨⟨u,W⟩,ae⟩:∃az,Ic s key=az:=⟨_,rfl⟩;rw[ae]at m a q;simp only at m a;clear l S e ae);refine(m _ V).mono ?_;rintro n a2⟨rfl,ab⟩;have o:=Ac (τ V.out ab);clear ab D E m;obtain⟨D,E⟩:=R _ o;by_cases T:W=0
  ·subst T;obtain⟨k,f,H⟩:=q u rfl;rw[lg Θ,f]at a;have N:=Ac (B u k f H);have an:Hid (vW k (t.wt.ats i).toNat=(aE,aD)):=Ac a;rw[an.out]at N;simp only at N;clear B q f a H;go_wp2_with(first|(refine(v.out _ o).ro ?_)|(refine(N.out _ o).mono ?_;rintro n a3⟨rfl,ac⟩;have ao:=Ac (τ o.out ac);clear ac));go_ret2;exact⟨rfl,ao⟩
  ·have t3:(W==0)=false:=beq_eq_false_iff_ne.2 T;rw[kX T]at a;obtain⟨rfl,rfl⟩:=Prod.mk.inj a;clear B q v;go_wp2;go_ret2;exact⟨rfl,o⟩
end
def Gp(y:Wr)(p:Pr):Bool:=decide (0<Nc y.key p.key)
def P7(y:Wr):List Pr->List Pr
 |[]=>[]
 |p::a=>if Nc y.key p.key=0 then a else p::a
def U7(y:Wr):List Pr:=if y.gone then[]else[⟨y.key,y.text⟩]
def Hu:List Pr->List Wr->List Pr
 |a,[]=>a
 |a,b::s=>a.takeWhile (Gp b)++(U7 b++Hu (P7 b (a.dropWhile (Gp b))) s)
def YO.drop{w:jT}{b off:Nat}{l:List Pr}(h:YO w (jm (Δ b off)) l)(k:Nat)(d:k<l.length):Rd w (jm (Δ b (off+k*2))) ((l.drop k).length*2) (Ht (l.drop k)):=by
 have p:∀m:List Pr,(Ht m).length=m.length*2:=λm=>by
  induction m with
  |nil=>rfl
  |cons a m e=>rw[show Ht (a::m)=prC a++Ht m by simp[Ht],AO,e];simp[prC];omega
 have n:Ht (l.drop k)=(Ht l).drop (k*2):=by
  have:∀(m:List Pr)(k:Nat),k<=m.length->Ht (m.drop k)=(Ht m).drop (k*2):=λm=>by
   induction m with
   |nil=>intro k d;simp[Ht]
   |cons a m e=>
    intro k d;cases k with
    |zero=>rfl
    |succ k=>
     rw[List.drop_succ_cons,e k (by simpa using d),show Ht (a::m)=prC a++Ht m by simp[Ht],show(k+1)*2=(prC a).length+k*2 by simp[prC];omega,List.drop_append];simp
  exact this l k O
 refine⟨p _,λ_=>?_⟩;obtain⟨r,s,c,i,j⟩:=h.2 O;injection c with c
 injection c with f g
 subst f g;refine⟨b,off+k*2,rfl,i,λq o=>?_⟩;rw[AU]at o;have:=j (k*2+q) O;rw[n,List.getElem?_drop,<-this];congr 2;omega
def VQ(a b:List Pr):Ht (a++b)=Ht a++Ht b:=by simp[Ht]
def ZH(y:Wr)(l:List Pr)(k:Nat)(c:k<l.length):(0<Nc y.key l[k].key->(l.drop k).takeWhile (Gp y)=l[k]::(l.drop (k+1)).takeWhile (Gp y)/\(l.drop k).dropWhile (Gp y)=(l.drop (k+1)).dropWhile (Gp y))/\
 (¬0<Nc y.key l[k].key->(l.drop k).takeWhile (Gp y)=[]/\(l.drop k).dropWhile (Gp y)=l[k]::l.drop (k+1)):=by
 rw[BX c];constructor
 ·intro h;have a:Gp y l[k]=true:=decide_eq_true h;rw[List.takeWhile_cons_of_pos a,mg a];exact⟨rfl,rfl⟩
 ·intro h;have a:¬Gp y l[k]=true:=λb=>h (of_decide_eq_true b)
  rw[List.takeWhile_cons_of_neg a,mi a];exact⟨rfl,rfl⟩
def own_ne{w:jT}{c k n b:Nat}{e:TypeId}{v:ku}{xs:List ku}(h:w.ownsRow c e k v n xs)(j:w<=b):v.ownBlock≠jm b:=by
 rcases h.2 with⟨a,_⟩|⟨g,f,i,a,_,d,_⟩
 ·subst a;simp[AY]
 ·subst a;have:=(Array.getElem?_eq_some_iff.1 d).1;simp only[AY,ne_eq,Option.some.injEq];omega
def dV(p:Pr):∀b∈prC p,b.oneCell'=true:=by
 intro b a;simp only[prC,Cb,bH,or_false]at a;rcases a with rfl|rfl<;>rfl
def vX(l:List Pr):∀b∈Ht l,b.oneCell'=true:=by
 intro b a;obtain⟨d,c,a⟩:=U8.1 a;obtain⟨p,-,rfl⟩:=CU.1 c;exact dV p b a
def kQ(l:List Pr)(s:List Wr)(A B:Option Addr)(c bX:Nat)(w:jT)(bA:l.length<=100000)(bL:s.length<=100000)(h:YO w A l)(b0:l.length<=c)(bE:Rd w B (s.length*3) (GK s)):
 Calls prog 62 #[fM A l.length c,fM B s.length bX] w λI w'=>∃bM,I=iO bM/\w'.ownsRow w.heap.size 159 2 bM (Hu l s).length (Ht (Hu l s))/\η w w':=by
 obtain⟨X,bR,ah,am,bQ⟩:=lM (λb(a:η w b)=>h.below a) (λb(a:η w b)=>Rd.below bE a) bA bL b0;have bq:Hid (w.ownsRow w.heap.size 159 2 (fM jw 0 0) 0 []):=Ac (Ce _ _ _ _);clear h bA bL bE;go_in;go_wp2_with fail;go_loopw [5,6,11](λa0 au be wr=>∃(e:List Pr)(a d:Nat),au=gz iU (a:Nat)/\be=gz iU (d:Nat)/\a<=l.length/\d<=s.length/\wr.ownsRow w.heap.size 159 2 a0 e.length (Ht e)/\Hu l s=e++Hu (l.drop a) (s.drop d)/\e.length<=a+d/\η w wr)(λ_ _ be _=>s.length-(intOf be).toNat)
 case atStart=>exact⟨[],0,0,rfl,rfl,Bd _,Bd _,bq.out,by simp,by simp,mZ⟩
 case round=>
  obtain⟨e,a,d,rfl,rfl,aR,b7,ar,aq,bs,an⟩:=hrel;obtain⟨k,n,G⟩:=l9 aq an ar;clear aq an bq ar;by_cases aW:d<s.length
  ·obtain⟨bS,bV,rfl,bw,bb,bc,bd⟩:=pY (bR _ n) d aW;obtain⟨b2,b3⟩:=xk aW;have b8:=XI d (Ω am.out);have a2:Hid (Hu l s=e++((l.drop a).takeWhile (Gp s[d])++(U7 s[d]++Hu (P7 s[d] ((l.drop a).dropWhile (Gp s[d]))) (s.drop (d+1))))):=Ac (by
    rw[k.out,BX aW,Hu])
   obtain⟨b6,a9⟩:=ε (s[d]);rw[<-a9]at bb bc bd a2;have al:=Ac a9;obtain⟨j,q,t⟩:=b6;simp only at bb bc bd;obtain⟨f,rfl⟩:=ε wr;obtain⟨a4,Z,bt,bh⟩:=E5 f 143 [j,q,t];obtain⟨bl,bi,a1⟩:=l9 Z bh bt;clear a9 k Z bt bh;go_wp2_with fail;rw[<-bl.out];go_loopw [5,6](λa0 au bg=>∃(e:List Pr)(a:Nat),au=gz iU (a:Nat)/\a<=l.length/\bg.ownsRow w.heap.size 159 2 a0 e.length (Ht e)/\a0.ownBlock≠jm f.heap.size/\
    Hu l s=e++((l.drop a).takeWhile (Gp s[d])++(U7 s[d]++Hu (P7 s[d] ((l.drop a).dropWhile (Gp s[d]))) (s.drop (d+1))))/\e.length<=a+d/\η w bg/\Cm bg f.heap.size 143 [j,q,t])(λ_ au _=>l.length-(intOf au).toNat)
   case atStart=>exact⟨e,a,rfl,aR,Eu G a1,own_ne G (Ae _),by rw[a2.out,al.out],bs,τ n.out a1.out,bi⟩
   case round=>
    clear a2 G n a1 bi bl bb bc bd bw;obtain⟨e,a,rfl,aR,ar,bB,aq,bs,an,K⟩:=hrel;obtain⟨C,D,E⟩:=K.p3;obtain⟨k,n,G,bO,T⟩:=lM aq an ar bB K;have b9:=XI a (Ω ah.out);clear aq an ar bB K;have b4:(∃h:a<l.length,0<Nc s[d].key l[a].key)\/(l.length=a)\/(∃h:a<l.length,¬0<Nc s[d].key l[a].key/\Nc s[d].key l[a].key≠0)\/(∃h:a<l.length,¬0<Nc s[d].key l[a].key/\Nc s[d].key l[a].key=0):=by
     by_cases h:a<l.length
     ·by_cases a6:0<Nc s[d].key l[a].key
      ·exact .inl ⟨h,a6⟩
      ·by_cases bo:Nc s[d].key l[a].key=0
       ·exact .inr (.inr (.inr ⟨h,a6,bo⟩))
       ·exact .inr (.inr (.inl ⟨h,a6,bo⟩))
     ·exact .inr (.inl O)
    rcases b4 with⟨v,i⟩|v|⟨v,i,y⟩|⟨v,i,y⟩
    ·obtain⟨x,H,rfl,aa,m,ba⟩:=(X _ n).at a v;obtain⟨M,N⟩:=(ZH s[d] l a v).1 i;rw[M,N]at k;rw[<-al.out]at i;obtain⟨av,L⟩:=ε (l[a]);rw[<-L]at m ba k i;obtain⟨p,ab⟩:=av;simp only at m ba i;obtain⟨t1,t2⟩:=xk v;have t3:(a:Int)<(l.length:Int):=O;obtain⟨z,R⟩:∃z,Nc j p=z:=⟨_,rfl⟩;have u:=Ac (λb=>dL ⟨j,q,t⟩ p b);simp only[R]at u i;unfold OY at u;have t4:=dT (0<z) i;clear M N R L;have F:Hid (∀b,η wr b->(b.cell? (Φ f)=jm (ig j)/\b.cell? (Δ f 1)=jm (ig q)/\b.cell? (Δ f 2)=jm (iw t))/\b.cell? (Δ x (H+a*2))=jm (ig p)):=Ac (λb S=>⟨(T.out.ξ S).p3,(BQ (w:=wr) (S.block x aa)).trans m⟩);go_wp2_with fail;go_region_held3(λb=>(b.cell? (Φ f)=jm (ig j)/\b.cell? (Δ f 1)=jm (ig q)/\b.cell? (Δ f 2)=jm (iw t))/\b.cell? (Δ x (H+a*2))=jm (ig p))
      (first|exact⟨⟨C,D,E⟩,m⟩|exact F _ g)
      ((first|(go_at_call 110;refine(u _).mono ?_;rintro I J⟨rfl,Q⟩;have g:η wr J:=(mX wr).trans Q)))
     all_goals(
      obtain⟨aL,ac,Y⟩:=l9 (Eu G g) (T.out.ξ g) (τ n.out g);have cb:J.cell? (Δ x (H+a*2+1))=jm (ig ab):=(BQ (w:=wr) (g.block x aa)).trans ba;obtain⟨⟨C,D,E⟩,ca⟩:=F _ g;have W:e.length<=1000000:=Ψ ah.out am.out;clear Q g u F G n T;go_wp2_with(at_builtin;refine BU rfl (.tmp 29) (.tmp 34) 37 rfl Tryz.Uo J w.heap.size u5 e.length (Ht e) (prC ⟨p,ab⟩) rfl aL rfl J.heap.size 1 rfl rfl rfl U (dV _) W U Y.size ?_;intro bY bW b5 a5 a3 bp aw);go_roundw)
     case rel=>exact⟨e++[⟨p,ab⟩],a+1,by go_num,O,by rw[AO,VQ];simpa[Ht]using a5,by
      simp only[AY,ne_eq,Option.some.injEq];rcases aw with aw|aw
      ·exact λI=>bO (I▸aw)
      ·have:=ac.lt;omega,by rw[k.out];simp,by simp;omega,Y.trans a3,(bp.2 _ ac.lt (λI=>bO I.symm)).trans ac⟩
     case measure=>simp[intOf];omega
    case' inr.inl=>
     obtain⟨o,r⟩:=ε a;have ae:Hid (o=a\/o=a+1):=Ac (.inl r);have aG:Hid (o<=l.length):=Ac O;have aE:Hid (AA iU (a:Int)=gz iU (o:Int)):=Ac (by rw[r]);have aD:Hid (Hu l s=e++(U7 ⟨j,q,t⟩++Hu (l.drop o) (s.drop (d+1)))):=Ac (by rw[k.out,D9 (by omega:l.length<=a),r,D9 (by omega:l.length<=a),al.out];rfl);have t1:=dF (a<l.length);have t2:=dF ((a:Int)<(l.length:Int));clear r v k;go_wp2_with fail;go_quiet(fail);obtain⟨a4,Z⟩:=ε (wr.drewN nq);rw[<-Z];have aM:Dr wr a4:=⟨nq,Z⟩;clear Z nq;go_wp2_with fail;go_quiet(fail);obtain⟨b,a7⟩:=ε (a4.drewN nq);rw[<-a7];have g:η wr b:=(aM.trans ⟨nq,a7⟩).below _;clear a7 aM C D E
    case' inr.inr.inl=>
     obtain⟨x,H,rfl,aa,m,-⟩:=(X _ n).at a v;obtain⟨M,N⟩:=(ZH s[d] l a v).2 i;rw[M,N]at k;rw[<-al.out]at i y k;obtain⟨av,L⟩:=ε (l[a]);rw[<-L]at m k i y;obtain⟨p,ab⟩:=av;simp only at m i y;obtain⟨t1,t2⟩:=xk v;have t3:(a:Int)<(l.length:Int):=O;obtain⟨o,r⟩:=ε a;have ae:Hid (o=a\/o=a+1):=Ac (.inl r);have aG:Hid (o<=l.length):=Ac O;have aE:Hid (AA iU ((a:Int))=gz iU (o:Int)):=Ac (by rw[r]);have aD:Hid (Hu l s=e++(U7 ⟨j,q,t⟩++Hu (l.drop o) (s.drop (d+1)))):=Ac (by
      rw[k.out,r,P7,lg y,show(⟨p,ab⟩:Pr)::l.drop (a+1)=l.drop a by rw[L];exact(BX v).symm];rfl)
     obtain⟨z,R⟩:∃z,Nc j p=z:=⟨_,rfl⟩;have u:=Ac (λb=>dL ⟨j,q,t⟩ p b);simp only[R]at u i y;unfold OY at u;have t4:=dF (0<z) i;have t5:(z==0)=false:=beq_eq_false_iff_ne.2 y;have F:Hid (∀b,η wr b->(b.cell? (Φ f)=jm (ig j)/\b.cell? (Δ f 1)=jm (ig q)/\b.cell? (Δ f 2)=jm (iw t))/\b.cell? (Δ x (H+a*2))=jm (ig p)):=Ac (λb S=>⟨(T.out.ξ S).p3,(BQ (w:=wr) (S.block x aa)).trans m⟩);clear M N R L i y r k v;go_wp2_with fail;go_region_held3(λb=>(b.cell? (Φ f)=jm (ig j)/\b.cell? (Δ f 1)=jm (ig q)/\b.cell? (Δ f 2)=jm (iw t))/\b.cell? (Δ x (H+a*2))=jm (ig p))
      (first|exact⟨⟨C,D,E⟩,m⟩|exact F _ g)
      ((first|(go_at_call 110;refine(u _).mono ?_;rintro I J⟨rfl,Q⟩;have g:η wr J:=(mX wr).trans Q)))
     obtain⟨⟨C,D,E⟩,m⟩:=F _ g;have ad:=Ac g;clear g Q;go_wp2_with fail;go_region_held3(λb=>(b.cell? (Φ f)=jm (ig j)/\b.cell? (Δ f 1)=jm (ig q)/\b.cell? (Δ f 2)=jm (iw t))/\b.cell? (Δ x (H+a*2))=jm (ig p))
      (first|exact⟨⟨C,D,E⟩,m⟩|exact F _ g)
      ((first|(go_at_call 110;refine(u _).mono ?_;rintro I b⟨rfl,ao⟩;have g:η wr b:=τ ad.out ((mX J).trans ao))))
     clear ao C D E m u ad
    case' inr.inr.inr=>
     obtain⟨x,H,rfl,aa,m,-⟩:=(X _ n).at a v;obtain⟨M,N⟩:=(ZH s[d] l a v).2 i;rw[M,N]at k;rw[<-al.out]at i y k;obtain⟨av,L⟩:=ε (l[a]);rw[<-L]at m k i y;obtain⟨p,ab⟩:=av;simp only at m i y;obtain⟨t1,t2⟩:=xk v;have t3:(a:Int)<(l.length:Int):=O;obtain⟨o,r⟩:=ε (a+1);have ae:Hid (o=a\/o=a+1):=Ac (.inr r);have aG:Hid (o<=l.length):=Ac O;have aE:Hid (AA iU (((a:Int)+1))=gz iU (o:Int)):=Ac (by rw[r];rfl);have aD:Hid (Hu l s=e++(U7 ⟨j,q,t⟩++Hu (l.drop o) (s.drop (d+1)))):=Ac (by
      rw[k.out,r,P7,kX y];rfl)
     obtain⟨z,R⟩:∃z,Nc j p=z:=⟨_,rfl⟩;have u:=Ac (λb=>dL ⟨j,q,t⟩ p b);simp only[R]at u i y;unfold OY at u;have t4:=dF (0<z) i;have t5:(z==0)=true:=beq_iff_eq.2 y;have F:Hid (∀b,η wr b->(b.cell? (Φ f)=jm (ig j)/\b.cell? (Δ f 1)=jm (ig q)/\b.cell? (Δ f 2)=jm (iw t))/\b.cell? (Δ x (H+a*2))=jm (ig p)):=Ac (λb S=>⟨(T.out.ξ S).p3,(BQ (w:=wr) (S.block x aa)).trans m⟩);clear M N R L i y r k v;go_wp2_with fail;go_region_held3(λb=>(b.cell? (Φ f)=jm (ig j)/\b.cell? (Δ f 1)=jm (ig q)/\b.cell? (Δ f 2)=jm (iw t))/\b.cell? (Δ x (H+a*2))=jm (ig p))
      (first|exact⟨⟨C,D,E⟩,m⟩|exact F _ g)
      ((first|(go_at_call 110;refine(u _).mono ?_;rintro I J⟨rfl,Q⟩;have g:η wr J:=(mX wr).trans Q)))
     obtain⟨⟨C,D,E⟩,m⟩:=F _ g;have ad:=Ac g;clear g Q;go_wp2_with fail;go_region_held3(λb=>(b.cell? (Φ f)=jm (ig j)/\b.cell? (Δ f 1)=jm (ig q)/\b.cell? (Δ f 2)=jm (iw t))/\b.cell? (Δ x (H+a*2))=jm (ig p))
      (first|exact⟨⟨C,D,E⟩,m⟩|exact F _ g)
      ((first|(go_at_call 110;refine(u _).mono ?_;rintro I b⟨rfl,ao⟩;have g:η wr b:=τ ad.out ((mX J).trans ao))))
     clear ao C D E m u ad
    all_goals(
     obtain⟨aL,ac,Y⟩:=l9 (Eu G g) (T.out.ξ g) (τ n.out g);obtain⟨C,D,E⟩:=ac.p3;have W:e.length<=1000000:=Ψ ah.out am.out;clear g G n T X)
    all_goals(cases t)
    all_goals(
     go_wp2_with(at_builtin;refine BU rfl (.tmp 57) (.tmp 63) 37 rfl Tryz.Uo b w.heap.size u5 e.length (Ht e) (prC ⟨j,q⟩) rfl aL rfl b.heap.size 1 rfl rfl rfl U (dV _) W U Y.size ?_;intro bY bW b5 a5 a3 bp aw);go_roundw)
    all_goals first
     |exact⟨e++[⟨j,q⟩],o,d+1,aE,by go_num,aG,O,by rw[AO,VQ];simpa[Ht]using a5,by rw[aD.out];simp[U7],by have:=ae.out;simp;omega,Y.trans a3⟩
     |exact⟨e,o,d+1,aE,by go_num,aG,O,aL,by rw[aD.out];rfl,Ω ae.out,Y⟩
     |(simp[intOf];omega)
  ·have b3:=dF (d<s.length) aW;have b2:=dF ((d:Int)<(s.length:Int));have az:Hid (Hu l s=e++l.drop a):=Ac (by rw[k.out,D9 (by omega:s.length<=d)];rfl);clear k;by_cases a8:a<l.length
   ·obtain⟨bS,bV,rfl,bw,-,-⟩:=(X _ n).at a a8;have b1:¬c=a:=Ω bQ.out;have br:=(X _ n).drop a a8;have aI:=Ac br;have aM:=dT (a<=l.length) aR;clear br;have bk:Hid ((l.drop a).length=l.length-a):=Ac (AU ..);have W:e.length+(l.length-a)<=1000000:=Ψ ah.out am.out;go_wp2_with(at_builtin;refine Fq rfl (.tmp 66) (.tmp 69) 37 rfl Tryz.Uo U w.heap.size u5 e.length (Ht e) rfl G _ _ _ (Ht (l.drop a)) rfl (by rw[<-bk.out];exact aI) (vX _) W U n.size ?_;intro bN w' V K r);go_ret;refine⟨_,rfl,?_,n.trans K⟩;rw[az.out,AO,bk.out,VQ];exact V
   ·have ap:l.length=a:=O;have bx:l.drop a=[]:=D9 O;rw[bx,EN]at az;have aM:=dT (a<=l.length) aR;have W:e.length+0<=1000000:=Ψ ah.out am.out;have ae:=Ac ap;have aI:Hid (∀(P:Option Addr),Rd wr P ((l.length-a)*2) (Ht [])):=Ac (λP=>by rw[ap,Pv];exact⟨rfl,λh=>absurd h Θ⟩);have bj:Hid (e.length+(l.length-a)<=1000000):=Ac (by rw[ap];omega);have bm:Hid (e.length+(l.length-a)=e.length):=Ac (by rw[ap];omega);clear ap bx a8 W;by_cases b1:c=a
    ·go_wp2_with(at_builtin;refine Fq rfl (.tmp 66) (.tmp 69) 37 rfl Tryz.Uo U w.heap.size u5 e.length (Ht e) rfl G _ _ _ (Ht []) rfl (aI _) (vX _) bj U n.size ?_;intro bN w' V K r);go_ret;refine⟨_,rfl,?_,n.trans K⟩;rw[az.out];rw[bm.out,show Ht []=[]from rfl,EN]at V;exact V
    ·cases A
     all_goals(
      go_wp2_with(at_builtin;refine Fq rfl (.tmp 66) (.tmp 69) 37 rfl Tryz.Uo U w.heap.size u5 e.length (Ht e) rfl G _ _ _ (Ht []) rfl (aI _) (vX _) bj U n.size ?_;intro bN w' V K r);go_ret;refine⟨_,rfl,?_,n.trans K⟩;rw[az.out];rw[bm.out,show Ht []=[]from rfl,EN]at V;exact V)
def Ur(b a:nG)(l:List Wr):List Wr:=l.filter λc=>FB c.key b a
def ND(s:St)(b:Nat)(c a:nG)(it:List nC×ni):List Pr:=
 match Je ((IU s it.2).getD []) b with
 |some t=>if FB ⟨it.1.toArray⟩ c a=jO then[⟨⟨it.1.toArray⟩,t⟩]else[]
 |none=>[]
def readA(s:St)(b:Nat)(c a:nG)(nJ:List (List nC×ni)):List Pr:=(nJ.map (ND s b c a)).flatten
def qU(s:St)(c:Nat)(b a:nG)(nJ:List (List nC×ni))(own:List Wr):List Pr:=Hu (readA s c b a nJ) (Ur b a own)
def Atk(y:Wr):∀b∈wrC y,b.oneCell'=true:=by
 intro b a;simp only[wrC,Cb,bH,or_false]at a;rcases a with rfl|rfl|rfl<;>rfl
def Akt(b a:nG)(l:List Wr){k:Nat}(c:k<l.length):Ur b a (l.take (k+1))=Ur b a (l.take k)++if FB l[k].key b a=jO then[l[k]]else[]:=by
 unfold Ur;rw[BH c,List.filter_append];by_cases h:FB l[k].key b a=jO
 ·rw[kX h];simp[h]
 ·rw[lg h];simp[h]
def Afa(s:St)(b:Nat)(c a:nG)(l:List (List nC×ni)){k:Nat}(d:k<l.length):readA s b c a (l.take (k+1))=readA s b c a (l.take k)++ND s b c a l[k]:=by
 unfold readA;rw[BH d,CJ,List.flatten_append];simp
def Aa7(s:St)(b:Nat)(c a:nG)(it:List nC×ni):(ND s b c a it).length<=1:=by
 unfold ND;split
 ·split<;>simp
 ·simp
def ZI(s:St)(b:Nat)(c a:nG):∀(l:List (List nC×ni)),(readA s b c a l).length<=l.length
 |[]=>by simp[readA]
 |d::l=>by
  have e:=ZI s b c a l;have f:=Aa7 s b c a d;show(ND s b c a d++readA s b c a l).length<=l.length+1;rw[AO];omega
section
variable{lm:Mode}{w w':jT}{g d p x tt bk L:Nat}{s:St}{b:Bk}{t:Tb}{F J:Nat->Prop}{oV:ni}{jv:ku}{id:Int}{sv:ku}{st:ni}
def Atl(h:CB (.up lm) w g d p x tt bk L s b t F J oV jv id sv st){i:Nat}(hi:i<8)(aE:t.wt.ops i=jO)(av:(t.sets i).length<=16)(e c:nG)
 {nJ:List (List nC×ni)}{cf:List Int}(bq:Em s=jm (nJ,cf))(cr:nJ.length<=100000)
 (bj:∀a(h1:a<nJ.length),∃V,IU s nJ[a].2=jm V/\V.length<=100000):
 Calls prog 30 #[AB g,i,e,c] w λy w'=>∃X,y=iO (iJ #[X,gz iU 0])/\
  w'.ownsRow w 159 2 X (qU s (t.wt.ats i).toNat e c nJ (t.sets i)).length (Ht (qU s (t.wt.ats i).toNat e c nJ (t.sets i)))/\η w w':=by
 have ad:=Ac (aO h (i:Int));rw[kX (Un hi aE)]at ad;have a1:=Ac (VI h.ix);have N:=Ac (λm(a:η w m)=>Yv (h.tb.below a) (i:Int));rw[SL hi aE]at N;have ae:=Ac (λm(a:η w m)=>Vd (h.tb.below a) hi aE O);have bN:=Ac h;obtain⟨k,ba⟩:∃k,t.wt.ats i=k:=⟨_,rfl⟩;rw[ba]at N⊢;obtain⟨own,bi⟩:=ε (t.sets i);rw[<-bi]at ae av⊢;obtain⟨ar,bR,bX⟩:=l9 av bj bq;have a5:Hid (∀m,η w m->m.cell? (Δ g 2)=jm (AB x)/\m.cell? (Δ g 3)=jm (AB tt)):=Ac (λm a=>⟨(h.box.ξ a).cell 2,(h.box.ξ a).cell 3⟩);obtain⟨ap,aq⟩:=a5 w  mZ;clear h bi bj bq ba av;go_in;go_wp2_with(first|(refine ad.out.ro ?_)|(refine a1.out.mono ?_;rintro y cu⟨bb,bl⟩;rw[bX.out]at bl;obtain⟨ct,rfl,bh,b8⟩:=bl;obtain⟨cn,cq,rfl,b5,bm⟩:=C9 bh;have P:=Ac bb;have a2:=Ac bm;clear a1 bh b5 bm bb b8 ad ap aq;obtain⟨ap,aq⟩:=a5 _ P)|(refine(N _ P).ro ?_)|(refine(ae _ P).mono ?_;rintro y aG⟨cs,rfl,a8,aw⟩;obtain⟨co,cp,b9,_,bp⟩:=C9 a8;subst b9;obtain⟨bL,a3,bW⟩:=l9 (τ P.out aw) (Rd.below a2 aw) bp;clear a8 aw ae N a2 ap aq bp));go_loopw [17,62](λcg v wr=>∃a:Nat,a<=own.length/\v=gz iU (a:Nat)/\wr.ownsRow aG 143 3 cg (Ur e c (own.take a)).length (GK (Ur e c (own.take a)))/\η aG wr)(λ_ v _=>own.length-(intOf v).toNat)
 case atStart=>exact⟨0,Bd _,rfl,Ce _ _ _ _,mZ⟩
 case round=>
  obtain⟨a,b7,rfl,I,G⟩:=hrel;have n:=Ac I;have j:=Ac G;clear I G;by_cases o:a<own.length
  ·obtain⟨bY,ch,rfl,b4,z,A,ci⟩:=pY (Rd.below bW j) a o;have cb:=XH o;have ca:=XI a (Ω ar.out);have f:=Ac (Akt e c own o);have ac:Hid ((Ur e c (own.take a)).length<=100000):=Ac (by
    have:(Ur e c (own.take a)).length<=(own.take a).length:=JV _ _;rw[Cc]at this;have:=ar.out;omega)
   generalize own[a]=cm at*;obtain⟨Y,bA,bx⟩:=cm;simp only at z A ci f;obtain⟨B,K,az,aR⟩:=E5 wr 143 [Y,bA,bx];obtain⟨r,aa,a6,bt⟩:=lL (λm=>kN Y e c m) (τ j.out az) (Eu n az) K;obtain⟨Z,aL,aM⟩:=aR.p3;clear az aR n j;cases l:FB Y e c with
   |true=>
    rw[l]at r;rw[kX l]at f;rw[K]at Z aL aM;clear K l;go_wp2_with fail;refine(r.out _).ro ?_;rw[<-bt.out]at Z aL aM⊢;go_wp2_with(at_builtin;refine BU rfl (.tmp 71) (.tmp 73) 49 rfl Tryz.pU B aG u17 (Ur e c (own.take a)).length (GK (Ur e c (own.take a))) (wrC ⟨Y,bA,bx⟩) rfl (by exact a6) rfl B 1 rfl rfl rfl U (Atk _) (Ω ac.out) U (by exact aa.size) ?_;intro b3 b2 cl E D au an);have ao:=Ac E;have al:=Ac (aa.trans D);clear E D au an;go_wp2;exact⟨⟨a+1,O,by go_num,by rw[f.out,AO,Yp];simpa[GK]using ao.out,al⟩,mz⟩
   |false=>
    rw[l]at r;rw[lg (by rw[l];simp),EN]at f;rw[K]at Z aL aM;clear K l;go_wp2_with(refine(r.out _).ro ?_;rw[<-bt.out]);exact⟨⟨a+1,O,by go_num,by rw[f.out];exact a6,aa⟩,mz⟩
  ·have H:own.take a=own:=Dq O;obtain⟨cc,cd⟩:=wO o;rw[H]at n;obtain⟨B,rfl⟩:=ε wr;obtain⟨bB,b0,rfl,b6,bo⟩:=C9 n;obtain⟨bS,bV,ab⟩:=l9 bo (Rd.below a3 j) (τ bL.out j.out);have bO:Hid ((Ur e c own).length<=100000):=Ac (by
    have:(Ur e c own).length<=own.length:=JV _ _;have:=ar.out;omega)
   clear b6 bo n j a3 H;go_wp2_with fail;go_loopw [20,78](λX v wr=>∃a:Nat,a<=nJ.length/\v=gz iU (a:Nat)/\wr.ownsRow B 159 2 X (readA s k.toNat e c (nJ.take a)).length (Ht (readA s k.toNat e c (nJ.take a)))/\η B wr)(λ_ v _=>nJ.length-(intOf v).toNat)
   case atStart=>exact⟨0,Bd _,rfl,Ce _ _ _ _,mZ⟩
   case round=>
    obtain⟨a,b7,rfl,I,G⟩:=hrel;have n:=Ac I;have j:=Ac G;clear I G;by_cases o:a<nJ.length
    ·obtain⟨bY,ch,rfl,b4,z,A⟩:=vT (Rd.below bV j) a o;obtain⟨V,R,bg⟩:=bR a o;have cb:=XH o;have ca:=XI a O;have f:=Ac (Afa s k.toNat e c nJ o);have ac:Hid ((readA s k.toNat e c (nJ.take a)).length<=100000):=Ac (by
      have:=ZI s k.toNat e c (nJ.take a);rw[Cc]at this;omega)
     obtain⟨ce,be⟩:=ε (nJ[a]);rw[<-be]at z A R f;obtain⟨T,bw⟩:=ce;unfold ND at f;simp only[R,Option.getD_some]at z A f;obtain⟨cv,br,aD,aW⟩:=E5 wr 157 [ig ⟨T.toArray⟩,bw];have am:=τ j.out aD;obtain⟨q,r,ah,M,Q,a4⟩:=lN (Apg (bN.below (τ ab.out am)) bw k R bg) (λm=>kN ⟨T.toArray⟩ e c m) aW am (Eu n aD) br;unfold vW at q;clear R bg be br aD am aW n j;cases S:Je V k.toNat with
     |none=>
      rw[S]at q f;simp only[EN]at q f;clear S;go_wp2_with(rw[<-a4.out];refine q.mono ?_;rintro y aI⟨rfl,u⟩;have W:=Ac (Eu Q u);have C:=Ac (τ M.out u);clear q u ah Q M z A);exact⟨⟨a+1,O,by go_num,by rw[f.out];exact W,C⟩,mz⟩
     |some cj=>
      rw[S]at q f;simp only at q f;clear S;go_wp2_with fail;rw[<-a4.out];refine q.mono ?_;rintro y aI⟨rfl,u⟩;have a0:=ah.out.ξ u;have Z:=a0.p1;have C:=Ac (τ M.out u);have W:=Ac (Eu Q u);clear q u a0 ah Q M z A;cases l:FB ⟨T.toArray⟩ e c with
      |true=>
       rw[l]at r;rw[kX l]at f;clear l;go_wp2_with fail;refine(r.out _).ro ?_;go_wp2_with(at_builtin;refine BU rfl (.tmp 100) (.tmp 105) 37 rfl Tryz.Uo aI B u20 (readA s k.toNat e c (nJ.take a)).length (Ht (readA s k.toNat e c (nJ.take a))) (prC ⟨⟨T.toArray⟩,cj⟩) rfl (by exact W) rfl aI 1 rfl rfl rfl U (dV _) (Ω ac.out) U (by exact C.size) ?_;intro b3 b2 cl E D au an);have ao:=Ac E;have al:=Ac (C.trans D);clear E D au an;go_wp2;exact⟨⟨a+1,O,by go_num,by rw[f.out,AO,VQ];simpa[Ht]using ao.out,al⟩,mz⟩
      |false=>
       rw[l]at r;rw[lg (by rw[l];simp),EN]at f;clear l;go_wp2_with(refine(r.out _).ro ?_);exact⟨⟨a+1,O,by go_num,by rw[f.out];exact W,C⟩,mz⟩
    ·have H:nJ.take a=nJ:=Dq O;obtain⟨cc,cd⟩:=wO o;rw[H]at n;obtain⟨bE,b1,rfl,bd,bs⟩:=C9 n;have a7:=Ac (kQ (readA s k.toNat e c nJ) (Ur e c own) bE bB b1 b0 wr (Ω (ZI s k.toNat e c nJ)) bO bs bd (Rd.below bS j));clear bs bd n H;go_wp2_with(refine a7.out.mono ?_;rintro y cw⟨ck,rfl,a9,bc⟩;have bQ:=Ac (Ti a9 (AZ ab.size j.size));have bM:=Ac (τ ab.out (τ j.out bc));clear a9 bc a7);go_ret2;exact⟨ck,rfl,bQ,bM⟩
end
def Jd(q:Ms)(low:ni)(it:List nC×ni):Ms×Int×Int:=
 match IU q.s it.2 with
 |none=>(q,0,5)
 |some a=>if 0<MK a low.toNat then((OI q a (MK a low.toNat)).1,(a.length:Int) -(MK a low.toNat:Nat),(OI q a (MK a low.toNat)).2)else
  if(Iq q it.1).2.2≠0 then((Iq q it.1).1,0,(Iq q it.1).2.2)else
  if(Gh (Iq q it.1).1 a).2≠0 then((Gh (Iq q it.1).1 a).1,0,(Gh (Iq q it.1).1 a).2)else((Gh (Iq q it.1).1 a).1,a.length,0)
section
variable{m0 m1:DJ}{w w':jT}{g d p x tt bk L:Nat}{s s2:St}{b:Bk}{t:Tb}{F F2 J:Nat->Prop}{oV:ni}{jv:ku}{id:Int}{sv:ku}{st:ni}
def CB.sys(h:CB m0 w g d p x tt bk L s b t F J oV jv id sv st)(i:KH m1 w' x d p L s2 F2)(m:AQ F F2 w w'):CB m1 w' g d p x tt bk L s2 b t F2 J oV jv id sv st:=by
 have f:AQ (λk=>F k\/J k) (λk=>F2 k\/J k) w w':=⟨m.touch.mono (λk=>.inl),λk a=>by
  rcases a with a|a
  ·exact(m.own k a).imp .inl (λh=>h)
  ·exact .inl (.inr a)⟩
 refine⟨i,h.tb.moved f,h.jg,λk a=>Bc (h.jl k a) m.touch.size,h.box.touch m.touch h.fg,λe=>?_,h.g1,h.g2,h.g3,h.g4,h.x1,h.x2,h.c1,h.c2,h.c3⟩;rcases m.own g e with c|c
 ·exact h.fg c
 ·have:=h.box.lt;omega
def Us{c n k:Nat}{e:TypeId}{v:ku}{xs:List ku}(h:w.ownsRow c e k v n xs)(hF:∀a,F a->a<c):∃A a,v=fM A n a/\n<=a/\MB w F A (n*k) xs:=by
 obtain⟨A,a,rfl,d,i⟩:=C9 h;refine⟨A,a,rfl,d,i,λp j e f=>?_⟩;rcases h.2 with⟨b,_⟩|⟨g,l,m,b,o,_⟩
 ·injection b with b;rw[b]at e;cases e
 ·injection b with b
  rw[b]at e;injection e with e
  subst e;have:=hF g f;omega
def Api{lf:Int}{q:Ms}(bL:q.pw=.up lf)(h:CB q.pw.mode w g d p x tt bk L q.s b t F J oV jv id sv st)(key:nG)(a2:key.size<=16)(first low:ni){l:List Lk}(al:IU q.s first=jm l)(a3:l.length<=100000):
 Calls prog 70 #[AB g,.agg #[key,first],low] w λN w'=>
  N=iO (iJ #[gz iU (Jd q low (key,first)).2.1,gz iU (Jd q low (key,first)).2.2])/\
  ∃f,CB (Jd q low (key,first)).1.pw.mode w' g d p x tt bk L (Jd q low (key,first)).1.s b t f J oV jv id sv st/\AQ F f w w':=by
 obtain⟨cD,s⟩:=q;simp only at bL al h;subst bL;have am:Pw.mode (.up lf)=.up (MU lf):=rfl;obtain⟨c,bw,aI,ab⟩:=E5 w 157 [key,first];have H:=h.below aI;have ad:=Ac (λz(a:η c z)=>VC (lm:=MU lf) (H.ix.below a).sys first);unfold jo at ad;rw[al]at ad;have ac:Hid (∀z,η c z->z.cell? (Φ g)=jm (AB d)/\z.cell? (Δ g 1)=jm (AB p)/\z.cell? (Δ g 2)=jm (AB x)/\z.cell? (Φ w)=jm (ig key)/\z.cell? (Δ w 1)=jm (gz iV (first.toNat:Int))):=Ac (λz a=>⟨(H.box.ξ a).cell 0,(H.box.ξ a).cell 1,(H.box.ξ a).cell 2,(ab.ξ a).cell 0,(ab.ξ a).cell 1⟩);have bh:Hid (∀X D,η c X->∀{f},AQ F f X D->D.cell? (Φ w)=jm (ig key)):=Ac (λX D a _ m=>((ab.ξ a).touch m.touch (λa1=>Ω (h.ix.sys.lt _ a1))).cell 0);have bO:=Ac (λ(A:Option Addr)(o:Nat)(c:jT)(I:LkR c A l)=>Ai4 l A o low c a3 I);have b5:Hid (∀o,F o->o<c):=Ac H.ix.sys.lt;have n:=Ac H;obtain⟨b4,bj,bl,bm⟩:=h.ix.L0;have bY:Hid (Ny s l->∀a∈l,∃au:Nat,a.off=((8*au:Nat):Int)/\au+8<=8*L/\au<=10000):=Ac (λca a a2=>by
  obtain⟨cv,cw,b8,b9⟩:=pO bl bm bj (ca.at_ a a2).2.2.1;exact⟨a.off.toNat/8,b8,b9,O⟩)
 obtain⟨u,ao⟩:∃u,MK l low.toNat=u:=⟨_,rfl⟩;have cx:u<=l.length:=by rw[<-ao];exact Sj _ _ _
 obtain⟨y,a4⟩:∃y,Jd ⟨.up lf,s⟩ low (key,first)=y:=⟨_,rfl⟩;rw[a4];have i:Hid (y=if 0<u then((OI ⟨.up lf,s⟩ l u).1,(l.length:Int) -(u:Nat),(OI ⟨.up lf,s⟩ l u).2)else
  if(Iq ⟨.up lf,s⟩ key).2.2≠0 then((Iq ⟨.up lf,s⟩ key).1,0,(Iq ⟨.up lf,s⟩ key).2.2)else
  if(Gh (Iq ⟨.up lf,s⟩ key).1 l).2≠0 then((Gh (Iq ⟨.up lf,s⟩ key).1 l).1,0,(Gh (Iq ⟨.up lf,s⟩ key).1 l).2)else((Gh (Iq ⟨.up lf,s⟩ key).1 l).1,l.length,0)):=Ac (by
   rw[<-a4];unfold Jd;simp only[al,ao])
 rw[ao]at bO;obtain⟨K,B,M,C,aa⟩:=ac c  mZ;obtain⟨b1,bi,az⟩:=l9 bw aI a3;clear h H al bw aI ab a3 am ao b4 bj bl bm a4;go_in;go_wp2_with fail;rw[<-b1.out];go_region_held3(λw'=>w'.cell? (Φ g)=jm (AB d)/\w'.cell? (Δ g 1)=jm (AB p)/\w'.cell? (Δ g 2)=jm (AB x)/\w'.cell? (Φ w)=jm (ig key)/\w'.cell? (Δ w 1)=jm (gz iV (first.toNat:Int)))
  (first|exact⟨K,B,M,C,aa⟩|exact ac _ ((mX c).trans aM))
  ((first|(go_at_call 91;refine(ad _ (mX c)).mono ?_;rintro N cp⟨aM,bB,cE,rfl,bt⟩;obtain⟨bQ,b7,cd,a8,bM⟩:=Us (F:=F) bt (λo aW=>Bc (b5 o aW) ((Dr.drew c).below c).size);subst cd)))
 all_goals(
  obtain⟨aE,bX,bW,bo⟩:=lL bM a8 (((Dr.drew c).below c).trans aM) (bY bB);clear bM aM bB bt K B M C aa ad a8;go_wp2_with fail;refine(bO bQ b7 cp aE.1).mono ?_;rintro N e⟨rfl,aR⟩;have k:=Ac (τ bW.out aR);have ae:=Ac (aE.below aR);obtain⟨K,B,M,C,aa⟩:=ac _ k;clear aR aE)
 by_cases an:0<u
 ·obtain⟨Z,rfl⟩:∃Z,u=Z+1:=⟨u-1,O⟩;rw[kX an]at i;have cy:=wR ((l.length:Int) -((Z:Int)+1)) (Ω az.out);have aq:=Ac (λX(a:η e X)=>Aje (q:=⟨.up lf,s⟩) ((n.below (τ k.out a)).ix.sys) (ae.below a) bX az bo Z O);obtain⟨⟨a6,aG⟩,I⟩:∃y,OI ⟨.up lf,s⟩ l (Z+1)=y:=⟨_,rfl⟩;rw[I]at aq i;simp only at aq i;clear I an ae;go_wp2_with fail;go_region_held3(λw'=>w'.cell? (Φ g)=jm (AB d)/\w'.cell? (Δ g 1)=jm (AB p))
   (first|exact⟨K,B⟩|exact U)
   ((first|(go_at_call 115;refine(aq _ (mX e)).mono ?_;rintro N P⟨rfl,Q,W,r⟩;have U:P.cell? (Φ g)=jm (AB d)/\P.cell? (Δ g 1)=jm (AB p):=⟨((n.below (τ k.out (mX e))).box.touch r.touch n.fg).cell 0,((n.below (τ k.out (mX e))).box.touch r.touch n.fg).cell 1⟩)))
  all_goals(
   obtain⟨bd,b3,E⟩:=l9 (n.below (τ k.out (mX e))) W r;clear W r U aq K B M C aa;go_wp2;go_ret2;obtain rfl:=i.out;exact⟨rfl,Q,bd.sys (bd.ix.move b3 E) E,(mW (τ bi.out (τ k.out (mX e)))).trans E⟩)
 ·have bR:u=0:=O;subst bR;rw[lg an]at i;clear an;have R:=Ac (λX(a:η e X)=>Aal (lf:=lf) (n.below (τ k.out a)).ix key O);unfold SQ at R;obtain⟨⟨a6,cu,aG⟩,I⟩:∃y,Iq ⟨.up lf,s⟩ key=y:=⟨_,rfl⟩;rw[I]at R i;simp only at R i;clear I;go_wp2_with fail;go_region_held3(λw'=>w'.cell? (Δ g 2)=jm (AB x)/\w'.cell? (Φ w)=jm (ig key))
   (first|exact⟨M,C⟩|exact U)
   ((first|(go_at_call 94;refine(R _ (mX e)).mono ?_;rintro N P⟨rfl,Q,W,r⟩;have U:P.cell? (Δ g 2)=jm (AB x)/\P.cell? (Φ w)=jm (ig key):=⟨((n.below (τ k.out (mX e))).box.touch r.touch n.fg).cell 2,bh _ _ (τ k.out (mX e)) r⟩)))
  obtain⟨be,E,b0⟩:=l9 ((n.below (τ k.out (mX e))).sys W r) ((mW (τ bi.out (τ k.out (mX e)))).trans r) ((ae.below (mX e)).moved r);clear W r U R K B M C aa ae n bh ac;by_cases a0:aG=0
  ·subst a0;rw[lg Θ]at i;go_wp2_with fail;go_loopw [65](λa5 wr=>∃(a:Nat)(j:Ms)(f:Nat->Prop),a<=l.length/\a5=gz iU (a:Nat)/\Gh a6 l=Gh j (l.drop a)/\CB j.pw.mode wr g d p x tt bk L j.s b t f J oV jv id sv st/\AQ Q f P wr)(λa5 _=>l.length-(intOf a5).toNat)
   case atStart=>exact⟨0,a6,Q,Bd _,rfl,rfl,be,AQ.refl _ _⟩
   case round=>
    obtain⟨a,j,f,a2,rfl,bA,br,am⟩:=hrel;obtain⟨a7,av,aD⟩:=l9 bA br am;clear bA br am;have cz:=XI a (Ω az.out);by_cases V:a<l.length
    ·obtain⟨cs,ct,rfl,cr,ci,cj,ck,cl,cm⟩:=LkR.at (b0.moved aD).1 a V;obtain⟨au,bE,cb,cc⟩:=bo _ (BO V);have G:Hid (Gh j (l.drop a)=if(DT j l[a].off).2=0 then Gh (DT j l[a].off).1 (l.drop (a+1))else DT j l[a].off):=Ac (by
      rw[BX V,Gh])
     generalize l[a]=cg at*;obtain⟨Y,cq,cf,ce,ch⟩:=cg;simp only at ci cj ck cl cm G bE;obtain⟨v,bx,aL,ba⟩:=E5 wr 197 [Y,cq,cf,ce,ch];have T:=av.below aL;have bs:∀o,f o->o≠wr:=λo aW=>Ω (av.ix.sys.lt o aW)
     have ar:=Ac (λX(ap:η v X)=>LZ (q:=j) (T.below ap).ix.sys Y O);obtain⟨⟨cn,bp⟩,bN⟩:∃y,DT j Y=y:=⟨_,rfl⟩;rw[bN]at G ar;simp only at G ar;have b2:=Ac bx;have aw:Hid (∀X D,η v X->∀{bS},AQ f bS X D->D.cell? (Δ g 1)=jm (AB p)/\D.cell? (Φ wr)=jm (gz iU Y)):=Ac (λX D ap _ m=>⟨((T.below ap).box.touch m.touch T.fg).cell 1,((ba.ξ ap).touch m.touch (λa1=>bs _ a1 rfl)).cell 0⟩);obtain⟨B,C⟩:=aw v v  mZ (AQ.refl f v);have bc:=Ac T;have bV:=Ac aL;have cA:=XH V;clear bx aL ba bN bE cb cc T bs;go_wp2_with fail;rw[<-b2.out];go_region_held3(λw'=>w'.cell? (Δ g 1)=jm (AB p)/\w'.cell? (Φ wr)=jm (gz iU Y))
      (first|exact⟨B,C⟩|exact aw _ _ (mX v) S)
      ((first|(go_at_call 98;refine(ar _ (mX v)).mono ?_;rintro N cF⟨rfl,bb,a9,S⟩)))
     all_goals(
      have bg:=Ac ((bc.below (mX v)).sys ((bc.below (mX v)).ix.move a9 S) S);have bq:=Ac ((aD.trans (mW (τ bV.out (mX v)))).trans S);clear a9 S ar aw B C)
     by_cases ah:bp=0
     ·subst ah;rw[kX rfl]at G;go_wp2;exact⟨⟨a+1,cn,bb,O,by go_num,by rw[a7.out,G.out],bg,bq⟩,mz⟩
     ·have co:(bp==0)=false:=beq_eq_false_iff_ne.2 ah;rw[lg ah]at G;go_wp2;go_ret2;obtain rfl:=i.out;rw[a7.out,G.out,kX ah];exact⟨rfl,bb,bg,E.trans bq⟩
    ·obtain⟨cB,cC⟩:=wO V;have b6:Hid (Gh j (l.drop a)=(j,0)):=Ac (by rw[D9 O];rfl);go_wp2;go_ret2;obtain rfl:=i.out;rw[a7.out,b6.out,lg Θ];exact⟨rfl,f,av,E.trans aD⟩
  ·have co:(aG==0)=false:=beq_eq_false_iff_ne.2 a0;rw[kX a0]at i;go_wp2;go_ret2;obtain rfl:=i.out;exact⟨rfl,Q,be,E⟩
end
def Rn(low:ni):Ms->List (List nC×ni)->Int->Ms×Int×Int
 |a,[],c=>(a,c,0)
 |a,b::d,c=>if(Jd a low b).2.2≠0 then((Jd a low b).1,0,(Jd a low b).2.2)else Rn low (Jd a low b).1 d (c+(Jd a low b).2.1)
def qV(low:ni):Ms->List (List nC×ni)->Prop
 |_,[]=>True
 |b,a::d=>(∃lf,b.pw=.up lf)/\a.1.length<=16/\(∃c,IU b.s a.2=jm c/\c.length<=100000)/\((Jd b low a).2.2=0->qV low (Jd b low a).1 d)
def Aa8{q:Ms}{low:ni}{it:List nC×ni}{l:List Lk}(a:IU q.s it.2=jm l)(c:l.length<=100000):0<=(Jd q low it).2.1/\(Jd q low it).2.1<=100000:=by
 have b:MK l low.toNat<=l.length:=Sj low.toNat l jS;unfold Jd;rw[a];simp only;split
 ·dsimp only;omega
 ·split
  ·dsimp only;omega
  ·split<;>dsimp only<;>omega
section
variable{w w':jT}{g d p x tt bk L:Nat}{b:Bk}{t:Tb}{F F2 J:Nat->Prop}{oV:ni}{id:Int}{sv:ku}{st:ni}
def Akv{lf:Int}{q:Ms}(a4:q.pw=.up lf)(h:CB q.pw.mode w g d p x tt bk L q.s b t F J oV .nilIface id sv st){nJ:List (List nC×ni)}{bt:List Int}(aa:Em q.s=jm (nJ,bt))(a1:nJ.length<=100000)(ac:qV (Eo t.wt oV) q nJ):
 Calls prog 34 #[AB g] w λn w'=>n=iO (iJ #[gz iU (Rn (Eo t.wt oV) q nJ 0).2.1,gz iU (Rn (Eo t.wt oV) q nJ 0).2.2])/\
  ∃az f,az.nt=b.nt/\CB (Rn (Eo t.wt oV) q nJ 0).1.pw.mode w' g d p x tt bk L (Rn (Eo t.wt oV) q nJ 0).1.s az t f J oV .nilIface id sv st/\AQ (λa=>F a\/a=bk) (λa=>f a\/a=bk) w w':=by
 obtain⟨b9,s⟩:=q;simp only at a4 aa h;subst a4;obtain⟨aq,an,ah,bl,H⟩:=lM (Vh h) (VG h (o:=jw) rfl) (VI (len:=MU lf) h.ix) aa h;have aD:=h.box.c2;unfold CZ at aD;obtain⟨r,V⟩:=ε (Eo t.wt oV);have be:=Ac V;rw[<-V]at ac⊢;obtain⟨m,P⟩:∃m,Rn r ⟨.up lf,s⟩ nJ 0=m:=⟨_,rfl⟩;rw[P];obtain⟨bM,bm,ap⟩:=l9 P ac a1;clear h aa V ac P a1;go_in;go_wp2_with(first|(refine aq.out.ro ?_)|(refine an.out.ro ?_)|(refine ah.out.mono ?_;rintro n k⟨Q,a3⟩;rw[bl.out]at a3;obtain⟨cb,rfl,a2,bY⟩:=a3;have bg:=H.tb.book.lt;obtain⟨bN,bV,rfl,br,a6⟩:=Us (F:=λa=>F a\/a=bk) a2 (λa S=>S.elim (H.ix.sys.lt a) (λn=>n▸bg));have v:=H.below Q;obtain⟨bh,au,l⟩:=l9 Q a6 v;have d3:=v.box.cell 3;have d4:=v.box.cell 4;unfold CZ at d3 d4;simp only[List.getElem?_cons_zero,List.getElem?_cons_succ]at d3 d4;have I:=Ac (λX(c:η k X)=>Anv (v.tb.below c) oV);rw[<-be.out]at I;have ao:Hid (∀X,Touch (·=bk) k X->X.cell? (Δ g 3)=jm (AB tt)/\X.cell? (Δ g 4)=jm (gz iV (oV.toNat:Int))):=Ac (λX c=>⟨(l.box.touch c l.g2).cell 3,(l.box.touch c l.g2).cell 4⟩);clear aq an ah Q a2 br a6 v aD));go_region_held3(λw'=>w'.cell? (Δ g 3)=jm (AB tt)/\w'.cell? (Δ g 4)=jm (gz iV (oV.toNat:Int)))
  (first|exact⟨d3,d4⟩|exact ao _ ((mD (mX k)).trans ab (λ_=>.inl)))
  ((first|(go_at_call 69;refine(I _ (mX k)).mono ?_;rintro n ae⟨rfl,N,bA,Z,aL,ab⟩)))
 all_goals(
  have E:Touch (·=bk) k ae:=(mD (mX k)).trans ab (λ_=>.inl);have Y:AQ (λa=>F a\/a=bk) (λa=>F a\/a=bk) k ae:=⟨E.mono (λ_=>.inr),λ_=>.inl⟩;obtain⟨bi,bj,av,ar⟩:=lL (l.book aL Z E) (au.moved Y) ((mW (F:=λa=>F a\/a=bk) bh).trans Y) Z;clear aL ab E bA Z d3 d4 I ao au l Y;go_wp2_with fail)
 go_loopw [7,38](λbB ad wr=>∃(c:Nat)(j:Ms)(i:Int)(f:Nat->Prop),c<=nJ.length/\ad=gz iU (c:Nat)/\bB=gz iU i/\0<=i/\i<=100000*(c:Int)/\Rn r j (nJ.drop c) i=m/\qV r j (nJ.drop c)/\CB j.pw.mode wr g d p x tt bk L j.s N t f J oV .nilIface id sv st/\AQ (λa=>F a\/a=bk) (λa=>f a\/a=bk) ae wr)(λ_ ad _=>nJ.length-(intOf ad).toNat)
 case atStart=>exact⟨0,⟨.up lf,s⟩,0,F,Bd _,rfl,rfl,O,O,bM,bm,bi,AQ.refl _ _⟩
 case round=>
  obtain⟨c,j,i,f,bX,rfl,rfl,b0,b1,a8,a9,aG,a0⟩:=hrel;obtain⟨e,y,al,K⟩:=lL a8 a9 aG a0;clear a8 a9 aG a0;by_cases A:c<nJ.length
  ·obtain⟨bS,b8,rfl,bW,bc,bd⟩:=vT (bj.moved K).1 c A;have b3:=XH A;have b2:=XI c (Ω ap.out);have aM:nJ.drop c=nJ[c]::nJ.drop (c+1):=BX A;rw[aM]at e y;obtain⟨⟨C,D⟩,aR⟩:∃bs,bs=nJ[c]:=⟨_,rfl⟩;rw[<-aR]at bc bd e y;obtain⟨⟨bR,a7⟩,U,⟨b7,z,aW⟩,B⟩:=y.out;simp only at bc bd U z;obtain⟨bE,ba,R,-⟩:=E5 wr 157 [ig ⟨C.toArray⟩,D];have u:=Ac (Api a7 (al.below R) ⟨C.toArray⟩ (by simpa[ByteArray.size]using U) D r z aW);have W:=Aa8 (low:=r) (it:=(C,D)) z aW;simp only at u;obtain⟨⟨bx,bb,aE⟩,a5⟩:∃m,Jd j r (C,D)=m:=⟨_,rfl⟩;rw[Rn]at e;rw[a5]at u e B W;simp only at u e B W;obtain⟨bw,bo,bq⟩:=l9 ba R B;obtain⟨bO,bQ⟩:=W;have b6:=wR (i+bb) (Ω ap.out);clear aR ba R aM z a5 B a7 U y;go_wp2_with fail;rw[<-bw.out];refine u.mono ?_;rintro n bL⟨rfl,G,aI,M⟩;have am:=Ac aI;have aw:=Ac (K.trans ((mW bo).trans (⟨M.touch.mono (λ_=>.inl),λa S=>S.elim (λh=>(M.own a h).imp .inl (λh=>h)) (λh=>.inl (.inr h))⟩:AQ (λa=>f a\/a=bk) (λa=>G a\/a=bk) bE bL)));clear u aI M;by_cases T:aE=0
   ·subst T;rw[lg Θ]at e;go_wp2;exact⟨⟨c+1,bx,i+bb,G,O,by go_num,rfl,O,by push_cast;omega,e,bq trivial,am,aw⟩,mz⟩
   ·have ca:(aE==0)=false:=beq_eq_false_iff_ne.2 T;rw[kX T]at e;go_wp2;go_ret2;obtain rfl:=e.out;exact⟨rfl,N,G,ar,am,av.trans aw⟩
  ·obtain⟨b4,b5⟩:=wO A;have bp:Hid (m=(j,i,0)):=Ac (by rw[<-e.out,D9 O];rfl);go_wp2;go_ret2;obtain rfl:=bp.out;exact⟨rfl,N,f,ar,al,av.trans K⟩
end
def ZJ:List Lk->List Lk
 |[]=>[]
 |[a]=>[⟨a.off,{a.rc with next:=0}⟩]
 |a::c::b=>a::ZJ (c::b)
def VR:∀(a:List Lk)(y:Lk),ZJ (a++[y])=a++[⟨y.off,{y.rc with next:=0}⟩]
 |[],y=>rfl
 |[b],y=>rfl
 |b::c::a,y=>by
  have:=VR (c::a) y;rw[BM]at this;rw[BM,BM,ZJ,this];rfl
def D8.ends{s:St}{v:ni}{l:List Lk}(h:D8 s v l):ZJ l=l:=by
 induction h with
 |nil=>rfl
 |cons o r l _ _ _ a _ b=>
  cases l with
  |nil=>
   have:r.next=0:=by
    generalize r.next=d at a;cases a;rfl
   cases r
   simp only at this;subst this;rfl
  |cons c l=>show _::ZJ (c::l)=_;rw[b]
def YF(ch:List nC->List Lk)(k:List nC)(l:List Lk):List nC->List Lk:=λa=>if a=k then l else ch a
def QF(ch:List nC->List Lk)(k:List nC)(l:List Lk):YF ch k l k=l:=kX rfl
def Io{ch:List nC->List Lk}{k a:List nC}{l:List Lk}(h:a≠k):YF ch k l a=ch a:=lg h
def bu(a b:List Lk):Dy (a++b)=Dy a++Dy b:=CJ ..
section
variable{L:Nat}{s s1:St}
def kR{o:Nat}(k:DV s s1 (λp=>p≠o))(r:AX s1 o 1)(q:wordsAt s1.ws (o/8) 8=(wordsAt s.ws (o/8) 8).set 2 0){y:Lk}(hy:y.off=(o:Int)):∀(a:List Lk){v:ni}{b:List Lk},D8 s v (a++y::b)->D8 s1 v (a++[⟨y.off,{y.rc with next:=0}⟩])
 |[],v,b,h=>by
  rw[DR]at h⊢;cases h with
  |cons d l _ n i j _ _=>
   have f:d=o:=by simp only at hy;omega
   subst f;refine .cons d {l with next:=0} [] r i ?_ .nil (λ_ h=>nomatch h);rw[q,j];rfl
 |x::a,v,b,h=>by
  rw[BM]at h⊢;have g:=h.nodup.1;cases h with
  |cons d l _ n i j w m=>
   have z:d≠o:=λf=>by
    subst f;unfold Dy at g;rw[Ci]at g;refine(Gz.1 g).1 (CU.2 ⟨y,by simp,?_⟩);show y.off.toNat=(d:Int).toNat;rw[hy]
   obtain⟨t,u⟩:=k d 1 z n;refine .cons d l _ t i ?_ (kR k r q hy a w) (λA e=>?_)
   ·have:=Uk (o:=d) (c:=1) u;rw[show 8*Bq 1=8 from rfl]at this;rw[this,j]
   ·rcases AP.1 e with e|e
    ·exact m A (BK _ e)
    ·rw[BB]at e;subst e;exact m y Θ
def JQ.inX{X:Nat->Prop}{s':St}{nJ:List Kv}(h:JQ X L s nJ)(i:BZ L s')(m:∀o d,¬EK s' o d)(g:∀o,(∃d,AX s' o d)<->∃d,AX s o d)(l:DV s s' (λo=>¬X o))(e:s'.ws 9=s.ws 9):JQ X L s' nJ:=by
 refine⟨i,m,?_,h.even⟩;rcases h.tree with⟨a,b,c⟩|⟨j,a,b,c,f,k⟩
 ·exact .inl ⟨by rw[e,a],b,λo=>(g o).trans (c o)⟩
 ·exact .inr ⟨j,by rw[e];exact a,by rw[e];exact b.keep h.ok i l f,c,f,λo=>(g o).trans (k o)⟩
variable{nJ:List Kv}{ch:List nC->List Lk}
def CX.trim(h:CX L s nJ ch){kv:Kv}(l:kv∈nJ){a b:List Lk}{y:Lk}(e:ch kv.1=a++y::b)(m:s1={s with ws:=DD s.ws (y.off.toNat/8+2) 0}):
 EZ (λo=>o∈Dy b) L s1 nJ (YF ch kv.1 (ZJ (a++[y])))/\(∀f,f<16->s1.ws f=s.ws f):=by
 obtain⟨u,ad⟩:=h.chain kv l;rw[e]at u;obtain⟨o,r⟩:=ε y.off.toNat;have w:o∈Dy (ch kv.1):=by rw[e,r];exact CU.2 ⟨y,by simp,rfl⟩
 have B:AX s o 1:=u.taken o (by rw[<-e];exact w);have T:y.off=(o:Int):=by
  have:=congrArg (λX=>X[a.length]?) u.A0m;simp[Dy]at this;omega
 rw[<-r]at m;have C:∀f,f≠o/8+2->s1.ws f=s.ws f:=λf q=>by rw[m];exact lg q
 have F:IE o 1 (o/8+2):=⟨O,by show _<_+8*1;omega⟩;have ab:=h.ix.ok.DU (B.bounds h.ix.ok).1 F;have Y:BZ L s1:=by
  rw[m];exact h.ix.ok.words (λae ac=>lg O)
 have A:∀p d,AX s1 p d<->AX s p d:=λp d=>by rw[m];exact Iff.rfl
 have v:DV s s1 (λp=>p≠o):=λp K c J=>⟨(A p K).2 J,λf q=>C f (SY h.ix.ok J B c q F)⟩
 have H:∀f,f<16->s1.ws f=s.ws f:=λf q=>C f O
 have S:wordsAt s1.ws (o/8) 8=(wordsAt s.ws (o/8) 8).set 2 0:=by
  refine List.ext_getElem (by simp[wordsAt]) λt Z aa=>?_
  rw[List.getElem_set,MQ];by_cases j:2=t
  ·subst j;rw[kX rfl,m];exact kX rfl
  ·rw[lg j,MQ];exact C _ O
 have x:Dy (ZJ (a++[y]))=Dy a++[o]:=by rw[VR,bu,r];rfl
 have n:Dy (ch kv.1)=Dy a++[o]++Dy b:=by rw[e,bu,r];simp[Dy]
 have I:=(h.chain kv l).1.nodup.1;rw[n]at I;have z:∀k,∀p∈Dy (YF ch kv.1 (ZJ (a++[y])) k),p∈Dy (ch k):=λk p c=>by
  by_cases g:k=kv.1
  ·subst g;rw[QF,x]at c;rw[n];exact BK _ c
  ·rwa [Io g]at c
 refine⟨⟨?_,λkv' i=>⟨?_,(h.chain kv' i).2⟩,λk G=>?_,λV M W N P p c Q=>?_,λkv' i p c D=>?_⟩,H⟩
 ·refine(h.ix.inX Y (λp d E=>h.ix.nh p d (by rw[m]at E;exact E)) (λp=>exists_congr (A p)) (v.mono (λp c=>λj=>c ⟨kv,l,j▸w⟩)) (H 9 U)).congr λp=>?_
  constructor
  ·rintro⟨kv',i,c⟩;by_cases g:kv'.1=kv.1
   ·rw[g,n]at c;rcases AP.1 c with c|c
    ·exact .inl ⟨kv,l,by rw[QF,x];exact c⟩
    ·exact .inr c
   ·exact .inl ⟨kv',i,by rw[Io g];exact c⟩
  ·rintro(⟨kv',i,c⟩|c)
   ·exact⟨kv',i,z _ p c⟩
   ·exact⟨kv,l,by rw[n];exact BA _ c⟩
 ·by_cases g:kv'.1=kv.1
  ·have R:D8 s kv'.2 (a++y::b):=by
    have:=(h.chain kv' i).1;rwa [g,e]at this
   rw[g,QF,VR];exact kR v ((A o 1).2 B) S T a R
  ·rw[Io g];exact(h.chain kv' i).1.keep v (λp c j=>h.VH kv' i kv l g p c (j▸w))
 ·rw[Io (λj=>G kv l j.symm)];exact h.none k G
 ·exact h.VH V M W N P p (z _ p c) (z _ p Q)
 ·by_cases g:kv'.1=kv.1
  ·rw[g,QF,x]at c;exact(List.nodup_append.1 I).2.2 p c p D rfl
  ·rw[Io g]at c;exact h.VH kv' i kv l g p c (by rw[n];exact BA _ D)
def ZK:∀(l:List Lk){s:St}{c:Nat->Prop},EZ c L s nJ ch->(Dy l).Nodup->(∀a∈Dy l,c a)->l.map (·.off)=(Dy l).map Gt->
 ∃s2,Gh ⟨.up (-1),s⟩ l=(⟨.up (-1),s2⟩,0)/\EZ (λa=>c a/\a∉Dy l) L s2 nJ ch/\s2.sh=s.sh/\∀d,d<16->s2.ws d=s.ws d
 |[],s,c,h,_,_,_=>⟨s,rfl,h.congr (λa=>by simp[Dy]),rfl,λ_ _=>rfl⟩
 |b::l,s,c,h,r,g,p=>by
  have t:(b.off.toNat::Dy l).Nodup:=r;obtain⟨w,x⟩:=Gz.1 t;have q:b.off::l.map (·.off)=Gt b.off.toNat::(Dy l).map Gt:=p;obtain⟨u,v⟩:=List.cons.inj q;obtain⟨s2,m,B,j,A⟩:=h.drop (g _ (Bf ..));obtain⟨y,n,C,z,i⟩:=ZK l B x (λa f=>⟨g a (Bi _ f),λk=>w (by rw[<-show a=b.off.toNat from k];exact f)⟩) v;have o:DT ⟨.up (-1),s⟩ b.off=(⟨.up (-1),s2⟩,0):=by
   rw[PU,u];show((⟨.up (-1),(GG s (b.off.toNat:Int)).1⟩,(GG s (b.off.toNat:Int)).2):Ms×Int)=_;rw[m]
  refine⟨y,?_,C.congr (λa=>?_),z.trans j,λd e=>(i d e).trans (A d e)⟩
  ·unfold Gh;rw[o,kX rfl,n]
  ·show(c a/\a≠b.off.toNat)/\a∉Dy l<->c a/\a∉b.off.toNat::Dy l;rw[Cb,not_or,and_assoc]
def CX.Aw3(h:CX L s nJ ch){key:List nC}(z:key.length<=16)(g:∃kv∈nJ,kv.1=CO key):∃D i,Si s key=((Si s key).1,D,0)/\EZ (λo=>o∈Dy (ch (CO key))) L (Si s key).1 i (YF ch (CO key) [])/\Vr nJ i (CO key)/\Po s (Si s key).1:=by
 obtain⟨kv,g,m⟩:=g;rcases ve h.ix key z with⟨_,q⟩|⟨r,q,E,i,y,c⟩
 ·exact absurd m (q kv g)
 ·refine⟨(Si s key).2.1,i,by rw[<-q],⟨?_,λkv' d=>?_,λk A=>?_,λt b u f B p a=>?_,λkv' d p a=>?_⟩,c,r.Aj4⟩
  ·refine y.congr λp=>?_
   constructor
   ·rintro⟨kv',d,a⟩;by_cases e:kv'.1=CO key
    ·exact .inr (e▸a)
    ·exact .inl ⟨kv',(c kv').2 ⟨d,e⟩,by rw[Io e];exact a⟩
   ·rintro(⟨kv',d,a⟩|a)
    ·obtain⟨b,f⟩:=(c kv').1 d;exact⟨kv',b,by rw[Io f]at a;exact a⟩
    ·exact⟨kv,g,by rw[m];exact a⟩
  ·obtain⟨b,f⟩:=(c kv').1 d;rw[Io f];exact⟨(h.chain kv' b).1.keep r.keep (λp a=>⟨kv',b,a⟩),(h.chain kv' b).2⟩
  ·by_cases e:k=CO key
   ·rw[e,QF]
   ·rw[Io e];exact h.none k (λkv' b l=>A kv' ((c kv').2 ⟨b,λx=>e (l▸x)⟩) l)
  ·obtain⟨n,j⟩:=(c t).1 b;obtain⟨v,w⟩:=(c u).1 f;rw[Io j]at a;rw[Io w];exact h.VH t n u v B p a
  ·obtain⟨n,j⟩:=(c kv').1 d;rw[Io j]at a;exact λC=>h.VH kv' n kv g (λl=>j (l.trans m)) p a (m▸C)
structure Cleaned(L:Nat)(s:St)(nJ:List Kv)(ch:List nC->List Lk)(low:ni)(k:List nC)(s2:St)(Gy:List Kv)(ch2:List nC->List Lk):Prop where
 ok:CX L s2 Gy ch2
 Aj4:Po s s2
 chs:ch2=YF ch k (ZJ ((ch k).take (MK (ch k) low.toNat)))
 its:(0<MK (ch k) low.toNat/\Gy=nJ)\/(MK (ch k) low.toNat=0/\Vr nJ Gy k)
def Akw(h:CX L s nJ ch)(low:ni){key:List nC}(S:key.length<=16){v:ni}(u:(CO key,v)∈nJ):
 ∃s2 o I,Jd ⟨.up (-1),s⟩ low (key,v)=(⟨.up (-1),s2⟩,((ch (CO key)).length:Int) -(MK (ch (CO key)) low.toNat:Nat),0)/\Cleaned L s nJ ch low (CO key) s2 o I:=by
 obtain⟨i,V⟩:=h.chain _ u;simp only at i V;have F:=i.listed h.ix.ok;obtain⟨c,d⟩:=ε (ch (CO key));rw[<-d]at i F;have T:MK c low.toNat<=c.length:=Sj low.toNat c jS;obtain⟨e,f⟩:=ε (MK c low.toNat);have z:=i.nodup.1;have A:=i.A0m;rw[<-f]at T;have Q:Jd ⟨.up (-1),s⟩ low (key,v)=if 0<e then((OI ⟨.up (-1),s⟩ c e).1,(c.length:Int) -(e:Nat),(OI ⟨.up (-1),s⟩ c e).2)else
  if(Iq ⟨.up (-1),s⟩ key).2.2≠0 then((Iq ⟨.up (-1),s⟩ key).1,0,(Iq ⟨.up (-1),s⟩ key).2.2)else
  if(Gh (Iq ⟨.up (-1),s⟩ key).1 c).2≠0 then((Gh (Iq ⟨.up (-1),s⟩ key).1 c).1,0,(Gh (Iq ⟨.up (-1),s⟩ key).1 c).2)else((Gh (Iq ⟨.up (-1),s⟩ key).1 c).1,c.length,0):=by
  unfold Jd;simp only[F,<-f]
 rw[Q,<-d,<-f];by_cases l:0<e
 ·rw[kX l];by_cases t:e=c.length
  ·have r:OI ⟨.up (-1),s⟩ c e=(⟨.up (-1),s⟩,0):=by unfold OI;rw[kX t]
   rw[r];refine⟨s,nJ,ch,rfl,h,Po.refl s,?_,.inl ⟨by rw[<-d,<-f];exact l,rfl⟩⟩;rw[<-d,<-f,t,I7,i.ends,d];funext k';unfold YF;split
   ·rename_i J;rw[J]
   ·rfl
  ·obtain⟨m,rfl⟩:∃m,e=m+1:=⟨e-1,O⟩;have w:m<c.length:=O;have U:c=c.take m++c[m]::c.drop (m+1):=by rw[<-BX w,List.take_append_drop]
   obtain⟨s1,B⟩:∃s1,s1=({s with ws:=DD s.ws (c[m].off.toNat/8+2) 0}:St):=⟨_,rfl⟩;obtain⟨n,H⟩:=h.trim u (a:=c.take m) (b:=c.drop (m+1)) (y:=c[m]) (d.symm.trans U) B;have R:(Dy (c.drop (m+1))).Nodup:=by
    unfold Dy at z⊢;rw[MZ];exact z.sublist (List.drop_sublist ..)
   obtain⟨s2,q,E,p,D⟩:=ZK (c.drop (m+1)) n R (λC g=>g) (by
    unfold Dy at A⊢;rw[MZ,A,MZ,MZ])
   have r:OI ⟨.up (-1),s⟩ c (m+1)=(⟨.up (-1),s2⟩,0):=by
    unfold OI;rw[lg t,show m+1-1=m from rfl,Ag w];simp only[QU];rw[kX trivial,<-B,q]
   rw[r];refine⟨s2,nJ,_,rfl,E.ok (λC g=>g.2 g.1),⟨by rw[p,B],λk j _=>(D k j).trans (H k j)⟩,?_,.inl ⟨by rw[<-d,<-f];exact l,rfl⟩⟩;show _=YF ch (CO key) _;rw[<-d,<-f,BH w]
 ·rw[lg l];obtain⟨W,o,K,n,P,G⟩:=h.Aw3 S ⟨_,u,rfl⟩;rw[<-d]at n;obtain⟨s2,q,E,p,D⟩:=ZK c n z (λC g=>g) A;have M:Iq ⟨.up (-1),s⟩ key=(⟨.up (-1),(Si s key).1⟩,W,0):=by rw[yA,K]
  rw[M];simp only[q];have x:e=0:=O;refine⟨s2,o,_,?_,E.ok (λC g=>g.2 g.1),⟨p.trans G.1,λk j N=>(D k j).trans (G.2 k j N)⟩,?_,.inr ⟨by rw[<-d,<-f,x],P⟩⟩
  ·simp[x]
  ·rw[<-d,<-f,x];rfl
end
def nR(E:Eg)(id:Int)(key:nG):nG×Int:=
 if Ey E.t.wt id=jS then(⟨#[]⟩,2)else if 16<key.size then(⟨#[]⟩,3)else Aa6 E.q.s (E.t.sets id.toNat) (E.t.wt.ats id.toNat).toNat key
def OU(E:Eg)(id:Int)(b a:nG):List Pr×Int:=
 if Ey E.t.wt id=jS then([],2)else match Em E.q.s with
 |none=>([],5)
 |some (nJ,_)=>(qU E.q.s (E.t.wt.ats id.toNat).toNat b a nJ (E.t.sets id.toNat),0)
def QM(E:Eg):Eg×Int×Int:=
 if E.on.isSome=jO then(E,0,11)else match Em E.q.s with
 |none=>(E,0,5)
 |some (nJ,_)=>({E with q:=(Rn (Eo E.t.wt E.oV) E.q nJ 0).1},(Rn (Eo E.t.wt E.oV) E.q nJ 0).2)
structure vY(s:St):Prop where
 get:∀key v,Ic s key=(v,0)->∃l,IU s v=jm l/\l.length<=100000
 all:∃nJ met,Em s=jm (nJ,met)/\nJ.length<=100000/\∀k(h:k<nJ.length),∃l,IU s nJ[k].2=jm l/\l.length<=100000
section
variable{lm:Mode}{w w':jT}{g d p x tt bk L:Nat}{s:St}{b:Bk}{t:Tb}{F J:Nat->Prop}{oV:ni}{jv:ku}{id:Int}{sv:ku}{st:ni}
def Akx{m0:DJ}(h:CB m0 w g d p x tt bk L s b t F J oV jv id sv st){i:Int}(f c:nG)(j:Ey t.wt i=jS):
 Calls prog 30 #[AB g,i,f,c] w λe w'=>e=iO (iJ #[fM jw 0 0,gz iU 2])/\w=w':=by
 have a:=Ac (aO h i);rw[j,lg Bool.false_ne_true]at a;clear h;go_in;go_wp2_with(refine a.out.ro ?_);go_ret2;exact⟨rfl,rfl⟩
def nS{m0:DJ}(h:CB m0 w g d p x tt bk L s b t F J oV jv id sv st){o:Nat}(a:OnV jv id (jm o)):
 Calls prog 34 #[AB g] w λf w'=>f=iO (iJ #[gz iU 0,gz iU 11])/\w=w':=by
 have e:=Ac (Vh h);have c:=Ac (VG h a);clear h a;go_in;go_wp2_with(first|(refine e.out.ro ?_)|(refine c.out.ro ?_));go_ret2;exact⟨rfl,rfl⟩
end
section
variable{g d p x tt bk L:Nat}{E:Eg}{lf:Int}
def A1f(w:E.q.pw=.up lf)(l:Jv E.t)(v:vY E.q.s)(id:Int)(key:nG)(o:key.size<=4294967296):Steps (O7 g d p x tt bk L E) (O7 g d p x tt bk L E) 29 #[AB g,id,key] (iJ #[ig (nR E id key).1,gz iU (nR E id key).2]):=by
 intro A X j;have k:=j;obtain⟨b,F,J,jv,D,sv,st,h,B,C⟩:=j;have r:E.q.pw.mode=.up (MU lf):=by rw[w];rfl
 rw[r]at h;by_cases f:Ey E.t.wt id=jS\/16<key.size
 ·have e:nR E id key=(⟨#[]⟩,if Ey E.t.wt id=jS then 2 else 3):=by
   unfold nR;by_cases a:Ey E.t.wt id=jS
   ·rw[kX a,kX a]
   ·rw[lg a,lg a,kX (f.resolve_left a)]
  rw[e];refine(Aph h key o f).ro ?_;exact⟨rfl,k,mP⟩
 ·obtain⟨a,n⟩:=not_or.1 f;obtain⟨c,rfl,i,u⟩:=IY (t:=E.t.wt) (id:=id) (by simpa using a);have e:nR E (c:Int) key=Aa6 E.q.s (E.t.sets c) (E.t.wt.ats c).toNat key:=by
   unfold nR;rw[lg a,lg n];rfl
  rw[e];refine(Aw1 h i u (l c i).1 (l c i).2.1 key O (λz y=>v.get _ z y)).mono ?_;rintro e w'⟨rfl,m⟩;exact⟨rfl,k.below m,mD m⟩
def Aw4(C:E.q.pw=.up lf)(v:Jv E.t)(B:vY E.q.s)(id:Int)(c a:nG){f:jT}{X:Nat->Prop}(l:O7 g d p x tt bk L E f X):
 Calls prog 30 #[AB g,id,c,a] f λe w'=>∃k,e=iO (iJ #[k,gz iU (OU E id c a).2])/\
  w'.ownsRow f 159 2 k (OU E id c a).1.length (Ht (OU E id c a).1)/\O7 g d p x tt bk L E w' X/\η f w':=by
 have m:=l;obtain⟨b,F,J,jv,H,sv,st,h,D,G⟩:=l;have w:E.q.pw.mode=.up (MU lf):=by rw[C];rfl
 rw[w]at h;by_cases i:Ey E.t.wt id=jS
 ·have e:OU E id c a=([],2):=by unfold OU;rw[kX i]
  rw[e];refine(Akx h c a i).ro ?_;exact⟨_,rfl,Ce _ _ _ _,m,mZ⟩
 ·obtain⟨j,rfl,o,z⟩:=IY (t:=E.t.wt) (id:=id) (by simpa using i);obtain⟨nJ,I,r,y,A⟩:=B.all;have e:OU E (j:Int) c a=(qU E.q.s (E.t.wt.ats j).toNat c a nJ (E.t.sets j),0):=by
   unfold OU;rw[lg i,r];rfl
  rw[e];refine(Atl h o z (v j o).1 c a r y A).mono ?_;rintro e w'⟨k,rfl,u,n⟩;exact⟨k,rfl,u,m.below n,n⟩
def A1g(z:E.q.pw=.up lf)(l:∃nJ q,Em E.q.s=jm (nJ,q)/\nJ.length<=100000/\qV (Eo E.t.wt E.oV) E.q nJ):Steps (O7 g d p x tt bk L E) (O7 g d p x tt bk L (QM E).1) 34 #[AB g] (iJ #[gz iU (QM E).2.1,gz iU (QM E).2.2]):=by
 intro C X o;have w:=o;obtain⟨b,F,J,jv,G,sv,st,h,e,k⟩:=o;cases f:E.on with
 |some B=>
  have a:QM E=(E,0,11):=by unfold QM;rw[f];rfl
  rw[a];rw[f]at k;refine(nS h (o:=B.id) k.onv).ro ?_;exact⟨rfl,w,mP⟩
 |none=>
  obtain⟨nJ,q,l,y,A⟩:=l;have a:QM E=({E with q:=(Rn (Eo E.t.wt E.oV) E.q nJ 0).1},(Rn (Eo E.t.wt E.oV) E.q nJ 0).2):=by unfold QM;rw[f,l];rfl
  rw[a];rw[f]at k;obtain⟨rfl,rfl,rfl,rfl⟩:=k;refine(Akv z h l y A).mono ?_;rintro a w'⟨rfl,u,r,D,v,m⟩;refine⟨rfl,⟨u,r,J,_,_,_,_,v,⟨e.ng,e.nx,λi c n=>?_,e.c1,e.c2⟩,by show OnM E.on _ _ _ _ _ _ _ _ _ _ _ _ _ _ _ _ _ _;rw[f];exact⟨rfl,rfl,rfl,rfl⟩⟩,m.touch.mono (λi c=>?_)⟩
  ·rcases m.own i (.inl c)with(j|j)|j
   ·exact e.nf i j n
   ·exact h.apart.1 (j▸n)
   ·have:=h.jl i (.inr n);omega
  ·rcases c with c|c
   ·exact KY (e.nf i c) (λa=>h.ix.qQ.1 (a▸c)) (λa=>h.ix.qQ.2 (a▸c))
   ·exact KY (c▸h.apart.1) (λa=>h.c1.1 (c.symm.trans a)) (λa=>h.c1.2 (c.symm.trans a))
def Apj(P:E.q.pw=.up lf)(u:Jv E.t)(S:(E.q.s.ws 8).toNat<=E.oV.toNat)(id:Int):Steps (O7 g d p x tt bk L E) (O7 g d p x tt bk L (Ju E id).1) 31 #[AB g,gz iU id] (gz iU (Ju E id).2):=by
 intro q X G;have T:=G;obtain⟨b,F,J,jv,am,sv,st,h,w,B⟩:=G;by_cases o:Ey E.t.wt id=jS\/(E.on.map (·.id)).isSome=jO
 ·have f:Ju E id=(E,if Ey E.t.wt id=jS then 2 else 11):=by
   unfold Ju;by_cases i:Ey E.t.wt id=jS
   ·rw[kX i,kX i]
   ·rw[lg i,lg i,kX (by simpa using o.resolve_left i)]
  rw[f];refine(Aa3 h B.onv o).ro ?_;exact⟨rfl,T,mP⟩
 ·obtain⟨i,r⟩:=not_or.1 o;obtain⟨a,rfl,l,N⟩:=IY (t:=E.t.wt) (id:=id) (by simpa using i);have C:E.on=none:=by cases Y:E.on with
   |none=>rfl
   |some an=>rw[Y]at r;exact absurd rfl r
  rw[C]at B;obtain⟨rfl,rfl,rfl,rfl⟩:=B;have f:Ju E (a:Int)=if E.t.sets a=[]then({E with t:=Gv E.t a},0)else if JH E.t.Gn (E.t.sets a) (E.t.wt.ats a)then({E with t:=Gv E.t a},9)else
   if 60000<=E.oV.toNat then({E with t:=Gv E.t a},10)else({E with on:=jm ⟨a,E.t.sets a,[]⟩},0):=by
   unfold Ju Eg.dn;rw[lg i,C,P];rfl
  rw[f];have z:∀n,((E.t.sets a=[]/\n=0)\/(E.t.sets a≠[]/\JH E.t.Gn (E.t.sets a) (E.t.wt.ats a)=jO/\n=9)\/(E.t.sets a≠[]/\JH E.t.Gn (E.t.sets a) (E.t.wt.ats a)=jS/\60000<=E.oV.toNat/\n=10))->
   Calls prog 31 #[AB g,gz iU (a:Int)] q λf w'=>f=iO (gz iU n)/\O7 g d p x tt bk L {E with t:=Gv E.t a} w' X/\Touch (QE X) q w':=λn o=>by
   refine(Aa4 h l N (u a l).1 o).mono ?_;rintro f w'⟨rfl,ah,r,Q,R⟩;exact⟨rfl,O7.book h w (by rw[C];exact⟨rfl,rfl,rfl,rfl⟩) Q r R⟩
  by_cases m:E.t.sets a=[]
  ·rw[kX m];exact z 0 (.inl ⟨m,rfl⟩)
  ·rw[lg m];by_cases k:JH E.t.Gn (E.t.sets a) (E.t.wt.ats a)=jO
   ·rw[kX k];exact z 9 (.inr (.inl ⟨m,k,rfl⟩))
   ·rw[lg k];have k:JH E.t.Gn (E.t.sets a) (E.t.wt.ats a)=false:=by simpa using k
    by_cases y:60000<=E.oV.toNat
    ·rw[kX y];exact z 10 (.inr (.inr ⟨m,k,y,rfl⟩))
    ·rw[lg y];have A:E.q.pw.mode=.up (MU lf):=by rw[P];rfl
     have D:=h.ix.box.lt;have ab:=h.ix.sys.tabs.lt;have al:=h.box.lt;have ad:∀e,X e->e<q:=λe c=>h.jl e (.inr c)
     rw[A]at h;refine(Aa5 h l N rfl (List.length_pos_iff.2 m) (u a l).2.2 (u a l).2.1 (u a l).1 k O S).mono ?_;rintro f w'⟨rfl,j,ae,ao,aa,H,I,K,V,W⟩;have U:=H.Ae7 (J':=λe=>(J e\/e=j)\/X e) (λe=>by constructor<;>(intro h;rcases h with(h|h)|h<;>simp[h]));have M:∀{v:Value},FP w' (EF F (λe=>J e\/X e) bk b.nt j) v (E.t.sets a)->FP w' (EF F (λe=>(J e\/e=j)\/X e) bk b.nt j) v (E.t.sets a):=λac=>ac.mono (λe _ c=>by
      rcases c with c|((c|c)|c)|c
      ·exact .inl c
      ·exact .inr (.inl (.inl c))
      ·exact .inr (.inr (.inr (.inr c)))
      ·exact .inr (.inl (.inr c))
      ·exact .inr (.inr c))
     have Z:¬X j:=λD=>Ω (ad j D)
     refine⟨rfl,⟨b,F,λe=>J e\/e=j,_,_,_,_,by show CB E.q.pw.mode _ _ _ _ _ _ _ _ _ _ _ _ _ _ _ _ _ _;rw[A];exact U,w,rfl,rfl,j,ae,fM jw 0 0,q,rfl,⟨⟨by rw[A];exact H.ix,I.box,Ce _ _ _ _,(K.jobs (v:=fM jw 0 0) (λe c=>by simp[AY]at c)),I.out,aa,D,ab,by simp[AY],λe c=>by simp[AY]at c⟩,.inr rfl,λe c=>by simp[AY]at c,Z,λe c=>by simp[AY]at c,O,by simp[AY],M K,M V⟩⟩,W.mono (λe c=>?_)⟩;exact KY (c▸w.ng) (λf=>h.c3.1 (c.symm.trans f)) (λf=>h.c3.2 (c.symm.trans f))
end
section
variable{L:Nat}{s:St}{nJ:List Kv}{ch:List nC->List Lk}
def kS(b:BZ L s){v:ni}{l:List Lk}(h:D8 s v l):l.length<=65537:=by
 have a:=RJ (Dy l) (Ea 65537) h.nodup.1 (λd c=>by
  have:=((h.taken d c).bounds b).2.1;have:=b.L1;exact GH.2 O)
 rw[Ale]at a;unfold Dy at a;rwa [Df]at a
def Apk{X:Nat->Prop}(h:JQ X L s nJ){b:Kv}(a:b∈nJ):b.1.length<=32:=by
 rcases h.tree with⟨_,c,_⟩|⟨_,_,T,_⟩
 ·rw[c]at a;cases a
 ·exact(T.nib h.ok b a).2.1
def Apl{X:Nat->Prop}(h:JQ X L s nJ){a:Kv}(d:a∈nJ):CO (pairs a.1)=a.1/\(pairs a.1).length<=16:=by
 have b:=h.even a d;unfold OB at b;simp only[Bool.and_eq_true,decide_eq_true_eq]at b;have f:=Apk h d;have c:CO (pairs a.1)=a.1:=eH _ (by first|exact b.1|exact b.2) (by first|exact b.2|exact b.1);have e:=JX (pairs a.1);rw[c]at e;exact⟨c,O⟩
def kT(h:CX L s nJ ch):nJ.length<=65537:=by
 have n:(nJ.map λc=>(Dy (ch c.1)).getD 0 0).Nodup:=by
  rw[List.nodup_iff_pairwise_ne,Alf];refine(II.2 λ{a b}g=>?_);have l:=II.1 h.ix.up g;have j:=g.subset (Bf ..);have f:=g.subset (Bi _ (BB.2 rfl));have o:a.1≠b.1:=λd=>by rw[d,DC]at l;cases l
  have i:∀c∈nJ,(Dy (ch c.1)).getD 0 0∈Dy (ch c.1):=λc e=>by
   have:=Aac (h.chain c e).1 (h.chain c e).2;cases d:ch c.1 with
   |nil=>exact absurd d this
   |cons x q=>simp[Dy]
  exact λd=>h.VH a j b f o _ (i a j) (d▸i b f)
 have f:=RJ _ (Ea 65537) n (λr p=>by
  obtain⟨c,e,rfl⟩:=CU.1 p;have k:=(h.chain c e).1;have m:(Dy (ch c.1)).getD 0 0∈Dy (ch c.1):=by
   have:=Aac k (h.chain c e).2;cases d:ch c.1 with
   |nil=>exact absurd d this
   |cons x q=>simp[Dy]
  have:=((k.taken _ m).bounds h.ix.ok).2.1;have:=h.ix.ok.L1;exact GH.2 O)
 rwa [Ale,Df]at f
def CX.read(h:CX L s nJ ch):vY s:=by
 have e:∀kv∈nJ,∃f,IU s kv.2=jm f/\f.length<=100000:=λkv a=>by
  have d:=(h.chain kv a).1;have:=kS h.ix.ok d;exact⟨_,d.listed h.ix.ok,O⟩
 refine⟨λkey l b=>?_,?_⟩
 ·by_cases a:key.length<=16
  ·rcases Z9 h.ix key a with⟨m,c,i,_⟩|⟨c,_⟩
   ·rw[b]at c;cases c;exact e _ i
   ·rw[b]at c;cases c
  ·unfold Ic at b;rw[kX O]at b;cases b
 ·obtain⟨j,g,_⟩:=Q9 h.ix;have:=kT h;refine⟨_,_,g,by rw[Df];omega,λk a=>?_⟩;rw[Df]at a;rw[List.getElem_map];exact e nJ[k] (BO a)
def Apm(low:ni):List Kv->(List nC->List Lk)->List nC->List Lk
 |[],ch=>ch
 |a::b,ch=>Apm low b (YF ch a.1 (ZJ ((ch a.1).take (MK (ch a.1) low.toNat))))
def Apn{x:Lk}(l:List Lk)(a:x∈ZJ l):∃b∈l,b.off=x.off/\b.rc.nK=x.rc.nK:=by
 rcases Abv l with rfl|⟨c,b,rfl⟩
 ·cases a
 ·rw[UF,VR]at a;rw[UF];rcases AP.1 a with a|a
  ·exact⟨x,BK _ a,rfl,rfl⟩
  ·rw[BB]at a;subst a;exact⟨b,by simp,rfl,rfl⟩
def Aa9(low:ni):∀(r:List Kv){ch:List nC->List Lk}{k:List nC}{x:Lk},x∈Apm low r ch k->∃b∈ch k,b.off=x.off/\b.rc.nK=x.rc.nK
 |[],_,_,x,h=>⟨x,h,rfl,rfl⟩
 |g::r,ch,k,x,h=>by
  obtain⟨b,a,f1,f2⟩:=Aa9 low r h;by_cases c:k=g.1
  ·subst c;rw[QF]at a;obtain⟨i,f,d,e⟩:=Apn _ a;exact⟨i,Qd f,d.trans f1,e.trans f2⟩
  ·rw[Io c]at a;exact⟨b,a,f1,f2⟩
def kU(low:ni):∀(r:List Kv){s:St}{nJ:List Kv}{ch:List nC->List Lk}(_:CX L s nJ ch),r.Pairwise (λq b=>q.1≠b.1)->(∀a∈r,a∈nJ)->
 qV low ⟨.up (-1),s⟩ (r.map λa=>(pairs a.1,a.2))/\∀d:Int,∃s2 k z,Rn low ⟨.up (-1),s⟩ (r.map λa=>(pairs a.1,a.2)) d=(⟨.up (-1),s2⟩,z,0)/\CX L s2 k (Apm low r ch)/\Po s s2
 |[],s,nJ,ch,h,_,_=>⟨trivial,λd=>⟨s,nJ,d,rfl,h,Po.refl s⟩⟩
 |a::r,s,nJ,ch,h,w,i=>by
  obtain⟨B,C⟩:=Ir.1 w;have g:=i a (Bf ..);obtain⟨l,n⟩:=Apl h.ix g;obtain⟨s2,k,G,e,c⟩:=Akw h low n (v:=a.2) (by rw[l];exact g);rw[l]at c;obtain⟨E,m⟩:=kU low r c.ok C (λx j=>by
   rcases c.its with⟨_,f⟩|⟨_,f⟩
   ·rw[f];exact i x (Bi _ j)
   ·exact(f x).2 ⟨i x (Bi _ j),λe=>B x j e.symm⟩)
  rw[c.chs]at m;have o:=(h.chain a g).1;have F:=kS h.ix.ok o;refine⟨?_,λd=>?_⟩
  ·rw[Ci];refine⟨⟨-1,rfl⟩,n,⟨_,o.listed h.ix.ok,O⟩,λ_=>?_⟩;rw[e];exact E
  ·rw[Ci,Rn,e,lg Θ];obtain⟨D,p,A,t,u,y⟩:=m (d+(((ch (CO (pairs a.1))).length:Int) -(MK (ch (CO (pairs a.1))) low.toNat:Nat)));exact⟨D,p,A,t,u,c.Aj4.trans y⟩
end
structure Iw(L:Nat)(E:Eg):Prop where
 up:E.q.pw=.up (-1)
 sets:Jv E.t
 oV:E.oV.toNat<=60000
 off:E.on=jw->∃nJ ch,CX L E.q.s nJ ch/\(∀k,∀x∈ch k,x.rc.nK.toNat<=E.oV.toNat)/\E.q.s.ws 8=E.oV
 dU:∀o,E.on=jm o->o.id<8/\E.t.wt.ops o.id=jO/\E.t.sets o.id=o.set/\E.oV.toNat<60000/\o.ps.length<=o.set.length/\
  ∃s0 nJ ch,Akl (-1) L s0 nJ ch (E.oV+1) o.set (λ_ _ _=>True) E.q o.ps/\(∀k,∀x∈ch k,x.rc.nK.toNat<=E.oV.toNat)/\s0.ws 8=E.oV
def Apo{L:Nat}{a:St}{nJ:List Kv}{ch:List nC->List Lk}{nK:ni}:Ao2 L a nJ ch nK (λ_ _ _=>True):=⟨λ_ _ _ _=>trivial,λ_ _ _ _ _ _ _ _ _ _ _=>trivial,λ_ _ _ _=>trivial⟩
def VS{v:ni}(h:v.toNat<60000):(v+1).toNat=v.toNat+1:=by
 rw[UInt64.toNat_add];show(v.toNat+1)%18446744073709551616=_;omega
section
variable{L:Nat}{E:Eg}
def Iw.store(h:Iw L E):∃nJ ch,CX L E.q.s nJ ch/\E.q.s.ws 8=E.oV:=by
 cases b:E.on with
 |none=>
  obtain⟨nJ,ch,g,_,i⟩:=h.off b;exact⟨nJ,ch,g,i⟩
 |some o=>
  obtain⟨_,_,_,_,_,s0,nJ,ch,k,_,j⟩:=h.dU o b;rcases k with⟨_,_,_,n,e,_,l,_⟩|⟨f,_⟩
  ·obtain⟨⟨m,d,_,c,_⟩,a,_⟩:=l;rw[e]at c a;exact⟨m,d,c,(a.2 8 U U).trans j⟩
  ·exact absurd rfl f
def Iw.read(h:Iw L E):vY E.q.s:=by
 obtain⟨_,_,a,_⟩:=h.store;exact a.read
def Iw.ws8(h:Iw L E):(E.q.s.ws 8).toNat<=E.oV.toNat:=by
 obtain⟨_,_,_,a⟩:=h.store;rw[a];exact Ae _
def Iw.on(h:Iw L E):∀o,E.on=jm o->Awy L E.q E.t o:=λo f=>by
 obtain⟨a,c,d,_,e,_⟩:=h.dU o f;obtain⟨s1,s2,b⟩:=h.sets o.id a;rw[d]at s1 s2 b;obtain⟨nJ,_,g,_⟩:=h.store;exact⟨a,c,e,s1,b,λ_ _=>⟨_,nJ,g.ix⟩⟩
def Iw.vac(h:Iw L E)(low:ni):∃nJ g,Em E.q.s=jm (nJ,g)/\nJ.length<=100000/\qV low E.q nJ:=by
 obtain⟨nJ,ch,c,_⟩:=h.store;obtain⟨g,i,_⟩:=Q9 c.ix;have l:=kT c;have j:nJ.Pairwise (λa b=>a.1≠b.1):=c.ix.up.imp λ{a b}f d=>by rw[d,DC]at f;cases f
 have e:=(kU low nJ c j (λ_ h=>h)).1;have d:E.q=⟨.up (-1),E.q.s⟩:=by
  have:=h.up;cases k:E.q;rw[k]at this;simp only at this;subst this;rfl
 rw[<-d]at e;exact⟨_,_,i,by rw[Df];omega,e⟩
def OV{t:Tb}(h:Jv t){i:Nat}{l:List Wr}(c:l.length<=16/\QY l/\∀f∈l,D5 f=jO){a:Tb}(e:a.sets=IW t.sets i l):Jv a:=λd b=>by
 rw[e];unfold IW;split
 ·exact c
 ·exact h d b
def Vw:([]:List Wr).length<=16/\QY []/\∀a∈([]:List Wr),D5 a=true:=⟨Bd _,List.Pairwise.nil,λ_ h=>nomatch h⟩
def Iw.tab(h:Iw L E){a:Tb}(k:Jv a)(j:∀o,E.on=jm o->a.wt.ops o.id=E.t.wt.ops o.id/\a.sets o.id=E.t.sets o.id):Iw L {E with t:=a}:=
 ⟨h.up,k,h.oV,h.off,λo b=>by
  obtain⟨e,f,g,i⟩:=h.dU o b;obtain⟨c,d⟩:=j o b;exact⟨e,by show a.wt.ops o.id=jO;rw[c,f],by show a.sets o.id=_;rw[d,g],i⟩⟩
def qW(h:Iw L E):Iw L (KA E).1:=by
 unfold KA;cases f:MM E.t.wt with
 |none=>exact h
 |some a=>
  refine h.tab (OV h.sets Vw rfl) λc g=>?_
  have e:E.t.wt.ops a=false:=by
   have:=List.find?_some (show(Ea 8).find? (λa=> !E.t.wt.ops a)=jm a from f);simpa using this
  have b:c.id≠a:=λd=>by
   have:=(h.dU c g).2.1;rw[d,e]at this;cases this
  exact⟨lg b,lg b⟩
def Ahd(id:Int)(a:P5 E id=0):Ey E.t.wt id=jO/\∀b,E.on=jm b->b.id≠id.toNat:=by
 unfold P5 at a;split at a
 ·rename_i c;refine⟨c,λb e d=>?_⟩;rw[e]at a;obtain⟨f,rfl,_⟩:=IY c;simp only at a;rw[kX (by rw[d];rfl)]at a;cases a
 ·cases a
def ZL(h:Iw L E)(id:Int)(y:Wr):Iw L (IP E id y).1:=by
 unfold IP;split
 ·exact h
 ·rename_i d;obtain⟨b,c⟩:=Ahd id (Decidable.not_not.1 d);obtain⟨a,rfl,e,_⟩:=IY b;obtain⟨s1,s2,i⟩:=h.sets a e;show Iw L {E with t:=wrT E.t a y};unfold wrT;split
  ·refine h.tab (OV h.sets ⟨Ω (yM (E.t.sets a) y),Agl s2 y,iZ i y⟩ rfl) λg f=>⟨rfl,lg (c g f)⟩
  ·exact h
def vZ(h:Iw L E)(i:Nat)(hi:∀a,E.on=jm a->a.id≠i):Iw L {E with t:=Gv E.t i}:=
 h.tab (OV h.sets Vw rfl) λa b=>⟨lg (hi a b),lg (hi a b)⟩
def qX(h:Iw L E)(id:Int):Iw L (MF E id).1:=by
 unfold MF;split
 ·exact h
 ·rename_i a;exact vZ h _ (Ahd id (Decidable.not_not.1 a)).2
def kV(h:Iw L E)(id:Int):Iw L (Ju E id).1:=by
 unfold Ju;split
 ·exact h
 rename_i j;obtain⟨p,rfl,l,m⟩:=IY (t:=E.t.wt) (id:=id) (by simpa using j);split
 ·exact h
 rename_i e;have f:E.on=none:=by
  cases a:E.on with
  |none=>rfl
  |some b=>rw[a]at e;exact absurd rfl e
 have d:∀c:Nat,∀b,E.on=jm b->b.id≠c:=λc b a=>by rw[f]at a;cases a
 split
 ·exact vZ h _ (d _)
 split
 ·exact vZ h _ (d _)
 split
 ·exact vZ h _ (d _)
 rename_i v;split
 ·exact h
 obtain⟨nJ,ch,n,i,k⟩:=h.off f;have g:E.oV.toNat<60000:=O;refine⟨h.up,h.sets,h.oV,λa=>(by cases a),λb a=>?_⟩;cases a;refine⟨l,m,rfl,g,Bd _,E.q.s,nJ,ch,.inl ⟨-1,λ_=>rfl,h.up,⟨E.q.s,[],jS,0⟩,rfl,rfl,qK n _ _ (λc x o=>?_),λp h=>nomatch h⟩,i,k⟩;have r:x.rc.nK.toNat<=E.oV.toNat:=i c x o;have u:(E.oV+1).toNat=E.oV.toNat+1:=VS g;show x.rc.nK.toNat<(E.oV+1).toNat;omega
def Aba(h:Iw L E):Iw L (Il E).1:=by
 cases l:E.on with
 |none=>unfold Il;rw[l];exact h
 |some a=>
  obtain⟨F,V,G,H,p,u,nJ,ch,z,n,v⟩:=h.dU a l;obtain⟨I,e,f⟩:=h.sets a.id F;rw[G]at I e f;have Y:=VS H;have D:∀r,∀x∈ch r,x.rc.nK.toNat<(E.oV+1).toNat:=λr x S=>Ω (n r x S)
  have B:(E.oV+1).toNat≠0:=O;have m:∀(c:Int)(q:Ms),Upd (-1) L u (λ_ _ _=>True) q (Um L u nJ ch (E.oV+1) c)->
   Iw L {q:=q,t:=if c=0 then Py (Gv E.t a.id) a.set (E.oV+1)else Gv E.t a.id,oV:=if c=0 then E.oV+1 else E.oV,on:=jw}:=λc q R=>by
   have C:Jv (Gv E.t a.id):=OV h.sets Vw rfl;rcases R with⟨lf,j,o,P⟩|⟨i,_⟩
   ·refine⟨by rw[<-j rfl];exact o,?_,?_,λ_=>?_,λa d=>(by cases d)⟩
    ·show Jv (if c=0 then _ else _);split
     ·exact C
     ·exact C
    ·show(if c=0 then E.oV+1 else E.oV).toNat<=60000;split<;>omega
    ·rcases P with⟨rfl,g,K⟩|⟨rfl,g,_,_,T,J,M,N⟩
     ·exact⟨nJ,ch,g,n,(K.2 8 U U).trans v⟩
     ·exact⟨T,J,M,N,g⟩
   ·exact absurd rfl i
  have w:=λq=>QD (hpl:=p) (On.YD p) On.YE q
  unfold Il;rw[l];simp only;unfold NS;by_cases k:a.ps.length<a.set.length
  ·rw[Ag k];simp only;obtain⟨W,X⟩:=kM z Apo k f e B D (y:=a.set[a.ps.length]) rfl;by_cases b:(writeM E.q (E.oV+1) a.set[a.ps.length]).2.2.2=0
   ·rw[kX b];have A:=W b;refine⟨?_,h.sets,h.oV,λd=>(by cases d),λZ d=>?_⟩
    ·rcases A with⟨lf,j,o,_⟩|⟨i,_⟩
     ·show _=_;rw[<-j rfl];exact o
     ·exact absurd rfl i
    ·cases d
     refine⟨F,V,G,H,?_,u,nJ,ch,A,n,v⟩;show(a.ps++_).length<=_;rw[AO];exact k
   ·rw[lg b];have:=X b p;rw[w]at this;exact m _ _ this
  ·rw[FO O];simp only;have Q:a.ps.length=a.set.length:=O;have:=Akm z Apo Q f e B D;unfold nO at this;by_cases b:(KG E.q 3 (DD E.q.s.ws 8 (E.oV+1))).2=0
   ·rw[kX b]at this⊢;rw[b]at this;exact m 0 _ this
   ·rw[lg b]at this⊢;rw[w]at this;exact m _ _ this
def Ahe(h:Iw L E):Iw L (QM E).1:=by
 unfold QM;split
 ·exact h
 rename_i g;have j:E.on=none:=by
  cases c:E.on with
  |none=>rfl
  |some k=>rw[c]at g;exact absurd rfl g
 obtain⟨nJ,ch,e,v,p⟩:=h.off j;obtain⟨B,o,_⟩:=Q9 e.ix;rw[o];simp only;have r:nJ.Pairwise (λa b=>a.1≠b.1):=e.ix.up.imp λ{a b}i c=>by rw[c,DC]at i;cases i
 have c:E.q=⟨.up (-1),E.q.s⟩:=by
  have:=h.up;cases u:E.q;rw[u]at this;simp only at this;subst this;rfl
 obtain⟨s2,l,C,f,m,n⟩:=(kU (Eo E.t.wt E.oV) nJ e r (λ_ h=>h)).2 0;rw[<-c]at f;rw[f];refine⟨rfl,h.sets,h.oV,λ_=>⟨l,_,m,λz x w=>?_,(n.2 8 U U).trans p⟩,λk d=>?_⟩
 ·obtain⟨A,y,_,f2⟩:=Aa9 _ _ w;rw[<-f2];exact v z A y
 ·have d:E.on=jm k:=d;rw[j]at d;cases d
end
def YG(E:Eg)(s:Sp):Eg×An:=match s.what with
 |0=>((KA E).1,⟨⟨#[]⟩,[],(KA E).2.1,jS,(KA E).2.2⟩)
 |1=>((IP E s.id ⟨s.key,s.text,jS⟩).1,⟨⟨#[]⟩,[],0,jS,(IP E s.id ⟨s.key,s.text,jS⟩).2⟩)
 |2=>((IP E s.id ⟨s.key,⟨#[]⟩,jO⟩).1,⟨⟨#[]⟩,[],0,jS,(IP E s.id ⟨s.key,⟨#[]⟩,jO⟩).2⟩)
 |3=>(E,⟨(nR E s.id s.key).1,[],0,jS,(nR E s.id s.key).2⟩)
 |4=>(E,⟨⟨#[]⟩,(OU E s.id s.key s.text).1,0,jS,(OU E s.id s.key s.text).2⟩)
 |5=>((Ju E s.id).1,⟨⟨#[]⟩,[],0,jS,(Ju E s.id).2⟩)
 |6=>((Il E).1,⟨⟨#[]⟩,[],(Il E).2.1,(Il E).2.2.1,(Il E).2.2.2⟩)
 |7=>((MF E s.id).1,⟨⟨#[]⟩,[],0,jS,(MF E s.id).2⟩)
 |8=>((QM E).1,⟨⟨#[]⟩,[],(QM E).2.1,jS,(QM E).2.2⟩)
 |_=>(E,⟨⟨#[]⟩,[],0,jS,13⟩)
def Aw6{L:Nat}{E:Eg}(h:Iw L E)(s:Sp):Iw L (YG E s).1:=by
 unfold YG;split
 ·exact qW h
 ·exact ZL h _ _
 ·exact ZL h _ _
 ·exact h
 ·exact h
 ·exact kV h _
 ·exact Aba h
 ·exact qX h _
 ·exact Ahe h
 ·exact h
def AnR(w:jT)(X:Nat->Prop)(a:Av)(x:An):Prop:=
 a.t=x.text/\a.n=x.n/\a.d=x.done/\a.e=x.e/\∃A b,a.ps=fM A x.pairs.length b/\YO w A x.pairs/\(0<x.pairs.length->∀p,A=jm p->X p.block)
def Rd.wo{w w':jT}{F:Nat->Prop}{A:Option Addr}{n:Nat}{xs:List ku}(h:Rd w A n xs)(t:Touch F w w')(hF:0<n->∀a,A=jm a->¬F a.block):Rd w' A n xs:=by
 by_cases b:0<n
 ·exact h.touch t (hF b)
 ·exact⟨h.1,λh=>absurd h b⟩
def AnR.touch{w w':jT}{X d F:Nat->Prop}{a:Av}{x:An}(h:AnR w X a x)(t:Touch F w w')(hF:∀b,X b->¬F b)(o:∀b,X b->d b):AnR w' d a x:=by
 obtain⟨i,j,k,l,A,g,m,n,e⟩:=h;exact⟨i,j,k,l,A,g,m,Rd.wo n t (λf p c=>hF _ (e O p c)),λf p c=>o _ (e f p c)⟩
def AnR.no{w:jT}{X:Nat->Prop}(t:nG)(n:Int)(d:Bool)(e:Int):AnR w X ⟨t,fM jw 0 0,n,d,e⟩ ⟨t,[],n,d,e⟩:=
 ⟨rfl,rfl,rfl,rfl,jw,0,rfl,YO.nil w,λh=>absurd h Θ⟩
section
variable{w:jT}{g d p x tt bk L:Nat}{E:Eg}{X:Nat->Prop}
def ZM(g d p x tt bk L:Nat)(o:Eg)(a:An)(f:jT)(X:Nat->Prop)(e:Ending)(w':jT):Prop:=
 ∃(t:nG)(i:Option Addr)(n m:Nat)(l:Int)(j:Bool)(k:Int),e=iO (YP t (fM i n m) l j k)/\
  ∃c:Nat->Prop,(∀b,X b->c b)/\(∀b,c b->X b\/f<=b)/\(O7 g d p x tt bk L o w' c/\AnR w' (λb=>c b/\f<=b/\b<w') ⟨t,fM i n m,l,j,k⟩ a)/\Touch (QE X) f w'
def ZM.of{b:Eg}{t:nG}{n:Int}{a:Bool}{er:Int}{e:Ending}{w':jT}(h:e=iO (YP t (fM jw 0 0) n a er)/\O7 g d p x tt bk L b w' X/\Touch (QE X) w w'):ZM g d p x tt bk L b ⟨t,[],n,a,er⟩ w X e w':=
 ⟨t,jw,0,0,n,a,er,h.1,X,λ_ h=>h,λ_=>.inl,⟨h.2.1,AnR.no ..⟩,h.2.2⟩
def Apq{f:Nat}(ab:DoF f)(D:O7 g d p x tt bk L E w X)(k:Iw L E)(id:Nat)(key j:nG):
 Calls prog f #[AB g,.agg #[gz iU 4,id,key,j]] w (ZM g d p x tt bk L E ⟨⟨#[]⟩,(OU E id key j).1,0,jS,(OU E id key j).2⟩ w X):=by
 obtain⟨B,u⟩:=ε ((OU E id key j).1);refine(Ahc ab .ks (R:=λy e l=>y.er=(OU E id key j).2/\e.heap.size=w+3/\η e l/\η w e/\l.ownsRow e 159 2 (fM y.P y.m y.c) B.length (Ht B)) (G:=λ_=>False) (λ_ _ h=>h) (λe t ac=>?_)).mono ?_
 ·have i:O7 g d p x tt bk L E e X:=O7.frames _ _ _ _ D (mD t) (λa=>.inl);refine(Aw4 k.up k.sets k.read id key j i).mono ?_;rintro J w'⟨aq,rfl,o,_,q⟩;obtain⟨A,r,rfl,_,_⟩:=C9 o;exact⟨⟨0,_,⟨#[]⟩,jS,A,_,r⟩,rfl,⟨rfl,ac.symm,q,t,by rw[u];exact o⟩,mD q⟩
 ·rintro J w'⟨⟨_,ah,_,_,A,ao,r⟩,rfl,e,l,_,am,⟨I,_,q,t,o⟩,s⟩;simp only at I o;subst I;obtain⟨n,i⟩:∃n:Nat->Prop,n=λa=>X a\/(e<=a/\a<l):=⟨_,rfl⟩
  have t1:Touch (λ_=>False) w l:=(mD t).trans (mD (F:=λ_=>False) q) (λ_=>.inl);have an:=q.size;have K:O7 g d p x tt bk L E l (λa=>n a\/VO w a):=O7.frames _ _ _ _ D (t1.mono (λ_ h=>h.elim)) (λa c=>by
   rw[i]at c;rcases c with(c|c)|c
   ·exact .inl c
   ·exact .inr ⟨O,c.2⟩
   ·exact .inr ⟨c.1,Ω c.2⟩)
  have M:O7 g d p x tt bk L E w' n:=O7.frames _ _ _ _ K (s.mono (λa=>.inr)) (λa c=>.inl (.inl c));obtain⟨ad,ae,S,_,H,hF⟩:=Us (F:=λa=>a<e) o (λ_ h=>h);injection S with T U V
  subst T U V;refine⟨⟨#[]⟩,A,_,r,0,jS,_,rfl,n,λa c=>by rw[i];exact .inl c,λa c=>?_,⟨M,rfl,rfl,rfl,rfl,A,r,by rw[<-u],?_,λv a z=>?_⟩,?_⟩
  ·rw[i]at c;exact c.imp (λh=>h) (λh=>O)
  ·show Rd w' A _ _;rw[<-u];refine Rd.wo H s (λv C Q aa=>hF v C Q ?_);have:=aa.2;show C.block<_;omega
  ·rw[i];have v:0<B.length:=by rw[u];exact v
   obtain⟨b,ap,N,Z,_⟩:=H.2 O;have W:¬a.block<e:=hF O a z;rw[N]at z;cases z;have Y:e<=b:=Nat.le_of_not_lt W;have al:=s.size;exact⟨.inr ⟨Y,Z⟩,(by omega:w<=b),(by omega:b<w')⟩
  ·exact(t1.mono (λ_ h=>h.elim)).trans s (λa h=>.inr h.1)
def doE{f:Nat}(i:DoF f)(e:O7 g d p x tt bk L E w X)(k:Iw L E)(s:Sp)(n:s.key.size<=4294967296)(r:s.text.size<=4294967296):
 Calls prog f #[AB g,spV s] w (ZM g d p x tt bk L (YG E s).1 (YG E s).2 w X):=by
 obtain⟨j,id,m,o⟩:=s;unfold spV YG;simp only at n r⊢;have a:∀t,Frames (O7 g d p x tt bk L t):=λ_=>O7.frames
 split
 ·exact(OT (a _) (a _) Ath e (λb c=>Vu i .kb ⟨_,_,⟨#[]⟩,jS,jw,0,0⟩ b c)).mono λl w' h=>ZM.of h
 ·exact(OT (a _) (a _) (A06 k.sets id m o n r) e (λb c=>Vu i .kp ⟨0,_,⟨#[]⟩,jS,jw,0,0⟩ b c)).mono λl w' h=>ZM.of h
 ·exact(OT (a _) (a _) (A07 k.sets id m n) e (λb c=>Vu i .kd ⟨0,_,⟨#[]⟩,jS,jw,0,0⟩ b c)).mono λl w' h=>ZM.of h
 ·exact(OT (a _) (a _) (A1f k.up k.sets k.read id m n) e (λb c=>Vu i .kt ⟨0,_,_,jS,jw,0,0⟩ b c)).mono λl w' h=>ZM.of h
 ·exact Apq i e k id m o
 ·exact(OT (a _) (a _) (Apj k.up k.sets k.ws8 id) e (λb c=>Vu i .kc ⟨0,_,⟨#[]⟩,jS,jw,0,0⟩ b c)).mono λl w' h=>ZM.of h
 ·exact(OT (a _) (a _) (Awz k.on) e (λb c=>Vu i .kw ⟨_,_,⟨#[]⟩,_,jw,0,0⟩ b c)).mono λl w' h=>ZM.of h
 ·exact(OT (a _) (a _) (Ati id) e (λb c=>Vu i .ka ⟨0,_,⟨#[]⟩,jS,jw,0,0⟩ b c)).mono λl w' h=>ZM.of h
 ·exact(OT (a _) (a _) (A1g k.up (k.vac _)) e (λb c=>Vu i .kv ⟨_,_,⟨#[]⟩,jS,jw,0,0⟩ b c)).mono λl w' h=>ZM.of h
 ·rename_i u v y z A B C D F;refine(A04 i g (j:Int) (.inr ?_) id m o w).mono ?_
  ·have H:j≠0:=u;have I:j≠1:=v;have J:j≠2:=y;have K:j≠3:=z;have M:j≠4:=A;have N:j≠5:=B;have O:j≠6:=C;have P:j≠7:=D;have Q:j≠8:=F;omega
  ·rintro l w'⟨rfl,q⟩;exact ZM.of ⟨rfl,O7.frames _ _ _ _ e (mD q) (λG=>.inl),mD q⟩
end
def stP(E:Eg)(l:List Sp):Nat->Eg
 |0=>E
 |a+1=>match l[a]? with
  |some s=>(YG (stP E l a) s).1
  |none=>stP E l a
def wu(E:Eg)(l:List Sp)(k:Nat):An:=match l[k]? with
 |some s=>(YG (stP E l k) s).2
 |none=>⟨⟨#[]⟩,[],0,jS,0⟩
def wB{L:Nat}{E:Eg}(h:Iw L E)(l:List Sp):∀a,Iw L (stP E l a)
 |0=>h
 |a+1=>by
  unfold stP;split
  ·exact Aw6 (wB h l a) _
  ·exact wB h l a
section
variable{w:jT}{g d p x tt bk L:Nat}{E:Eg}{X:Nat->Prop}
def Afb(g d p x tt bk L:Nat)(E:Eg)(l:List Sp)(B:Nat)(az:List Av)(b:jT)(X:Nat->Prop):Prop:=
 ∃c:Nat->Prop,B<=b/\(∀a,X a->a<b)/\(∀a,c a->¬X a/\a<b/\B<=a)/\O7 g d p x tt bk L (stP E l az.length) b (λa=>X a\/c a)/\∀e(h:e<az.length),AnR b c az[e] (wu E l e)
def Afb.frames(l:List Sp)(C:Nat)(az:List Av):Frames (Afb g d p x tt bk L E l C az):=by
 rintro t u X v⟨i,j,k,c,m,n⟩e f;have q:=e.size;refine⟨i,AZ j q,λb a=>?_,λb a=>⟨λr=>?_,Ω ((c b a).2.1),(c b a).2.2⟩,O7.frames _ _ _ _ m (e.mono (λb=>.inl)) (λb a=>?_),λs o=>(n s o).touch e (λb a=>(c b a).1) (λ_ h=>h)⟩
 ·rcases f b a with h|h
  ·have:=k b h;omega
  ·exact h.2
 ·rcases f b r with h|h
  ·exact(c b a).1 h
  ·have:=(c b a).2.1;omega
 ·rcases a with a|a
  ·exact(f b a).imp .inl (λh=>h)
  ·exact .inl (.inr a)
def Atm(k:Iw L E){l:List Sp}(S:∀s∈l,s.key.size<=4294967296/\s.text.size<=4294967296)(C:Nat)(az:List Av)(c:jT)(X:Nat->Prop)(F:az.length<l.length)(P:Afb g d p x tt bk L E l C az c X):
 Calls prog 17 #[AB g,spV l[az.length]] c λw w'=>∃(t:nG)(f:Option Addr)(q o:Nat)(n:Int)(i:Bool)(j:Int),w=iO (YP t (fM f q o) n i j)/\
  ∃e:Nat->Prop,(∀a,X a->e a)/\(∀a,e a->X a\/c<=a)/\Afb g d p x tt bk L E l C (az++[⟨t,fM f q o,n,i,j⟩]) w' e/\Touch (QE X) c w':=by
 obtain⟨H,y,z,r,K,M⟩:=P;have G:=S _ (BO F);refine(doE (.inl rfl) K (wB k l az.length) l[az.length] G.1 G.2).mono ?_;rintro w w'⟨t,f,q,o,n,i,j,rfl,e,A,U,⟨O,N⟩,u⟩;have T:=u.size;have B:l[az.length]?=jm l[az.length]:=Ag F;have J:stP E l (az.length+1)=(YG (stP E l az.length) l[az.length]).1:=by rw[stP,B]
 have I:wu E l az.length=(YG (stP E l az.length) l[az.length]).2:=by rw[wu,B]
 refine⟨t,f,q,o,n,i,j,rfl,X,λ_ h=>h,λ_=>.inl,⟨λa=>e a/\(H a\/c<=a)/\a<w',AZ y T,λa b=>?_,λa b=>⟨λm=>?_,b.2.2,b.2.1.elim (λh=>(r a h).2.2) (λh=>AZ y h)⟩,?_,λv Q=>?_⟩,u.mono (λa h m=>h (m.imp .inl (λh=>h)))⟩
 ·have:=z a b;omega
 ·rcases b.2.1 with h|h
  ·exact(r a h).1 m
  ·have:=z a m;omega
 ·rw[AO,EO,J];refine O7.frames _ _ _ _ O  mP (λa b=>.inl ?_);rcases b with b|b
  ·exact A a (.inl b)
  ·exact b.1
 ·by_cases D:v<az.length
  ·rw[Na D];exact(M v D).touch u (λa b h=>h (.inl (.inr b))) (λa b=>⟨A a (.inr b),.inl b,Ω ((r a b).2.1)⟩)
  ·have R:v=az.length:=by simp at Q;omega
   subst R;rw[LK (Ae _)];simp only[Pv,List.getElem_singleton];rw[I];exact N.touch (Touch.refl (λ_=>False) _) (λ_ _ h=>h) (λa b=>⟨b.1,.inr b.2.1,b.2.2⟩)
def Atn(n:O7 g d p x tt bk L E w X)(k:Iw L E){l:List Sp}(q:∀s∈l,s.key.size<=4294967296/\s.text.size<=4294967296)(r:l.length<=400){A:Option Addr}(c:Nat)(h:lU w A l)(o:∀a,X a->a<w)(m:∀i,A=jm i->X i.block):
 Calls prog 7 #[AB g,fM A l.length c] w λj w'=>∃(f:ku)(e:Nat->Prop)(b:List Av),j=iO f/\b.length=l.length/\w'.ownsRow w 40 5 f b.length (PN b)/\
  Afb g d p x tt bk L E l w b w' e/\(∀a,X a->e a)/\(∀a,e a->X a\/w<=a)/\(∀a,f.ownBlock=jm a->e a)/\Touch (QE X) w w':=
 Atb g l A c w r h (Afb g d p x tt bk L E l w) (λb=>Afb.frames l _ b) (Atm k q _)
  ⟨λ_=>False,Ae _,o,λ_ h=>h.elim,O7.frames _ _ _ _ n  mP (λa t=>.inl (t.resolve_right (λh=>h))),λ_ h=>absurd h Θ⟩ m
end
def eg0(sh:Sh):Eg:=⟨⟨.up (-1),st0 sh⟩,tb0,0,jw⟩
def CB.Aw7{w:jT}{g d p x tt bk n L B:Nat}{sh:Sh}{F X:Nat->Prop}(h:Ag3 w g d p x tt bk L (st0 sh) (bk0 n) tb0 F (·=g) 0 .nilIface 0 (fM jw 0 0) 0)(f:Aux B g x tt bk n F)(l:∀a,X a->a<B/\a≠0/\a≠1):
 O7 g d p x tt bk L (eg0 sh) w X:=by
 have e:∀a,B<=a->¬X a:=λa m c=>Ω ((l a c).1)
 have q:B<=w:=Ψ h.box.lt f.g;refine⟨bk0 n,F,λk=>k=g,.nilIface,0,fM jw 0 0,0,⟨h.ix,?_,.inl rfl,λa m=>m.elim (λo=>by rw[o];exact h.box.lt) (λc=>Ω ((l a c).1)),h.box,h.fg,h.g1,h.g2,h.g3,h.g4,h.x1,h.x2,h.c1,h.c2,h.c3⟩,⟨e g f.g,e x f.x,λa m=>e a (f.f a m),λc=>(l _ c).2.1 rfl,λc=>(l _ c).2.2 rfl⟩,rfl,rfl,rfl,rfl⟩;refine⟨h.tb.box,h.tb.book,h.tb.map,h.tb.wt,λ_ _=>FP.nil,h.tb.pile,?_,?_,?_,h.tb.ne1,h.tb.ne2,h.tb.ne3⟩
 ·exact λj=>j.elim (λb=>h.tb.fb (.inl b)) (λb=>b.elim (λi=>h.tb.fb (.inr i)) (e bk f.bk))
 ·exact λj=>j.elim (λb=>h.tb.fn (.inl b)) (λb=>b.elim (λi=>h.tb.fn (.inr i)) (e n f.nt))
 ·exact λj=>j.elim (λb=>h.tb.ft (.inl b)) (λb=>b.elim (λi=>h.tb.ft (.inr i)) (e tt f.tt))
def Aw8{L:Nat}{sh:Sh}(a:L<=1024)(c:shapeOf L=jm sh):Iw L (eg0 sh):=
 ⟨rfl,λ_ _=>Vw,Bd _,λ_=>⟨[],λ_=>[],Aot a c,(λ_ _ h=>(nomatch h)),by
  show(st0 sh).ws 8=0;exact Nw sh 8 U⟩,λd b=>by cases b⟩
def Aky(y:Wr):∀a:List Pr,(P7 y a).length<=a.length
 |[]=>Ae _
 |p::a=>by
  rw[P7];split
  ·exact Nat.le_succ _
  ·exact Ae _
def VT:∀(s:List Wr)(l:List Pr),(Hu l s).length<=l.length+s.length
 |[],l=>by simp[Hu]
 |a::s,l=>by
  have b:=VT s (P7 a (l.dropWhile (Gp a)));have c:(U7 a).length<=1:=by unfold U7;split<;>simp
  have d:=Aky a (l.dropWhile (Gp a));have e:(l.takeWhile (Gp a)).length+(l.dropWhile (Gp a)).length=l.length:=by
   rw[<-AO,ZQ]
  rw[Hu,AO,AO,Bg];omega
def qY(s:St)(b:Nat)(c a:nG):∀(nJ:List (List nC×ni)),(readA s b c a nJ).length<=nJ.length
 |[]=>Ae _
 |e::f=>by
  have d:=qY s b c a f;have g:(ND s b c a e).length<=1:=by
   unfold ND;split
   ·split<;>simp
   ·simp
  unfold readA at d⊢;rw[Ci,List.flatten_cons,AO,Bg];omega
def Apr{L:Nat}{E:Eg}(h:Iw L E)(id:Int)(c b:nG):(OU E id c b).1.length<=100000:=by
 unfold OU;split
 ·exact Bd _
 ·rename_i g;obtain⟨a,rfl,j,_⟩:=IY (t:=E.t.wt) (id:=id) (by simpa using g);obtain⟨nJ,ch,e,_⟩:=h.store;obtain⟨o,f,_⟩:=Q9 e.ix;rw[f];simp only;have k:=kT e;have l:=(h.sets a j).1;have m:(Ur c b (E.t.sets a)).length<=(E.t.sets a).length:=JV ..;unfold qU;have n:=VT (Ur c b (E.t.sets a)) (readA E.q.s (E.t.wt.ats a).toNat c b (nJ.map λd=>(pairs d.1,d.2)));have i:=qY E.q.s (E.t.wt.ats a).toNat c b (nJ.map λd=>(pairs d.1,d.2));rw[Df]at i;show(Hu (readA E.q.s (E.t.wt.ats a).toNat c b _) (Ur c b (E.t.sets a))).length<=_;omega
def Ato{L:Nat}{E:Eg}(h:Iw L E)(s:Sp):(YG E s).2.pairs.length<=100000:=by
 unfold YG;split
 all_goals first|exact Apr h _ _ _|exact Bd _
def Akz(b:List nC):∀s∈uD b,s.key.size<=4294967296/\s.text.size<=4294967296:=λs a=>by
 unfold uD Qw at a;obtain⟨c,_,rfl⟩:=CU.1 a;unfold Ad3 stepS keyS textS;constructor
 ·show(Zk _ _).toArray.size<=_;rw[Tn,Anq];omega
 ·show(Yu _ _).toArray.size<=_;rw[Tn,Ajb];omega
def Afc{a b:nG}(h:a.toList=b.toList):a=b:=by
 rw[ByteArray.toList_eq,ByteArray.toList_eq]at h;exact ByteArray.ext (Alg.1 h)
def X9{a b:List nC}(h:Op.bytesLess a b=jO):Op.bytesLess b a=false:=by
 cases c:Op.bytesLess b a with
 |false=>rfl
 |true=>
  have:=Ji _ _ _ h c;rw[DC]at this;cases this
def Abb(a b:nG):0<Nc a b<->Op.bytesLess b.toList a.toList=true:=by
 unfold Nc;cases h:Op.bytesLess a.toList b.toList with
 |true=>rw[kX rfl,X9 h];simp
 |false=>
  rw[lg Θ];rcases QX _ _ h with c|c
  ·rw[lg (λd=>Y2 c (eq_of_beq d).symm),c];simp
  ·rw[c,DC,kX Θ];simp
def qZ(a b:nG):Nc a b=0<->a=b:=by
 unfold Nc;cases h:Op.bytesLess a.toList b.toList with
 |true=>
  rw[kX rfl];constructor
  ·intro h;cases h
  ·intro c;rw[c,DC]at h;cases h
 |false=>
  rw[lg Θ];by_cases c:a=b
  ·rw[c,kX Θ];simp
  ·rw[lg (λh=>c (Afc (eq_of_beq h)))];constructor
   ·intro h;cases h
   ·intro h;exact absurd h c
def Abc(l:List Pr):Prop:=l.Pairwise λa b=>Op.bytesLess a.key.toList b.key.toList=jO
def Aps{a b:List Pr}(d:Abc a)(e:Abc b)(h:∀x,x∈a<->x∈b):a=b:=
 kD (r:=λa b:Pr=>Op.bytesLess a.key.toList b.key.toList=jO) (λx h=>by rw[DC]at h;cases h) (λx f h c=>by rw[X9 h]at c;cases c) a b d e h
def kW{y:Wr}:∀{l:List Pr},Abc l->(∀p∈P7 y (l.dropWhile (Gp y)),Op.bytesLess y.key.toList p.key.toList=jO)/\(∀p,p∈l.dropWhile (Gp y)<->p∈P7 y (l.dropWhile (Gp y))\/(p∈l.dropWhile (Gp y)/\y.key=p.key))
 |[],_=>⟨λp a=>(nomatch a),λp=>⟨λa=>(nomatch a),λh=>h.elim (λa=>(nomatch a)) (λh=>h.1)⟩⟩
 |b::l,h=>by
  obtain⟨f,j⟩:=Ir.1 h;by_cases e:Gp y b=jO
  ·rw[mg e];exact kW j
  ·rw[mi e];have k:Op.bytesLess b.key.toList y.key.toList=false:=by
    cases d:Op.bytesLess b.key.toList y.key.toList with
    |false=>rfl
    |true=>exact absurd (decide_eq_true ((Abb _ _).2 d)) e
   by_cases c:Nc y.key b.key=0
   ·have g:=(qZ _ _).1 c;rw[P7,kX c];refine⟨λp a=>by rw[g];exact f p a,λp=>⟨λa=>?_,λa=>?_⟩⟩
    ·rcases Cb.1 a with rfl|a
     ·exact .inr ⟨Bf ..,g⟩
     ·exact .inl a
    ·rcases a with a|a
     ·exact Bi _ a
     ·exact a.1
   ·rw[P7,lg c];have i:Op.bytesLess y.key.toList b.key.toList=true:=(QX _ _ k).resolve_right (λd=>c ((qZ _ _).2 (Afc d).symm));refine⟨λp a=>?_,λp=>⟨λa=>.inl a,λa=>a.elim id (λh=>h.1)⟩⟩;rcases Cb.1 a with rfl|a
    ·exact i
    ·exact Ji _ _ _ i (f p a)
def Apt(y:Wr)(l:List Pr):(P7 y l).Sublist l:=by
 cases l with
 |nil=>exact List.Sublist.refl _
 |cons p l=>
  rw[P7];split
  ·exact List.sublist_cons_self ..
  ·exact List.Sublist.refl _
def dW:∀(s:List Wr){l:List Pr},QY s->Abc l->Abc (Hu l s)/\∀p,p∈Hu l s<->(∃x∈s,x.key=p.key/\x.gone=jS/\x.text=p.text)\/(p∈l/\∀x∈s,x.key≠p.key)
 |[],l,_,h=>⟨h,λp=>⟨λa=>.inr ⟨a,λx c=>(nomatch c)⟩,λa=>a.elim (λ⟨x,c,_⟩=>(nomatch c)) (λh=>h.1)⟩⟩
 |d::s,l,y,h=>by
  obtain⟨s1,s2⟩:=Ir.1 y;obtain⟨q,w⟩:=kW (y:=d) h;have u:(P7 d (l.dropWhile (Gp d))).Sublist l:=(Apt d _).trans (List.dropWhile_sublist _);obtain⟨z,v⟩:=dW s s2 (h.sublist u);have o:∀p∈l.takeWhile (Gp d),Op.bytesLess p.key.toList d.key.toList=true:=λp a=>(Abb _ _).1 (of_decide_eq_true (List.all_eq_true.1 List.all_takeWhile p a))
  have t:∀p,p∈l<->p∈l.takeWhile (Gp d)\/p∈l.dropWhile (Gp d):=λp=>by
   rw[<-AP,ZQ]
  have r:∀p∈Hu (P7 d (l.dropWhile (Gp d))) s,Op.bytesLess d.key.toList p.key.toList=true:=λp a=>by
   rcases(v p).1 a with⟨x,c,e,_⟩|⟨a,_⟩
   ·rw[<-e];exact s1 x c
   ·exact q p a
  have n:∀p,p∈U7 d<->d.key=p.key/\d.gone=jS/\d.text=p.text:=λp=>by
   unfold U7;cases A:d.gone with
   |true=>simp
   |false=>
    rw[lg Θ,BB];obtain⟨B,C⟩:=p;simp[eq_comm]
  rw[Hu];constructor
  ·refine WL.2 ⟨h.sublist (List.takeWhile_sublist _),WL.2 ⟨?_,z,λg i b f=>?_⟩,λg i b f=>?_⟩
   ·unfold U7;split
    ·exact List.Pairwise.nil
    ·exact wM ..
   ·rw[<-((n g).1 i).1];exact r b f
   ·rcases AP.1 f with f|f
    ·rw[<-((n b).1 f).1];exact o g i
    ·exact Ji _ _ _ (o g i) (r b f)
  ·intro p;rw[AP,AP,n,v];constructor
   ·rintro(a|a|⟨x,c,e⟩|⟨a,j⟩)
    ·refine .inr ⟨(t p).2 (.inl a),λx c e=>?_⟩;have k:=o p a;rcases Cb.1 c with rfl|c
     ·rw[e,DC]at k;cases k
     ·have m:=s1 x c;unfold Gf at m;rw[e,X9 k]at m;cases m
    ·exact .inl ⟨d,Bf ..,a⟩
    ·exact .inl ⟨x,Bi _ c,e⟩
    ·refine .inr ⟨u.subset a,λx c e=>?_⟩;rcases Cb.1 c with rfl|c
     ·exact Y2 (q p a) (by rw[e])
     ·exact j x c e
   ·rintro(⟨x,c,e⟩|⟨a,j⟩)
    ·rcases Cb.1 c with rfl|c
     ·exact .inr (.inl e)
     ·exact .inr (.inr (.inl ⟨x,c,e⟩))
    ·rcases(t p).1 a with a|a
     ·exact .inl a
     ·rcases(w p).1 a with a|⟨_,e⟩
      ·exact .inr (.inr (.inr ⟨a,λx c=>j x (Bi _ c)⟩))
      ·exact absurd e (j d (Bf ..))
def Atp{s:List Wr}(h:QY s){a b:Wr}(g:a∈s)(i:b∈s)(e:a.key=b.key):a=b:=by
 obtain⟨j,d,rfl⟩:=CW g;obtain⟨k,f,rfl⟩:=CW i;rcases Nat.lt_trichotomy j k with c|c|c
 ·have:=h.lt d f c;unfold Gf at this;rw[e,DC]at this;cases this
 ·subst c;rfl
 ·have:=h.lt f d c;unfold Gf at this;rw[e,DC]at this;cases this
def YH{s:List Wr}{key:nG}{x:Wr}(h:L8 s key=jm x):x∈s/\x.key=key:=by
 unfold L8 at h;split at h
 ·rename_i a;refine⟨List.mem_of_getElem? h,?_⟩;unfold ny at a;rw[h]at a;exact Afc (eq_of_beq a)
 ·cases h
def wC{s:List Wr}(h:QY s){x:Wr}(f:x∈s):L8 s x.key=jm x:=by
 obtain⟨g,a,rfl⟩:=CW f;obtain⟨b,c⟩:=iY (key:=s[g].key) a (by unfold Gf;exact DC _) (λi d e=>h.lt d a e);unfold L8;rw[c,kX Θ,b,Ag a]
def wE{s:List Wr}(h:QY s){key:nG}:L8 s key=jw<->∀x∈s,x.key≠key:=by
 constructor
 ·intro a x d c;rw[<-c,wC h d]at a;cases a
 ·intro a;cases b:L8 s key with
  |none=>rfl
  |some x=>exact absurd (YH b).2 (a x (YH b).1)
def kY(T:List (List Wr))(key:nG):Option Wr:=T.reverse.findSome? λa=>L8 a key
def LD(T:List (List Wr))(key:nG):Option nG:=match kY T key with
 |some x=>if x.gone then jw else jm x.text
 |none=>jw
def LG(T:List (List Wr)):List Pr:=T.foldl Hu []
def Ak0(T:List (List Wr))(l:List Wr)(key:nG):kY (T++[l]) key=match L8 l key with|some x=>jm x|none=>kY T key:=by
 unfold kY;rw[List.reverse_append,List.reverse_singleton,List.singleton_append,List.findSome?_cons];cases L8 l key<;>rfl
def ZN(T:List (List Wr))(l:List Wr)(key:nG):LD (T++[l]) key=match L8 l key with|some x=>(if x.gone then jw else jm x.text)|none=>LD T key:=by
 unfold LD;rw[Ak0];cases L8 l key<;>rfl
def Abd:∀(n:Nat)(T:List (List Wr)),T.length=n->(∀a∈T,QY a)->Abc (LG T)/\∀p,p∈LG T<->LD T p.key=jm p.text
 |0,T,e,_=>by
  obtain rfl:=List.length_eq_zero_iff.1 e;exact⟨List.Pairwise.nil,λp=>⟨λh=>(nomatch h),λh=>(nomatch h)⟩⟩
 |n+1,T,e,j=>by
  obtain⟨c,a,rfl⟩:∃c a,T=c++[a]:=by
   rcases Abv T with rfl|⟨o,w,rfl⟩
   ·cases e
   ·exact⟨o,w,UF⟩
  rw[AO,EO]at e;have i:=j a Θ;obtain⟨s,m⟩:=Abd n c O (λa h=>j a (BK _ h));obtain⟨u,v⟩:=dW a i s;have d:LG (c++[a])=Hu (LG c) a:=by unfold LG;rw[Alh];rfl
  rw[d];refine⟨u,λp=>?_⟩;rw[v,ZN];cases k:L8 a p.key with
  |none=>
   have b:=(wE i).1 k;constructor
   ·rintro(⟨x,q,d,_⟩|⟨h,_⟩)
    ·exact absurd d (b x q)
    ·exact(m p).1 h
   ·intro h;exact .inr ⟨(m p).2 h,b⟩
  |some x=>
   obtain⟨b,f⟩:=YH k;constructor
   ·rintro(⟨y,r,d,g,t⟩|⟨_,h⟩)
    ·obtain rfl:=Atp i r b (d.trans f.symm);simp only[g,t];rfl
    ·exact absurd f (h x b)
   ·intro h;refine .inl ⟨x,b,f,?_⟩;simp only at h;cases l:x.gone with
    |true=>rw[l]at h;cases h
    |false=>
     rw[l]at h;exact⟨rfl,Option.some.inj h⟩
def cmC(x:Nat×ku):List Value:=[gz iV (x.1:Int),x.2]
def nU(l:List (Nat×ku)):List Value:=(l.map cmC).flatten
def Apu(a b:List (Nat×ku)):nU (a++b)=nU a++nU b:=by simp[nU]
structure rq(w:jT)(G:Nat->Prop)(A:Option Addr)(cs:List (Nat×ku))(T:List (List Wr)):Prop where
 len:cs.length=T.length
 row:MB w G A (cs.length*2) (nU cs)
 set:∀k(h:k<cs.length)(h2:k<T.length),cs[k].1=k+1/\FP w G cs[k].2 T[k]
def ry(T:List (List Wr)):Prop:=∀a∈T,QY a/\a.length<=16
section
variable{w w':jT}{G G':Nat->Prop}{A:Option Addr}{cs:List (Nat×ku)}{T:List (List Wr)}
def rq.moved(h:rq w G A cs T)(m:AQ G G' w w'):rq w' G' A cs T:=⟨h.len,h.row.moved m,λk a h2=>⟨(h.set k a h2).1,(h.set k a h2).2.moved m⟩⟩
def rq.below(h:rq w G A cs T)(k:η w w'):rq w' G A cs T:=h.moved (mW k)
def rq.at(h:rq w G A cs T)(k:Nat)(g:k<T.length):∃b c d e,A=jm (Δ b c)/\b<w/\w.cell? (Δ b (c+k*2))=jm (gz iV ((k:Int)+1))/\w.cell? (Δ b (c+k*2+1))=jm (fM d T[k].length e)/\FP w G (fM d T[k].length e) T[k]:=by
 have i:k<cs.length:=by rw[h.len];exact g
 obtain⟨b,c,rfl,o,p⟩:=h.row.1.2 O;obtain⟨j,l⟩:=h.set k i g;obtain⟨d,e,m,n⟩:=l;have f:∀a,a<2->w.cell? (Δ b (c+k*2+a))=(cmC cs[k])[a]?:=λa q=>by
  rw[Nat.add_assoc,p (k*2+a) O];exact flat_get cmC 2 (λ_=>rfl) cs k a i q
 refine⟨b,c,d,e,rfl,o,?_,?_,⟨d,e,rfl,n⟩⟩
 ·have:=f 0 U;rw[show(cmC cs[k])[0]?=jm (gz iV (cs[k].1:Int))from rfl,j]at this;exact this
 ·have:=f 1 U;rw[show(cmC cs[k])[1]?=jm cs[k].2 from rfl,m]at this;exact this
def VU(h:rq w G A cs T)(c:Nat)(g:T.length<=100000):Calls prog 117 #[fM A T.length c] w λf w'=>f=iO (gz iV (T.length:Int))/\w=w':=by
 by_cases d:T.length=0
 ·rw[d];clear h;go_wp2;go_ret;exact⟨rfl,rfl⟩
 ·obtain⟨a,e⟩:∃a,T.length=a+1:=⟨T.length-1,O⟩;obtain⟨b,m,i,j,rfl,k,n,-,-⟩:=h.at a O;rw[e]at g⊢;have t1:(((a:Int)+1)==0)=false:=ζ O;have l:IntKind.i64.wrap ((a:Int)+1-1)=(a:Int):=by rw[show(a:Int)+1-1=(a:Int)by omega];exact IntWalk.i64_in _ O
  have t2:=dT ((0:Int)<=(a:Int));have t3:=dT ((a:Int)<(a:Int)+1);clear h d e;go_wp2;go_ret;exact⟨rfl,rfl⟩
def kZ{k:Nat}(a:k<T.length):LG (T.take (k+1))=Hu (LG (T.take k)) T[k]:=by
 unfold LG;rw[BH a,Alh];rfl
def ZO(b:ry T):∀a,a<=T.length->(LG (T.take a)).length<=a*16
 |0,_=>by simp[LG]
 |a+1,f=>by
  have c:=ZO b a O;have d:=VT T[a] (LG (T.take a));have e:=(b T[a] (BO _)).2;rw[kZ O];omega
def Ak1(h:rq w G A cs T)(K:ry T)(c:Nat)(ah:T.length<=5000)(f:ni):
 Calls prog 171 #[fM A T.length c,f] w λd w'=>∃n,d=iO n/\w'.ownsRow w 159 2 n (LG (T.take f.toNat)).length (Ht (LG (T.take f.toNat)))/\η w w':=by
 have Y:=Ac (λe(a:η w e)=>h.below a);have I:=Ac K;obtain⟨l,D⟩:=ε T.length;have s:=Ac D;obtain⟨m,C⟩:=ε f.toNat;have aw:m<18446744073709551616:=by rw[C];exact f.toNat_lt
 rw[<-D]at ah⊢;rw[<-C];clear h K D C;go_in;go_wp2_with fail;go_loopw [5,10](λn E wr=>∃a:Nat,a<=l/\E=gz iU (a:Nat)/\wr.ownsRow w 159 2 n (LG (T.take (min a m))).length (Ht (LG (T.take (min a m))))/\η w wr)(λ_ E _=>l-(intOf E).toNat)
 case atStart=>exact⟨0,Bd _,rfl,by rw[Nat.zero_min];exact Ce _ _ _ _,mZ⟩
 case round=>
  obtain⟨a,au,rfl,R,L⟩:=hrel;have g:=Ac R;have q:=Ac L;clear R L;by_cases ae:a<l
  ·have P:a<T.length:=Ω s.out;obtain⟨b,aL,o,J,ac,ar,aM,am,U⟩:=(Y _ q).at a P;have aD:=XH ae;have az:=XI a O;have Z:=Ac U;obtain⟨e,x,y,p⟩:=E5 wr 51 [gz iV ((a:Int)+1),fM o T[a].length J];obtain⟨i,r,t,ap⟩:=lL x (τ q.out y) y p;obtain⟨an,V⟩:=p.p2;rw[x]at an V;subst ac;clear U x y p;by_cases av:a<m
   ·have t1:=dT ((a:Int)+1<=(m:Int));have t2:=dT (a+1<=m);have v:=g.out;rw[EI O]at v;obtain⟨Av,ab,rfl,N,S⟩:=C9 v;have H:Hid (YO e Av (LG (T.take a))):=Ac (Rd.below S t);have aa:=(I T[a] (BO _)).2;have X:=ZO I a O;have F:Hid (Rd e o (T[a].length*3) (GK T[a])):=Ac (by
     obtain⟨ao,aq,d,_,al,_⟩:=Z.out;injection d with d _ _
     subst d;exact Rd.below al t)
    have u:=Ac (kQ (LG (T.take a)) T[a] Av o ab J e O O H N F);rw[<-kZ P]at u;obtain⟨aG,z⟩:=ε ((LG (T.take a)).length);obtain⟨aI,B⟩:=ε (T[a].length);rw[<-z,<-B]at u;rw[<-B]at am V i;rw[<-z];clear v S N aa X z B H F g;go_wp2_with(rw[<-i.out];refine u.mono ?_;rintro d aW⟨aR,rfl,Q,M⟩;have j:=Ac (Ti Q r.size);have W:=Ac (τ r.out M);clear Q M);exact⟨⟨a+1,O,by go_num,by rw[EI O];exact j,W⟩,mz⟩
   ·have t1:=dF ((a:Int)+1<=(m:Int));have t2:=dF (a+1<=m);have j:=Ac (Eu g t);go_wp2;exact⟨⟨a+1,O,by go_num,by rw[<-i.out,PD O];rw[PD O]at j;exact j,by rw[<-i.out];exact r⟩,mz⟩
  ·have ad:a=l:=O;subst ad;have aE:=wO (Nat.lt_irrefl a);have k:=g.out;have d:T.take (min a m)=T.take m:=by
    rcases Nat.le_total a m with h|h
    ·rw[EI h,Dq (by rw[<-s.out];exact Ae _),Dq (by rw[<-s.out];exact h)]
    ·rw[PD h]
   rw[d]at k;have k:=Ac k;go_wp2;go_ret;exact⟨_,rfl,k,q⟩
end
def Tryz.Apv:IK prog 34 51 (.agg #[gz iV 0,fM jw 0 0]) 2 32:=⟨underlying34,by kernel_rfl,rfl⟩
section
variable{w w':jT}{G G':Nat->Prop}{A:Option Addr}{cs:List (Nat×ku)}{T:List (List Wr)}
def rq.one(h:rq w G A cs T):∀d∈nU cs,d.oneCell'=true:=λd a=>by
 unfold nU at a;rw[U8]at a;obtain⟨j,c,a⟩:=a;rw[CU]at c;obtain⟨x,f,rfl⟩:=c;obtain⟨k,b,rfl⟩:=CW f;obtain⟨_,g,i,e,_⟩:=h.set k b (by rw[<-h.len];exact b);unfold cmC at a;rw[e]at a;simp only[Cb,bH,or_false]at a;rcases a with rfl|rfl<;>rfl
def Afd(h:rq w G A cs T)(c:Nat)(x:T.length<=5000):
 Calls prog 206 #[fM A T.length c] w λs w'=>∃p,s=iO p/\w'.ownsRow w 51 2 p T.length (nU cs)/\η w w':=by
 have f:=Ac (λb(F:η w b)=>(h.below F).row.1);have q:=Ac h.one;rw[h.len]at f;obtain⟨a,o⟩:=ε T.length;rw[<-o]at x f⊢;clear h o;have I:IntKind.i64.wrap ((a:Int)+1)=(a:Int)+1:=XI a O;have j:∀b:jT,(Instr.makeSlice 34 (gz iU 0) (gz iU ((a:Int)+1))).run prog b=.ok (fM (jm (Φ b)) 0 (a+1)) (b.alloc (.cells (madeCells (Value.agg #[gz iV 0,fM jw 0 0]).cells ((a+1)*2)) 51)):=λb=>by
  obtain⟨D,u,y,z,B⟩:=info_parts Tryz.Apv.hi;have:=run_make (P:=prog) (w:=b) 34 51 D _ underlying34 u y iU iU 0 ((a:Int)+1) O O (by rw[B];omega) O;rw[z]at this;simpa[show((a:Int)+1).toNat=a+1 by omega]using this
 obtain⟨d,k⟩:∃d,madeCells (Value.agg #[gz iV 0,fM jw 0 0]).cells ((a+1)*2)=d:=⟨_,rfl⟩;have C:d.size=(a+1)*2:=by rw[<-k];simp[madeCells]
 rw[k]at j;have v:=j w;obtain⟨g,e⟩:=ε (w.alloc (.cells d 51));rw[<-e]at v;have m:g.ownsRow w 51 2 (fM (jm (Φ w)) 0 (a+1)) 0 []:=⟨by simp,.inr ⟨w,a+1,d,rfl,Ae _,e▸heap_alloc_new _ _,O,AZ (show a+1<=5001 by omega) U,by rw[C],by simp⟩⟩;have i:η w g:=e▸ mZ.alloc (Ae _) _;obtain⟨l,r,E⟩:=l9 i m (f g i);clear j e m i k;go_in;go_wp2_with(at_builtin;refine Fq rfl (.tmp 6) (.tmp 7) 34 rfl Tryz.Apv U w (fM (jm (Φ w)) 0 (a+1)) 0 [] rfl r A a c (nU cs) rfl E q O U l.size ?_;intro J K n t H;rw[Du,DR]at n);go_ret;exact⟨_,rfl,n,l.trans t⟩
def Apw(h:rq w G A cs T)(c:Nat)(X:T.length<=5000)(S:∀b,G b->b<w){v:ku}{l:List Wr}(W:FP w G v l)(aD:l.length<=100000):
 Calls prog 172 #[fM A T.length c,v] w λy w'=>∃I am an,y=iO (iJ #[fM I (T.length+1) am,gz iU 0])/\rq w' G I an (T++[l])/\η w w':=by
 obtain⟨r,s,ah,ac,k,L⟩:=lN (Afd h c X) (λx(d:η w x)=>VU (h.below d) c (by omega:T.length<=100000)) (λx(d:η w x)=>Oq (W.below d) aD) h h.len S;obtain⟨a,E⟩:=ε T.length;have g:=Ac E;rw[<-E]at X r s⊢;have t1:=dF ((60000:Int)<=(a:Int));have t2:=dF (60000<=a);have bb:IntKind.u64.wrap ((a:Int)+1)=((a+1:Nat):Int):=by rw[IntWalk.u64_in _ O];omega
 clear h W S E;go_in;go_wp2_with(first|(refine r.out.mono ?_;rintro y bg⟨bd,rfl,q,V⟩;obtain⟨J,N,rfl,a9,aG⟩:=C9 q;obtain⟨M,ad,j⟩:=l9 q (YB q) V;clear q V aG r)|(refine(s _ j).ro ?_)|(refine(s _ j).ro ?_));refine(ah _ j).mono ?_;rintro y aa⟨be,rfl,H,D⟩;obtain⟨u,K,ab⟩:=l9 H (τ j.out D) (Eu M D);obtain⟨e,f,aL,aw,aI⟩:=C9 H;subst aL;obtain⟨i,p⟩:=ε l.length;rw[<-p]at u;rw[<-p];have t:=Ac p;have Y:=j.size;have ae:=Ac Y;clear H D aI aw M Y p;go_wp2_with(at_builtin;refine BU rfl (.tmp 13) (.tmp 20) 34 rfl Tryz.Apv aa w (fM J a N) a (nU cs) [gz iV ((a+1:Nat):Int),fM e i f] rfl ab rfl aa 1 rfl rfl rfl U (by intro bc Z;simp at Z;rcases Z with rfl|rfl<;>rfl) O U K.size ?_;intro a8 a5 aR a2 au av ba);have R:η w aR:=K.trans au;have aE:(Ad J a N).ownBlock≠(Ad e i f).ownBlock\/(Ad e i f).ownBlock=none:=by
  cases P:(Ad e i f).ownBlock with
  |none=>exact .inr rfl
  |some m=>
   refine .inl λz=>?_
   have B:=(ad m z).2;have Q:=(YB u m P).1;omega
 have al:=FN u av aE;obtain⟨a3,a6,ap,_,aW⟩:=Us (F:=G) a2 (λb C=>L b C);injection ap with z P ao
 subst z ao;obtain⟨a4,a7,aq,az,aM⟩:=Us (F:=G) al (λb C=>Bc (L b C) ae);injection aq with f1 f2 f3
 subst f1 f3;go_ret2;have o:(cs++[(a+1,Ad e i f)]).length=a+1:=by rw[AO,k.out,<-g.out];rfl
 refine⟨_,_,cs++[(a+1,fM e i f)],rfl,⟨by rw[o,AO,<-g.out];rfl,?_,λd B Q=>?_⟩,R⟩
 ·rw[o,Apu];exact aW
 ·rw[o]at B;by_cases n:d<a
  ·rw[Na (by rw[k.out,<-g.out];exact n),Na (by rw[<-g.out];exact n)];obtain⟨ar,m⟩:=ac.set d (by rw[k.out,<-g.out];exact n) (by rw[<-g.out];exact n);exact⟨ar,m.below R⟩
  ·obtain rfl:d=a:=O;have a0:(cs++[(d+1,Ad e i f)])[d]'(by rw[o];exact B)=(d+1,Ad e i f):=by
    rw[LK (by rw[k.out,<-g.out];exact Ae _)];simp
   have a1:(T++[l])[d]'Q=l:=by
    rw[LK (by rw[<-g.out];exact Ae _)];simp
   rw[a0,a1];exact⟨rfl,e,f,by rw[t.out],by rw[<-t.out];exact az,by rw[<-t.out];exact aM⟩
end
def wF(s:St)(key:nG):List Lk:=(IU s (Ic s key).1).getD []
def size_data{key:nG}{n:Nat}(h:key.size<=n):key.data.toList.length<=n:=h
section
variable{L:Nat}{s:St}{nJ:List Kv}{ch:List nC->List Lk}
def MG(h:CX L s nJ ch){key:nG}(b:key.size<=16):wF s key=ch (CO key):=by
 unfold wF;rcases Z9 h.ix key (size_data b)with⟨e,a,c,_⟩|⟨a,d⟩
 ·rw[a,(h.chain _ c).1.listed h.ix.ok];rfl
 ·rw[a,h.none _ d,D8.nil.listed h.ix.ok];rfl
def Atq(h:CX L s nJ ch)(own:List Wr)(c:Nat){key:nG}(d:key.size<=16):Aa6 s own c key=match L8 own key with|some b=>(if b.gone then(⟨#[]⟩,7)else(b.text,0))|none=>vW (wF s key) c:=by
 unfold Aa6;cases L8 own key with
 |some b=>rfl
 |none=>
  simp only;rcases Z9 h.ix key (size_data d)with⟨f,a,_⟩|⟨a,e⟩
  ·rw[lg (by rw[a];simp)];rfl
  ·rw[kX (by rw[a];decide),MG h d,h.none _ e,a];rfl
def Ro{b:Nat}{e d:nG}{it:List nC×ni}{p:Pr}:p∈ND s b e d it<->p.key=⟨it.1.toArray⟩/\FB p.key e d=jO/\Je ((IU s it.2).getD []) b=jm p.text:=by
 obtain⟨j,t⟩:=p;unfold ND;cases i:Je ((IU s it.2).getD []) b with
 |none=>simp
 |some k=>
  simp only;split
  ·rename_i c;rw[BB];constructor
   ·intro a;injection a with f g
    subst f g;exact⟨rfl,c,rfl⟩
   ·rintro⟨rfl,_,a⟩;injection a with a
    rw[a]
  ·rename_i c;constructor
   ·intro h;cases h
   ·rintro⟨rfl,h,_⟩;exact absurd h c
def Atr(h:CX L s nJ ch)(m:Nat)(q l:nG):Abc (readA s m q l (nJ.map λc=>(pairs c.1,c.2)))/\
 ∀p,p∈readA s m q l (nJ.map λc=>(pairs c.1,c.2))<->p.key.size<=16/\FB p.key q l=jO/\Je (wF s p.key) m=jm p.text:=by
 have w:∀c:Kv,(⟨(pairs c.1).toArray⟩:nG).toList=pairs c.1:=λc=>by rw[ByteArray.toList_eq]
 have j:∀c∈nJ,c.1.length%2=0/\c.1.all DW=true:=λc z=>by
  have e:=h.ix.even c z;unfold OB at e;simp only[Bool.and_eq_true,decide_eq_true_eq]at e;exact⟨by first|exact e.1|exact e.2,by first|exact e.2|exact e.1⟩
 unfold readA Abc;constructor
 ·rw[List.pairwise_flatten];constructor
  ·intro H f;rw[CU]at f;obtain⟨I,_,rfl⟩:=f;unfold ND;split
   ·split
    ·exact wM ..
    ·exact List.Pairwise.nil
   ·exact List.Pairwise.nil
  ·rw[bG,Alf];refine II.2 λ{a b}r=>?_
   have B:=II.1 h.ix.up r;have t:=r.subset (Bf ..);have u:=r.subset (Bi _ (BB.2 rfl));intro x D J E;rw[(Ro.1 D).1,(Ro.1 E).1,w,w,jU _ _ (j a t).1 (j b u).1 (j a t).2 (j b u).2];exact B
 ·intro p;rw[U8];constructor
  ·rintro⟨H,f,A⟩;rw[bG,CU]at f;obtain⟨c,d,rfl⟩:=f;obtain⟨n,y,o⟩:=Ro.1 A;simp only at n o;obtain⟨F,G⟩:=Apl h.ix d;have g:p.key.size<=16:=by
    rw[n];show(pairs c.1).toArray.size<=16;rw[Tn];exact G
   refine⟨g,y,?_⟩;rw[MG h g,n];simp only;rw[F];rw[(h.chain c d).1.listed h.ix.ok]at o;exact o
  ·rintro⟨g,C,k⟩;by_cases v:∃c∈nJ,c.1=CO p.key
   ·obtain⟨c,d,i⟩:=v;refine⟨_,Afx (Afx d),Ro.2 ⟨?_,C,?_⟩⟩
    ·simp only;rw[i,TC]
    ·simp only;rw[(h.chain c d).1.listed h.ix.ok,i];rw[MG h g]at k;exact k
   ·rw[MG h g,h.none _ (λc d i=>v ⟨c,d,i⟩)]at k;cases k
def Afe{T:List (List Wr)}(g:∀a∈T,QY a/\∀i∈a,D5 i=jO){key t:nG}(h:LD T key=jm t):key.size<=16:=by
 unfold LD at h;cases b:kY T key with
 |none=>rw[b]at h;cases h
 |some x=>
  unfold kY at b;obtain⟨a,c,d⟩:=List.exists_of_findSome?_eq_some b;obtain⟨e,f⟩:=YH d;have:=(g a (List.mem_reverse.1 c)).2 x e;unfold D5 at this;simp only[Bool.and_eq_true,decide_eq_true_eq]at this;rw[<-f];exact this.1.1
def Apx(h:CX L s nJ ch){T:List (List Wr)}(o:∀k∈T,QY k/\∀H∈k,D5 H=jO){own:List Wr}(q:QY own){l:Nat}(r:∀n:nG,n.size<=16->Je (wF s n) l=LD T n)(d c:nG):
 qU s l d c (nJ.map λt=>(pairs t.1,t.2)) own=(Hu (LG T) own).filter λp=>FB p.key d c:=by
 obtain⟨D,E⟩:=Atr h l d c;have C:QY (Ur d c own):=List.Pairwise.sublist Afy q;obtain⟨u,v⟩:=dW _ C D;obtain⟨z,A⟩:=Abd _ T rfl (λk B=>(o k B).1);obtain⟨w,y⟩:=dW _ q z;have f:∀x,x∈Ur d c own<->x∈own/\FB x.key d c=true:=λx=>by unfold Ur;rw[Aqi]
 refine Aps u (w.sublist Afy) λp=>?_
 show p∈Hu _ _<->_;rw[v,Aqi,y,E,A];constructor
 ·rintro(⟨x,b,a,g⟩|⟨⟨i,e,j⟩,m⟩)
  ·obtain⟨F,G⟩:=(f x).1 b;exact⟨.inl ⟨x,F,a,g⟩,by rw[<-a];exact G⟩
  ·exact⟨.inr ⟨by rw[<-r _ i];exact j,λx b a=>m x ((f x).2 ⟨b,by rw[a];exact e⟩) a⟩,e⟩
 ·rintro⟨⟨x,b,a,g⟩|⟨j,m⟩,e⟩
  ·exact .inl ⟨x,(f x).2 ⟨b,by rw[a];exact e⟩,a,g⟩
  ·have i:=Afe o j;exact .inr ⟨⟨i,e,by rw[r _ i];exact j⟩,λx b=>m x ((f x).1 b).1⟩
def QG{x:Lk}{l:List Lk}{a:Nat}:Je (x::l) a=if x.rc.nK.toNat<=a then(if x.rc.gone then jw else jm x.rc.text)else Je l a:=rfl
def Apy{a b:nG}(h:CO a=CO b):a=b:=ByteArray.ext (Alg.1 (Aaj h))
def Ak2(h:CX L s nJ ch)(nK:ni)(y:Wr)(hy:D5 y=jO)(k:nK.toNat≠0)(l:∀x∈ch (CO y.key),x.rc.nK.toNat<nK.toNat)(d:(H7 s nK y).2.2.2=0){key:nG}(c:key.size<=16)(b:Nat):
 Je (wF (H7 s nK y).1 key) b=if key=y.key/\nK.toNat<=b then(if y.gone then jw else jm y.text)else Je (wF s key) b:=by
 rcases(kE h nK y hy k l).2 with⟨a,_⟩|⟨a,g,i⟩|⟨n,o,m,a,_,_,_,j,_⟩
 ·rw[a]at d;cases d
 ·rw[a];simp only;split
  ·rename_i e;rw[e.1,MG h (by rw[<-e.1];exact c),h.none _ i]
   first|rfl|(rw[g];rfl)
  ·rfl
 ·rw[MG j c,MG h c];unfold FV;by_cases a:key=y.key
  ·subst a;rw[kX rfl,QG];simp only[true_and]
  ·rw[lg (λf=>a (Apy f)),lg (λh=>a h.1)]
end
def least_le{t:Wt}{n:ni}{i:Nat}(hi:i<8)(c:t.ops i=jO):(Eo t n).toNat<=(t.ats i).toNat:=by
 have a:t.ats i∈PI t:=OH.2 ⟨i,hi,c,rfl⟩;unfold Eo;cases h:PI t with
 |nil=>rw[h]at a;cases a
 |cons b d=>exact(TZ d b).2 _ (h▸a)
def Abe(t:Wt)(n:ni):Eo t n=n\/∃a,a<8/\t.ops a=jO/\t.ats a=Eo t n:=by
 unfold Eo;cases h:PI t with
 |nil=>exact .inl rfl
 |cons b f=>
  obtain⟨a,c,d,e⟩:=OH.1 (h▸(TZ f b).1);exact .inr ⟨a,c,d,e⟩
def rC{t:Wt}{n:ni}(h:∀a,a<8->t.ops a=jO->(t.ats a).toNat<=n.toNat):(Eo t n).toNat<=n.toNat:=by
 rcases Abe t n with b|⟨a,c,d,e⟩
 ·rw[b];exact Ae _
 ·rw[<-e];exact h a c d
def lh{t b:Wt}{n d:ni}(h:∀a,a<8->t.ops a=jO->(t.ats a).toNat<=n.toNat)(l:n.toNat<=d.toNat)(h2:∀a,a<8->b.ops a=jO->b.ats a=n\/(t.ops a=jO/\b.ats a=t.ats a)):(Eo t n).toNat<=(Eo b d).toNat:=by
 have k:=rC h;rcases Abe b d with c|⟨a,e,f,g⟩
 ·rw[c];omega
 ·rw[<-g];rcases h2 a e f with c|⟨i,j⟩
  ·rw[c];exact k
  ·rw[j];exact least_le e i
def Ak3(T:List (List Wr))(low:Nat)(f:nG->List Lk):Prop:=∀a,low<=a->a<=T.length->∀b:nG,b.size<=16->Je (f b) a=LD (T.take a) b
def Ak3.mono{T:List (List Wr)}{low a:Nat}{f:nG->List Lk}(h:Ak3 T low f)(d:low<=a):Ak3 T a f:=λb c=>h b (AZ d c)
def Abf(T:List (List Wr))(l:List Wr)(key:nG):Option nG:=match L8 l key with|some x=>(if x.gone then jw else jm x.text)|none=>LD T key
structure QJ(L:Nat)(T:List (List Wr))(E:Eg):Prop where
 ok:Iw L E
 len:E.oV.toNat=T.length
 up:∀l∈T,QY l/\∀y∈l,D5 y=jO
 ats:∀i,i<8->E.t.wt.ops i=jO->(E.t.wt.ats i).toNat<=E.oV.toNat
 vis:Ak3 T (Eo E.t.wt E.oV).toNat (wF E.q.s)
 dU:∀o,E.on=jm o->∃s0 nJ ch,Akl (-1) L s0 nJ ch (E.oV+1) o.set (λ_ _ _=>True) E.q o.ps/\(∀k,∀x∈ch k,x.rc.nK.toNat<=E.oV.toNat)/\s0.ws 8=E.oV/\
  Ak3 T (Eo E.t.wt E.oV).toNat (λkey=>ch (CO key))/\∀key:nG,key.size<=16->Je (wF E.q.s key) (T.length+1)=Abf T (o.set.take o.ps.length) key
section
variable{L:Nat}{T:List (List Wr)}{E:Eg}
def QJ.low(h:QJ L T E):(Eo E.t.wt E.oV).toNat<=T.length:=by rw[<-h.len];exact rC h.ats
def QJ.tab(h:QJ L T E){a:Tb}(ok:Iw L {E with t:=a})(h2:∀i,i<8->a.wt.ops i=jO->a.wt.ats i=E.oV\/(E.t.wt.ops i=jO/\a.wt.ats i=E.t.wt.ats i)):QJ L T {E with t:=a}:=by
 have d:(Eo E.t.wt E.oV).toNat<=(Eo a.wt E.oV).toNat:=lh h.ats (Ae _) h2;refine⟨ok,h.len,h.up,λi c b=>?_,h.vis.mono d,λo b=>?_⟩
 ·show(a.wt.ats i).toNat<=E.oV.toNat;rcases h2 i c b with l|⟨m,n⟩
  ·rw[l];exact Ae _
  ·rw[n];exact h.ats i c m
 ·obtain⟨s0,nJ,ch,e,f,g,j,k⟩:=h.dU o b;exact⟨s0,nJ,ch,e,f,g,j.mono d,k⟩
def QJ.end_(h:QJ L T E)(i:Nat)(ok:Iw L {E with t:=Gv E.t i}):QJ L T {E with t:=Gv E.t i}:=h.tab ok λk _ a=>by
 have a:IW E.t.wt.ops i jS k=true:=a;show IW E.t.wt.ats i 0 k=_\/_/\IW E.t.wt.ats i 0 k=_;unfold IW at a⊢;split at a
 ·cases a
 ·rename_i b;rw[lg b];exact .inr ⟨a,rfl⟩
def QJ.begin(h:QJ L T E):QJ L T (KA E).1:=by
 have ok:=qW h.ok;unfold KA at ok⊢;cases a:MM E.t.wt with
 |none=>exact h
 |some i=>
  rw[a]at ok;refine h.tab ok λk _ a=>?_
  have a:IW E.t.wt.ops i jO k=true:=a;show IW E.t.wt.ats i E.oV k=_\/_/\IW E.t.wt.ats i E.oV k=_;unfold IW at a⊢;split at a
  ·rename_i b;rw[kX b];exact .inl rfl
  ·rename_i b;rw[lg b];exact .inr ⟨a,rfl⟩
def QJ.write(h:QJ L T E)(id:Int)(y:Wr):QJ L T (IP E id y).1:=by
 have ok:=ZL h.ok id y;unfold IP at ok⊢;split
 ·exact h
 ·rename_i c;rw[lg c]at ok;refine h.tab ok λk _ a=>?_
  have b:(wrT E.t id.toNat y).wt=E.t.wt:=by unfold wrT;split<;>rfl
  rw[b]at a⊢;exact .inr ⟨a,rfl⟩
def QJ.abort(h:QJ L T E)(id:Int):QJ L T (MF E id).1:=by
 have ok:=qX h.ok id;unfold MF at ok⊢;split
 ·exact h
 ·rename_i a;rw[lg a]at ok;exact h.end_ _ ok
def QJ.begins(h:QJ L T E)(r:E.on=jw){o:On}(g:o.ps=[])(ok:Iw L {E with on:=jm o}):QJ L T {E with on:=jm o}:=by
 refine⟨ok,h.len,h.up,h.ats,h.vis,λz c=>?_⟩;cases c;obtain⟨nJ,ch,d,e,n⟩:=h.ok.off r;obtain⟨_,_,_,m,_⟩:=ok.dU o rfl;have u:E.oV.toNat<60000:=m;have y:(E.oV+1).toNat=E.oV.toNat+1:=VS u;have v:Ak3 T (Eo E.t.wt E.oV).toNat (λkey=>ch (CO key)):=λf b j key a=>by
  show Je (ch (CO key)) f=_;rw[<-MG d a];exact h.vis f b j key a
 refine⟨E.q.s,nJ,ch,?_,e,n,v,λkey a=>?_⟩
 ·rw[g];exact .inl ⟨-1,λ_=>rfl,h.ok.up,⟨E.q.s,[],jS,0⟩,rfl,rfl,qK d _ _ (λk x w=>by
   have:=e k x w;show x.rc.nK.toNat<(E.oV+1).toNat;omega),λi h=>nomatch h⟩
 ·rw[g];show Je (wF E.q.s key) _=LD T key;have b:=h.vis T.length h.low (Ae _) key a;rw[I7]at b;rw[<-b,MG d a];have p:=e (CO key);cases c:ch (CO key)with
  |nil=>rfl
  |cons x l=>
   have:=p x (by rw[c];exact Bf ..);have:=h.len;rw[QG,QG,kX (show x.rc.nK.toNat<=T.length+1 by omega),kX (show x.rc.nK.toNat<=T.length by omega)]
def QJ.Aff(h:QJ L T E)(id:Int):QJ L T (Ju E id).1:=by
 have ok:=kV h.ok id;unfold Ju at ok⊢;split
 ·exact h
 rename_i f;rw[lg f]at ok;split
 ·exact h
 rename_i a;rw[lg a]at ok;have i:E.on=none:=by
  cases e:E.on with
  |none=>rfl
  |some o=>rw[e]at a;exact absurd rfl a
 split
 ·rename_i b;rw[kX b]at ok;exact h.end_ _ ok
 rename_i b;rw[lg b]at ok;split
 ·rename_i c;rw[kX c]at ok;exact h.end_ _ ok
 rename_i c;rw[lg c]at ok;split
 ·rename_i d;rw[kX d]at ok;exact h.end_ _ ok
 rename_i d;rw[lg d]at ok;split
 ·exact h
 rename_i g;rw[lg g]at ok;exact h.begins i rfl ok
def Apz(low:Nat):∀(l:List Lk){a:Nat},(l.Pairwise λj b=>b.rc.nK.toNat<j.rc.nK.toNat)->low<=a->Je (ZJ (l.take (MK l low))) a=Je l a:=by
 have n:∀(l:List Lk)(a:Nat),Je (ZJ l) a=Je l a:=λl a=>by
  induction l with
  |nil=>rfl
  |cons x l d=>
   cases l with
   |nil=>rfl
   |cons r l=>exact congrArg (λq=>if x.rc.nK.toNat<=a then(if x.rc.gone then jw else jm x.rc.text)else q) d
 intro l a m h;rw[n];unfold MK;induction l with
 |nil=>rfl
 |cons x l d=>
  obtain⟨d1,d2⟩:=Ir.1 m;rw[Nr];by_cases f:low<x.rc.nK.toNat
  ·rw[kX f,List.take_succ_cons,QG,QG,d d2]
  ·rw[lg f,lg (show¬jS=jO by decide)];have p:∀(l:List Lk),(∀c∈l,c.rc.nK.toNat<=low)->Nr low l jO=0:=λl g=>by
    induction l with
    |nil=>rfl
    |cons c l d=>
     rw[Nr,lg (Ω (g c (Bf ..))),kX rfl];exact d λc e=>g c (Bi _ e)
   rw[p l λc e=>Ω (d1 c e),Du];have i:x.rc.nK.toNat<=a:=O;have k:Je (x::l) a=if x.rc.gone then jw else jm x.rc.text:=by rw[QG,kX i]
   rw[k];cases o:x.rc.gone with
   |true=>rfl
   |false=>
    show Je [x] a=_;rw[QG,kX i,o]
def Afg{s:St}{v:ni}{l:List Lk}(h:D8 s v l):l.Pairwise λa b=>b.rc.nK.toNat<a.rc.nK.toNat:=by
 induction h with
 |nil=>exact List.Pairwise.nil
 |cons d e l _ _ _ _ h c=>exact Ir.2 ⟨h,c⟩
def Abg(low:ni):∀(r:List Kv){ch:List nC->List Lk},r.Pairwise (λe b=>e.1≠b.1)->(∀d∈r,(ch d.1).Pairwise λe b=>b.rc.nK.toNat<e.rc.nK.toNat)->∀(k:List nC){a:Nat},low.toNat<=a->Je (Apm low r ch k) a=Je (ch k) a
 |[],_,_,_,_,_,_=>rfl
 |d::r,ch,j,g,k,a,h=>by
  obtain⟨l,m⟩:=Ir.1 j;rw[Apm,Abg low r m (λi f=>by rw[Io (λc=>l i f c.symm)];exact g i (Bi _ f)) k h];by_cases c:k=d.1
  ·rw[c,QF];exact Apz low.toNat _ (g d (Bf ..)) h
  ·rw[Io c]
def QJ.vac(h:QJ L T E):QJ L T (QM E).1:=by
 have ok:=Ahe h.ok;unfold QM at ok⊢;split
 ·exact h
 rename_i f;rw[lg f]at ok;have m:E.on=none:=by
  cases c:E.on with
  |none=>rfl
  |some o=>rw[c]at f;exact absurd rfl f
 obtain⟨nJ,ch,d,A,z⟩:=h.ok.off m;obtain⟨B,u,_⟩:=Q9 d.ix;rw[u]at ok⊢;simp only at ok⊢;have n:nJ.Pairwise (λa b=>a.1≠b.1):=d.ix.up.imp λ{a b}l c=>by rw[c,DC]at l;cases l
 have c:E.q=⟨.up (-1),E.q.s⟩:=by
  have:=h.ok.up;cases w:E.q;rw[w]at this;simp only at this;subst this;rfl
 obtain⟨s2,y,C,k,r,_⟩:=(kU (Eo E.t.wt E.oV) nJ d n (λ_ h=>h)).2 0;rw[<-c]at k;rw[k]at ok⊢;refine⟨ok,h.len,h.up,h.ats,λj i p key g=>?_,λo e=>?_⟩
 ·show Je (wF s2 key) j=_;rw[MG r g,Abg _ nJ n (λx v=>Afg (d.chain x v).1) _ i,<-MG d g];exact h.vis j i p key g
 ·have e:E.on=jm o:=e;rw[m]at e;cases e
def Ak4{l:List Wr}(h:QY l){n:Nat}(j:n<l.length)(key:nG):L8 (l.take (n+1)) key=if key=l[n].key then jm l[n]else L8 (l.take n) key:=by
 have d:QY (l.take (n+1)):=List.Pairwise.sublist (Ali _ _) h;have i:QY (l.take n):=List.Pairwise.sublist (Ali _ _) h;have b:l.take (n+1)=l.take n++[l[n]]:=BH j;split
 ·rename_i c;rw[c];exact wC d (by rw[b];exact BA _ (BB.2 rfl))
 ·rename_i c;cases e:L8 (l.take n) key with
  |none=>
   rw[wE d];intro x a;rw[b]at a;rcases AP.1 a with a|a
   ·exact(wE i).1 e x a
   ·rw[BB]at a;rw[a];exact λb=>c b.symm
  |some x=>
   obtain⟨f,g⟩:=YH e;rw[<-g];exact wC d (by rw[b];exact BK _ f)
def Afh{T:List (List Wr)}{l:List Wr}(h:QY l){n:Nat}(b:n<l.length)(key:nG):Abf T (l.take (n+1)) key=if key=l[n].key then(if l[n].gone then jw else jm l[n].text)else Abf T (l.take n) key:=by
 unfold Abf;rw[Ak4 h b];by_cases a:key=l[n].key
 ·rw[kX a,kX a]
 ·rw[lg a,lg a]
def Ak5(h:QJ L T E){o:On}(B:E.on=jm o):
 (∃q N,Il E=({E with q:=q,on:=jm {o with ps:=N}},(o.id:Int),jS,0)/\o.ps.length<o.set.length/\N.length=o.ps.length+1/\QJ L T {E with q:=q,on:=jm {o with ps:=N}})\/
 (∃q,Il E=({q:=q,t:=Py (Gv E.t o.id) o.set (E.oV+1),oV:=E.oV+1,on:=jw},(o.id:Int),jO,0)/\o.ps.length=o.set.length/\T.length<60000/\QJ L (T++[o.set]) {q:=q,t:=Py (Gv E.t o.id) o.set (E.oV+1),oV:=E.oV+1,on:=jw})\/
 (∃q,Il E=({q:=q,t:=Gv E.t o.id,oV:=E.oV,on:=jw},(o.id:Int),jO,6)/\QJ L T {q:=q,t:=Gv E.t o.id,oV:=E.oV,on:=jw}):=by
 have r:=Aba h.ok;obtain⟨aw,a7,az,aD,M,_⟩:=h.ok.dU o B;obtain⟨P,nJ,ch,R,V,ad,X,S⟩:=h.dU o B;obtain⟨aa,z,A⟩:=h.ok.sets o.id aw;rw[az]at aa z A;have a5:=VS aD;have a2:=h.len;have W:∀j,∀x∈ch j,x.rc.nK.toNat<(E.oV+1).toNat:=λj x au=>Ω (V j x au)
 have U:(E.oV+1).toNat≠0:=O;have C:E.q=⟨.up (-1),E.q.s⟩:=by
  have:=h.ok.up;cases C:E.q;rw[C]at this;simp only at this;subst this;rfl
 have ah:=λq=>QD (hpl:=M) (On.YD M) On.YE q
 have an:∀(c:Int)(q:Ms),c≠0->Upd (-1) L P (λ_ _ _=>True) q (Um L P nJ ch (E.oV+1) c)->Iw L {q:=q,t:=Gv E.t o.id,oV:=E.oV,on:=jw}->c=6/\QJ L T {q:=q,t:=Gv E.t o.id,oV:=E.oV,on:=jw}:=λc q J F aG=>by
  rcases F with⟨lf,_,aq,ae⟩|⟨I,_⟩
  ·rcases ae with⟨rfl,ac,aW⟩|⟨rfl,_⟩
   ·refine⟨rfl,?_⟩;have u:∀a,a<8->(Gv E.t o.id).wt.ops a=jO->(Gv E.t o.id).wt.ats a=E.oV\/(E.t.wt.ops a=jO/\(Gv E.t o.id).wt.ats a=E.t.wt.ats a):=λj _ e=>by
     have e:IW E.t.wt.ops o.id jS j=true:=e;show IW E.t.wt.ats o.id 0 j=_\/_/\IW E.t.wt.ats o.id 0 j=_;unfold IW at e⊢;split at e
     ·cases e
     ·rename_i d;rw[lg d];exact .inr ⟨e,rfl⟩
    have K:(Eo E.t.wt E.oV).toNat<=(Eo (Gv E.t o.id).wt E.oV).toNat:=lh h.ats (Ae _) u;refine⟨aG,h.len,h.up,λa m e=>?_,λf v l b g=>?_,λZ d=>(by cases d)⟩
    ·show((Gv E.t o.id).wt.ats a).toNat<=E.oV.toNat;rcases u a m e with d|⟨G,H⟩
     ·rw[d];exact Ae _
     ·rw[H];exact h.ats a m G
    ·show Je (wF q.s b) f=_;rw[MG ac g];exact X f (AZ K v) l b g
   ·exact absurd rfl J
  ·exact absurd rfl I
 have al:=R;rcases al with⟨lf,_,aq,av,am,ap,ao,g⟩|⟨I,_⟩
 rotate_left
 ·exact absurd rfl I
 obtain⟨⟨a6,c,a0,D,J,a1⟩,a3,_,_,_⟩:=ao;rw[am]at D;have a4:av.done.length=o.ps.length:=by rw[<-ap,Df]
 by_cases p:o.ps.length<o.set.length
 ·obtain⟨aL,aM⟩:=kM R Apo p A z U W (y:=o.set[o.ps.length]) rfl;have i:Il E=if(writeM E.q (E.oV+1) o.set[o.ps.length]).2.2.2=0 then({E with q:=(writeM E.q (E.oV+1) o.set[o.ps.length]).1,on:=jm {o with ps:=o.ps++[((writeM E.q (E.oV+1) o.set[o.ps.length]).2.1,(writeM E.q (E.oV+1) o.set[o.ps.length]).2.2.1)]}},(o.id:Int),jS,0)
   else({q:=QC (writeM E.q (E.oV+1) o.set[o.ps.length]).1 o.done.reverse,t:=if(writeM E.q (E.oV+1) o.set[o.ps.length]).2.2.2=0 then Py (Gv E.t o.id) o.set (E.oV+1)else Gv E.t o.id,oV:=if(writeM E.q (E.oV+1) o.set[o.ps.length]).2.2.2=0 then E.oV+1 else E.oV,on:=jw},(o.id:Int),jO,(writeM E.q (E.oV+1) o.set[o.ps.length]).2.2.2):=by
   unfold Il;rw[B];simp only;unfold NS;rw[Ag p];simp only;by_cases w:(writeM E.q (E.oV+1) o.set[o.ps.length]).2.2.2=0
   ·simp only[kX w]
   ·simp only[lg w]
  by_cases k:(writeM E.q (E.oV+1) o.set[o.ps.length]).2.2.2=0
  ·rw[kX k]at i;rw[i]at r;have Y:∀b:nG,b.size<=16->∀f,Je (wF (writeM E.q (E.oV+1) o.set[o.ps.length]).1.s b) f=if b=o.set[o.ps.length].key/\(E.oV+1).toNat<=f then(if o.set[o.ps.length].gone then jw else jm o.set[o.ps.length].text)else Je (wF E.q.s b) f:=λb g f=>by
    rw[C,kL]at k⊢;refine Ak2 D (E.oV+1) _ (A _ (BO p)) U (λaR w=>?_) k g f;rw[J o.ps.length O _ (Ag p)]at w;exact W _ aR w
   refine .inl ⟨_,_,i,p,by simp,r,h.len,h.up,h.ats,λf v l b g=>?_,λZ d=>?_⟩
   ·show Je (wF (writeM E.q (E.oV+1) o.set[o.ps.length]).1.s b) f=_;rw[Y b g,lg O];exact h.vis f v l b g
   ·cases d
    refine⟨P,nJ,ch,aL k,V,ad,X,λb g=>?_⟩;show Je (wF (writeM E.q (E.oV+1) o.set[o.ps.length]).1.s b) _=Abf T (o.set.take (o.ps++[_]).length) b;rw[Y b g,AO,EO,Afh z p,S b g];by_cases d:b=o.set[o.ps.length].key
    ·rw[kX ⟨d,O⟩,kX d]
    ·rw[lg (λh=>d h.1),lg d]
  ·rw[lg k,lg k,lg k]at i;rw[i]at r;have F:=aM k M;rw[ah]at F;obtain⟨ab,aI⟩:=an _ _ k F r;rw[ab]at i;exact .inr (.inr ⟨_,i,aI⟩)
 ·have Q:o.ps.length=o.set.length:=O;have i:Il E=({q:=⟨.up (-1),{E.q.s with ws:=DD E.q.s.ws 8 (E.oV+1)}⟩,t:=Py (Gv E.t o.id) o.set (E.oV+1),oV:=E.oV+1,on:=jw},(o.id:Int),jO,0):=by
   unfold Il;rw[B];simp only;unfold NS;rw[FO O];simp only;have ar:KG E.q 3 (DD E.q.s.ws 8 (E.oV+1))=(⟨.up (-1),{E.q.s with ws:=DD E.q.s.ws 8 (E.oV+1)}⟩,0):=by
    rw[C];exact QU _ _ _
   rw[ar];rfl
  rw[i]at r;have u:∀a,a<8->(Gv E.t o.id).wt.ops a=jO->E.t.wt.ops a=jO/\(Gv E.t o.id).wt.ats a=E.t.wt.ats a:=λj _ e=>by
   have e:IW E.t.wt.ops o.id jS j=true:=e;show _/\IW E.t.wt.ats o.id 0 j=_;unfold IW at e⊢;split at e
   ·cases e
   ·rename_i d;rw[lg d];exact⟨e,rfl⟩
  have K:(Eo E.t.wt E.oV).toNat<=(Eo (Gv E.t o.id).wt (E.oV+1)).toNat:=lh h.ats O (λa m e=>.inr (u a m e));refine .inr (.inl ⟨_,i,Q,O,r,?_,?_,?_,?_,λZ d=>(by cases d)⟩)
  ·show(E.oV+1).toNat=(T++[o.set]).length;rw[AO,EO];omega
  ·intro aE n;rcases AP.1 n with n|n
   ·exact h.up aE n
   ·rw[BB]at n;rw[n];exact⟨z,A⟩
  ·intro a m e;obtain⟨G,H⟩:=u a m e;show((Gv E.t o.id).wt.ats a).toNat<=(E.oV+1).toNat;rw[H];have:=h.ats a m G;omega
  ·intro f v l b g;show Je (wF {E.q.s with ws:=DD E.q.s.ws 8 (E.oV+1)} b) f=_;rw[MG (D.oV (E.oV+1)) g,<-MG D g];have l:f<=(T++[o.set]).length:=l;rw[AO,EO]at l;by_cases d:f<=T.length
   ·rw[List.take_append_of_le_length d];exact h.vis f (AZ K v) d b g
   ·obtain rfl:f=T.length+1:=O;rw[Dq Θ,S b g,ZN,Q,I7];rfl
end
structure Md where
 T:List (List Wr)
 t:Tb
 on:Option (Nat×Nat)
def EY(T:List (List Wr))(E:Eg):Md:=⟨T,E.t,E.on.map λa=>(a.id,a.set.length+1-a.ps.length)⟩
def KC(m:Md)(id:Int):Int:=if Ey m.t.wt id=jO then(match m.on with|some a=>if(a.1:Int)=id then 11 else 0|none=>0)else 2
def H8(m:Md):Md×Int×Int:=match MM m.t.wt with
 |none=>(m,0,6)
 |some a=>({m with t:=Zm m.t a (Az m.T.length)},a,0)
def KZ(m:Md)(id:Int)(y:Wr):Md×Int:=if KC m id≠0 then(m,KC m id)else({m with t:=wrT m.t id.toNat y},(IV (m.t.sets id.toNat) y).2)
def O8(m:Md)(id:Int):Md×Int:=if KC m id≠0 then(m,KC m id)else({m with t:=Gv m.t id.toNat},0)
def lq(m:Md)(id:Int)(key:nG):nG×Int:=
 if Ey m.t.wt id=jS then(⟨#[]⟩,2)else if 16<key.size then(⟨#[]⟩,3)else match L8 (m.t.sets id.toNat) key with
  |some a=>if a.gone then(⟨#[]⟩,7)else(a.text,0)
  |none=>match LD (m.T.take (m.t.wt.ats id.toNat).toNat) key with
   |some t=>(t,0)
   |none=>(⟨#[]⟩,7)
def Pq(m:Md)(id:Int)(b a:nG):List Pr×Int:=
 if Ey m.t.wt id=jS then([],2)else((Hu (LG (m.T.take (m.t.wt.ats id.toNat).toNat)) (m.t.sets id.toNat)).filter λp=>FB p.key b a,0)
def LH(m:Md)(id:Int):Md×Int:=
 if Ey m.t.wt id=jS then(m,2)else if m.on.isSome then(m,11)else
 if m.t.sets id.toNat=[]then({m with t:=Gv m.t id.toNat},0)else
 if JH m.t.Gn (m.t.sets id.toNat) (m.t.wt.ats id.toNat)then({m with t:=Gv m.t id.toNat},9)else
 if 60000<=m.T.length then({m with t:=Gv m.t id.toNat},10)else({m with on:=jm (id.toNat,(m.t.sets id.toNat).length+1)},0)
def lu(m:Md)(id:Nat):Md:={m with t:=Gv m.t id,on:=jw}
def FT(m:Md):Md×Int×Bool×Int:=match m.on with
 |none=>(m,0,jO,7)
 |some (id,a)=>if 1<a then({m with on:=jm (id,a-1)},id,jS,0)else
  if 60000<=m.T.length then(lu m id,id,jO,10)else
  ({T:=m.T++[m.t.sets id],t:=Py (Gv m.t id) (m.t.sets id) (Az (m.T.length+1)),on:=jw},id,jO,0)
def Jk(m:Md)(s:Sp):Md×An:=match s.what with
 |0=>((H8 m).1,⟨⟨#[]⟩,[],(H8 m).2.1,jS,(H8 m).2.2⟩)
 |1=>((KZ m s.id ⟨s.key,s.text,jS⟩).1,⟨⟨#[]⟩,[],0,jS,(KZ m s.id ⟨s.key,s.text,jS⟩).2⟩)
 |2=>((KZ m s.id ⟨s.key,⟨#[]⟩,jO⟩).1,⟨⟨#[]⟩,[],0,jS,(KZ m s.id ⟨s.key,⟨#[]⟩,jO⟩).2⟩)
 |3=>(m,⟨(lq m s.id s.key).1,[],0,jS,(lq m s.id s.key).2⟩)
 |4=>(m,⟨⟨#[]⟩,(Pq m s.id s.key s.text).1,0,jS,(Pq m s.id s.key s.text).2⟩)
 |5=>((LH m s.id).1,⟨⟨#[]⟩,[],0,jS,(LH m s.id).2⟩)
 |6=>((FT m).1,⟨⟨#[]⟩,[],(FT m).2.1,(FT m).2.2.1,(FT m).2.2.2⟩)
 |7=>((O8 m s.id).1,⟨⟨#[]⟩,[],0,jS,(O8 m s.id).2⟩)
 |8=>(m,⟨⟨#[]⟩,[],0,jS,if m.on.isSome=jO then 11 else 0⟩)
 |_=>(m,⟨⟨#[]⟩,[],0,jS,13⟩)
def Lm(id:Nat):An:=⟨⟨#[]⟩,[],id,jO,6⟩
def WI(m:Md)(s:Sp)(a:An):An:=if s.what=8/\(Jk m s).2.e=0 then{(Jk m s).2 with n:=a.n}else(Jk m s).2
def GY(m:Md)(s:Sp)(a:An):Md×Bool:=match m.on with
 |some b=>if s.what=6/\Hy a (Lm b.1)=jO then(lu m b.1,jO)else((Jk m s).1,Hy a (WI m s a))
 |none=>((Jk m s).1,Hy a (WI m s a))
def Dt(m:Md):List Sp->List An->Nat->Md×Int
 |s::c,b::d,a=>if(GY m s b).2=jO then Dt (GY m s b).1 c d (a+1)else((GY m s b).1,a)
 |[],[],_=>(m,-1)
 |_,_,a=>(m,a)
section
variable{L:Nat}{T:List (List Wr)}{E:Eg}
def QJ.free(E:Eg)(T:List (List Wr))(id:Int):KC (EY T E) id=P5 E id:=by
 unfold KC P5 EY;cases E.on<;>rfl
def QJ.get(h:QJ L T E)(id:Int)(key:nG):nR E id key=lq (EY T E) id key:=by
 obtain⟨nJ,ch,e,_⟩:=h.ok.store;unfold nR lq;show _=if Ey E.t.wt id=jS then _ else _
 split
 ·rfl
 rename_i d;obtain⟨i,rfl,a,c⟩:=IY (t:=E.t.wt) (id:=id) (by simpa using d);split
 ·rfl
 rename_i f;have b:key.size<=16:=O;rw[Atq e _ _ b];show(match L8 (E.t.sets i) key with|some y=>_|none=>_)=match L8 (E.t.sets i) key with|some y=>_|none=>_
 cases L8 (E.t.sets i) key with
 |some y=>rfl
 |none=>
  simp only;unfold vW;rw[BC,h.vis (E.t.wt.ats i).toNat (least_le a c) (by rw[<-h.len];exact h.ats i a c) key b];rfl
def QJ.scan(h:QJ L T E)(id:Int)(c b:nG):OU E id c b=Pq (EY T E) id c b:=by
 obtain⟨nJ,ch,e,_⟩:=h.ok.store;obtain⟨n,f,_⟩:=Q9 e.ix;unfold OU Pq;show _=if Ey E.t.wt id=jS then _ else _
 split
 ·rfl
 rename_i g;obtain⟨i,rfl,a,d⟩:=IY (t:=E.t.wt) (id:=id) (by simpa using g);rw[f];simp only;have j:(E.t.wt.ats i).toNat<=T.length:=by rw[<-h.len];exact h.ats i a d
 rw[BC,Apx e (T:=T.take (E.t.wt.ats i).toNat) (λl m=>h.up l (Qd m)) (h.ok.sets i a).2.1 (λkey k=>h.vis _ (least_le a d) j key k)];rfl
def Ak6(h:QJ L T E)(s:Sp):∃f,GY (EY T E) s (YG E s).2=(EY f (YG E s).1,jO)/\QJ L f (YG E s).1:=by
 have z:Az T.length=E.oV:=by rw[<-h.len];simp
 have G:Az (T.length+1)=E.oV+1:=by rw[<-z];exact UInt64.ofNat_add ..
 have w:∀(f:List (List Wr)),s.what≠6->(Jk (EY T E) s).1=EY f (YG E s).1->WI (EY T E) s (YG E s).2=(YG E s).2->GY (EY T E) s (YG E s).2=(EY f (YG E s).1,jO):=λf o m p=>by
  unfold GY;split
  ·rw[lg (λh=>o h.1),m,p,MO]
  ·rw[m,p,MO]
 have own:s.what≠8->WI (EY T E) s (YG E s).2=(Jk (EY T E) s).2:=λr=>lg (λh=>r h.1)
 obtain⟨l,id,g,i⟩:=s;by_cases o:l=6
 ·subst o;show∃f,GY (EY T E) _ ⟨⟨#[]⟩,[],(Il E).2.1,(Il E).2.2.1,(Il E).2.2.2⟩=(EY f (Il E).1,jO)/\QJ L f (Il E).1;cases k:E.on with
  |none=>
   have d:Il E=(E,0,jO,7):=by unfold Il;rw[k]
   rw[d];refine⟨T,?_,h⟩;have n:(EY T E).on=none:=by unfold EY;rw[k];rfl
   have q:FT (EY T E)=(EY T E,0,jO,7):=by unfold FT;rw[n]
   have j:Jk (EY T E) ⟨6,id,g,i⟩=((FT (EY T E)).1,⟨⟨#[]⟩,[],(FT (EY T E)).2.1,(FT (EY T E)).2.2.1,(FT (EY T E)).2.2.2⟩):=rfl;unfold GY;rw[n];simp only;unfold WI;rw[lg (λh=>by cases h.1),j,q,MO]
  |some c=>
   have n:(EY T E).on=jm (c.id,c.set.length+1-c.ps.length):=by unfold EY;rw[k];rfl
   obtain⟨Z,aa,R,_⟩:=h.ok.dU c k;unfold GY;rw[n];simp only[true_and];rcases Ak5 h k with⟨F,ad,d,Y,B,u⟩|⟨F,d,B,K,u⟩|⟨F,d,u⟩
   ·rw[d];refine⟨T,?_,u⟩;rw[lg (by simp[Hy,Lm])];have q:FT (EY T E)=({EY T E with on:=jm (c.id,c.set.length+1-c.ps.length-1)},(c.id:Int),jS,0):=by
     unfold FT;rw[n];simp only;rw[kX O]
    have j:Jk (EY T E) ⟨6,id,g,i⟩=((FT (EY T E)).1,⟨⟨#[]⟩,[],(FT (EY T E)).2.1,(FT (EY T E)).2.2.1,(FT (EY T E)).2.2.2⟩):=rfl;unfold WI;rw[lg (λh=>by cases h.1),j,q];simp only;rw[MO];unfold EY;simp only[Option.map_some,B];rw[show c.set.length+1-c.ps.length-1=c.set.length+1-(c.ps.length+1)by omega]
   ·rw[d];refine⟨_,?_,u⟩;rw[lg (by simp[Hy,Lm])];have q:FT (EY T E)=({T:=T++[c.set],t:=Py (Gv E.t c.id) c.set (E.oV+1),on:=jw},(c.id:Int),jO,0):=by
     unfold FT;rw[n];simp only;rw[lg O,lg (show¬60000<=(EY T E).T.length from Nat.not_le.2 K)];show(({T:=T++[E.t.sets c.id],t:=Py (Gv E.t c.id) (E.t.sets c.id) (Az (T.length+1)),on:=jw}:Md),_)=_;rw[R,G]
    have j:Jk (EY T E) ⟨6,id,g,i⟩=((FT (EY T E)).1,⟨⟨#[]⟩,[],(FT (EY T E)).2.1,(FT (EY T E)).2.2.1,(FT (EY T E)).2.2.2⟩):=rfl;unfold WI;rw[lg (λh=>by cases h.1),j,q];simp only;rw[MO];rfl
   ·rw[d];refine⟨T,?_,u⟩;refine(kX ?_).trans ?_
    ·exact MO (Lm c.id)
    ·rfl
 have w:=w T (show l≠6 from o);refine⟨T,?_,?_⟩
 ·have e:H8 (EY T E)=(EY T (KA E).1,(KA E).2):=by
   unfold H8 KA;show(match MM E.t.wt with|none=>_|some D=>_)=_;cases MM E.t.wt with
   |none=>rfl
   |some D=>
    show(({EY T E with t:=Zm E.t D (Az T.length)}:Md),_)=_;rw[z];rfl
  have C:∀x,KZ (EY T E) id x=(EY T (IP E id x).1,(IP E id x).2):=λx=>by
   unfold KZ IP;rw[QJ.free];split<;>rfl
  have v:O8 (EY T E) id=(EY T (MF E id).1,(MF E id).2):=by
   unfold O8 MF;rw[QJ.free];split<;>rfl
  have N:E.dn=false:=by unfold Eg.dn;rw[h.ok.up]
  have M:LH (EY T E) id=(EY T (Ju E id).1,(Ju E id).2):=by
   unfold LH Ju;have m:(EY T E).on.isSome=E.on.isSome:=by unfold EY;cases E.on<;>rfl
   rw[m,N,h.len];show(if Ey E.t.wt id=jS then _ else if E.on.isSome=jO then _ else if E.t.sets (id:Int).toNat=[]then _ else if JH E.t.Gn (E.t.sets (id:Int).toNat) (E.t.wt.ats (id:Int).toNat)=jO then _ else if 60000<=T.length then _ else _)=_
   repeat' split
   all_goals first|rfl|contradiction
  by_cases r:l=8
  ·subst r;have I:(QM E).2.2=(if(EY T E).on.isSome=jO then 11 else 0)/\((EY T E).on.isSome=jO->(QM E).2.1=0)/\(QM E).1.t=E.t/\(QM E).1.on=E.on:=by
    have m:(EY T E).on.isSome=E.on.isSome:=by unfold EY;cases E.on<;>rfl
    rw[m];unfold QM;by_cases e:E.on.isSome=jO
    ·rw[kX e,kX e];exact⟨rfl,λ_=>rfl,rfl,rfl⟩
    ·rw[lg e,lg e];have k:E.on=none:=by
      cases d:E.on with
      |none=>rfl
      |some c=>rw[d]at e;exact absurd rfl e
     obtain⟨nJ,ch,y,_,_⟩:=h.ok.off k;obtain⟨ab,J,_⟩:=Q9 y.ix;have P:nJ.Pairwise (λa b=>a.1≠b.1):=y.ix.up.imp λ{a b}v d=>by rw[d,DC]at v;cases v
     have d:E.q=⟨.up (-1),E.q.s⟩:=by
      have:=h.ok.up;cases Q:E.q;rw[Q]at this;simp only at this;subst this;rfl
     obtain⟨s2,X,ac,p,_⟩:=(kU (Eo E.t.wt E.oV) nJ y P (λ_ h=>h)).2 0;rw[<-d]at p;rw[J];simp only;rw[p];exact⟨by first|rfl|trivial,λh=>absurd h e,by first|rfl|trivial,by first|rfl|trivial⟩
   obtain⟨S,U,V,W⟩:=I;refine w ?_ ?_
   ·show EY T E=EY T (QM E).1;unfold EY;rw[V,W]
   ·have j:Jk (EY T E) ⟨8,id,g,i⟩=(EY T E,⟨⟨#[]⟩,[],0,jS,if(EY T E).on.isSome=jO then 11 else 0⟩):=rfl;have H:(YG E ⟨8,id,g,i⟩).2=⟨⟨#[]⟩,[],(QM E).2.1,jS,(QM E).2.2⟩:=rfl;unfold WI;rw[j,H,S];simp only;by_cases e:(EY T E).on.isSome=jO
    ·simp only[kX e,U e];rfl
    ·simp only[lg e];rfl
  ·have own:=own (show l≠8 from r);have A:Jk (EY T E) ⟨l,id,g,i⟩=(EY T (YG E ⟨l,id,g,i⟩).1,(YG E ⟨l,id,g,i⟩).2):=by
    unfold Jk YG;simp only;split
    ·rw[e];try rfl
    ·rw[C];try rfl
    ·rw[C];try rfl
    ·rw[h.get];try rfl
    ·rw[h.scan];try rfl
    ·rw[M];try rfl
    ·exact absurd rfl o
    ·rw[v];try rfl
    ·exact absurd rfl r
    ·first|rfl|(split<;>first|rfl|exact absurd rfl (by assumption))
   exact w (by rw[A]) (by rw[own,A])
 ·unfold YG;simp only;split
  ·exact h.begin
  ·exact h.write _ _
  ·exact h.write _ _
  ·exact h
  ·exact h
  ·exact h.Aff _
  ·exact absurd rfl o
  ·exact h.abort _
  ·exact h.vac
  ·exact h
end
def M3(g bk a:Nat)(k:Nat):Prop:=k=g\/k=bk\/k=a
structure Ii(w:jT)(F:Nat->Prop)(g tt bk:Nat)(b:Bk)(m:Md):Prop where
 box:∃A c i l cs,Cm w g 66 [fM A m.T.length c,AB tt,iw m.on.isSome,gz iU i,gz iU l]/\(∀o,m.on=jm o->i=(o.1:Int)/\l=(o.2:Int))/\rq w (λk=>F k\/M3 g bk b.nt k) A cs m.T
 tab:Hm w (λk=>F k\/k=g) tt bk b m.t
 fg:¬F g
def E8(w:jT)(F:Nat->Prop)(g tt bk:Nat)(b:Bk)(c:Md)(w':jT):Prop:=∃a,a.nt=b.nt/\Ii w' F g tt bk a c/\Touch (M3 g bk b.nt) w w'
section
variable{w w':jT}{F:Nat->Prop}{g tt bk:Nat}{b:Bk}{m:Md}
def Ii.neb(h:Ii w F g tt bk b m):bk≠g/\b.nt≠g/\tt≠g:=⟨λa=>h.tab.fb (.inr a),λa=>h.tab.fn (.inr a),λa=>h.tab.ft (.inr a)⟩
def Ii.lt(h:Ii w F g tt bk b m):g<w/\bk<w/\b.nt<w:=by
 obtain⟨_,_,_,_,_,a,_⟩:=h.box;exact⟨a.lt,h.tab.book.lt,h.tab.map.lt⟩
def Ii.below(h:Ii w F g tt bk b m)(k:η w w'):Ii w' F g tt bk b m:=by
 obtain⟨A,c,i,l,cs,a,d,e⟩:=h.box;exact⟨⟨A,c,i,l,cs,a.ξ k,d,e.below k⟩,h.tab.below k,h.fg⟩
def Ii.turn(h:Ii w F g tt bk b m){d:Bk}{f:Tb}(p:Hm w' (λk=>F k\/k=g) tt bk d f)(q:d.nt=b.nt)(e:Touch (λk=>k=bk\/k=b.nt) w w'):Ii w' F g tt bk d {m with t:=f}:=by
 obtain⟨A,c,i,l,cs,j,n,o⟩:=h.box;obtain⟨r,s,_⟩:=h.neb;refine⟨⟨A,c,i,l,cs,j.touch e (λa=>a.elim (λa=>r a.symm) (λa=>s a.symm)),n,?_⟩,p,h.fg⟩;rw[q];exact o.moved ⟨e.mono (λk a=>.inr (.inr a)),λ_=>.inl⟩
def Ii.post(h:Ii w F g tt bk b m)(a:Md)(e:a=m)(k:η w w'):E8 w F g tt bk b a w':=by
 subst e;exact⟨b,rfl,h.below k,mD k⟩
def Ap0(h:Ii w F g tt bk b m)(id:Int):Calls prog 123 #[AB g,id] w λc w'=>c=iO (gz iU (KC m id))/\w=w':=by
 obtain⟨A,p,r,s,cs,k,i,_⟩:=h.box;have d:=Ac (Yv h.tab id);obtain⟨_,u,e,v⟩:=k.p4;obtain⟨q,a⟩:=ε (KC m id);rw[<-a];unfold KC at a;unfold atV at d;clear h k;cases l:Ey m.t.wt id with
 |false=>
  rw[l,lg Bool.false_ne_true]at d a;subst a;clear i;go_in;go_wp2_with(refine d.out.ro ?_);go_ret;exact⟨rfl,rfl⟩
 |true=>
  rw[l,kX rfl]at d a;cases f:m.on with
  |none=>
   rw[f]at e;have o:w.cell? (Δ g 2)=jm (iw jS):=e;rw[f]at a;simp only at a;subst a;clear e i;go_in;go_wp2_with(refine d.out.ro ?_);go_ret;exact⟨rfl,rfl⟩
  |some j=>
   rw[f]at e;have o:w.cell? (Δ g 2)=jm (iw jO):=e;obtain⟨n,_⟩:=i j f;subst n;rw[f]at a;simp only at a;clear e i;by_cases c:(j.1:Int)=id
   ·have t1:((j.1:Int)==id)=true:=by simpa using c
    rw[kX c]at a;subst a;clear c;go_in;go_wp2_with(refine d.out.ro ?_);go_ret;exact⟨rfl,rfl⟩
   ·have t1:((j.1:Int)==id)=false:=beq_eq_false_iff_ne.2 c;rw[lg c]at a;subst a;clear c;go_in;go_wp2_with(refine d.out.ro ?_);go_ret;exact⟨rfl,rfl⟩
def l7{id:Int}(h:KC m id=0):∃a:Nat,id=(a:Int)/\a<8/\m.t.wt.ops a=true:=by
 unfold KC at h;split at h
 ·rename_i b;exact IY b
 ·cases h
def Ahf(h:Ii w F g tt bk b m)(hF:∀a,F a->a<w)(id:Int)(y:Wr)(x:Jv m.t)(u:y.key.size<=4294967296)(z:y.text.size<=4294967296):
 Calls prog 118 #[AB g,id,OY y] w λd w'=>d=iO (gz iU (KZ m id y).2)/\E8 w F g tt bk b (KZ m id y).1 w':=by
 obtain⟨j,r,l,i⟩:=E5 w 143 [y.key,y.text,y.gone];have e:=h.below l;obtain⟨o,W,K,B,M⟩:=lM (Ap0 e id) h e r l;obtain⟨T,U,V⟩:=i.p3;obtain⟨A,C,Y,Z,cs,p,_,_⟩:=e.box;have S:=p.c1;unfold KZ;by_cases f:KC m id=0
 ·rw[f]at o;rw[lg (λh=>h f)];obtain⟨H,rfl,s,E⟩:=l7 f;obtain⟨s1,s2,Q⟩:=x H s;have q:=Ac (λc(a:η j c)=>YC ((e.below a).tab) (λC P=>P.elim (λh=>Bc (hF C h) (AZ l.size a.size)) (λd=>d▸(e.below a).lt.1)) s E s1 s2 y u z);rw[BC];obtain⟨k,n⟩:∃k,(IV (m.t.sets H) y).2=k:=⟨_,rfl⟩;rw[n]at q⊢;have J:Hid (∀c,Touch (·=bk) j c->c.cell? (Δ g 1)=jm (AB tt)/\c.cell? (Φ w)=jm (ig y.key)/\c.cell? (Δ w 1)=jm (ig y.text)/\c.cell? (Δ w 2)=jm (iw y.gone)):=Ac (λc a=>
   have v:¬w=bk:=Ω h.lt.2.1
   ⟨(p.touch a (λd=>e.neb.1 d.symm)).cell 1,(i.touch a v).cell 0,(i.touch a v).cell 1,(i.touch a v).cell 2⟩)
  unfold OY at q⊢;clear h r l i p e f x s1 s2 Q hF s E n u z;go_in;go_wp2_with(rw[<-B.out];refine o.ro ?_);go_region_held3(λw'=>w'.cell? (Δ g 1)=jm (AB tt)/\w'.cell? (Φ w)=jm (ig y.key)/\w'.cell? (Δ w 1)=jm (ig y.text)/\w'.cell? (Δ w 2)=jm (iw y.gone))
   (first|exact⟨S,T,U,V⟩|exact J _ ((mD (mX j)).trans G (λ_=>.inl)))
   ((first|(go_at_call 101;refine(q _ (mX j)).mono ?_;rintro d R⟨rfl,N,X,D,O,G⟩)))
  all_goals(go_wp2)
  all_goals(go_ret)
  all_goals(
   have I:Touch (·=bk) j R:=(mD (mX j)).trans G (λ_=>.inl);exact⟨rfl,N,D,K.turn O D (I.mono (λ_=>.inl)),(mD M).trans I (λ_ d=>.inl (.inr (.inl d)))⟩)
 ·rw[kX f];obtain⟨k,n⟩:∃k,KC m id=k:=⟨_,rfl⟩;rw[n]at o f⊢;have t1:(k==0)=false:=beq_eq_false_iff_ne.2 f;have L:=Ac (h.post m rfl l);unfold OY;clear h r l i p e f x hF n u z;go_in;go_wp2_with(rw[<-B.out];refine o.ro ?_);go_ret;exact⟨rfl,L⟩
def Auz(h:Ii w F g tt bk b m){i l:Nat}(O:m.on=jm (i,l))(hi:i<8)(z:m.t.wt.ops i=jO):
 Calls prog 73 #[AB g] w λa w'=>a=iO (iJ #[])/\E8 w F g tt bk b (lu m i) w':=by
 obtain⟨A,M,iv,R,cs,d,u,v⟩:=h.box;obtain⟨r,s⟩:=u _ O;simp only at r s;subst r s;obtain⟨I,H,B,C⟩:=lL (λc(e:η w c)=>Zn (h.below e).tab hi z) h d v;have o:=h.neb.1;have K:=Ac h.neb;have P:=d.c1;have Q:=d.c3;have E:Hid (∀c,Touch (·=bk) w c->c.cell? (Δ g 1)=jm (AB tt)/\c.cell? (Δ g 3)=jm (gz iU (i:Int))):=Ac (λc e=>
  ⟨(d.touch e (λa=>o a.symm)).cell 1,(d.touch e (λa=>o a.symm)).cell 3⟩)
 clear h d u v hi z o;go_in;go_wp2_with fail;go_region_held3(λw'=>w'.cell? (Δ g 1)=jm (AB tt)/\w'.cell? (Δ g 3)=jm (gz iU (i:Int)))
  (first|exact⟨P,Q⟩|exact E _ ((mD (mX w)).trans k (λ_=>.inl)))
  ((first|(go_at_call 64;refine(I _ (mX w)).mono ?_;rintro a f⟨rfl,L,N,y,x,k⟩)))
 all_goals(
  have n:Touch (·=bk) w f:=(mD (mX w)).trans k (λ_=>.inl);have j:=B.touch n (λa=>K.1 a.symm);obtain⟨D,G,J,q⟩:=lL j n x y;obtain⟨⟨T,U,V,W,X⟩,f0,f1,f2,f3,f4⟩:=j.q5;clear n j x k y N)
 all_goals(go_wp2)
 all_goals(go_end0)
 all_goals(
  have t3:Touch (M3 g bk b.nt) w _:=(((G.mono (λe a=>.inr (.inl a)):Touch (M3 g bk b.nt) w f).setCell (p:=Δ g 2) (.inl (.inl rfl)) (iw jS)).setCell (p:=Δ g 3) (.inl (.inl rfl)) (gz iU 0)).setCell (p:=Δ g 4) (.inl (.inl rfl)) (gz iU 0);have t2:Touch (·=g) f _:=(((Touch.refl (·=g) f).setCell (p:=Δ g 2) (.inl rfl) (iw jS)).setCell (p:=Δ g 3) (.inl rfl) (gz iU 0)).setCell (p:=Δ g 4) (.inl rfl) (gz iU 0);exact⟨rfl,L,q,⟨⟨A,M,0,0,cs,((D.Be 2 _).Be 3 _).Be 4 _,λS a=>(by cases a),by rw[q.out];exact C.moved ⟨t3.mono (λ_=>.inr),λ_=>.inl⟩⟩,J.moved ⟨t2.mono (λ_=>.inr),λ_=>.inl⟩,H.fg⟩,t3⟩)
end
section
variable{w w':jT}{F:Nat->Prop}{g tt bk:Nat}{b:Bk}{m:Md}
def Ii.A1k(h:Ii w F g tt bk b m){l c:jT}(k:η w l){a:Bk}{j:Tb}(n:Hm c (λk=>F k\/k=g) tt bk a j)(d:a.nt=b.nt)(f:Touch (·=bk) l c){i:Md}(e:i={m with t:=j}):E8 w F g tt bk b i c:=by
 subst e;exact⟨a,d,(h.below k).turn n d (f.mono (λ_=>.inl)),(mD k).trans f (λ_ e=>.inl (.inr (.inl e)))⟩
def Ap1(h:Ii w F g tt bk b m)(id:Int)(L:Jv m.t)(aq:m.T.length<=5000):
 Calls prog 121 #[AB g,id] w λa w'=>a=iO (gz iU (LH m id).2)/\E8 w F g tt bk b (LH m id).1 w':=by
 obtain⟨A,Z,iv,aw,cs,k,Q,B⟩:=h.box;obtain⟨e,J,am,an⟩:=lL (Yv h.tab id) h k B;have v:=k.c0;have V:=k.c1;have x:=k.c2;unfold LH;unfold atV at e;cases C:Ey m.t.wt id with
 |false=>
  rw[C,lg Bool.false_ne_true]at e;rw[kX rfl];have n:=Ac (h.post m rfl  mZ);clear h k Q B L v x;go_in;go_wp2_with(refine e.out.ro ?_);go_ret;exact⟨rfl,n⟩
 |true=>
  rw[C,kX rfl]at e;rw[lg U];obtain⟨i,rfl,u,E⟩:=IY C;rw[BC]at e⊢;obtain⟨s1,s2,ae⟩:=L i u;cases ab:m.on.isSome with
  |true=>
   rw[kX rfl];rw[ab]at x;have n:=Ac (h.post m rfl  mZ);clear h k Q B L u E s1 s2 ae C v;go_in;go_wp2_with(refine e.out.ro ?_);go_ret;exact⟨rfl,n⟩
  |false=>
   rw[lg U];rw[ab]at x;obtain⟨K,X,I,Y,s,au⟩:=lN (Vd h.tab u E O) (λo(q:η w o)=>Zn (h.below q).tab u E) (λo(q:η w o)=>jr (h.below q).tab u E O) (λo(q:η w o)=>VU (B.below q) Z (by omega:m.T.length<=100000)) (λo(q:η w o)=>(k.ξ q).p5) h.neb;obtain⟨r,R⟩:=ε ((m.t.sets i).length);have P:=Ac R;rw[<-R]at K s1;rw[lg (by omega:¬60000<=m.T.length)];obtain⟨ad,S⟩:=ε m.T.length;rw[<-S]at aq Y s v;have t6:=dF ((60000:Int)<=(ad:Int));have t7:=dF (60000<=ad);have av:=XI r O;have ar:=Ac S;clear h k Q B L u E s2 ae C R S;by_cases z:r=0
   ·have N:Hid (m.t.sets i=[]):=Ac (List.eq_nil_of_length_eq_zero (by rw[<-P.out];exact z));rw[kX N.out];have t1:((r:Int)==0)=true:=by simpa using z
    clear z;go_in;go_wp2_with(first|(refine e.out.ro ?_)|(refine K.out.mono ?_;rintro a al⟨ah,rfl,l,c⟩;obtain⟨W,aa,rfl,_,_⟩:=C9 l;have j:=Ac c;obtain⟨_,y,_⟩:=s _ c;clear l c v V x)|(refine(X _ j).mono ?_;rintro a H⟨rfl,ap,_,D,d,G⟩;have n:=Ac (J.A1k j d D G rfl);clear d D G));go_ret;exact⟨rfl,n⟩
   ·have N:Hid (¬m.t.sets i=[]):=Ac (λa=>z (by rw[P.out,a];rfl));rw[lg N.out];have t1:((r:Int)==0)=false:=ζ O;clear z;cases ac:JH m.t.Gn (m.t.sets i) (m.t.wt.ats i)with
    |true=>
     rw[ac]at I;rw[kX rfl];go_in;go_wp2_with(first|(refine e.out.ro ?_)|(refine K.out.mono ?_;rintro a al⟨ah,rfl,l,c⟩;obtain⟨W,aa,rfl,_,_⟩:=C9 l;have j:=Ac c;obtain⟨_,y,_⟩:=s _ c;clear l c v V x)|(refine(I _ j).mono ?_;rintro a H⟨rfl,d⟩;have f:=Ac (τ j.out d);clear y d;obtain⟨_,y,_⟩:=s _ f)|(refine(X _ f).mono ?_;rintro a aD⟨rfl,ap,_,D,d,G⟩;have n:=Ac (J.A1k f d D G rfl);clear d D G));go_ret;exact⟨rfl,n⟩
    |false=>
     rw[ac]at I;rw[lg U];go_in;go_wp2_with(first|(refine e.out.ro ?_)|(refine K.out.mono ?_;rintro a al⟨ah,rfl,l,c⟩;obtain⟨W,aa,rfl,_,_⟩:=C9 l;have j:=Ac c;obtain⟨_,y,_⟩:=s _ c;clear l c v V x)|(refine(I _ j).mono ?_;rintro a H⟨rfl,d⟩;have f:=Ac (τ j.out d);clear y d;obtain⟨aE,y,aG,aI,aL⟩:=s _ f)|(refine(Y _ f).ro ?_;have M:=am.out.ξ f;obtain⟨_,f0,f1,f2,f3,f4⟩:=M.q5;have ao:=Ac M;clear M));go_ret;have t3:Touch (M3 g bk b.nt) w _:=((((mD f:Touch (M3 g bk b.nt) w H).setCell (p:=Δ g 2) (.inl (.inl rfl)) (iw jO)).setCell (p:=Δ g 3) (.inl (.inl rfl)) (gz iU (i:Int))).setCell (p:=Δ g 4) (.inl (.inl rfl)) (gz iU ((r:Int)+1)));have t2:Touch (·=g) H _:=(((Touch.refl (·=g) H).setCell (p:=Δ g 2) (.inl rfl) (iw jO)).setCell (p:=Δ g 3) (.inl rfl) (gz iU (i:Int))).setCell (p:=Δ g 4) (.inl rfl) (gz iU ((r:Int)+1));refine⟨rfl,b,rfl,⟨⟨A,Z,(i:Int),(r:Int)+1,cs,((ao.Be 2 _).Be 3 _).Be 4 _,λaz a=>?_,an.moved ⟨t3.mono (λ_=>.inr),λ_=>.inl⟩⟩,(J.below f).tab.moved ⟨t2.mono (λ_=>.inr),λ_=>.inl⟩,J.fg⟩,t3⟩;cases a;exact⟨rfl,by rw[<-P.out];simp⟩
end
def MW{P:Program}{b:Array Oper}{d:Exit->Act->jT->Prop}{g:Region.Mode}{S:jT->Prop}(i:Nat)(v:ku){c:Oper}{fuel:Nat}{f:Array Bool}{a:Act}{w:jT}(l:S w)(h:wpAnyH P g b d S fuel (f.setIfInBounds i jO) (a.put c.dst v) w)(hi:b[i]?=jm c:=by rfl)
 (e:(Region.noSelect b&&(Region.free g b f i&&(Region.ready g b f).contains i))=true:=by kernel_rfl)(k:∀j a w,d (.panic j) (a.put c.dst v) w->d (.panic j) a w:=by exact λ_ _ _ h=>h)(n:Region.wanted c (yielded b a.tmps)=true:=by rfl)
 (hy:∀w,S w->(execOp a.eval c).run P w=.ok (.value v) w:=by intro w m;clear m;go_simp):wpAnyH P g b d S (fuel+1) f a w:=by
 rw[Bool.and_eq_true,Bool.and_eq_true]at e;exact wpAnyH_take hi e.1 e.2.1 e.2.2 k (.inl ⟨n,hy⟩) l h
