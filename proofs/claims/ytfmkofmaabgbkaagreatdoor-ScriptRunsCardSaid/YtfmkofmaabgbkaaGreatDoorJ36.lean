import Derived.Test.YtfmkofmaabgbkaaGreatDoorJ35
set_option linter.defProp false
set_option maxHeartbeats 32000000
set_option maxRecDepth 100000
open Go.Lib renaming hid->Ac
open Nat renaming le_refl->Ae,le_trans->Bq,zero_le->BA
open List renaming length_append->AP,length_drop->AQ,drop_eq_getElem_cons->Cf,mem_cons->CG,not_mem_nil->Ag9,drop_of_length_le->DR,append_nil->Ib,take_succ_eq_append_getElem->CJ,length_filter_le->NH,length_take->Ed,take_of_length_le->EL
open Go.Value renaming ownBlock->AV,int->Aw
open Go.World renaming ownsRow_nil->CP,cell?_of_block->BI
open Go.Value renaming int->fP,string->fQ,bool->fU,tuple->gJ
open Go.Ending renaming returned->gY
open Go.IntKind renaming i64->gZ
open Option renaming some->iC
open Bool renaming false->jw
namespace Go.Proofs.YtfmkofmaabgbkaaGreatDoor
open Go.RowKit
open Go.Proofs.Tryz
def Arl(s:List Wr)(key:ByteArray):Value:=match Amq s key with
 |some x=>gJ #[OU x,fU true]
 |none=>gJ #[.agg #[fQ ⟨#[]⟩,fQ ⟨#[]⟩,fU jw],fU jw]
def Aoh{w:World}{A:Option Addr}{c:Nat}{s:List Wr}(key:ByteArray)(I:s.length<=100000)(g:Rd w A (s.length*3) (Gf s))(y:WA s):
 Calls prog 44 #[.slice A s.length c,fQ key] w λl w'=>l=gY (Arl s key)/\η w w':=by
 obtain⟨G,u,e,o⟩:=newB w 100 [fQ ⟨#[]⟩,fQ ⟨#[]⟩,fU jw];have d:=Ac (WJ (c:=c) key I (Rd.below g e) y);have K:=Ac (Rd.below g e);have q:=Ac o;have t:=Ac e;have r:=Ac u;unfold Arl Amq;clear u e o y;cases n:jA s key with
 |false=>
  rw[n]at d;rw[ku Bool.false_ne_true];clear g;go_enter func44,ntmps44
  go_wp2_with fail
  rw[<-r.out];refine d.mono ?_;rintro l z⟨rfl,b⟩;have a:=q.out.ξ b;obtain⟨B,C,D⟩:=a.p3;have f0:=a.frozen 0;have f1:=a.frozen 1;have f2:=a.frozen 2;have k:=Ac (τ t.out b);clear b a
  go_wp2_with fail
  refine bodyPost_ret (v:=gJ #[.agg #[fQ ⟨#[]⟩,fQ ⟨#[]⟩,fU jw],fU jw]) (by simp[results,results44,go_sem,B,C,D]) rfl ?_;exact⟨rfl,(((k.setCell (p:=Φ w.heap.size) (Ae _) _).setCell (p:=Δ w.heap.size 1) (Ae _) _).setCell (p:=Δ w.heap.size 2) (Ae _) _)⟩
 |true=>
  rw[n]at d;rw[jM rfl];have f:=zq n;rw[List.getElem?_eq_getElem f];simp only;obtain⟨m,x⟩:∃m,Gl s key=m:=⟨_,rfl⟩;have j:=Ac (λH(J:η G H)=>jO (Rd.below K.out J) (Gl s key) f);generalize s[Gl s key]=i at j⊢;rw[x]at d f j;obtain⟨t1,t2⟩:=qy f;have t3:(m:Int)<(s.length:Int):=O1;clear g x;go_enter func44,ntmps44
  go_wp2_with fail
  rw[<-r.out];refine d.mono ?_;rintro l z⟨rfl,b⟩;obtain⟨P,R,rfl,Q,S,T,U⟩:=j z b;have a:=q.out.ξ b;obtain⟨B,C,D⟩:=a.p3;have f0:=a.frozen 0;have f1:=a.frozen 1;have f2:=a.frozen 2;have k:=Ac (τ t.out b);have F:=Ac a;clear b a
  go_wp2_with fail
  have E:=((F.AX 0 (fQ i.key)).AX 1 (fQ i.text)).AX 2 (fU i.gone);obtain⟨L,M,N⟩:=E.p3;refine bodyPost_ret (v:=gJ #[OU i,fU true]) (by simp[results,results44,go_sem,L,M,N,OU]) rfl ?_;exact⟨rfl,(((k.setCell (p:=Φ w.heap.size) (Ae _) _).setCell (p:=Δ w.heap.size 1) (Ae _) _).setCell (p:=Δ w.heap.size 2) (Ae _) _)⟩
section
variable{lm:Mode}{w w':World}{g d p x tt bk L:Nat}{s:St}{b:Bk}{t:Tb}{F J:Nat->Prop}{slot:UInt64}{jv:Value}{id:Int}{sv:Value}{st:UInt64}
def Abf(l:List Lk)(a:Nat):ByteArray×Int:=match YO l a with
 |some t=>(t,0)
 |none=>(⟨#[]⟩,7)
def Akw(h:BK (.up lm) w g d p x tt bk L s b t F J slot jv id sv st)(first c:UInt64){l:List Lk}(v:IE s first=iC l)(y:l.length<=100000):
 Calls prog 47 #[ptr0 g,fP .u64 (first.toNat:Int),fP .u64 (c.toNat:Int)] w λn w'=>n=gY (gJ #[fQ (Abf l c.toNat).1,fP gZ (Abf l c.toNat).2])/\η w w':=by
 have i:=h.box.cell 0;have j:=h.box.cell 1;unfold Cc at i j;simp only[List.getElem?_cons_zero,List.getElem?_cons_succ]at i j;have m:=Ac (λa(k:η w a)=>Uj (h.ix.below k).sys first);unfold bZ at m;rw[v]at m;have E:Hid (∀a,η w a->a.cell? (Φ g)=iC (ptr0 d)/\a.cell? (Δ g 1)=iC (ptr0 p)):=Ac (λa k=>⟨(h.box.ξ k).cell 0,(h.box.ξ k).cell 1⟩);have f:=Ac (λ(q:Option Addr)(I:Nat)(a:World)(N:LkR a q l)=>Ai2 l q I c a y N);unfold Amx at f;obtain⟨⟨R,Q⟩,e⟩:∃H,Abf l c.toNat=H:=⟨_,rfl⟩;rw[e];unfold Abf at e;simp only;clear h v y;cases A:YO l c.toNat
 all_goals(
  rw[A]at f e;obtain⟨rfl,rfl⟩:=Prod.mk.inj e;simp only at f;clear e A;go_enter func47,ntmps47
  go_wp2_with fail
  go_region_held3(λw'=>w'.cell? (Φ g)=iC (ptr0 d)/\w'.cell? (Δ g 1)=iC (ptr0 p))
   (first|exact⟨i,j⟩|exact E _ (((Dr.drew w).below _).trans o))
   ((first|(go_at_call 87;refine(m _ ((Dr.drew w).below _)).mono ?_;rintro n P⟨o,M,S,rfl,r⟩;obtain⟨B,K,O1,_,z⟩:=Zl r;subst O1))))
 all_goals(
  have G:=Ac z;have C:=Ac (((Dr.drew w).below w.heap.size).trans o);clear z o M r i j
  go_wp2_with fail
  refine(f B K P G.out).mono ?_;rintro n T⟨rfl,u⟩;have D:=Ac (τ C.out u);clear u
  go_wp2_with fail
  go_ret2;exact⟨rfl,D.out⟩)
def Agk(s:St)(own:List Wr)(b:Nat)(key:ByteArray):ByteArray×Int:=match Amq own key with
 |some a=>if a.gone then(⟨#[]⟩,7)else(a.text,0)
 |none=>if(GR s key.data.toList).2≠0 then(⟨#[]⟩,(GR s key.data.toList).2)else Abf ((IE s (GR s key.data.toList).1).getD []) b
def Akx(h:BK (.up lm) w g d p x tt bk L s b t F J slot jv id sv st){i:Int}(key:ByteArray)(l:key.size<=4294967296)(f:EY t.wt i=jw\/16<key.size):
 Calls prog 24 #[ptr0 g,fP gZ i,fQ key] w λc w'=>c=gY (gJ #[fQ ⟨#[]⟩,fP gZ (if EY t.wt i=jw then 2 else 3)])/\w=w':=by
 have a:=Ac (Y3 h i);clear h;cases e:EY t.wt i with
 |false=>
  rw[e,ku Bool.false_ne_true]at a;go_enter func24,ntmps24
  go_wp2_with fail
  refine a.mono ?_;rintro c k⟨rfl,rfl⟩
  go_wp2_with fail
  go_ret2;exact⟨rfl,rfl⟩
 |true=>
  rw[e,jM rfl]at a;have j:=f.resolve_left (by rw[e];simp);have t1:decide ((16:Int)<(key.size:Int))=true:=decide_eq_true O1;clear f j;go_enter func24,ntmps24
  go_wp2_with fail
  refine a.mono ?_;rintro c k⟨rfl,rfl⟩
  go_wp2_with fail
  go_ret2;exact⟨rfl,rfl⟩
def Arn(h:BK (.up lm) w g d p x tt bk L s b t F J slot jv id sv st){i:Nat}(hi:i<8)(H:t.wt.ops i=true)(av:(t.sets i).length<=16)(ah:WA (t.sets i))(key:ByteArray)(aZ:key.size<=16)
 (j:∀u,GR s key.data.toList=(u,0)->∃l,IE s u=iC l/\l.length<=100000):
 Calls prog 24 #[ptr0 g,fP gZ (i:Int),fQ key] w λf w'=>f=gY (gJ #[fQ (Agk s (t.sets i) (t.wt.ats i).toNat key).1,fP gZ (Agk s (t.sets i) (t.wt.ats i).toNat key).2])/\η w w':=by
 have N:=Ac (Y3 h (i:Int));rw[jM (VC hi H)]at N;have P:=Ac (nT h.tb hi H O1);have n:=Ac (λc(k:η w c)=>jR (h.ix.below k) key O1);unfold GetPost at n;have v:=Ac (λc(k:η w c)=>uo (h.tb.below k) (i:Int));rw[QD hi H]at v;have A:=Ac (λ(W:UInt64)(l:List Lk)(j:IE s W=iC l)(G:l.length<=100000)c(k:η w c)=>Akw (h.below k) W (t.wt.ats i) j G);have Q:Hid (∀c,η w c->c.cell? (Δ g 2)=iC (ptr0 x)/\c.cell? (Δ g 3)=iC (ptr0 tt)):=Ac (λc k=>⟨(h.box.ξ k).cell 2,(h.box.ξ k).cell 3⟩);obtain⟨C,D⟩:=Q w (Below.refl _ _);have t1:decide ((16:Int)<(key.size:Int))=false:=decide_eq_false O1;have B:=Ac (λ(c:World)(al:Option Addr)(aq:Nat)(aw:Rd c al ((t.sets i).length*3) (Gf (t.sets i)))=>Aoh (c:=aq) key O1 aw ah);have q:=Ac j;unfold Arl at B;obtain⟨⟨aF,aE⟩,r⟩:∃ap,Agk s (t.sets i) (t.wt.ats i).toNat key=ap:=⟨_,rfl⟩;rw[r];generalize t.sets i=own at P B r;unfold Agk at r;have a:=Ac r;clear h av j ah H r;simp only;go_enter func24,ntmps24
 go_wp2_with fail
 refine N.mono ?_;rintro f aJ⟨rfl,rfl⟩
 go_wp2_with fail
 refine P.mono ?_;rintro f aJ⟨a0,rfl,X,Z⟩;obtain⟨am,ar,az,_,ae⟩:=own_rowk X;subst az;have y:=Ac Z;have e:=Ac (B _ am ar ae);clear X Z P N C D B ae;cases E:Amq own key with
 |some I=>
  rw[E]at e a;simp only at e a;unfold OU at e;clear A n v q E
  go_wp2_with fail
  refine e.mono ?_;rintro f T⟨rfl,m⟩;obtain⟨aX,Y,ac,K⟩:=newB T 100 [fQ I.key,fQ I.text,fU I.gone];have z:=Ac ((τ y.out m).trans (ac.mono (Bq y.size m.size)));rw[Y]at K z;obtain⟨aM,aR,aV⟩:=K.p3;clear m ac K Y;obtain⟨a2,a3,aW⟩:=I;simp only at aM aR aV z a⊢;cases aW with
  |true=>
   rw[jM rfl]at a;obtain⟨rfl,rfl⟩:=Prod.mk.inj a.out
   go_wp2_with fail
   go_ret2;exact⟨rfl,z.out⟩
  |false=>
   rw[ku Bool.false_ne_true]at a;obtain⟨rfl,rfl⟩:=Prod.mk.inj a.out
   go_wp2_with fail
   go_ret2;exact⟨rfl,z.out⟩
 |none=>
  rw[E]at e a;simp only at e a;clear E
  go_wp2_with fail
  refine e.mono ?_;rintro f T⟨rfl,m⟩;have R:η w (T.alloc (.cells #[fQ ⟨#[]⟩,fQ ⟨#[]⟩,fU jw] 100)):=(τ y.out m).alloc (Bq y.size m.size) _;have U:=Ac R;obtain⟨C,D⟩:=Q _ R;obtain⟨⟨u,V⟩,ad⟩:∃aD,GR s key.data.toList=aD:=⟨_,rfl⟩;rw[ad]at n a q;simp only at n a;clear m R e ad
  go_wp2_with fail
  refine(n _ U.out).mono ?_;rintro f a1⟨rfl,aa⟩;have o:=Ac (τ U.out aa);clear aa C D n;obtain⟨C,D⟩:=Q _ o.out;by_cases S:V=0
  ·subst S;obtain⟨l,j,G⟩:=q u rfl;rw[ku Θ,j]at a;have M:=Ac (A u l j G);have an:Hid (Abf l (t.wt.ats i).toNat=(aF,aE)):=Ac a.out;rw[an.out]at M;simp only at M;clear A q j a G
   go_wp2_with fail
   refine(v _ o.out).mono ?_;rintro f aL⟨rfl,rfl⟩
   go_wp2_with fail
   refine(M _ o.out).mono ?_;rintro f aL⟨rfl,ab⟩;have ao:=Ac (τ o.out ab);clear ab
   go_wp2_with fail
   go_ret2;exact⟨rfl,ao.out⟩
  ·have t3:(V==0)=false:=beq_eq_false_iff_ne.2 S;rw[jM S]at a;obtain⟨rfl,rfl⟩:=Prod.mk.inj a.out;clear A q v
   go_wp2_with fail
   go_ret2;exact⟨rfl,o.out⟩
end
def Ja(y:Wr)(p:Pr):Bool:=decide (0<NM y.key p.key)
def YH(y:Wr):List Pr->List Pr
 |[]=>[]
 |p::a=>if NM y.key p.key=0 then a else p::a
def Xa(y:Wr):List Pr:=if y.gone then[]else[⟨y.key,y.text⟩]
def JR:List Pr->List Wr->List Pr
 |a,[]=>a
 |a,b::s=>a.takeWhile (Ja b)++(Xa b++JR (YH b (a.dropWhile (Ja b))) s)
def PrR.drop{w:World}{b off:Nat}{l:List Pr}(h:PrR w (iC (Δ b off)) l)(k:Nat)(d:k<l.length):Rd w (iC (Δ b (off+k*2))) ((l.drop k).length*2) (Gw (l.drop k)):=by
 have p:∀m:List Pr,(Gw m).length=m.length*2:=λm=>by
  induction m with
  |nil=>rfl
  |cons a m e=>rw[show Gw (a::m)=uk a++Gw m by simp[Gw],AP,e];simp[uk];omega
 have n:Gw (l.drop k)=(Gw l).drop (k*2):=by
  have:∀(m:List Pr)(k:Nat),k<=m.length->Gw (m.drop k)=(Gw m).drop (k*2):=λm=>by
   induction m with
   |nil=>intro k d;simp[Gw]
   |cons a m e=>
    intro k d;cases k with
    |zero=>rfl
    |succ k=>
     rw[List.drop_succ_cons,e k (by simpa using d),show Gw (a::m)=uk a++Gw m by simp[Gw],show(k+1)*2=(uk a).length+k*2 by simp[uk];omega,List.drop_append];simp
  exact this l k O1
 refine⟨p _,λ_=>?_⟩;obtain⟨r,s,c,i,j⟩:=h.2 O1;injection c with c
 injection c with f g
 subst f g;refine⟨b,off+k*2,rfl,i,λq o=>?_⟩;rw[AQ]at o;have:=j (k*2+q) O1;rw[n,List.getElem?_drop,<-this];congr 2;omega
def U1(a b:List Pr):Gw (a++b)=Gw a++Gw b:=by simp[Gw]
def XX(y:Wr)(l:List Pr)(k:Nat)(c:k<l.length):(0<NM y.key l[k].key->(l.drop k).takeWhile (Ja y)=l[k]::(l.drop (k+1)).takeWhile (Ja y)/\(l.drop k).dropWhile (Ja y)=(l.drop (k+1)).dropWhile (Ja y))/\
 (¬0<NM y.key l[k].key->(l.drop k).takeWhile (Ja y)=[]/\(l.drop k).dropWhile (Ja y)=l[k]::l.drop (k+1)):=by
 rw[Cf c];constructor
 ·intro h;have a:Ja y l[k]=true:=decide_eq_true h;rw[List.takeWhile_cons_of_pos a,List.dropWhile_cons_of_pos a];exact⟨rfl,rfl⟩
 ·intro h;have a:¬Ja y l[k]=true:=λb=>h (of_decide_eq_true b)
  rw[List.takeWhile_cons_of_neg a,List.dropWhile_cons_of_neg a];exact⟨rfl,rfl⟩
def own_ne{w:World}{c k n b:Nat}{e:TypeId}{v:Value}{xs:List Value}(h:w.ownsRow c e k v n xs)(j:w.heap.size<=b):v.ownBlock≠iC b:=by
 rcases h.2 with⟨a,_⟩|⟨g,f,i,a,_,d,_⟩
 ·subst a;simp[AV]
 ·subst a;have:=(Array.getElem?_eq_some_iff.1 d).1;simp only[AV,ne_eq,Option.some.injEq];omega
def Zv(p:Pr):∀b∈uk p,b.oneCell'=true:=by
 intro b a;simp only[uk,CG,Ag9,or_false]at a;rcases a with rfl|rfl<;>rfl
def pI(l:List Pr):∀b∈Gw l,b.oneCell'=true:=by
 intro b a;obtain⟨d,c,a⟩:=List.mem_flatten.1 a;obtain⟨p,-,rfl⟩:=List.mem_map.1 c;exact Zv p b a
def Aky(l:List Pr)(s:List Wr)(A B:Option Addr)(c bO:Nat)(w:World)(bw:l.length<=100000)(bB:s.length<=100000)(h:PrR w A l)(bS:l.length<=c)(bA:Rd w B (s.length*3) (Gf s)):
 Calls prog 50 #[.slice A l.length c,.slice B s.length bO] w λI w'=>∃bD,I=gY bD/\w'.ownsRow w.heap.size 80 2 bD (JR l s).length (Gw (JR l s))/\η w w':=by
 have X:=Ac (λb(a:η w b)=>h.below a);have bH:=Ac (λb(a:η w b)=>Rd.below bA a);have ah:=Ac bw;have am:=Ac bB;have bG:=Ac bS;have bo:Hid (w.ownsRow w.heap.size 80 2 (.slice none 0 0) 0 []):=Ac (CP _ _ _ _);clear h bw bB bA;go_enter func50,ntmps50
 go_wp2_with fail
 go_loopw [5,6,11](λaX aw bc wr=>∃(e:List Pr)(a d:Nat),aw=fP gZ (a:Nat)/\bc=fP gZ (d:Nat)/\a<=l.length/\d<=s.length/\wr.ownsRow w.heap.size 80 2 aX e.length (Gw e)/\JR l s=e++JR (l.drop a) (s.drop d)/\e.length<=a+d/\η w wr)(λ_ _ bc _=>s.length-(intOf bc).toNat)
 case atStart=>exact⟨[],0,0,rfl,rfl,BA _,BA _,bo.out,by simp,by simp,Below.refl _ _⟩
 case round=>
  obtain⟨e,a,d,rfl,rfl,aR,b3,av,ar,bq,ao⟩:=hrel;have k:=Ac ar;have n:=Ac ao;have G:=Ac av;clear ar ao bo av;by_cases aV:d<s.length
  ·obtain⟨bJ,bL,rfl,bs,a9,ba,bb⟩:=jO (bH _ n.out) d aV;obtain⟨bX,bY⟩:=qy aV;have b4:=wk1 d (Ω am.out);have a0:Hid (JR l s=e++((l.drop a).takeWhile (Ja s[d])++(Xa s[d]++JR (YH s[d] ((l.drop a).dropWhile (Ja s[d]))) (s.drop (d+1))))):=Ac (by
    rw[k.out,Cf aV,JR])
   obtain⟨b2,a7⟩:=ε (s[d]);rw[<-a7]at a9 ba bb a0;have al:=Ac a7;obtain⟨j,q,t⟩:=b2;simp only at a9 ba bb;obtain⟨f,rfl⟩:=ε wr;obtain⟨a2,Z,br,be⟩:=newB f 100 [fQ j,fQ q,fU t];have bj:=Ac Z;have bg:=Ac be;have aZ:=Ac br;clear a7 k Z br be
   go_wp2_with fail
   rw[<-bj.out]
   go_loopw [5,6](λaX aw bd=>∃(e:List Pr)(a:Nat),aw=fP gZ (a:Nat)/\a<=l.length/\bd.ownsRow w.heap.size 80 2 aX e.length (Gw e)/\aX.ownBlock≠iC f.heap.size/\
    JR l s=e++((l.drop a).takeWhile (Ja s[d])++(Xa s[d]++JR (YH s[d] ((l.drop a).dropWhile (Ja s[d]))) (s.drop (d+1))))/\e.length<=a+d/\η w bd/\CB bd f.heap.size 100 [fQ j,fQ q,fU t])(λ_ aw _=>l.length-(intOf aw).toNat)
   case atStart=>exact⟨e,a,rfl,aR,Ew G.out aZ.out,own_ne G.out (Ae _),by rw[a0.out,al.out],bq,τ n.out aZ.out,bg.out⟩
   case round=>
    clear a0 G n aZ bg bj a9 ba bb bs;obtain⟨e,a,rfl,aR,av,bx,ar,bq,ao,K⟩:=hrel;obtain⟨C,D,E⟩:=K.p3;have k:=Ac ar;have n:=Ac ao;have G:=Ac av;have bC:=Ac bx;have T:=Ac K;have b5:=wk1 a (Ω ah.out);clear ar ao av bx K;have b0:(∃h:a<l.length,0<NM s[d].key l[a].key)\/(l.length=a)\/(∃h:a<l.length,¬0<NM s[d].key l[a].key/\NM s[d].key l[a].key≠0)\/(∃h:a<l.length,¬0<NM s[d].key l[a].key/\NM s[d].key l[a].key=0):=by
     by_cases h:a<l.length
     ·by_cases a4:0<NM s[d].key l[a].key
      ·exact .inl ⟨h,a4⟩
      ·by_cases bl:NM s[d].key l[a].key=0
       ·exact .inr (.inr (.inr ⟨h,a4,bl⟩))
       ·exact .inr (.inr (.inl ⟨h,a4,bl⟩))
     ·exact .inr (.inl O1)
    rcases b0 with⟨u,i⟩|u|⟨u,i,y⟩|⟨u,i,y⟩
    ·obtain⟨x,H,rfl,aa,m,a8⟩:=(X _ n.out).at a u;obtain⟨M,N⟩:=(XX s[d] l a u).1 i;rw[M,N]at k;rw[<-al.out]at i;obtain⟨az,L⟩:=ε (l[a]);rw[<-L]at m a8 k i;obtain⟨p,ab⟩:=az;simp only at m a8 i;obtain⟨t1,t2⟩:=qy u;have t3:(a:Int)<(l.length:Int):=O1;obtain⟨z,R⟩:∃z,NM j p=z:=⟨_,rfl⟩;have v:=Ac (λb=>Zn ⟨j,q,t⟩ p b);simp only[R]at v i;unfold OU at v;have t4:decide (0<z)=true:=decide_eq_true i;clear M N R L;have F:Hid (∀b,η wr b->(b.cell? (Φ f.heap.size)=iC (fQ j)/\b.cell? (Δ f.heap.size 1)=iC (fQ q)/\b.cell? (Δ f.heap.size 2)=iC (fU t))/\b.cell? (Δ x (H+a*2))=iC (fQ p)):=Ac (λb S=>⟨(T.out.ξ S).p3,(BI (w:=wr) (S.block x aa)).trans m⟩)
     go_wp2_with fail
     go_region_held3(λb=>(b.cell? (Φ f.heap.size)=iC (fQ j)/\b.cell? (Δ f.heap.size 1)=iC (fQ q)/\b.cell? (Δ f.heap.size 2)=iC (fU t))/\b.cell? (Δ x (H+a*2))=iC (fQ p))
      (first|exact⟨⟨C,D,E⟩,m⟩|exact F _ g)
      ((first|(go_at_call 90;refine(v _).mono ?_;rintro I J⟨rfl,Q⟩;have g:η wr J:=((Dr.drew wr).below _).trans Q)))
     all_goals(
      have aL:=Ac (Ew G.out g);have ac:=Ac (T.out.ξ g);have Y:=Ac (τ n.out g);have b7:J.cell? (Δ x (H+a*2+1))=iC (fQ ab):=(BI (w:=wr) (g.block x aa)).trans a8;obtain⟨⟨C,D,E⟩,b6⟩:=F _ g;have W:e.length<=1000000:=Ψ ah.out am.out;clear Q g v F G n T
      go_wp2_with(at_builtin;refine BC rfl (.tmp 29) (.tmp 34) 35 rfl Tryz.U0 J w.heap.size u5 e.length (Gw e) (uk ⟨p,ab⟩) rfl aL.out rfl J.heap.size 1 rfl rfl rfl U (Zv _) W U Y.size ?_;intro bR bN b1 a3 a1 bm an)
      go_roundw)
     case rel=>exact⟨e++[⟨p,ab⟩],a+1,by go_num,O1,by rw[AP,U1];simpa[Gw]using a3,by
      simp only[AV,ne_eq,Option.some.injEq];rcases an with an|an
      ·exact λI=>bC (I▸an)
      ·have:=ac.lt;omega,by rw[k.out];simp,by simp;omega,Y.trans a1,(bm.2 _ ac.lt (λI=>bC I.symm)).trans ac.out⟩
     case measure=>simp[intOf];omega
    case' inr.inl=>
     obtain⟨o,r⟩:=ε a;have ae:Hid (o=a\/o=a+1):=Ac (.inl r);have aJ:Hid (o<=l.length):=Ac O1;have aF:Hid (Aw gZ (a:Int)=fP gZ (o:Int)):=Ac (by rw[r]);have aE:Hid (JR l s=e++(Xa ⟨j,q,t⟩++JR (l.drop o) (s.drop (d+1)))):=Ac (by rw[k.out,DR (by omega:l.length<=a),r,DR (by omega:l.length<=a),al.out];rfl);have t1:decide (a<l.length)=false:=decide_eq_false O1;have t2:decide ((a:Int)<(l.length:Int))=false:=decide_eq_false O1;clear r u k
     go_wp2_with fail
     go_quiet(fail)
     obtain⟨a2,Z⟩:=ε (wr.drewN nq);rw[<-Z];have aM:Dr wr a2:=⟨nq,Z⟩;clear Z nq
     go_wp2_with fail
     go_quiet(fail)
     obtain⟨b,a5⟩:=ε (a2.drewN nq);rw[<-a5];have g:η wr b:=(aM.trans ⟨nq,a5⟩).below _;clear a5 aM C D E
    case' inr.inr.inl=>
     obtain⟨x,H,rfl,aa,m,-⟩:=(X _ n.out).at a u;obtain⟨M,N⟩:=(XX s[d] l a u).2 i;rw[M,N]at k;rw[<-al.out]at i y k;obtain⟨az,L⟩:=ε (l[a]);rw[<-L]at m k i y;obtain⟨p,ab⟩:=az;simp only at m i y;obtain⟨t1,t2⟩:=qy u;have t3:(a:Int)<(l.length:Int):=O1;obtain⟨o,r⟩:=ε a;have ae:Hid (o=a\/o=a+1):=Ac (.inl r);have aJ:Hid (o<=l.length):=Ac O1;have aF:Hid (Aw gZ ((a:Int))=fP gZ (o:Int)):=Ac (by rw[r]);have aE:Hid (JR l s=e++(Xa ⟨j,q,t⟩++JR (l.drop o) (s.drop (d+1)))):=Ac (by
      rw[k.out,r,YH,ku y,show(⟨p,ab⟩:Pr)::l.drop (a+1)=l.drop a by rw[L];exact(Cf u).symm];rfl)
     obtain⟨z,R⟩:∃z,NM j p=z:=⟨_,rfl⟩;have v:=Ac (λb=>Zn ⟨j,q,t⟩ p b);simp only[R]at v i y;unfold OU at v;have t4:decide (0<z)=false:=decide_eq_false i;have t5:(z==0)=false:=beq_eq_false_iff_ne.2 y;have F:Hid (∀b,η wr b->(b.cell? (Φ f.heap.size)=iC (fQ j)/\b.cell? (Δ f.heap.size 1)=iC (fQ q)/\b.cell? (Δ f.heap.size 2)=iC (fU t))/\b.cell? (Δ x (H+a*2))=iC (fQ p)):=Ac (λb S=>⟨(T.out.ξ S).p3,(BI (w:=wr) (S.block x aa)).trans m⟩);clear M N R L i y r k u
     go_wp2_with fail
     go_region_held3(λb=>(b.cell? (Φ f.heap.size)=iC (fQ j)/\b.cell? (Δ f.heap.size 1)=iC (fQ q)/\b.cell? (Δ f.heap.size 2)=iC (fU t))/\b.cell? (Δ x (H+a*2))=iC (fQ p))
      (first|exact⟨⟨C,D,E⟩,m⟩|exact F _ g)
      ((first|(go_at_call 90;refine(v _).mono ?_;rintro I J⟨rfl,Q⟩;have g:η wr J:=((Dr.drew wr).below _).trans Q)))
     obtain⟨⟨C,D,E⟩,m⟩:=F _ g;have ad:=Ac g;clear g Q
     go_wp2_with fail
     go_region_held3(λb=>(b.cell? (Φ f.heap.size)=iC (fQ j)/\b.cell? (Δ f.heap.size 1)=iC (fQ q)/\b.cell? (Δ f.heap.size 2)=iC (fU t))/\b.cell? (Δ x (H+a*2))=iC (fQ p))
      (first|exact⟨⟨C,D,E⟩,m⟩|exact F _ g)
      ((first|(go_at_call 90;refine(v _).mono ?_;rintro I b⟨rfl,ap⟩;have g:η wr b:=τ ad.out (((Dr.drew J).below _).trans ap))))
     clear ap C D E m v ad
    case' inr.inr.inr=>
     obtain⟨x,H,rfl,aa,m,-⟩:=(X _ n.out).at a u;obtain⟨M,N⟩:=(XX s[d] l a u).2 i;rw[M,N]at k;rw[<-al.out]at i y k;obtain⟨az,L⟩:=ε (l[a]);rw[<-L]at m k i y;obtain⟨p,ab⟩:=az;simp only at m i y;obtain⟨t1,t2⟩:=qy u;have t3:(a:Int)<(l.length:Int):=O1;obtain⟨o,r⟩:=ε (a+1);have ae:Hid (o=a\/o=a+1):=Ac (.inr r);have aJ:Hid (o<=l.length):=Ac O1;have aF:Hid (Aw gZ (((a:Int)+1))=fP gZ (o:Int)):=Ac (by rw[r];rfl);have aE:Hid (JR l s=e++(Xa ⟨j,q,t⟩++JR (l.drop o) (s.drop (d+1)))):=Ac (by
      rw[k.out,r,YH,jM y];rfl)
     obtain⟨z,R⟩:∃z,NM j p=z:=⟨_,rfl⟩;have v:=Ac (λb=>Zn ⟨j,q,t⟩ p b);simp only[R]at v i y;unfold OU at v;have t4:decide (0<z)=false:=decide_eq_false i;have t5:(z==0)=true:=beq_iff_eq.2 y;have F:Hid (∀b,η wr b->(b.cell? (Φ f.heap.size)=iC (fQ j)/\b.cell? (Δ f.heap.size 1)=iC (fQ q)/\b.cell? (Δ f.heap.size 2)=iC (fU t))/\b.cell? (Δ x (H+a*2))=iC (fQ p)):=Ac (λb S=>⟨(T.out.ξ S).p3,(BI (w:=wr) (S.block x aa)).trans m⟩);clear M N R L i y r k u
     go_wp2_with fail
     go_region_held3(λb=>(b.cell? (Φ f.heap.size)=iC (fQ j)/\b.cell? (Δ f.heap.size 1)=iC (fQ q)/\b.cell? (Δ f.heap.size 2)=iC (fU t))/\b.cell? (Δ x (H+a*2))=iC (fQ p))
      (first|exact⟨⟨C,D,E⟩,m⟩|exact F _ g)
      ((first|(go_at_call 90;refine(v _).mono ?_;rintro I J⟨rfl,Q⟩;have g:η wr J:=((Dr.drew wr).below _).trans Q)))
     obtain⟨⟨C,D,E⟩,m⟩:=F _ g;have ad:=Ac g;clear g Q
     go_wp2_with fail
     go_region_held3(λb=>(b.cell? (Φ f.heap.size)=iC (fQ j)/\b.cell? (Δ f.heap.size 1)=iC (fQ q)/\b.cell? (Δ f.heap.size 2)=iC (fU t))/\b.cell? (Δ x (H+a*2))=iC (fQ p))
      (first|exact⟨⟨C,D,E⟩,m⟩|exact F _ g)
      ((first|(go_at_call 90;refine(v _).mono ?_;rintro I b⟨rfl,ap⟩;have g:η wr b:=τ ad.out (((Dr.drew J).below _).trans ap))))
     clear ap C D E m v ad
    all_goals(
     have aL:=Ac (Ew G.out g);have ac:=Ac (T.out.ξ g);have Y:=Ac (τ n.out g);obtain⟨C,D,E⟩:=ac.p3;have W:e.length<=1000000:=Ψ ah.out am.out;clear g G n T X)
    all_goals(cases t)
    all_goals(
     go_wp2_with(at_builtin;refine BC rfl (.tmp 57) (.tmp 63) 35 rfl Tryz.U0 b w.heap.size u5 e.length (Gw e) (uk ⟨j,q⟩) rfl aL.out rfl b.heap.size 1 rfl rfl rfl U (Zv _) W U Y.size ?_;intro bR bN b1 a3 a1 bm an)
     go_roundw)
    all_goals first
     |exact⟨e++[⟨j,q⟩],o,d+1,aF.out,by go_num,aJ.out,O1,by rw[AP,U1];simpa[Gw]using a3,by rw[aE.out];simp[Xa],by have:=ae.out;simp;omega,Y.trans a1⟩
     |exact⟨e,o,d+1,aF.out,by go_num,aJ.out,O1,aL.out,by rw[aE.out];rfl,Ω ae.out,Y.out⟩
     |(simp[intOf];omega)
  ·have bY:decide (d<s.length)=false:=decide_eq_false aV;have bX:decide ((d:Int)<(s.length:Int))=false:=decide_eq_false O1;have aD:Hid (JR l s=e++l.drop a):=Ac (by rw[k.out,DR (by omega:s.length<=d)];rfl);clear k;by_cases a6:a<l.length
   ·obtain⟨bJ,bL,rfl,bs,-,-⟩:=(X _ n.out).at a a6;have bV:¬c=a:=Ω bG.out;have bp:=(X _ n.out).drop a a6;have aW:=Ac bp;have aM:decide (a<=l.length)=true:=decide_eq_true aR;clear bp;have bi:Hid ((l.drop a).length=l.length-a):=Ac (AQ ..);have W:e.length+(l.length-a)<=1000000:=Ψ ah.out am.out
    go_wp2_with(at_builtin;refine Gm rfl (.tmp 66) (.tmp 69) 35 rfl Tryz.U0 U w.heap.size u5 e.length (Gw e) rfl G.out _ _ _ (Gw (l.drop a)) rfl (by rw[<-bi.out];exact aW.out) (pI _) W U n.size ?_;intro bE w' V K r)
    go_ret;refine⟨_,rfl,?_,n.trans K⟩;rw[aD.out,AP,bi.out,U1];exact V
   ·have aq:l.length=a:=O1;have bt:l.drop a=[]:=DR O1;rw[bt,Ib]at aD;have aM:decide (a<=l.length)=true:=decide_eq_true aR;have W:e.length+0<=1000000:=Ψ ah.out am.out;have ae:=Ac aq;have aW:Hid (∀(P:Option Addr),Rd wr P ((l.length-a)*2) (Gw [])):=Ac (λP=>by rw[aq,Nat.sub_self];exact⟨rfl,λh=>absurd h Θ⟩);have bh:Hid (e.length+(l.length-a)<=1000000):=Ac (by rw[aq];omega);have bk:Hid (e.length+(l.length-a)=e.length):=Ac (by rw[aq];omega);clear aq bt a6 W;by_cases bV:c=a
    ·go_wp2_with(at_builtin;refine Gm rfl (.tmp 66) (.tmp 69) 35 rfl Tryz.U0 U w.heap.size u5 e.length (Gw e) rfl G.out _ _ _ (Gw []) rfl (aW _) (pI _) bh.out U n.size ?_;intro bE w' V K r)
     go_ret;refine⟨_,rfl,?_,n.trans K⟩;rw[aD.out];rw[bk.out,show Gw []=[]from rfl,Ib]at V;exact V
    ·cases A
     all_goals(
      go_wp2_with(at_builtin;refine Gm rfl (.tmp 66) (.tmp 69) 35 rfl Tryz.U0 U w.heap.size u5 e.length (Gw e) rfl G.out _ _ _ (Gw []) rfl (aW _) (pI _) bh.out U n.size ?_;intro bE w' V K r)
      go_ret;refine⟨_,rfl,?_,n.trans K⟩;rw[aD.out];rw[bk.out,show Gw []=[]from rfl,Ib]at V;exact V)
def UD(b a:ByteArray)(l:List Wr):List Wr:=l.filter λc=>Ol c.key b a
def PS(s:St)(b:Nat)(c a:ByteArray)(it:List UInt8×UInt64):List Pr:=
 match YO ((IE s it.2).getD []) b with
 |some t=>if Ol ⟨it.1.toArray⟩ c a=true then[⟨⟨it.1.toArray⟩,t⟩]else[]
 |none=>[]
def readA(s:St)(b:Nat)(c a:ByteArray)(d:List (List UInt8×UInt64)):List Pr:=(d.map (PS s b c a)).flatten
def wR(s:St)(c:Nat)(b a:ByteArray)(d:List (List UInt8×UInt64))(own:List Wr):List Pr:=JR (readA s c b a d) (UD b a own)
def Aoi(y:Wr):∀b∈wrC y,b.oneCell'=true:=by
 intro b a;simp only[wrC,CG,Ag9,or_false]at a;rcases a with rfl|rfl|rfl<;>rfl
def Agl(b a:ByteArray)(l:List Wr){k:Nat}(c:k<l.length):UD b a (l.take (k+1))=UD b a (l.take k)++if Ol l[k].key b a=true then[l[k]]else[]:=by
 unfold UD;rw[CJ c,List.filter_append];by_cases h:Ol l[k].key b a=true
 ·rw[jM h];simp[h]
 ·rw[ku h];simp[h]
def Abg(s:St)(b:Nat)(c a:ByteArray)(l:List (List UInt8×UInt64)){k:Nat}(d:k<l.length):readA s b c a (l.take (k+1))=readA s b c a (l.take k)++PS s b c a l[k]:=by
 unfold readA;rw[CJ d,List.map_append,List.flatten_append];simp
def wS(s:St)(b:Nat)(c a:ByteArray)(it:List UInt8×UInt64):(PS s b c a it).length<=1:=by
 unfold PS;split
 ·split<;>simp
 ·simp
def XY(s:St)(b:Nat)(c a:ByteArray):∀(l:List (List UInt8×UInt64)),(readA s b c a l).length<=l.length
 |[]=>by simp[readA]
 |d::l=>by
  have e:=XY s b c a l;have f:=wS s b c a d;show(PS s b c a d++readA s b c a l).length<=l.length+1;rw[AP];omega
section
variable{lm:Mode}{w w':World}{g d p x tt bk L:Nat}{s:St}{b:Bk}{t:Tb}{F J:Nat->Prop}{slot:UInt64}{jv:Value}{id:Int}{sv:Value}{st:UInt64}
def Aoj(h:BK (.up lm) w g d p x tt bk L s b t F J slot jv id sv st){i:Nat}(hi:i<8)(aM:t.wt.ops i=true)(aE:(t.sets i).length<=16)(e c:ByteArray)
 {f:List (List UInt8×UInt64)}{cd:List Int}(bs:DW s=iC (f,cd))(cp:f.length<=100000)
 (bm:∀a(h1:a<f.length),∃Y,IE s f[a].2=iC Y/\Y.length<=100000):
 Calls prog 25 #[ptr0 g,fP gZ (i:Int),fQ e,fQ c] w λo w'=>∃Z,o=gY (gJ #[Z,fP gZ 0])/\
  w'.ownsRow w.heap.size 80 2 Z (wR s (t.wt.ats i).toNat e c f (t.sets i)).length (Gw (wR s (t.wt.ats i).toNat e c f (t.sets i)))/\η w w':=by
 have al:=Ac (Y3 h (i:Int));rw[jM (VC hi aM)]at al;have a2:=Ac (Ur h.ix);have Q:=Ac (λn(a:η w n)=>uo (h.tb.below a) (i:Int));rw[QD hi aM]at Q;have am:=Ac (λn(a:η w n)=>nT (h.tb.below a) hi aM O1);have bJ:=Ac h;obtain⟨l,bc⟩:∃l,t.wt.ats i=l:=⟨_,rfl⟩;rw[bc]at Q⊢;obtain⟨own,bl⟩:=ε (t.sets i);rw[<-bl]at am aE⊢;have av:=Ac aE;have bO:=Ac bm;have bX:=Ac bs;have a6:Hid (∀n,η w n->n.cell? (Δ g 2)=iC (ptr0 x)/\n.cell? (Δ g 3)=iC (ptr0 tt)):=Ac (λn a=>⟨(h.box.ξ a).cell 2,(h.box.ξ a).cell 3⟩);obtain⟨aw,az⟩:=a6 w (Below.refl _ _);clear h bl bm bs bc aE;go_enter func25,ntmps25
 go_wp2_with fail
 refine al.mono ?_;rintro o cs⟨rfl,rfl⟩
 go_wp2_with fail
 refine a2.mono ?_;rintro o ct⟨bd,bo⟩;rw[bX.out]at bo;obtain⟨cr,rfl,bj,b8⟩:=bo;obtain⟨cl,co,rfl,b5,bp⟩:=own_rowk bj;have R:=Ac bd;have a3:=Ac bp;clear a2 bj b5 bp bd b8 al aw az;obtain⟨aw,az⟩:=a6 _ R.out
 go_wp2_with fail
 refine(Q _ R.out).mono ?_;rintro o aa⟨rfl,rfl⟩
 go_wp2_with fail
 refine(am _ R.out).mono ?_;rintro o aa⟨cq,rfl,ba,aF⟩;obtain⟨cm,cn,b9,_,br⟩:=own_rowk ba;subst b9;have bG:=Ac (τ R.out aF);have a4:=Ac (Rd.below a3.out aF);have bV:=Ac br;clear ba aF am Q a3 aw az br
 go_wp2_with fail
 go_loopw [17,62](λce z wr=>∃a:Nat,a<=own.length/\z=fP gZ (a:Nat)/\wr.ownsRow aa.heap.size 100 3 ce (UD e c (own.take a)).length (Gf (UD e c (own.take a)))/\η aa wr)(λ_ z _=>own.length-(intOf z).toNat)
 case atStart=>exact⟨0,BA _,rfl,CP _ _ _ _,Below.refl _ _⟩
 case round=>
  obtain⟨a,b7,rfl,K,H⟩:=hrel;have q:=Ac K;have k:=Ac H;clear K H;by_cases r:a<own.length
  ·obtain⟨bY,cf,rfl,b4,A,B,cg⟩:=jO (Rd.below bV.out k.out) a r;obtain⟨cb,aR,aV⟩:=ltT r;have ca:=wk1 a (Ω av.out);have j:=Ac (Agl e c own r);have ah:Hid ((UD e c (own.take a)).length<=100000):=Ac (by
    have:(UD e c (own.take a)).length<=(own.take a).length:=NH _ _;rw[Ed]at this;have:=av.out;omega)
   generalize own[a]=ck at*;obtain⟨ab,bC,bB⟩:=ck;simp only at A B cg j;obtain⟨C,M,aJ,aZ⟩:=newB wr 100 [fQ ab,fQ bC,fU bB];have v:=Ac (λn=>eY ab e c n);have ad:=Ac (τ k.out aJ);have a7:=Ac (Ew q.out aJ);have bw:=Ac M;obtain⟨ac,aW,aX⟩:=aZ.p3;clear aJ aZ q k;cases m:Ol ab e c with
   |true=>
    rw[m]at v;rw[jM m]at j;rw[M]at ac aW aX;clear M m
    go_wp2_with fail
    refine(v _).mono ?_;rintro o N⟨rfl,rfl⟩;rw[<-bw.out]at ac aW aX⊢
    go_wp2_with(at_builtin;refine BC rfl (.tmp 71) (.tmp 73) 73 rfl Tryz.jJ C aa.heap.size u17 (UD e c (own.take a)).length (Gf (UD e c (own.take a))) (wrC ⟨ab,bC,bB⟩) rfl (by exact a7.out) rfl C.heap.size 1 rfl rfl rfl U (Aoi _) (Ω ah.out) U (by exact ad.size) ?_;intro b3 b2 cj G E aD aq)
    have ar:=Ac G;have ap:=Ac (ad.trans E);clear G E aD aq
    go_wp2_with fail
    go_roundw
    case rel=>exact⟨a+1,O1,by go_num,by rw[j.out,AP,WG];simpa[Gf]using ar.out,ap.out⟩
    case measure=>simp[intOf];omega
   |false=>
    rw[m]at v;rw[ku (by rw[m];simp),Ib]at j;rw[M]at ac aW aX;clear M m
    go_wp2_with fail
    refine(v _).mono ?_;rintro o N⟨rfl,rfl⟩;rw[<-bw.out]
    go_wp2_with fail
    go_roundw
    case rel=>exact⟨a+1,O1,by go_num,by rw[j.out];exact a7.out,ad.out⟩
    case measure=>simp[intOf];omega
  ·have I:own.take a=own:=EL O1;obtain⟨aR,aV⟩:=qA r;rw[I]at q;obtain⟨C,rfl⟩:=ε wr;obtain⟨bD,b0,rfl,b6,bq⟩:=own_rowk q.out;have bR:=Ac bq;have bS:=Ac (Rd.below a4.out k.out);have ae:=Ac (τ bG.out k.out);have bL:Hid ((UD e c own).length<=100000):=Ac (by
    have:(UD e c own).length<=own.length:=NH _ _;have:=av.out;omega)
   clear b6 bq q k a4 I
   go_wp2_with fail
   go_loopw [20,78](λZ z wr=>∃a:Nat,a<=f.length/\z=fP gZ (a:Nat)/\wr.ownsRow C.heap.size 80 2 Z (readA s l.toNat e c (f.take a)).length (Gw (readA s l.toNat e c (f.take a)))/\η C wr)(λ_ z _=>f.length-(intOf z).toNat)
   case atStart=>exact⟨0,BA _,rfl,CP _ _ _ _,Below.refl _ _⟩
   case round=>
    obtain⟨a,b7,rfl,K,H⟩:=hrel;have q:=Ac K;have k:=Ac H;clear K H;by_cases r:a<f.length
    ·obtain⟨bY,cf,rfl,b4,A,B⟩:=pF (Rd.below bS.out k.out) a r;obtain⟨Y,V,bi⟩:=bO a r;obtain⟨cb,aR,aV⟩:=ltT r;have ca:=wk1 a O1;have j:=Ac (Abg s l.toNat e c f r);have ah:Hid ((readA s l.toNat e c (f.take a)).length<=100000):=Ac (by
      have:=XY s l.toNat e c (f.take a);rw[Ed]at this;omega)
     obtain⟨cc,bh⟩:=ε (f[a]);rw[<-bh]at A B V j;obtain⟨X,bx⟩:=cc;unfold PS at j;simp only[V,Option.getD_some]at A B j;obtain⟨cv,bt,aL,a0⟩:=newB wr 115 [fQ ⟨X.toArray⟩,fP .u64 (bx.toNat:Int)];have an:=τ k.out aL;have u:=Ac (Akw (bJ.below (τ ae.out an)) bx l V bi);have v:=Ac (λn=>eY ⟨X.toArray⟩ e c n);have ao:=Ac a0;have P:=Ac an;have S:=Ac (Ew q.out aL);have a5:=Ac bt;unfold Abf at u;clear V bi bh bt aL an a0 q k;cases W:YO Y l.toNat with
     |none=>
      rw[W]at u j;simp only[Ib]at u j;clear W
      go_wp2_with fail
      rw[<-a5.out];refine u.mono ?_;rintro o N⟨rfl,y⟩;have T:=Ac (Ew S.out y);have D:=Ac (τ P.out y);clear u y ao S P A B
      go_wp2_with fail
      go_roundw
      case rel=>exact⟨a+1,O1,by go_num,by rw[j.out];exact T.out,D.out⟩
      case measure=>simp[intOf];omega
     |some ch=>
      rw[W]at u j;simp only at u j;clear W
      go_wp2_with fail
      rw[<-a5.out];refine u.mono ?_;rintro o N⟨rfl,y⟩;have a1:=ao.out.ξ y;have ac:=a1.p1;have D:=Ac (τ P.out y);have T:=Ac (Ew S.out y);clear u y a1 ao S P A B;cases m:Ol ⟨X.toArray⟩ e c with
      |true=>
       rw[m]at v;rw[jM m]at j;clear m
       go_wp2_with fail
       refine(v _).mono ?_;rintro o bA⟨rfl,rfl⟩
       go_wp2_with(at_builtin;refine BC rfl (.tmp 100) (.tmp 105) 35 rfl Tryz.U0 N C.heap.size u20 (readA s l.toNat e c (f.take a)).length (Gw (readA s l.toNat e c (f.take a))) (uk ⟨⟨X.toArray⟩,ch⟩) rfl (by exact T.out) rfl N.heap.size 1 rfl rfl rfl U (Zv _) (Ω ah.out) U (by exact D.size) ?_;intro b3 b2 cj G E aD aq)
       have ar:=Ac G;have ap:=Ac (D.trans E);clear G E aD aq
       go_wp2_with fail
       go_roundw
       case rel=>exact⟨a+1,O1,by go_num,by rw[j.out,AP,U1];simpa[Gw]using ar.out,ap.out⟩
       case measure=>simp[intOf];omega
      |false=>
       rw[m]at v;rw[ku (by rw[m];simp),Ib]at j;clear m
       go_wp2_with fail
       refine(v _).mono ?_;rintro o bA⟨rfl,rfl⟩
       go_wp2_with fail
       go_roundw
       case rel=>exact⟨a+1,O1,by go_num,by rw[j.out];exact T.out,D.out⟩
       case measure=>simp[intOf];omega
    ·have I:f.take a=f:=EL O1;obtain⟨aR,aV⟩:=qA r;rw[I]at q;obtain⟨bE,b1,rfl,bg,a9⟩:=own_rowk q.out;have a8:=Ac (Aky (readA s l.toNat e c f) (UD e c own) bE bD b1 b0 wr (Ω (XY s l.toNat e c f)) bL.out a9 bg (Rd.below bR.out k.out));clear a9 bg q I
     go_wp2_with fail
     refine a8.mono ?_;rintro o bA⟨ci,rfl,bb,be⟩;have bN:=Ac (Ux bb (Bq ae.size k.size));have bH:=Ac (τ ae.out (τ k.out be));clear bb be a8
     go_wp2_with fail
     go_ret2;exact⟨ci,rfl,bN.out,bH.out⟩
end
