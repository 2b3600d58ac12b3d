import Derived.Deep.RegionHeld3
import Derived.Test.YtfmkofmaabgbkaaGreatDoorJ18
import Derived.Test.YtfmkofmaabgbkaaGreatDoorJ19
set_option linter.defProp false
set_option maxHeartbeats 32000000
set_option maxRecDepth 100000
open Go.Value renaming slice->Ad
open Nat renaming lt_irrefl->xH,le_refl->Ae
open Go.Lib renaming hid->Ac
open UInt64 renaming toNat_inj->DN
open List renaming mem_of_getLast?->U6,length_nil->Dx,getElem?_cons_zero->Ag,getElem?_cons_succ->Am,set_cons_zero->Ak,set_cons_succ->Au
open Go.World renaming alloc->Api
open Go.Value renaming slice->fD,int->fP,string->fQ,bool->fU,tuple->gJ,agg->gU
open Go.Ending renaming returned->gY
open Go.IntKind renaming i64->gZ,u64->ig
open Go.Obj renaming cells->iy
open Option renaming some->iC,none->iD
open Bool renaming false->jw
open Go renaming World->jD,Value->jL
namespace Go.Proofs.YtfmkofmaabgbkaaGreatDoor
open Go.RowKit
open Go.Proofs.Tryz
section
variable{base jb x d p L:Nat}
def Ajm{w:jD}{j:Jm}{G:Nat->Prop}(h:FY w base jb x d p L j G)(a:Nd)(b e f:Option Addr)(g i k:Nat)(off m:Int)(lb:UInt8)(rest:List UInt8)(A:Option Addr)(c:Nat)(l:UInt64)
 (r:bT w G (fD b a.pre.length g) (fP ig (a.val.toNat:Int)) (fD e a.labels.length i) (fD f a.kids.length k) a)(n:a.pre.length<=100)(o:a.labels.length<=100)(q:a.kids.length<=100)
 (s:KT w G A rest.length (rest.map bv))(u:rest.length<=c)(v:rest.length<=100)(t:j.made.length<=500)(H:a.pre≠rest):
 Calls prog 159 #[ptr0 jb,gU #[fD b a.pre.length g,fP ig (a.val.toNat:Int),fD e a.labels.length i,fD f a.kids.length k,fP gZ off,fP .u8 (lb.toNat:Int),fP gZ m],fD A rest.length c,fP ig (l.toNat:Int)] w (I7 (Jf j a rest l) base jb x d p L G w):=by
 have I:=Jn a.pre rest;have J:=Kw a.pre rest;by_cases E:common a.pre rest=a.pre.length
 ·refine Ae9 h a b e f g i k off m lb rest A c l r n o q s u v t E ?_;rcases Nat.lt_or_ge (common a.pre rest) rest.length with C|C
  ·exact C
  ·exact absurd (TA _ _ E O1) H
 ·have y:common a.pre rest<a.pre.length:=O1;by_cases F:common a.pre rest=rest.length
  ·exact grow_end h a b e f g i k off m lb rest A c l r n o q s u v t y F
  ·have B:common a.pre rest<rest.length:=O1;by_cases z:(D8 j {a with pre:=a.pre.drop (common a.pre rest+1)}).2.2=0
   ·cases D:JA ⟨a.pre.take (common a.pre rest),0,[],[]⟩ (a.pre.getD (common a.pre rest) 0) (D8 j {a with pre:=a.pre.drop (common a.pre rest+1)}).2.1
    ·exact Ang h a b e f g i k off m lb rest A c l r n o q s u v t y B z D
    ·exact Ajk h a b e f g i k off m lb rest A c l r n o q s u v t y B z D
   ·exact Ajl h a b e f g i k off m lb rest A c l r n o q s u v t y B z
end
def FY.done{w e w':jD}{base jb x d p L:Nat}{j:Jm}{F G c:Nat->Prop}(h:FY w' base jb x d p L j c)(m:AL G c e w')(i:η w e)(g:∀a,G a->F a\/w.heap.size<=a):∃b,jy w' x d p L j.s b/\AL F b w w':=by
 obtain⟨b,q,n,k⟩:=h;have o:=i.size;refine⟨b,n.ix,(Touch.of_below i).trans m.touch g,λa l=>?_⟩;rcases m.own a ((k a).2 (.inl l))with f|f
 ·exact g a f
 ·exact .inr O1
def og{w e:jD}{x d p L:Nat}{q:Ms}{F:Nat->Prop}(h:jy e x d p L q F)(n:e=w.alloc (iy #[ptr0 x,fD iD 0 0] 249))(hF:∀a,F a->a<w.heap.size)(o:x<w.heap.size)(m:0<w.heap.size/\1<w.heap.size):
 FY e w.heap.size w.heap.size x d p L ⟨q,[]⟩ (λa=>F a\/a=w.heap.size):=by
 have g:(Ad iD 0 0).ownBlock=iD:=rfl;have r:e.ownsRow w.heap.size 3 1 (fD iD 0 0) 0 []:=World.ownsRow_nil _ _ _ _;have i:CB e w.heap.size 249 [ptr0 x,fD iD 0 0]:=n▸heap_alloc_new _ _;have j:¬F w.heap.size:=λk=>xH _ (hF _ k)
 refine⟨F,fD iD 0 0,⟨h,i,r,j,Ae _,o,m,(by rw[g];exact λf=>nomatch f),λa c=>(by rw[g]at c;exact nomatch c),λs l=>nomatch l⟩,λa=>⟨λc=>c.elim .inl (λf=>.inr (.inl f)),λc=>?_⟩⟩;rcases c with b|b|b
 ·exact .inl b
 ·exact .inr b
 ·rw[g]at b;exact nomatch b
def L9(r:Ms×Int)(x d p L:Nat)(F:Nat->Prop)(w:jD)(e:Ending)(w':jD):Prop:=
 e=gY (fP gZ r.2)/\∃a,jy w' x d p L r.1 a/\AL F a w w'
section
variable{w:jD}{x d p L:Nat}{s:St}{F:Nat->Prop}{lf:Int}
def RS(key:ByteArray):key.data.toList.length=key.size:=by rw[Array.length_toList];rfl
def XE(h:J6 (.up (MU lf)) w x d p L s F)(key:ByteArray)(u:key.size<=1000)(e:UInt64)(j:16<key.size\/e=0\/ER s key.data.toList=iD):
 Calls prog 120 #[ptr0 x,fQ key,fP ig (e.toNat:Int)] w (L9 (N7 ⟨.up lf,s⟩ key.data.toList e) x d p L F w):=by
 have b:=Ac (Ih h key O1);have l:=Ac h;have g:=RS key;by_cases a:16<key.size
 ·have c:Hid (N7 ⟨.up lf,s⟩ key.data.toList e=(⟨.up lf,s⟩,3)):=Ac (by unfold N7;rw[g,jM a]);rw[jM a]at b;clear h j a g;go_enter func120,ntmps120
  go_wp2_with fail
  refine b.mono ?_;rintro i n⟨rfl,rfl⟩;clear b
  go_wp2_with fail
  go_ret;refine⟨by rw[c.out];rfl,F,?_,AL.refl _ _⟩;rw[c.out];exact l.out
 ·rw[ku a]at b;by_cases f:e=0
  ·have c:Hid (N7 ⟨.up lf,s⟩ key.data.toList e=(⟨.up lf,s⟩,2)):=Ac (by unfold N7;rw[g,ku a,jM f]);subst f;clear h j a g;go_enter func120,ntmps120
   go_wp2_with fail
   refine b.mono ?_;rintro i n⟨rfl,rfl⟩;clear b
   go_wp2_with fail
   go_ret;refine⟨by rw[c.out];rfl,F,?_,AL.refl _ _⟩;rw[c.out];exact l.out
  ·have m:=(j.resolve_left a).resolve_left f;have c:Hid (N7 ⟨.up lf,s⟩ key.data.toList e=(⟨.up lf,s⟩,5)):=Ac (by unfold N7;rw[g,ku a,ku f];simp only[m]);have q:=Ac (KI h key u);have t:=Ac m;have t1:((e.toNat:Int)==0)=jw:=by
    rw[beq_eq_false_iff_ne];intro i;exact f (DN.1 (by simp;omega))
   clear h j a f g m;go_enter func120,ntmps120
   go_wp2_with fail
   refine b.mono ?_;rintro i n⟨rfl,rfl⟩;clear b
   go_wp2_with fail
   refine q.mono ?_;rintro i n⟨r,k⟩;rw[t.out]at k;replace k:i=gY (gJ #[fD iD 0 0,fD iD 0 0,fP gZ 5]):=k;subst k;have o:=Ac r;clear r q
   go_wp2_with fail
   go_ret;refine⟨by rw[c.out];rfl,F,?_,AL.of_below o.out⟩;rw[c.out];exact l.below o.out
end
def dC{s:St}:∀(f:Nat)(g:UInt64)(rest:List UInt8)(e:UInt8)(j:Int)(c b:List Pl)(i:List UInt8),Es s f g rest e j c=iC (b,i)->b.length<=c.length+f
 |0,g,rest,e,j,c,b,i,h=>by
  rw[Es]at h;injection h with h
  injection h with a d
  subst a;omega
 |f+1,g,rest,e,j,c,b,i,h=>by
  rw[Es]at h;split at h
  ·injection h with h
   injection h with a d
   subst a;omega
  ·split at h
   ·cases h
   ·split at h
    ·injection h with h
     injection h with a d
     subst a;simp
    ·split at h
     ·injection h with h
      injection h with a d
      subst a;simp
     ·have:=dC f _ _ _ _ _ _ _ h;simp at this;omega
def QF{s:St}{key:List UInt8}{a:List Pl}{rest:List UInt8}(h:ER s key=iC (a,rest)):a.length<=2*key.length+1:=by
 have:=dC _ _ _ _ _ _ _ _ h;simpa using this
def RD.below{w w':jD}{base:Nat}{A:Option Addr}{l:List UInt8}(h:RD w base A l)(k:η w w'):RD w' base A l:=(CW.of_below k).rs h
section
variable{w:jD}{x d p L:Nat}{s:St}{F:Nat->Prop}{lf:Int}
def Afa(h:J6 (.up (MU lf)) w x d p L s F)(key:ByteArray)(l:¬16<key.size)(e:UInt64)(o:e≠0)(g:List Pl)(rest:List UInt8)(f:ER s key.data.toList=iC (g,rest))(a:Pl)(b:CV g rest=iC a):
 Calls prog 120 #[ptr0 x,fQ key,fP ig (e.toNat:Int)] w (L9 (N7 ⟨.up lf,s⟩ key.data.toList e) x d p L F w):=by
 have j:=Ac (Ih h key O1);rw[ku l]at j;have av:=Ac h;have n:=RS key;obtain⟨a7,a8,i,z⟩:=h.L0;have aX:16<=L:=Ψ i.fits i.BO;obtain⟨k,S⟩:=Uf i O1 z f;have U:=QF f;rw[n]at S U;replace S:rest.length<=32:=O1;replace U:g.length<=33:=O1;have R:∀r∈g,r.nd.pre.length<=1000:=λr aE=>Ω (((Bh _).1 (k r aE).right).1)
 have ap:=Ac R;have H:=Ac (KI h key O1);have az:=Ac f;have aw:=Ac b;have N:a∈g:=by
  unfold CV at b;split at b
  ·cases b
  ·rename_i a6 aD;split at b
   ·injection b with b;subst b;exact U6 aD
   ·cases b
 have ao:=Ac (k a N);have C:Hid (N7 ⟨.up lf,s⟩ key.data.toList e=MO ⟨.up lf,s⟩ a e):=Ac (by unfold N7;rw[n,ku l,ku o];simp only[f,b]);clear b N;have t1:((e.toNat:Int)==0)=jw:=by
  rw[beq_eq_false_iff_ne];intro c;exact o (DN.1 (by simp;omega))
 clear h l o f n i z k R;go_enter func120,ntmps120
 go_wp2_with fail
 refine j.mono ?_;rintro c aR⟨rfl,rfl⟩;clear j
 go_wp2_with fail
 refine H.mono ?_;rintro c aR⟨I,P⟩;rw[az.out]at P;obtain⟨a9,aW,a2,rfl,G,T,a5⟩:=P;have ar:=Ac G;have aq:=Ac T;have am:=Ac I;clear G T I H
 go_wp2_with fail
 refine(H8 ar.out O1 ap.out aq.1 O1).mono ?_;rintro c aV⟨J,Q⟩;rw[aw.out]at Q;obtain⟨a0,a1,a3,a4,rfl,aF⟩:=Q;obtain⟨t,W,u,X,v,Y,c,aJ,aL,aM⟩:=aF;simp only[Value.agg.injEq]at c;simp at c;obtain⟨rfl,rfl,rfl,rfl⟩:=c;have an:=Ac (τ am.out J);obtain⟨aZ,m,K,y⟩:=newB aV 176 [fD t a.nd.pre.length W,fP ig (a.nd.val.toNat:Int),fD u a.nd.labels.length X,fD v a.nd.kids.length Y,fP gZ a.off,fP .u8 (a.label.toNat:Int),fP gZ a.word];have A:=Ac (τ an.out K);have D:=Ac (RI (q:=⟨.up lf,s⟩) (av.below A.out) a (ao.out) t u v a.nd.pre.length W a.nd.labels.length X a.nd.kids.length Y e);have E:=Ac m;obtain⟨Z,aa,ab,ac,ad,ae,ah⟩:=EJ y;rw[m]at Z aa ab ac ad ae ah;clear aJ aL aM J K y m
 go_wp2_with fail
 rw[<-E.out];refine D.mono ?_;rintro c ba⟨rfl,al,V,M⟩;have B:=Ac (And.intro V ((AL.of_below (F:=F) A.out).trans M));clear V M Z aa ab ac ad ae ah D E
 go_wp2_with fail
 go_ret;refine⟨by rw[C.out];rfl,al,?_,B.2⟩;rw[C.out];exact B.1
def Afb(h:J6 (.up (MU lf)) w x d p L s F)(key:ByteArray)(B:¬16<key.size)(c:UInt64)(J:c≠0)(f:List Pl)(rest:List UInt8)(j:ER s key.data.toList=iC (f,rest))(K:f=[])(I:CV f rest=iD):
 Calls prog 120 #[ptr0 x,fQ key,fP ig (c.toNat:Int)] w (L9 (N7 ⟨.up lf,s⟩ key.data.toList c) x d p L F w):=by
 have v:=Ac (Ih h key O1);rw[ku B]at v;have a7:=Ac h;have E:=RS key;obtain⟨bx,bA,t,S⟩:=h.L0;have bl:16<=L:=Ψ t.fits t.BO;obtain⟨aa,aE⟩:=Uf t O1 S j;have aL:=QF j;rw[E]at aE aL;replace aE:rest.length<=32:=O1;replace aL:f.length<=33:=O1;have az:∀P∈f,P.nd.pre.length<=1000:=λP bd=>Ω (((Bh _).1 (aa P bd).right).1)
 have a4:=Ac az;have ac:=Ac (KI h key O1);have ba:=Ac j;have bw:=h.box.lt;have a5:=Ac h.sys.tabs.lt;have ab:=Ac h.sys.lt;have a8:=Ac I;obtain⟨⟨n,o,l⟩,H⟩:∃bj,JO (rest.length+1) ⟨⟨.up lf,s⟩,[]⟩ rest c=bj:=⟨_,rfl⟩;have W:=Ac H;have aX:f.length=0:=by rw[K];rfl
 have V:Hid (N7 ⟨.up lf,s⟩ key.data.toList c=Eo n l 72 o []):=Ac (by unfold N7;rw[E,ku B,ku J,j];simp only;rw[I,K];simp only[List.getLast?_nil];rw[H]);clear I K H;have t1:((c.toNat:Int)==0)=jw:=by
  rw[beq_eq_false_iff_ne];intro e;exact J (DN.1 (by simp;omega))
 clear h B J j E t S aa az;go_enter func120,ntmps120
 go_wp2_with fail
 refine v.mono ?_;rintro e aM⟨rfl,rfl⟩;clear v
 go_wp2_with fail
 refine ac.mono ?_;rintro e aM⟨an,aw⟩;rw[ba.out]at aw;obtain⟨bk,Q,bb,rfl,Z,aF,bg⟩:=aw;have Y:=Ac Z;have X:=Ac aF;have a0:=Ac an;clear Z aF an ac
 go_wp2_with fail
 refine(H8 Y.out O1 a4.out X.1 O1).mono ?_;rintro e aR⟨D,m⟩;rw[a8.out]at m;replace m:e=gY (gJ #[gU #[fD iD 0 0,fP ig 0,fD iD 0 0,fD iD 0 0,fP gZ 0,fP .u8 0,fP gZ 0],fU jw]):=m;subst m;obtain⟨Av,ah,bh⟩:∃Av ah,bk=fD Av f.length ah:=by
  obtain⟨bE,G,_⟩:=Y.out;rcases G.2 with⟨A,bc⟩|⟨br,bp,bq,A,_⟩
  ·exact⟨iD,0,by rw[A,bc]⟩
  ·exact⟨_,_,A⟩
 subst bh;have a1:=Ac (τ a0.out D);obtain⟨b,M,u,-⟩:=newB aR 176 [fD iD 0 0,fP ig 0,fD iD 0 0,fD iD 0 0,fP gZ 0,fP .u8 0,fP gZ 0];obtain⟨aV,N,z,-⟩:=newB b 249 [ptr0 x,fD iD 0 0];have aJ:b.heap.size=aR.heap.size+1:=by rw[M];simp
 have T:=Ac (τ a1.out u);have U:=Ac (τ T.out z);have bt:=T.size;have am:=og (q:=⟨.up lf,s⟩) (a7.below U.out) N (λa C=>Ω (ab a C)) O1 (Ω a5.out);have a3:Hid (∀a,(λa=>F a\/a=b.heap.size) a->F a\/w.heap.size<=a):=Ac (λa C=>C.imp id (λe=>O1));have R:η aM b:=τ D u;have r:=RD.below X.out R;have aD:KT aV (λa=>F a\/a=b.heap.size) Q rest.length (rest.map bv):=by
  refine KT.below (w:=b) ⟨r.1,λbe bo k i=>?_⟩ z;obtain⟨bC,bD,al,bs,_⟩:=r.1.2 be;rw[al]at k;injection k with k
  subst k;rcases i with i|i
  ·have:=(r.2 _ _ al).1;have:=ab _ i;simp only at this;omega
  ·simp only at i;omega
 have g:=WM (rest.length+1) aV ⟨⟨.up lf,s⟩,[]⟩ _ rest c Q bb am aD bg O1 O1 (by simp only[Dx];omega);rw[W.out]at g;have g:=Ac g;have a6:=Ac M;have bi:=Ac N;have ae:=Ac aJ;have av:=MV (rest.length+1) ⟨⟨.up lf,s⟩,[]⟩ rest c;rw[W.out]at av;simp only[Dx]at av;rw[aX]at*;clear D u z aJ am aD r R M N
 go_wp2_with fail
 rw[<-a6.out,<-bi.out,<-ae.out];refine g.out.mono ?_;rintro e aW⟨rfl,aZ,ap,ad⟩;have ao:Calls prog 158 #[ptr0 b.heap.size,fP gZ l,fP gZ 72,fP ig (o.toNat:Int),fD iD 0 0] aW (RP (Eo n l 72 o []) b.heap.size b.heap.size x d p L n aZ aW):=
  RQ ap l 72 9 rfl O1 o iD 0 [] KT.nil (λbB G=>nomatch G) (Nat.zero_le _) (by show n.made.length<=1000;omega)
 have y:=Ac ao;have a9:=Ac ad;clear ao ad ap g
 go_wp2_with fail
 first
  |refine y.mono ?_
  |(rw[<-ae.out];refine y.mono ?_)
 rintro e bG⟨rfl,bm,aq,ar⟩;have a2:=Ac (aq.done (a9.trans ar) U.out a3.out);clear aq ar y
 go_wp2_with fail
 go_ret;refine⟨by rw[V.out];rfl,?_⟩;rw[V.out];exact a2.out
end
def bT.mono{w:jD}{G F:Nat->Prop}{a b c d:jL}{e:Nd}(h:bT w G a b c d e)(k:∀b,b<w.heap.size->F b->G b):bT w F a b c d e:=by
 obtain⟨f,j,g,l,i,m,n,o,p,q,u,r,s,t⟩:=h;exact⟨f,j,g,l,i,m,n,o,p,q,u,r.mono k,s.mono k,t.mono k⟩
def Aad(j:Jm)(x:Nd)(rest:List UInt8)(e:UInt64):(Jf j x rest e).1.made.length<=j.made.length+rest.length+4:=by
 have i:=λn p=>MV (rest.length+1) n p e
 have g:=KU j {x with pre:=x.pre.drop (common x.pre rest+1)};unfold Jf;split
 ·have:=i j (rest.drop (common x.pre rest+1));split;rename_i a b c d;rw[d]at this;have f:=PI a x (rest.getD (common x.pre rest) 0) b c;simp only at this;omega
 ·split;rename_i a b c d;rw[d]at g;simp only at g;split
  ·have f:=PI a ⟨x.pre.take (common x.pre rest),e,[],[]⟩ (x.pre.getD (common x.pre rest) 0) b c;omega
  ·split
   ·simp only;omega
   ·split
    ·split;rename_i o k l m;have:=i a (rest.drop (common x.pre rest+1));rw[m]at this;have f:=PI o (Ie ⟨x.pre.take (common x.pre rest),0,[],[]⟩ (x.pre.getD (common x.pre rest) 0) b) (rest.getD (common x.pre rest) 0) k l;simp only at this;omega
    ·simp only;omega
section
variable{w:jD}{x d p L:Nat}{s:St}{F:Nat->Prop}{lf:Int}
def Ajo(h:J6 (.up (MU lf)) w x d p L s F)(key:ByteArray)(an:¬16<key.size)(l:UInt64)(aw:l≠0)(c:List Pl)(rest:List UInt8)(u:ER s key.data.toList=iC (c,rest))(bs:c≠[])(j:CV c rest=iD):
 Calls prog 120 #[ptr0 x,fQ key,fP ig (l.toNat:Int)] w (L9 (N7 ⟨.up lf,s⟩ key.data.toList l) x d p L F w):=by
 have ad:=Ac (Ih h key O1);rw[ku an]at ad;have b4:=Ac h;have aq:=RS key;obtain⟨cT,cU,U,aX⟩:=h.L0;have cz:16<=L:=Ψ U.fits U.BO;obtain⟨ah,bo⟩:=Uf U O1 aX u;have bw:=QF u;rw[aq]at bo bw;replace bo:rest.length<=32:=O1;replace bw:c.length<=33:=O1;have bl:∀aD∈c,aD.nd.pre.length<=1000:=λaD K=>Ω (((Bh _).1 (ah aD K).right).1)
 have bV:=Ac bl;have a6:=Ac (KI h key O1);have b7:=Ac u;have cS:=h.box.lt;have b0:=Ac h.sys.tabs.lt;have al:=Ac h.sys.lt;have cJ:0<c.length:=List.length_pos_iff.2 bs;obtain⟨a,ar⟩:∃a,c[c.length-1]' O1=a:=⟨_,rfl⟩;have J:c.getLast?=iC a:=by rw[List.getLast?_eq_getElem?,List.getElem?_eq_getElem O1,ar]
 have bi:a.nd.pre≠rest:=by
  intro e;unfold CV at j;rw[J]at j;simp only at j;rw[jM e]at j;cases j
 have ae:=Ac (ah a (U6 J));have bS:=Ac ar;have cp:=Ac bi;have b5:=Ac j;obtain⟨⟨R,S,H⟩,P⟩:∃co,Jf ⟨⟨.up lf,s⟩,[]⟩ a.nd rest l=co:=⟨_,rfl⟩;have bX:=Ac P;have a2:Hid (N7 ⟨.up lf,s⟩ key.data.toList l=Eo R H a.word S [a.off]):=Ac (by unfold N7;rw[aq,ku an,ku aw,u];simp only;rw[j,J];simp only;rw[P]);have bh:=Aad ⟨⟨.up lf,s⟩,[]⟩ a.nd rest l;rw[P]at bh;simp only[Dx]at bh;clear j P ar J bi;have t1:((l.toNat:Int)==0)=jw:=by
  rw[beq_eq_false_iff_ne];intro e;exact aw (DN.1 (by simp;omega))
 clear h an aw u aq U aX ah bl;go_enter func120,ntmps120
 go_wp2_with fail
 refine ad.mono ?_;rintro e aE⟨rfl,rfl⟩;clear ad
 go_wp2_with fail
 refine a6.mono ?_;rintro e aE⟨bd,bk⟩;rw[b7.out]at bk;obtain⟨c0,aJ,b8,rfl,a5,bp,cf⟩:=bk;have a4:=Ac a5;have a3:=Ac bp;have bG:=Ac bd;clear a5 bp bd a6
 go_wp2_with fail
 refine(H8 a4.out O1 bV.out a3.1 O1).mono ?_;rintro e B⟨I,M⟩;rw[b5.out]at M;replace M:e=gY (gJ #[gU #[fD iD 0 0,fP ig 0,fD iD 0 0,fD iD 0 0,fP gZ 0,fP .u8 0,fP gZ 0],fU jw]):=M;subst M;obtain⟨a9,cF,rfl,cI,cH,ca,bc⟩:=a4.at bs;obtain⟨a7,b,cE,cG,y⟩:=bc (c.length-1) O1;rw[show c[c.length-1]' O1=a from bS.out]at y;have bH:=Ac (τ bG.out I);obtain⟨g,Q,G,-⟩:=newB B 176 [fD iD 0 0,fP ig 0,fD iD 0 0,fD iD 0 0,fP gZ 0,fP .u8 0,fP gZ 0];obtain⟨m,v,o,-⟩:=newB g 249 [ptr0 x,fD iD 0 0];have bq:g.heap.size=B.heap.size+1:=by rw[Q];simp
 have aZ:=Ac (τ bH.out G);have a0:=Ac (τ aZ.out o);have cN:=aZ.size;have ao:=og (q:=⟨.up lf,s⟩) (b4.below a0.out) v (λb t=>Ω (al b t)) O1 (Ω b0.out);have bN:Hid (∀b,(λb=>F b\/b=g.heap.size) b->F b\/w.heap.size<=b):=Ac (λb t=>t.imp id (λe=>O1));have ab:η aE g:=τ I G;have T:=RD.below a3.out ab;have t0:((c.length:Int)==0)=jw:=ζ O1;obtain⟨A,K⟩:=ε (c.length-1);have cP:IntKind.i64.wrap ((c.length:Int) -1)=(A:Int):=(wrap64 _ O1 O1).trans O1;have cQ:A<c.length:=O1;have cR:(A:Int)<(c.length:Int):=O1;have aL:η aE m:=τ ab o;obtain⟨C,V,D,W,E,X,e,cj,ck,cl⟩:=y.nd;simp only[Value.agg.injEq]at e;simp at e;obtain⟨rfl,rfl,rfl,rfl⟩:=e;have k:∀z Y,[Ad C a.nd.pre.length V,fP ig (a.nd.val.toNat:Int),fD D a.nd.labels.length W,fD E a.nd.kids.length X,fP gZ a.off,fP .u8 (a.label.toNat:Int),fP gZ a.word][z]?=iC Y->m.cell? (Δ a9 (A*7+z))=iC Y:=λz Y cb=>by
  rw[aL.cell (p:=Δ a9 (A*7+z)) ca,Nat.mul_comm,K];exact y.cells z Y cb
 have aF:=k 0 _ rfl;have bx:=k 1 _ rfl;have bA:=k 2 _ rfl;have bB:=k 3 _ rfl;have bC:=k 4 _ rfl;have bD:=k 5 _ rfl;have bE:=k 6 _ rfl;rw[Nat.add_zero]at aF;have bj:bT m (λb=>F b\/b=g.heap.size) (fD C a.nd.pre.length V) (fP ig (a.nd.val.toNat:Int)) (fD D a.nd.labels.length W) (fD E a.nd.kids.length X) a.nd:=by
  have cm:bT B F _ _ _ _ a.nd:=bT.At4 (y.nd.below I) (λb t _ b9=>Ω (al b b9));have cn:bT B (λb=>F b\/b=g.heap.size) _ _ _ _ a.nd:=cm.mono (λb t f=>f.elim id (λe=>by first|omega|(simp only at e;omega)));exact cn.moved (AL.of_below (τ G o))
 have bm:KT m (λb=>F b\/b=g.heap.size) aJ rest.length (rest.map bv):=by
  refine KT.below (w:=g) ⟨T.1,λcd a7 i f=>?_⟩ o;obtain⟨cX,cY,a8,cM,_⟩:=T.1.2 cd;rw[a8]at i;injection i with i
  subst i;rcases f with f|f
  ·have:=(T.2 _ _ a8).1;have:=al _ f;simp only at this;omega
  ·simp only at f;omega
 obtain⟨c1,bt,r,aM⟩:=newB m 176 [fD C a.nd.pre.length V,fP ig (a.nd.val.toNat:Int),fD D a.nd.labels.length W,fD E a.nd.kids.length X,fP gZ a.off,fP .u8 (a.label.toNat:Int),fP gZ a.word];have N:=ae.out;have cA:=((Bh _).1 N.right).1;have cB:=N.kids;have cC:=N.labels;have n:=Ajm (ao.below r) a.nd C D E V W X a.off a.word a.label rest aJ b8 l (bj.moved (AL.of_below r)) O1 O1 O1 (bm.below r) cf O1 Θ cp.out;rw[bX.out]at n;have n:=Ac n;have bO:=Ac ao.lt;have b1:=Ac Q;have cg:=Ac v;have b2:=Ac bt;have am:=Ac bq;have br:m.heap.size=B.heap.size+2:=by rw[v];simp;omega
 have bY:=Ac br;have b6:=Ac (τ a0.out r);have bR:=Ac aM;rw[v,Q]at aF bx bA bB bC bD bE;clear I G o bq br ao bm T ab aL Q v bt r aM k y bc cj ck cl bj K N
 go_wp2_with fail
 rw[<-b1.out,<-cg.out,<-b2.out,<-am.out];refine n.out.mono ?_;rintro e Z⟨rfl,aW,ap,av⟩;have aR:=bR.touch av.touch (λf=>Ω (bO _ f));obtain⟨aa,az,ac,-⟩:=newB Z 3 [fP gZ a.off];have aV:CB aa Z.heap.size 3 [zv a.off]:=az▸heap_alloc_new _ _;have bb:KT aa aW (iC (Φ Z.heap.size)) 1 ([a.off].map zv):=⟨aV.rd,λ_ a7 i f=>by
  injection i with i
  subst i;exact absurd (ap.lt _ f) (xH _)⟩
 have be:Calls prog 158 #[ptr0 g.heap.size,fP gZ H,fP gZ a.word,fP ig (S.toNat:Int),fD (iC (Φ Z.heap.size)) 1 1] aa (RP (Eo R H a.word S [a.off]) g.heap.size g.heap.size x d p L R aW aa):=by
  obtain⟨ch,ci,cc⟩:=ae.word;obtain⟨cV,cK,cL⟩:=ae.off;exact RQ (ap.below ac) H a.word ch ci cc S _ 1 [a.off] bb (λcW ce=>by rw[List.mem_singleton]at ce;omega) Θ (by show R.made.length<=1000;omega)
 have a1:=Ac be;have cq:=Ac (av.trans (AL.of_below ac));have b3:=Ac az;have bJ:=Ac aR;clear aF bx bA bB bC bD bE av ap ac aV bb be az n aR;obtain⟨cr,cs,ct,cv,cw,cx,cy⟩:=EJ bJ.out;rw[bY.out]at cr cs ct cv cw cx cy;rw[am.out]
 go_wp2_with fail
 rw[<-b3.out,<-am.out];refine a1.mono ?_;rintro e c2⟨rfl,cD,bg,ba⟩;have bL:=Ac (bg.done (cq.trans ba) b6.out bN.out);clear bg ba a1
 go_wp2_with fail
 go_ret;refine⟨by rw[a2.out];rfl,?_⟩;rw[a2.out];exact bL.out
def Aae(h:J6 (.up (MU lf)) w x d p L s F)(key:ByteArray)(i:key.size<=1000)(a:UInt64):
 Calls prog 120 #[ptr0 x,fQ key,fP ig (a.toNat:Int)] w (L9 (N7 ⟨.up lf,s⟩ key.data.toList a) x d p L F w):=by
 by_cases c:16<key.size
 ·exact XE h key i a (.inl c)
 ·by_cases f:a=0
  ·exact XE h key i a (.inr (.inl f))
  ·cases e:ER s key.data.toList with
   |none=>exact XE h key i a (.inr (.inr e))
   |some wr=>
    obtain⟨b,g⟩:=wr;cases j:CV b g with
    |some l=>exact Afa h key c a f b g e l j
    |none=>
     by_cases k:b=[]
     ·exact Afb h key c a f b g e k j
     ·exact Ajo h key c a f b g e k j
end
section
variable{len:Mode}{w:jD}{x d p L:Nat}{s:St}{F:Nat->Prop}
def GetPost(r:UInt64×Int)(w:jD)(e:Ending)(w':jD):Prop:=e=gY (gJ #[fP ig (r.1.toNat:Int),fP gZ r.2])/\η w w'
def QG(r:Ms×UInt64×Int)(x d p L:Nat)(F:Nat->Prop)(w:jD)(e:Ending)(w':jD):Prop:=
 e=gY (gJ #[fP ig (r.2.1.toNat:Int),fP gZ r.2.2])/\∃a,jy w' x d p L r.1 a/\AL F a w w'
def jR(h:J6 len w x d p L s F)(key:ByteArray)(aW:key.size<=1000):
 Calls prog 45 #[ptr0 x,fQ key] w (GetPost (GR s key.data.toList) w):=by
 have f:=Ac (Ih h key O1);have i:=RS key;by_cases v:16<key.size
 ·rw[jM v]at f;have k:Hid (GR s key.data.toList=(0,3)):=Ac (by unfold GR;rw[i,jM v]);clear h i;go_enter func45,ntmps45
  go_wp2_with fail
  refine f.mono ?_;rintro a r⟨rfl,rfl⟩
  go_wp2_with fail
  go_ret2;exact⟨by rw[k.out];rfl,(Below.refl _ _)⟩
 ·rw[ku v]at f;obtain⟨aX,aZ,z,C⟩:=h.L0;have aV:16<=L:=Ψ z.fits z.BO;have m:=Ac (KI h key O1);cases e:ER s key.data.toList with
  |none=>
   have k:Hid (GR s key.data.toList=(0,5)):=Ac (by unfold GR;rw[i,ku v,e]);have G:=Ac e;clear h i z C e;go_enter func45,ntmps45
   go_wp2_with fail
   refine f.mono ?_;rintro a r⟨rfl,rfl⟩;clear f
   go_wp2_with fail
   refine m.mono ?_;rintro a r⟨g,c⟩;rw[G.out]at c;replace c:a=gY (gJ #[fD iD 0 0,fD iD 0 0,fP gZ 5]):=c;subst c;have t:=Ac g;clear m g
   go_wp2_with fail
   go_ret2;exact⟨by rw[k.out];rfl,t.out⟩
  |some wr=>
   obtain⟨ab,az⟩:=wr;obtain⟨M,av⟩:=Uf z O1 C e;have aw:=QF e;rw[i]at av aw;replace av:az.length<=32:=O1;replace aw:ab.length<=33:=O1;have N:∀aa∈ab,aa.nd.pre.length<=1000:=λaa aR=>Ω (((Bh _).1 (M aa aR).right).1)
   have S:=Ac N;have G:=Ac e;cases q:CV ab az with
   |none=>
    have k:Hid (GR s key.data.toList=(0,7)):=Ac (by unfold GR;rw[i,ku v,e];simp only;rw[q]);have K:=Ac q;clear h i z C e q M N;go_enter func45,ntmps45
    go_wp2_with fail
    refine f.mono ?_;rintro a r⟨rfl,rfl⟩;clear f
    go_wp2_with fail
    refine m.mono ?_;rintro a r⟨g,c⟩;rw[G.out]at c;obtain⟨aD,ao,aq,rfl,l,o,ar⟩:=c;have E:=Ac l;have D:=Ac o;have t:=Ac g;clear l o g m
    go_wp2_with fail
    refine(H8 E.out O1 S.out D.1 O1).mono ?_;rintro a J⟨n,j⟩;rw[K.out]at j;replace j:a=gY (gJ #[gU #[fD iD 0 0,fP ig 0,fD iD 0 0,fD iD 0 0,fP gZ 0,fP .u8 0,fP gZ 0],fU jw]):=j;subst j;have A:=Ac (τ t.out n);clear n;have u:Hid (η w (J.alloc (iy #[fD iD 0 0,fP ig 0,fD iD 0 0,fD iD 0 0,fP gZ 0,fP .u8 0,fP gZ 0] 176))):=Ac (A.alloc A.size _)
    go_wp2_with fail
    go_ret2;exact⟨by rw[k.out];rfl,u.out⟩
   |some b=>
    have K:=Ac q;by_cases I:b.nd.val=0
    ·have k:Hid (GR s key.data.toList=(0,7)):=Ac (by unfold GR;rw[i,ku v,e];simp only;rw[q];simp only;rw[jM I]);have t1:((b.nd.val.toNat:Int)==0)=true:=by rw[I];rfl
     clear h i z C e q M N;go_enter func45,ntmps45
     go_wp2_with fail
     refine f.mono ?_;rintro a r⟨rfl,rfl⟩;clear f
     go_wp2_with fail
     refine m.mono ?_;rintro a r⟨g,c⟩;rw[G.out]at c;obtain⟨aD,ao,aq,rfl,l,o,ar⟩:=c;have E:=Ac l;have D:=Ac o;have t:=Ac g;clear l o g m
     go_wp2_with fail
     refine(H8 E.out O1 S.out D.1 O1).mono ?_;rintro a J⟨n,j⟩;rw[K.out]at j;obtain⟨aF,aJ,aL,aM,rfl,T⟩:=j;obtain⟨P,U,Q,V,R,W,a,X,Y,Z⟩:=T;simp only[Value.agg.injEq]at a;simp at a;obtain⟨rfl,rfl,rfl,rfl⟩:=a;have A:=Ac (τ t.out n);obtain⟨aE,y,H,B⟩:=newB J 176 [fD P b.nd.pre.length U,fP ig (b.nd.val.toNat:Int),fD Q b.nd.labels.length V,fD R b.nd.kids.length W,fP gZ b.off,fP .u8 (b.label.toNat:Int),fP gZ b.word];have u:=Ac (τ A.out H);obtain⟨ac,ad,ae,ah,al,am,an⟩:=EJ B;rw[y]at ac ad ae ah al am an;rw[y]at u;clear X Y Z n H B y
     go_wp2_with fail
     go_ret2;have ap:=u.out;rw[I]at ap;exact⟨by rw[k.out];rfl,ap⟩
    ·have t1:((b.nd.val.toNat:Int)==0)=jw:=by
      rw[beq_eq_false_iff_ne];intro a;exact I (DN.1 (by simp;omega))
     have k:Hid (GR s key.data.toList=(b.nd.val,0)):=Ac (by unfold GR;rw[i,ku v,e];simp only;rw[q];simp only;rw[ku I]);clear h i z C e q M N;go_enter func45,ntmps45
     go_wp2_with fail
     refine f.mono ?_;rintro a r⟨rfl,rfl⟩;clear f
     go_wp2_with fail
     refine m.mono ?_;rintro a r⟨g,c⟩;rw[G.out]at c;obtain⟨aD,ao,aq,rfl,l,o,ar⟩:=c;have E:=Ac l;have D:=Ac o;have t:=Ac g;clear l o g m
     go_wp2_with fail
     refine(H8 E.out O1 S.out D.1 O1).mono ?_;rintro a J⟨n,j⟩;rw[K.out]at j;obtain⟨aF,aJ,aL,aM,rfl,T⟩:=j;obtain⟨P,U,Q,V,R,W,a,X,Y,Z⟩:=T;simp only[Value.agg.injEq]at a;simp at a;obtain⟨rfl,rfl,rfl,rfl⟩:=a;have A:=Ac (τ t.out n);obtain⟨aE,y,H,B⟩:=newB J 176 [fD P b.nd.pre.length U,fP ig (b.nd.val.toNat:Int),fD Q b.nd.labels.length V,fD R b.nd.kids.length W,fP gZ b.off,fP .u8 (b.label.toNat:Int),fP gZ b.word];have u:=Ac (τ A.out H);obtain⟨ac,ad,ae,ah,al,am,an⟩:=EJ B;rw[y]at ac ad ae ah al am an;rw[y]at u;clear X Y Z n H B y
     go_wp2_with fail
     go_ret2;exact⟨by rw[k.out];rfl,u.out⟩
def Aaf{lf:Int}(h:J6 (.up (MU lf)) w x d p L s F)(key:ByteArray)(bl:key.size<=1000)(E:∀A H a,ER s key.data.toList=iC (A,H)->CV A H=iC a->a.nd.val≠0->¬16<key.size->¬a.nd.kids.length=0):
 Calls prog 96 #[ptr0 x,fQ key] w (QG (GX ⟨.up lf,s⟩ key.data.toList) x d p L F w):=by
 have N:=Ac h;have i:=Ac (Ih h key O1);have k:=RS key;by_cases t:16<key.size
 ·rw[jM t]at i;have c:Hid (GX ⟨.up lf,s⟩ key.data.toList=(⟨.up lf,s⟩,0,3)):=Ac (by unfold GX;rw[k,jM t]);clear h k E;go_enter func96,ntmps96
  go_wp2_with fail
  refine i.mono ?_;rintro b z⟨rfl,rfl⟩
  go_wp2_with fail
  go_ret2;refine⟨by rw[c.out];rfl,F,?_,AL.of_below (Below.refl _ _)⟩;rw[c.out];exact N.below (Below.refl _ _)
 ·rw[ku t]at i;obtain⟨bo,bp,C,I⟩:=h.L0;have bk:16<=L:=Ψ C.fits C.BO;have r:=Ac (KI h key O1);cases g:ER s key.data.toList with
  |none=>
   have c:Hid (GX ⟨.up lf,s⟩ key.data.toList=(⟨.up lf,s⟩,0,5)):=Ac (by unfold GX;rw[k,ku t,g]);have Q:=Ac g;clear h k C I g E;go_enter func96,ntmps96
   go_wp2_with fail
   refine i.mono ?_;rintro b z⟨rfl,rfl⟩;clear i
   go_wp2_with fail
   refine r.mono ?_;rintro b z⟨j,f⟩;rw[Q.out]at f;replace f:b=gY (gJ #[fD iD 0 0,fD iD 0 0,fP gZ 5]):=f;subst f;have m:=Ac j;clear r j
   go_wp2_with fail
   go_ret2;refine⟨by rw[c.out];rfl,F,?_,AL.of_below m.out⟩;rw[c.out];exact N.below m.out
  |some wr=>
   obtain⟨A,H⟩:=wr;obtain⟨P,a1⟩:=Uf C O1 I g;have a2:=QF g;rw[k]at a1 a2;replace a1:H.length<=32:=O1;replace a2:A.length<=33:=O1;have Z:∀aM∈A,aM.nd.pre.length<=1000:=λaM bj=>Ω (((Bh _).1 (P aM bj).right).1)
   have av:=Ac Z;have Q:=Ac g;have a8:=Ac h.sys.lt;cases e:CV A H with
   |none=>
    have c:Hid (GX ⟨.up lf,s⟩ key.data.toList=(⟨.up lf,s⟩,0,7)):=Ac (by unfold GX;rw[k,ku t,g];simp only;rw[e]);have Y:=Ac e;clear h k C I g e P Z E;go_enter func96,ntmps96
    go_wp2_with fail
    refine i.mono ?_;rintro b z⟨rfl,rfl⟩;clear i
    go_wp2_with fail
    refine r.mono ?_;rintro b z⟨j,f⟩;rw[Q.out]at f;obtain⟨a5,aR,aZ,rfl,o,y,a0⟩:=f;have M:=Ac o;have J:=Ac y;have m:=Ac j;clear o y j r
    go_wp2_with fail
    refine(H8 M.out O1 av.out J.1 O1).mono ?_;rintro b S⟨v,l⟩;rw[Y.out]at l;replace l:b=gY (gJ #[gU #[fD iD 0 0,fP ig 0,fD iD 0 0,fD iD 0 0,fP gZ 0,fP .u8 0,fP gZ 0],fU jw]):=l;subst l;have B:=Ac (τ m.out v);clear v;have n:Hid (η w (S.alloc (iy #[fD iD 0 0,fP ig 0,fD iD 0 0,fD iD 0 0,fP gZ 0,fP .u8 0,fP gZ 0] 176))):=Ac (B.alloc B.size _)
    go_wp2_with fail
    go_ret2;refine⟨by rw[c.out];rfl,F,?_,AL.of_below n.out⟩;rw[c.out];exact N.below n.out
   |some a=>
    have az:a∈A:=by
     unfold CV at e;split at e
     ·cases e
     ·rename_i bm bi;split at e
      ·injection e with e;subst e;exact U6 bi
      ·cases e
    have a6:=Ac (P a az);have Y:=Ac e;by_cases G:a.nd.val=0
    ·have c:Hid (GX ⟨.up lf,s⟩ key.data.toList=(⟨.up lf,s⟩,0,7)):=Ac (by unfold GX;rw[k,ku t,g];simp only;rw[e];simp only;rw[jM G]);have t1:((a.nd.val.toNat:Int)==0)=true:=by rw[G];rfl
     clear h k C I g e P Z az E;go_enter func96,ntmps96
     go_wp2_with fail
     refine i.mono ?_;rintro b z⟨rfl,rfl⟩;clear i
     go_wp2_with fail
     refine r.mono ?_;rintro b z⟨j,f⟩;rw[Q.out]at f;obtain⟨a5,aR,aZ,rfl,o,y,a0⟩:=f;have M:=Ac o;have J:=Ac y;have m:=Ac j;clear o y j r
     go_wp2_with fail
     refine(H8 M.out O1 av.out J.1 O1).mono ?_;rintro b S⟨v,l⟩;rw[Y.out]at l;obtain⟨bb,bc,bd,be,rfl,aD⟩:=l;obtain⟨T,ab,U,ac,V,ad,b,aF,aJ,aL⟩:=aD;simp only[Value.agg.injEq]at b;simp at b;obtain⟨rfl,rfl,rfl,rfl⟩:=b;have B:=Ac (τ m.out v);obtain⟨ba,u,R,D⟩:=newB S 176 [fD T a.nd.pre.length ab,fP ig (a.nd.val.toNat:Int),fD U a.nd.labels.length ac,fD V a.nd.kids.length ad,fP gZ a.off,fP .u8 (a.label.toNat:Int),fP gZ a.word];have n:=Ac (τ B.out R);have X:=Ac u;obtain⟨ah,al,am,an,ao,ap,aq⟩:=EJ D;rw[u]at ah al am an ao ap aq;rw[u]at n;clear aF aJ aL v R D u X
     go_wp2_with fail
     go_ret2;have ar:=n.out;rw[G]at ar;refine⟨by rw[c.out];rfl,F,?_,AL.of_below ar⟩;rw[c.out];exact N.below ar
    ·have t1:((a.nd.val.toNat:Int)==0)=jw:=by
      rw[beq_eq_false_iff_ne];intro b;exact G (DN.1 (by simp;omega))
     have bh:=E A H a g e G t;obtain⟨⟨a4,ae⟩,aE⟩:∃a9,MO ⟨.up lf,s⟩ a 0=a9:=⟨_,rfl⟩;have a7:=Ac aE;have c:Hid (GX ⟨.up lf,s⟩ key.data.toList=if ae=0 then(a4,a.nd.val,0)else(a4,0,ae)):=Ac (by unfold GX;rw[k,ku t];simp only[g,e,ku G,ku bh,if_true,aE]);clear aE;have t2:((a.nd.kids.length:Int)==0)=jw:=ζ O1;clear h k C I g e P Z az E;go_enter func96,ntmps96
     go_wp2_with fail
     refine i.mono ?_;rintro b z⟨rfl,rfl⟩;clear i
     go_wp2_with fail
     refine r.mono ?_;rintro b z⟨j,f⟩;rw[Q.out]at f;obtain⟨a5,aR,aZ,rfl,o,y,a0⟩:=f;have M:=Ac o;have J:=Ac y;have m:=Ac j;clear o y j r
     go_wp2_with fail
     refine(H8 M.out O1 av.out J.1 O1).mono ?_;rintro b S⟨v,l⟩;rw[Y.out]at l;obtain⟨bb,bc,bd,be,rfl,aD⟩:=l;obtain⟨T,ab,U,ac,V,ad,b,aF,aJ,aL⟩:=aD;simp only[Value.agg.injEq]at b;simp at b;obtain⟨rfl,rfl,rfl,rfl⟩:=b;have B:=Ac (τ m.out v);obtain⟨ba,u,R,D⟩:=newB S 176 [fD T a.nd.pre.length ab,fP ig (a.nd.val.toNat:Int),fD U a.nd.labels.length ac,fD V a.nd.kids.length ad,fP gZ a.off,fP .u8 (a.label.toNat:Int),fP gZ a.word];have n:=Ac (τ B.out R);have K:=RI (q:=⟨.up lf,s⟩) (N.below n.out) a (a6.out) T U V a.nd.pre.length ab a.nd.labels.length ac a.nd.kids.length ad 0;rw[a7.out]at K;have K:=Ac K;have X:=Ac u;obtain⟨ah,al,am,an,ao,ap,aq⟩:=EJ D;have aX:=Ac D;rw[u]at ah al am an ao ap aq;clear aF aJ aL v R D u
     go_wp2_with fail
     rw[<-X.out];refine K.out.mono ?_;rintro b bq⟨rfl,aW,a3,aw⟩;have W:=Ac (And.intro a3 ((AL.of_below (F:=F) n.out).trans aw));have aV:=aX.touch aw.touch (λbg=>Ψ (a8 _ bg) B.size);obtain⟨br,bs,bt,bw,bx,bA,bB⟩:=EJ aV;clear a3 aw ah al am an ao ap aq K X aV aX;by_cases aa:ae=0
     ·subst aa;rw[jM rfl]at c
      go_wp2_with fail
      go_ret2;refine⟨by rw[c.out];rfl,aW,?_,W.2⟩;rw[c.out];exact W.1
     ·rw[ku aa]at c;have t9:(ae !=0)=true:=by rw[bne_iff_ne];exact aa
      clear aa
      go_wp2_with fail
      go_ret2;refine⟨by rw[c.out];rfl,aW,?_,W.2⟩;rw[c.out];exact W.1
end
def Eh(x d p:Nat)(stamp:UInt64)(vs b:jL)(over:Bool)(a:Int):List jL:=
 [ptr0 d,ptr0 p,ptr0 x,fP ig (stamp.toNat:Int),vs,b,fU over,fP gZ a]
section
variable{w w':jD}{x d p L:Nat}{s:St}{F:Nat->Prop}
def EE.load{len:Mode}(h:EE len w d p L s F)(j:Nat)(e:j<8*L):Calls prog 75 #[ptr0 d,fP gZ ((8*j:Nat):Int)] w λa w'=>a=gY (gJ #[fP ig ((s.ws j).toNat:Int),fP gZ 0])/\w=w':=by
 obtain⟨o,l,n,k,i,own,h,_⟩:=h;obtain⟨⟨b,c,f,m⟩,g⟩:=h.dev;exact VY d L s.ws _ _ b c j w h.L1 g f e
def oq(jb:Nat)(xs:List jL)(h:CB w jb 194 (ptr0 d::xs)):Calls prog 257 #[ptr0 jb] w λa w'=>a=gY (fU jw)/\w=w':=by
 have b:=h.p1;clear h;go_enter func257,ntmps257;go_wp2;go_ret;exact⟨rfl,rfl⟩
end
section
variable{w w':jD}{x d p L:Nat}{s:St}{F:Nat->Prop}
structure UA(w:jD)(jb x d p:Nat)(stamp:UInt64)(vs vd:jL)(over:Bool)(en:Int)(F:Nat->Prop):Prop where
 box:CB w jb 194 (Eh x d p stamp vs vd over en)
 out:¬F jb
end
def WN{d:Type}(er e:Int)(a b c:d):d:=if er=0 then(if e=0 then a else b)else c
def Nr{d:Type}{a b c:d}:WN 0 0 a b c=a:=rfl
def O0{e:Type}{d:Int}{a b c:e}(h:d≠0):WN 0 d a b c=b:=by unfold WN;rw[jM rfl,ku h]
def QH{e:Type}{er d:Int}{a b c:e}(h:er≠0):WN er d a b c=c:=ku h
section
variable{w w':jD}{x d p L:Nat}{s:St}{F:Nat->Prop}
def O4{P m1 z:Dq}{A B:St}{f:Nat->Prop}{g e:jD}{jb:Nat}{stamp:UInt64}{vs n:jL}{i:Int}{a b c o q r:Int}(M:z=m1)(y:B=A)(l:r=c/\o=a/\q=b)(h:J6 P w x d p L s F)(v:UA w jb x d p stamp vs n jw i F)(Q:∀b,F b->b<w.heap.size)(I:η w g)(t:AL F f g e)(j:J6 m1 e x d p L A f)
 (_:CB e (w.heap.size+1) 363 [fP ig 0,fP ig 0])(E:CB e jb 194 (Eh x d p stamp vs n jw i))(R:w.heap.size+1<g.heap.size):
 Ending.returned (gJ #[gU #[fP ig a,fP ig b],fP gZ c])=gY (gJ #[gU #[fP ig o,fP ig q],fP gZ r])/\∃f,J6 z ((e.setCell (Φ (w.heap.size+1)) (fP ig a)).setCell (Δ (w.heap.size+1) 1) (fP ig b)) x d p L B f/\UA ((e.setCell (Φ (w.heap.size+1)) (fP ig a)).setCell (Δ (w.heap.size+1) 1) (fP ig b)) jb x d p stamp vs n jw i f/\AL F f w ((e.setCell (Φ (w.heap.size+1)) (fP ig a)).setCell (Δ (w.heap.size+1) 1) (fP ig b)):=by
 rw[l.1,l.2.1,l.2.2];subst M y;have k:Touch (λm=>m=w.heap.size+1) e ((e.setCell (Φ (w.heap.size+1)) (fP ig a)).setCell (Δ (w.heap.size+1) 1) (fP ig b)):=((Touch.refl (λm=>m=w.heap.size+1) e).setCell (p:=Φ (w.heap.size+1)) (.inl rfl) _).setCell (p:=Δ (w.heap.size+1) 1) (.inl rfl) _;have u:AL F f w e:=(AL.of_below I).trans t;have G:=(u.set (p:=Φ (w.heap.size+1)) (.inr (Nat.le_succ _)) (fP ig a)).set (p:=Δ (w.heap.size+1) 1) (.inr (Nat.le_succ _)) (fP ig b);have N:¬f (w.heap.size+1):=λD=>(t.own _ D).elim (λJ=>absurd (Q _ J) O1) (λy=>O1)
 have S:=h.sys.tabs.lt;have T:=h.box.lt;have K:=v.box.lt;exact⟨rfl,f,⟨j.sys.keep k (λb H C=>N (C▸H)) O1 O1,j.box.touch k (by show x≠_;omega),j.out⟩,⟨E.touch k (by show jb≠_;omega),u.out K v.out⟩,G⟩
def Afc{bR m1 aX br:Dq}(h:J6 bR w x d p L s F){jb:Nat}{stamp:UInt64}{vs bt:jL}{bb:Int}(aV:UA w jb x d p stamp vs bt jw bb F)(y:Wr)(_:y.key.size<=16){v:UInt64}{n e0:Int}(bp:(v.toNat:Int)=n)
 (bo:(e0=7/\n=0/\y.gone=jw)\/(e0=0/\n≠0)){er k:Int}{s1 s2 bs:St}{r:UInt64}
 (bl:∀a,η w a->Calls prog 45 #[ptr0 x,fQ y.key] a (GetPost (v,e0) a))
 (bc:∀a,η w a->Calls prog 260 #[ptr0 d,ptr0 p,rcV ⟨stamp,v,y.gone,y.text⟩] a λf C=>f=gY (gJ #[fP ig (r.toNat:Int),fP gZ er])/\∃Q,EE m1 C d p L s1 Q/\AL F Q a C)
 (be:er=0->∀a Q,J6 m1 a x d p L s1 Q->Calls prog 120 #[ptr0 x,fQ y.key,fP ig (r.toNat:Int)] a λf C=>f=gY (fP gZ k)/\∃R,J6 aX C x d p L s2 R/\AL Q R a C)
 (bd:er=0->k≠0->∀a R,J6 aX a x d p L s2 R->Calls prog 97 #[ptr0 p,fP gZ (Bf r)] a λf C=>(∃v,f=gY v)/\∃a1,EE br C d p L bs a1/\AL R a1 a C):
 Calls prog 258 #[ptr0 jb,OU y] w λf w'=>f=gY (gJ #[gU #[fP ig (WN er k n 0 0),fP ig (WN er k (r.toNat:Int) 0 0)],fP gZ (WN er k 0 k er)])/\
  ∃aD,J6 (WN er k aX br m1) w' x d p L (WN er k s2 bs s1) aD/\UA w' jb x d p stamp vs bt jw bb aD/\AL F aD w w':=by
 obtain⟨g,X⟩:=ε ((w.alloc (iy #[fQ y.key,fQ y.text,fU y.gone] 100)).alloc (iy #[fP ig 0,fP ig 0] 363));have ap:η w g:=by rw[X];exact((Below.refl _ _).alloc (Ae _) _).alloc Θ _
 have P:CB g w.heap.size 100 [fQ y.key,fQ y.text,fU y.gone]:=by rw[X];exact(show(Api _ _).heap[w.heap.size]?=_ by rw[Api,Array.getElem?_push,ku Θ];exact heap_alloc_new _ _)
 have a0:CB g (w.heap.size+1) 363 [fP ig 0,fP ig 0]:=by
  have:=heap_alloc_new (w.alloc (iy #[fQ y.key,fQ y.text,fU y.gone] 100)) (iy #[fP ig 0,fP ig 0] 363);rw[show(w.alloc (iy #[fQ y.key,fQ y.text,fU y.gone] 100)).heap.size=w.heap.size+1 by simp,<-X]at this;exact this
 have V:=aV.box.ξ ap;have am:=Ac (λa(b:η g a)=>bl a (τ ap b));unfold GetPost at am;have a2:=Ac bc;have bB:=Ac be;have bA:=Ac bd;have H:=Ac aV;have I:=Ac h;have bE:=Ac X;have z:=Ac ap;have a5:=Ac P;have a4:=Ac a0;have ad:=P.cell 0;have aw:=P.cell 1;have ae:=P.cell 2;have av:=V.cell 2;have K:=V.cell 0;have q:=V.cell 1;have M:=V.cell 3;unfold Eh at K q av M;simp only[Ag,Am]at ad aw ae K q av M;unfold OU;have bD:=Ac bo;clear bo;simp only[bp]at am;clear h aV ap X P a0 V bl bc be bd;go_enter func258,ntmps258
 go_wp2_with fail
 rw[<-bE.out];have D:Hid (∀ao,F ao->ao<w.heap.size):=Ac (λao bJ=>I.sys.lt ao bJ);have e:=Ac (λa(b:Touch F g a)=>And.intro ((H.out.box.ξ z.out).touch b H.out.out) (And.intro (a5.out.touch b (λY=>absurd (D _ Y) O1)) (a4.touch b (λY=>absurd (D _ Y) O1))));have aF:Hid (∀a,Touch F g a->a.cell? (Δ jb 2)=iC (ptr0 x)/\a.cell? (Φ w.heap.size)=iC (fQ y.key)):=Ac (λa b=>⟨(e a b).1.cell 2,(e a b).2.1.cell 0⟩);clear a5 a4
 go_region_held3(λw'=>w'.cell? (Δ jb 2)=iC (ptr0 x)/\w'.cell? (Φ w.heap.size)=iC (fQ y.key))(first|exact⟨av,ad⟩|exact aF _ (Touch.of_below aq))((first|(go_at_call 45;refine(am _ ((Dr.drew _).below _)).mono ?_;rintro f i⟨rfl,bk⟩;have aq:η g i:=((Dr.drew g).below _).trans bk)))
 have bC:=Ac (Touch.of_below (F:=F) aq);have a3:=Ac aq;obtain⟨A,T,bH⟩:=e i bC.out;replace ad:=T.cell 0;replace aw:=T.cell 1;replace ae:=T.cell 2;replace M:=A.cell 3;replace K:=A.cell 0;replace q:=A.cell 1;unfold Eh at K q M;simp only[Ag,Am]at ad aw ae K q M;have bN:=A.lt;have bO:=T.lt;clear A T bH bk aq av am;rcases bD.out with⟨rfl,Z,ar⟩|⟨rfl,Z⟩
 case' inl=>have a8:=Ac Z;clear Z
 case' inr=>have bX:(n==0)=jw:=(by rw[beq_eq_false_iff_ne];exact Z);clear Z;rcases Bool.eq_false_or_eq_true y.gone with ar|ar
 all_goals(
  have aL:=Ac ar;clear ar;rw[aL.out]at ae
  go_wp2_with fail)
 all_goals(go_region)
 all_goals(
  obtain⟨t,J⟩:=ε ((i.alloc (iy #[fP ig (stamp.toNat:Int),fP ig n,fU y.gone,fQ y.text] 198)).drew);have N:CB t i.heap.size 198 [fP ig (stamp.toNat:Int),fP ig n,fU y.gone,fQ y.text]:=by rw[J];exact heap_alloc_new _ _
  have bj:η i t:=by rw[J];exact((Below.refl _ _).alloc (Ae _) _).drew
  rw[aL.out]at J
  try rw[a8.out]at J
  rw[<-J];have S:η g t:=τ a3.out bj;have a9:=Ac S;have al:=Ac (λa(b:η t a)=>a2 a (τ z.out (τ S b)));unfold rcV at al;simp only[bp]at al;have W:¬F i.heap.size:=λY=>absurd (D _ Y) (Ψ a3.size z.out.size)
  have aJ:Hid (∀w',Touch F t w'->w'.cell? (Φ jb)=iC (ptr0 d)/\w'.cell? (Δ jb 1)=iC (ptr0 p)/\w'.cell? (Φ i.heap.size)=iC (fP ig (stamp.toNat:Int))/\w'.cell? (Δ i.heap.size 1)=iC (fP ig n)/\w'.cell? (Δ i.heap.size 2)=iC (fU y.gone)/\w'.cell? (Δ i.heap.size 3)=iC (fQ y.text)):=Ac (λa b=>⟨(e a ((Touch.of_below S).trans b (λ_ f=>.inl f))).1.cell 0,(e a ((Touch.of_below S).trans b (λ_ f=>.inl f))).1.cell 1,(N.touch b W).cell 0,(N.touch b W).cell 1,(N.touch b W).cell 2,(N.touch b W).cell 3⟩);have bm:=aJ t (Touch.refl _ _);clear J bj N S K q M ad aw ae bN bO W
  go_wp2_with fail
  go_region_held3(λw'=>w'.cell? (Φ jb)=iC (ptr0 d)/\w'.cell? (Δ jb 1)=iC (ptr0 p)/\w'.cell? (Φ i.heap.size)=iC (fP ig (stamp.toNat:Int))/\w'.cell? (Δ i.heap.size 1)=iC (fP ig n)/\w'.cell? (Δ i.heap.size 2)=iC (fU y.gone)/\w'.cell? (Δ i.heap.size 3)=iC (fQ y.text))(first|exact bm|exact aJ _ ((Touch.of_below ((Dr.drew t).below _)).trans aM.touch (λ_ f=>.inl f)))((first|(go_at_call 260;refine(al _ ((Dr.drew t).below _)).mono ?_;rintro f u⟨rfl,aE,bg,aM⟩))))
 all_goals(
  have ah:AL F aE g u:=(AL.of_below (τ a9.out ((Dr.drew t).below _))).trans aM;have bq:J6 m1 u x d p L s1 aE:=(I.below z.out).move bg ah;have U:=Ac ah;have a7:=Ac bq;have aW:=aF u ah.touch;clear aM ah bq bg bm al aJ a9 a2 aL)
 all_goals(
  by_cases E:er=0
  ·subst E;have ba:=Ac (λa(b:η u a)=>bB (by first|rfl|trivial) a aE (a7.below b))
   go_wp2_with fail
   go_region_held3(λw'=>w'.cell? (Δ jb 2)=iC (ptr0 x)/\w'.cell? (Φ w.heap.size)=iC (fQ y.key))(first|exact aW|exact aF _ (U.trans ((AL.of_below ((Dr.drew u).below _)).trans aR)).touch)((first|(go_at_call 120;refine(ba _ ((Dr.drew u).below _)).mono ?_;rintro f ac⟨rfl,bx,bi,aR⟩)))
   all_goals(
    have G:=Ac (U.trans ((AL.of_below ((Dr.drew u).below _)).trans aR));have an:=Ac bi;clear bi aR aW ba;by_cases B:k=0
    ·subst B;have c:=(e ac G.touch).2.2;have aa:=c.cell 0;have ab:=c.cell 1;have f0:=c.frozen 0;have f1:=c.frozen 1;simp only[Ag,Am]at aa ab;have o:=Ac c;clear c
     go_wp2_with fail
     first
     |(have j:=(o.AX 0 (fP ig n)).AX 1 (fP ig (r.toNat:Int))
       have l:=j.cell 0;have m:=j.cell 1;simp only[Ak,Au,Ag,Am]at l m;refine bodyPost_ret (v:=gJ #[gU #[fP ig n,fP ig (r.toNat:Int)],fP gZ 0]) (by simp[results,results258,go_sem,l,m]) rfl ?_;exact O4 Nr Nr ⟨Nr,Nr,Nr⟩ I.out H.out D.out z.out G.out an.out o.out (e ac G.touch).1 (e g (Touch.refl _ _)).2.2.lt)
     |(have j:=(o.AX 0 (fP ig 0)).AX 1 (fP ig (r.toNat:Int))
       have l:=j.cell 0;have m:=j.cell 1;simp only[Ak,Au,Ag,Am]at l m;refine bodyPost_ret (v:=gJ #[gU #[fP ig 0,fP ig (r.toNat:Int)],fP gZ 0]) (by simp[results,results258,go_sem,l,m]) rfl ?_;exact O4 Nr Nr ⟨Nr,Nr.trans a8.out,Nr⟩ I.out H.out D.out z.out G.out an.out o.out (e ac G.touch).1 (e g (Touch.refl _ _)).2.2.lt)
    ·have bS:(k==0)=jw:=ζ B;have bL:IntKind.i64.wrap (r.toNat:Int)=Bf r:=rfl;have a6:=Ac (λa(b:η ac a)=>bA (by first|rfl|trivial) B a bx (an.below b));have A:=(e ac G.touch).1;have q:=A.cell 1;unfold Eh at q;simp only[Ag,Am]at q;clear A
     go_wp2_with fail
     refine(a6 _ (Below.refl _ _)).mono ?_;rintro f bw⟨⟨bY,rfl⟩,bV,bh,az⟩;have bG:=Ac (an.move bh az);have aZ:=Ac (G.trans az);clear a6 bh az q bL;have c:=(e bw aZ.touch).2.2;have aa:=c.cell 0;have ab:=c.cell 1;have f0:=c.frozen 0;have f1:=c.frozen 1;simp only[Ag,Am]at aa ab;have o:=Ac c;clear c
     go_wp2_with fail
     have j:=(o.AX 0 (fP ig 0)).AX 1 (fP ig 0);have l:=j.cell 0;have m:=j.cell 1;simp only[Ak,Au,Ag,Am]at l m;refine bodyPost_ret (v:=gJ #[gU #[fP ig 0,fP ig 0],fP gZ k]) (by simp[results,results258,go_sem,l,m]) rfl ?_;exact O4 (O0 B) (O0 B) ⟨(O0 B),(O0 B),(O0 B)⟩ I.out H.out D.out z.out aZ.out bG.out o.out (e bw aZ.touch).1 (e g (Touch.refl _ _)).2.2.lt
   )
  ·have bS:(er==0)=jw:=ζ E;clear aW;have c:=(e u U.touch).2.2;have aa:=c.cell 0;have ab:=c.cell 1;have f0:=c.frozen 0;have f1:=c.frozen 1;simp only[Ag,Am]at aa ab;have o:=Ac c;clear c
   go_wp2_with fail
   have j:=(o.AX 0 (fP ig 0)).AX 1 (fP ig 0);have l:=j.cell 0;have m:=j.cell 1;simp only[Ak,Au,Ag,Am]at l m;refine bodyPost_ret (v:=gJ #[gU #[fP ig 0,fP ig 0],fP gZ er]) (by simp[results,results258,go_sem,l,m]) rfl ?_;exact O4 (QH E) (QH E) ⟨(QH E),(QH E),(QH E)⟩ I.out H.out D.out z.out U.out a7.out o.out (e u U.touch).1 (e g (Touch.refl _ _)).2.2.lt
  )
end
section
variable{w w':jD}{x d p L:Nat}{s:St}{F:Nat->Prop}
def jS{T:Dq}(h:J6 T w x d p L s F){jb:Nat}{stamp:UInt64}{vs an:jL}{ad:Int}(S:UA w jb x d p stamp vs an jw ad F)(y:Wr){e0:Int}(am:(e0=7/\y.gone=true)\/(e0≠0/\e0≠7))
 (ah:∀a,η w a->Calls prog 45 #[ptr0 x,fQ y.key] a (GetPost (0,e0) a)):
 Calls prog 258 #[ptr0 jb,OU y] w λac w'=>ac=gY (gJ #[gU #[fP ig 0,fP ig 0],fP gZ (if e0=7 then 0 else e0)])/\
  ∃N,J6 T w' x d p L s N/\UA w' jb x d p stamp vs an jw ad N/\AL F N w w':=by
 obtain⟨b,o⟩:=ε ((w.alloc (iy #[fQ y.key,fQ y.text,fU y.gone] 100)).alloc (iy #[fP ig 0,fP ig 0] 363));have H:η w b:=by rw[o];exact((Below.refl _ _).alloc (Ae _) _).alloc Θ _
 have l:CB b w.heap.size 100 [fQ y.key,fQ y.text,fU y.gone]:=by rw[o];exact(χ _ _ Θ).trans (heap_alloc_new _ _)
 have V:CB b (w.heap.size+1) 363 [fP ig 0,fP ig 0]:=by
  have:=heap_alloc_new (w.alloc (iy #[fQ y.key,fQ y.text,fU y.gone] 100)) (iy #[fP ig 0,fP ig 0] 363);rw[show(w.alloc (iy #[fQ y.key,fQ y.text,fU y.gone] 100)).heap.size=w.heap.size+1 by simp,<-o]at this;exact this
 have n:=S.box.ξ H;have P:=Ac (λa(e:η b a)=>ah a (τ H e));unfold GetPost at P;have ab:=Ac am;have t:=Ac S;have z:=Ac h;have aq:=Ac o;have A:=Ac H;have Y:=Ac l;have X:=Ac V;have K:=l.cell 0;have U:=l.cell 1;have M:=l.cell 2;have J:=n.cell 2;have g:=n.cell 0;have i:=n.cell 1;have j:=n.cell 3;unfold Eh at g i J j;simp only[Ag,Am]at K U M g i J j;unfold OU;clear h S H o l V n ah am;go_enter func258,ntmps258
 go_wp2_with fail
 rw[<-aq.out];have D:Hid (∀G,F G->G<w.heap.size):=Ac (λG aw=>z.sys.lt G aw);have c:=Ac (λa(e:Touch F b a)=>And.intro ((t.out.box.ξ A.out).touch e t.out.out) (And.intro (Y.out.touch e (λR=>absurd (D _ R) O1)) (X.touch e (λR=>absurd (D _ R) O1))));have ap:Hid (∀a,Touch F b a->a.cell? (Δ jb 2)=iC (ptr0 x)/\a.cell? (Φ w.heap.size)=iC (fQ y.key)):=Ac (λa e=>⟨(c a e).1.cell 2,(c a e).2.1.cell 0⟩);clear Y X
 go_region_held3(λw'=>w'.cell? (Δ jb 2)=iC (ptr0 x)/\w'.cell? (Φ w.heap.size)=iC (fQ y.key))(first|exact⟨J,K⟩|exact ap _ (Touch.of_below I))((first|(go_at_call 45;refine(P _ ((Dr.drew _).below _)).mono ?_;rintro ac f⟨rfl,ae⟩;have I:η b f:=((Dr.drew b).below _).trans ae)))
 have u:=Ac (Touch.of_below (F:=F) I);have W:=Ac I;obtain⟨B,C,ar⟩:=c f u.out;replace K:=C.cell 0;replace U:=C.cell 1;replace M:=C.cell 2;replace j:=B.cell 3;replace g:=B.cell 0;replace i:=B.cell 1;unfold Eh at g i j;simp only[Ag,Am]at K U M g i j;clear B C ar ae I J P;have Z:Hid (AL F F b f):=Ac (AL.of_below W.out);have aa:Hid (J6 T f x d p L s F):=Ac ((z.below A.out).below W.out);have k:=(c f u.out).2.2;have az:=k.cell 0;have aD:=k.cell 1;have f0:=k.frozen 0;have f1:=k.frozen 1;simp only[Ag,Am]at az aD;have E:=Ac k;clear k g i j;rcases ab.out with⟨rfl,al⟩|⟨av,Q⟩
 ·rw[al]at M;clear al
  go_wp2_with fail
  have m:=(E.AX 0 (fP ig 0)).AX 1 (fP ig 0);have q:=m.cell 0;have r:=m.cell 1;simp only[Ak,Au,Ag,Am]at q r;refine bodyPost_ret (v:=gJ #[gU #[fP ig 0,fP ig 0],fP gZ 0]) (by simp[results,results258,go_sem,q,r]) rfl ?_;exact O4 rfl rfl ⟨rfl,rfl,rfl⟩ z.out t.out D.out A.out Z.out aa.out E.out (c f u.out).1 (c b (Touch.refl _ _)).2.2.lt
 ·have t0:(e0==0)=jw:=ζ av;have t7:(e0==7)=jw:=ζ Q;have t8:(7==e0)=jw:=by rw[beq_eq_false_iff_ne];exact Ne.symm Q
  have ao:Hid ((if e0=7 then 0 else e0)=e0):=Ac (ku Q);clear ab
  go_wp2_with fail
  have m:=(E.AX 0 (fP ig 0)).AX 1 (fP ig 0);have q:=m.cell 0;have r:=m.cell 1;simp only[Ak,Au,Ag,Am]at q r;refine bodyPost_ret (v:=gJ #[gU #[fP ig 0,fP ig 0],fP gZ e0]) (by simp[results,results258,go_sem,q,r]) rfl ?_;exact O4 rfl rfl ⟨by first|rfl|exact ao.out,rfl,rfl⟩ z.out t.out D.out A.out Z.out aa.out E.out (c f u.out).1 (c b (Touch.refl _ _)).2.2.lt
end
