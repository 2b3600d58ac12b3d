import Derived.Deep.RegionHeld3
import Derived.Test.YtekhjimghoibfaaGreatDoorI15
import Derived.Test.YtekhjimghoibfaaGreatDoorI16
set_option linter.defProp false
set_option maxHeartbeats 32000000
set_option maxRecDepth 100000
open Go.Value renaming slice->Ac
open Nat renaming lt_irrefl->Y9,le_refl->Ad
open Go.Lib renaming hid->Aa
open UInt64 renaming toNat_inj->DK
open List renaming mem_of_getLast?->Nw,length_nil->Dp,getElem?_cons_zero->Ag,getElem?_cons_succ->AB,set_cons_zero->Ap,set_cons_succ->Au
open Go.World renaming alloc->Am9
namespace Go.Proofs.YtekhjimghoibfaaGreatDoor
open Go.RowKit
open Go.Proofs.Tryz
section
variable{base jb x d p L:Nat}
def Ahe{w:World}{v:Jm}{G:Nat->Prop}(h:FZ w base jb x d p L v G)(a:Nd)(b e f:Option Addr)(g i j:Nat)(off l:Int)(lb:UInt8)(rest:List UInt8)(A:Option Addr)(c:Nat)(k:UInt64)
 (q:ZK w G (.slice b a.pre.length g) (.int .u64 (a.val.toNat:Int)) (.slice e a.labels.length i) (.slice f a.kids.length j) a)(m:a.pre.length<=100)(n:a.labels.length<=100)(o:a.kids.length<=100)
 (r:Jo w G A rest.length (rest.map bv))(t:rest.length<=c)(u:rest.length<=100)(s:v.made.length<=500)(H:a.pre≠rest):
 Calls prog 103 #[Az jb,.agg #[.slice b a.pre.length g,.int .u64 (a.val.toNat:Int),.slice e a.labels.length i,.slice f a.kids.length j,.int .i64 off,.int .u8 (lb.toNat:Int),.int .i64 l],.slice A rest.length c,.int .u64 (k.toNat:Int)] w (IA (Jd v a rest k) base jb x d p L G w):=by
 have I:=Jh a.pre rest;have J:=FM a.pre rest;by_cases E:common a.pre rest=a.pre.length
 ·refine Ac8 h a b e f g i j off l lb rest A c k q m n o r t u s E ?_;rcases Nat.lt_or_ge (common a.pre rest) rest.length with C|C
  ·exact C
  ·exact absurd (RN _ _ E O) H
 ·have y:common a.pre rest<a.pre.length:=O;by_cases F:common a.pre rest=rest.length
  ·exact grow_end h a b e f g i j off l lb rest A c k q m n o r t u s y F
  ·have B:common a.pre rest<rest.length:=O;by_cases z:(DD v {a with pre:=a.pre.drop (common a.pre rest+1)}).2.2=0
   ·cases D:Jy ⟨a.pre.take (common a.pre rest),0,[],[]⟩ (a.pre.getD (common a.pre rest) 0) (DD v {a with pre:=a.pre.drop (common a.pre rest+1)}).2.1
    ·exact Akq h a b e f g i j off l lb rest A c k q m n o r t u s y B z D
    ·exact Ahc h a b e f g i j off l lb rest A c k q m n o r t u s y B z D
   ·exact Ahd h a b e f g i j off l lb rest A c k q m n o r t u s y B z
end
def FZ.done{w e w':World}{base jb x d p L:Nat}{j:Jm}{F G c:Nat->Prop}(h:FZ w' base jb x d p L j c)(m:AP G c e w')(i:η w e)(g:∀a,G a->F a\/w.heap.size<=a):∃b,Yj w' x d p L j.s b/\AP F b w w':=by
 obtain⟨b,q,n,k⟩:=h;have o:=i.size;refine⟨b,n.ix,(Touch.of_below i).trans m.touch g,λa l=>?_⟩;rcases m.own a ((k a).2 (.inl l))with f|f
 ·exact g a f
 ·exact .inr O
def kR{w e:World}{x d p L:Nat}{q:Ms}{F:Nat->Prop}(h:Yj e x d p L q F)(n:e=w.alloc (.cells #[Az x,.slice none 0 0] 202))(hF:∀a,F a->a<w.heap.size)(o:x<w.heap.size)(m:0<w.heap.size/\1<w.heap.size):
 FZ e w.heap.size w.heap.size x d p L ⟨q,[]⟩ (λa=>F a\/a=w.heap.size):=by
 have g:(Ac none 0 0).ownBlock=none:=rfl;have r:e.ownsRow w.heap.size 3 1 (.slice none 0 0) 0 []:=World.ownsRow_nil _ _ _ _;have i:CQ e w.heap.size 202 [Az x,.slice none 0 0]:=n▸heap_alloc_new _ _;have j:¬F w.heap.size:=λk=>Y9 _ (hF _ k)
 refine⟨F,.slice none 0 0,⟨h,i,r,j,Ad _,o,m,(by rw[g];exact λf=>nomatch f),λa c=>(by rw[g]at c;exact nomatch c),λs l=>nomatch l⟩,λa=>⟨λc=>c.elim .inl (λf=>.inr (.inl f)),λc=>?_⟩⟩;rcases c with b|b|b
 ·exact .inl b
 ·exact .inr b
 ·rw[g]at b;exact nomatch b
def Aau(r:St×Int)(x d p L:Nat)(F:Nat->Prop)(w:World)(e:Ending)(w':World):Prop:=
 e=.returned (.int .i64 r.2)/\∃a,Ix w' x d p L r.1 a/\AP F a w w'
def KY(r:Ms×Int)(x d p L:Nat)(F:Nat->Prop)(w:World)(e:Ending)(w':World):Prop:=
 e=.returned (.int .i64 r.2)/\∃a,Yj w' x d p L r.1 a/\AP F a w w'
section
variable{w:World}{x d p L:Nat}{s:St}{F:Nat->Prop}{lf:Int}
def QF(key:ByteArray):key.data.toList.length=key.size:=by rw[Array.length_toList];rfl
def WL(h:IU (.up (MU lf)) w x d p L s F)(key:ByteArray)(u:key.size<=1000)(e:UInt64)(j:16<key.size\/e=0\/EY s key.data.toList=none):
 Calls prog 60 #[Az x,.string key,.int .u64 (e.toNat:Int)] w (KY (Na ⟨.up lf,s⟩ key.data.toList e) x d p L F w):=by
 have b:=Aa (Ih h key O);have l:=Aa h;have g:=QF key;by_cases a:16<key.size
 ·have c:Hid (Na ⟨.up lf,s⟩ key.data.toList e=(⟨.up lf,s⟩,3)):=Aa (by unfold Na;rw[g,if_pos a]);rw[if_pos a]at b;clear h j a g;go_enter func60,ntmps60
  go_wp2_with fail
  refine b.out.mono ?_;rintro i n⟨rfl,rfl⟩;clear b
  go_wp2_with fail
  go_ret;refine⟨by rw[c.out];rfl,F,?_,AP.refl _ _⟩;rw[c.out];exact l.out
 ·rw[if_neg a]at b;by_cases f:e=0
  ·have c:Hid (Na ⟨.up lf,s⟩ key.data.toList e=(⟨.up lf,s⟩,2)):=Aa (by unfold Na;rw[g,if_neg a,if_pos f]);subst f;clear h j a g;go_enter func60,ntmps60
   go_wp2_with fail
   refine b.out.mono ?_;rintro i n⟨rfl,rfl⟩;clear b
   go_wp2_with fail
   go_ret;refine⟨by rw[c.out];rfl,F,?_,AP.refl _ _⟩;rw[c.out];exact l.out
  ·have m:=(j.resolve_left a).resolve_left f;have c:Hid (Na ⟨.up lf,s⟩ key.data.toList e=(⟨.up lf,s⟩,5)):=Aa (by unfold Na;rw[g,if_neg a,if_neg f];simp only[m]);have q:=Aa (Kw h key u);have t:=Aa m;have t1:((e.toNat:Int)==0)=false:=by
    rw[beq_eq_false_iff_ne];intro i;exact f (DK.1 (by simp;omega))
   clear h j a f g m;go_enter func60,ntmps60
   go_wp2_with fail
   refine b.out.mono ?_;rintro i n⟨rfl,rfl⟩;clear b
   go_wp2_with fail
   refine q.out.mono ?_;rintro i n⟨r,k⟩;rw[t.out]at k;replace k:i=.returned (.tuple #[.slice none 0 0,.slice none 0 0,.int .i64 5]):=k;subst k;have o:=Aa r;clear r q
   go_wp2_with fail
   go_ret;refine⟨by rw[c.out];rfl,F,?_,AP.of_below o.out⟩;rw[c.out];exact l.out.below o.out
end
def ag{s:St}:∀(f:Nat)(g:UInt64)(rest:List UInt8)(e:UInt8)(j:Int)(c b:List Pl)(i:List UInt8),Et s f g rest e j c=some (b,i)->b.length<=c.length+f
 |0,g,rest,e,j,c,b,i,h=>by
  rw[Et]at h;injection h with h
  injection h with a d
  subst a;omega
 |f+1,g,rest,e,j,c,b,i,h=>by
  rw[Et]at h;split at h
  ·injection h with h
   injection h with a d
   subst a;omega
  ·split at h
   ·cases h
   ·split at h
    ·injection h with h
     injection h with a d
     subst a;simp
    ·split at h
     ·injection h with h
      injection h with a d
      subst a;simp
     ·have:=ag f _ _ _ _ _ _ _ h;simp at this;omega
def PT{s:St}{key:List UInt8}{a:List Pl}{rest:List UInt8}(h:EY s key=some (a,rest)):a.length<=2*key.length+1:=by
 have:=ag _ _ _ _ _ _ _ _ h;simpa using this
def Q8.below{w w':World}{base:Nat}{A:Option Addr}{l:List UInt8}(h:Q8 w base A l)(k:η w w'):Q8 w' base A l:=(CZ.of_below k).rs h
section
variable{w:World}{x d p L:Nat}{s:St}{F:Nat->Prop}{lf:Int}
def Ac9(h:IU (.up (MU lf)) w x d p L s F)(key:ByteArray)(l:¬16<key.size)(e:UInt64)(o:e≠0)(g:List Pl)(rest:List UInt8)(f:EY s key.data.toList=some (g,rest))(a:Pl)(b:CX g rest=some a):
 Calls prog 60 #[Az x,.string key,.int .u64 (e.toNat:Int)] w (KY (Na ⟨.up lf,s⟩ key.data.toList e) x d p L F w):=by
 have k:=Aa (Ih h key O);rw[if_neg l]at k;have ap:=Aa h;have n:=QF key;obtain⟨bc,bd,j,y⟩:=h.L0;have a0:16<=L:=Ψ j.fits j.BQ;obtain⟨i,R⟩:=SQ j O y f;have T:=PT f;rw[n]at R T;replace R:rest.length<=32:=O;replace T:g.length<=33:=O;have Q:∀pl∈g,pl.nd.pre.length<=1000:=λpl aw=>Ω (((Bv _).1 (i pl aw).right).1)
 have a1:=Aa i;have aM:=Aa Q;have G:=Aa (Kw h key O);have ar:=Aa f;have ba:=h.box.lt;have bh:=Aa h.sys.tabs.lt;have a2:=Aa h.sys.lt;have aq:=Aa b;have M:a∈g:=by
  unfold CX at b;split at b
  ·cases b
  ·rename_i bb av;split at b
   ·injection b with b;subst b;exact Nw av
   ·cases b
 have aG:=Aa (i a M);have B:Hid (Na ⟨.up lf,s⟩ key.data.toList e=LW ⟨.up lf,s⟩ a e):=Aa (by unfold Na;rw[n,if_neg l,if_neg o];simp only[f,b]);clear b M;have t1:((e.toNat:Int)==0)=false:=by
  rw[beq_eq_false_iff_ne];intro c;exact o (DK.1 (by simp;omega))
 clear h l o f n j y i Q;go_enter func60,ntmps60
 go_wp2_with fail
 refine k.out.mono ?_;rintro c aH⟨rfl,rfl⟩;clear k
 go_wp2_with fail
 refine G.out.mono ?_;rintro c aH⟨H,N⟩;rw[ar.out]at N;obtain⟨be,aR,a6,rfl,E,S,a9⟩:=N;have ao:=Aa E;have an:=Aa S;have al:=Aa H;clear E S H G
 go_wp2_with fail
 refine(Hw ao.out O aM.out an.out.1 O).mono ?_;rintro c aL⟨I,P⟩;rw[aq.out]at P;obtain⟨a4,a5,a7,a8,rfl,az⟩:=P;obtain⟨r,V,t,W,u,X,c,aB,aD,aE⟩:=az;simp only[Value.agg.injEq]at c;simp at c;obtain⟨rfl,rfl,rfl,rfl⟩:=c;have am:=Aa (τ al.out I);obtain⟨a3,m,J,v⟩:=Fz aL 197 [.slice r a.nd.pre.length V,.int .u64 (a.nd.val.toNat:Int),.slice t a.nd.labels.length W,.slice u a.nd.kids.length X,.int .i64 a.off,.int .u8 (a.label.toNat:Int),.int .i64 a.word];have z:=Aa (τ am.out J);have C:=Aa (QB (q:=⟨.up lf,s⟩) (ap.out.below z.out) a (aG.out) r t u a.nd.pre.length V a.nd.labels.length W a.nd.kids.length X e);have D:=Aa m;obtain⟨Y,Z,aa,ab,ac,ad,af⟩:=EN v;rw[m]at Y Z aa ab ac ad af;clear aB aD aE I J v m
 go_wp2_with fail
 rw[<-D.out];refine C.out.mono ?_;rintro c bg⟨rfl,ah,U,K⟩;have A:=Aa (And.intro U ((AP.of_below (F:=F) z.out).trans K));clear U K Y Z aa ab ac ad af C D
 go_wp2_with fail
 go_ret;refine⟨by rw[B.out];rfl,ah,?_,A.out.2⟩;rw[B.out];exact A.out.1
def Ada(h:IU (.up (MU lf)) w x d p L s F)(key:ByteArray)(C:¬16<key.size)(c:UInt64)(K:c≠0)(f:List Pl)(rest:List UInt8)(j:EY s key.data.toList=some (f,rest))(M:f=[])(J:CX f rest=none):
 Calls prog 60 #[Az x,.string key,.int .u64 (c.toNat:Int)] w (KY (Na ⟨.up lf,s⟩ key.data.toList c) x d p L F w):=by
 have v:=Aa (Ih h key O);rw[if_neg C]at v;have a8:=Aa h;have G:=QF key;obtain⟨bL,bN,t,S⟩:=h.L0;have bp:16<=L:=Ψ t.fits t.BQ;obtain⟨A,aD⟩:=SQ t O S j;have aH:=PT j;rw[G]at aD aH;replace aD:rest.length<=32:=O;replace aH:f.length<=33:=O;have az:∀pl∈f,pl.nd.pre.length<=1000:=λpl be=>Ω (((Bv _).1 (A pl be).right).1)
 have br:=Aa A;have bm:=Aa az;have ac:=Aa (Kw h key O);have bb:=Aa j;have bE:=h.box.lt;have bo:=Aa h.sys.tabs.lt;have aa:=Aa h.sys.lt;have a9:=Aa J;obtain⟨⟨n,r,l⟩,I⟩:∃bj,JA (rest.length+1) ⟨⟨.up lf,s⟩,[]⟩ rest c=bj:=⟨_,rfl⟩;have W:=Aa I;have a1:f.length=0:=by rw[M];rfl
 have V:Hid (Na ⟨.up lf,s⟩ key.data.toList c=Ey n l 72 r []):=Aa (by unfold Na;rw[G,if_neg C,if_neg K,j];simp only;rw[J,M];simp only[List.getLast?_nil];rw[I]);clear J M I;have t1:((c.toNat:Int)==0)=false:=by
  rw[beq_eq_false_iff_ne];intro e;exact K (DK.1 (by simp;omega))
 clear h C K j G t S A az;go_enter func60,ntmps60
 go_wp2_with fail
 refine v.out.mono ?_;rintro e aL⟨rfl,rfl⟩;clear v
 go_wp2_with fail
 refine ac.out.mono ?_;rintro e aL⟨ao,aw⟩;rw[bb.out]at aw;obtain⟨bl,Q,bc,rfl,Z,aE,bh⟩:=aw;have Y:=Aa Z;have X:=Aa aE;have a3:=Aa ao;clear Z aE ao ac
 go_wp2_with fail
 refine(Hw Y.out O bm.out X.out.1 O).mono ?_;rintro e aM⟨E,m⟩;rw[a9.out]at m;replace m:e=.returned (.tuple #[.agg #[.slice none 0 0,.int .u64 0,.slice none 0 0,.slice none 0 0,.int .i64 0,.int .u8 0,.int .i64 0],.bool false]):=m;subst m;obtain⟨R,al,bi⟩:∃R al,bl=.slice R f.length al:=by
  obtain⟨bT,H,_⟩:=Y.out;rcases H.2 with⟨B,bd⟩|⟨bx,bt,bw,B,_⟩
  ·exact⟨none,0,by rw[B,bd]⟩
  ·exact⟨_,_,B⟩
 subst bi;have a4:=Aa (τ a3.out E);obtain⟨b,N,u,-⟩:=Fz aM 197 [.slice none 0 0,.int .u64 0,.slice none 0 0,.slice none 0 0,.int .i64 0,.int .u8 0,.int .i64 0];obtain⟨aR,P,z,-⟩:=Fz b 202 [Az x,.slice none 0 0];have aG:b.heap.size=aM.heap.size+1:=by rw[N];simp
 have T:=Aa (τ a4.out u);have U:=Aa (τ T.out z);have bB:=T.out.size;have an:=kR (q:=⟨.up lf,s⟩) (a8.out.below U.out) P (λa D=>Ω (aa.out a D)) O (Ω bo.out);have a6:Hid (∀a,(λa=>F a\/a=b.heap.size) a->F a\/w.heap.size<=a):=Aa (λa D=>D.imp id (λe=>O));have ab:η aL b:=τ E u;have o:=Q8.below X.out ab;have aB:Jo aR (λa=>F a\/a=b.heap.size) Q rest.length (rest.map bv):=by
  refine Jo.below (w:=b) ⟨o.1,λbg bs k i=>?_⟩ z;obtain⟨bR,bS,am,bA,_⟩:=o.1.2 bg;rw[am]at k;injection k with k
  subst k;rcases i with i|i
  ·have:=(o.2 _ _ am).1;have:=aa.out _ i;simp only at this;omega
  ·simp only at i;omega
 have g:=Vx (rest.length+1) aR ⟨⟨.up lf,s⟩,[]⟩ _ rest c Q bc an aB bh O O (by simp only[Dp];omega);rw[W.out]at g;have g:=Aa g;have a7:=Aa N;have bk:=Aa P;have ad:=Aa aG;have av:=LZ (rest.length+1) ⟨⟨.up lf,s⟩,[]⟩ rest c;rw[W.out]at av;simp only[Dp]at av;rw[a1]at*;clear E u z aG an aB o ab N P
 go_wp2_with fail
 rw[<-a7.out,<-bk.out,<-ad.out];refine g.out.mono ?_;rintro e a0⟨rfl,a2,aq,af⟩;have ap:Calls prog 102 #[Az b.heap.size,.int .i64 l,.int .i64 72,.int .u64 (r.toNat:Int),.slice none 0 0] a0 (QD (Ey n l 72 r []) b.heap.size b.heap.size x d p L n a2 a0):=
  QE aq l 72 9 rfl O r none 0 [] Jo.nil (λbO H=>nomatch H) (Nat.zero_le _) (by show n.made.length<=1000;omega)
 have y:=Aa ap;have ba:=Aa af;clear ap af aq g
 go_wp2_with fail
 first
  |refine y.out.mono ?_
  |(rw[<-ad.out];refine y.out.mono ?_)
 rintro e bV⟨rfl,bq,ar,ah⟩;have a5:=Aa (ar.done (ba.out.trans ah) U.out a6.out);clear ar ah y
 go_wp2_with fail
 go_ret;refine⟨by rw[V.out];rfl,?_⟩;rw[V.out];exact a5.out
end
def ZK.mono{w:World}{G F:Nat->Prop}{a b c d:Value}{e:Nd}(h:ZK w G a b c d e)(k:∀b,b<w.heap.size->F b->G b):ZK w F a b c d e:=by
 obtain⟨f,j,g,l,i,m,n,o,p,q,u,r,s,t⟩:=h;exact⟨f,j,g,l,i,m,n,o,p,q,u,r.mono k,s.mono k,t.mono k⟩
def yh(a:Jm)(x:Nd)(rest:List UInt8)(f:UInt64):(Jd a x rest f).1.made.length<=a.made.length+rest.length+4:=by
 have j:=λn p=>LZ (rest.length+1) n p f
 have i:=Iu a {x with pre:=x.pre.drop (common x.pre rest+1)};unfold Jd;split
 ·have:=j a (rest.drop (common x.pre rest+1));split;rename_i b c d e;rw[e]at this;have g:=OQ b x (rest.getD (common x.pre rest) 0) c d;simp only at this;omega
 ·split;rename_i b c d e;rw[e]at i;simp only at i;split
  ·have g:=OQ b ⟨x.pre.take (common x.pre rest),f,[],[]⟩ (x.pre.getD (common x.pre rest) 0) c d;omega
  ·split
   ·simp only;omega
   ·split
    ·split;rename_i o k l m;have:=j b (rest.drop (common x.pre rest+1));rw[m]at this;have g:=OQ o (Ib ⟨x.pre.take (common x.pre rest),0,[],[]⟩ (x.pre.getD (common x.pre rest) 0) c) (rest.getD (common x.pre rest) 0) k l;simp only at this;omega
    ·simp only;omega
section
variable{w:World}{x d p L:Nat}{s:St}{F:Nat->Prop}{lf:Int}
def Ahg(h:IU (.up (MU lf)) w x d p L s F)(key:ByteArray)(an:¬16<key.size)(l:UInt64)(av:l≠0)(c:List Pl)(rest:List UInt8)(v:EY s key.data.toList=some (c,rest))(bw:c≠[])(j:CX c rest=none):
 Calls prog 60 #[Az x,.string key,.int .u64 (l.toNat:Int)] w (KY (Na ⟨.up lf,s⟩ key.data.toList l) x d p L F w):=by
 have ad:=Aa (Ih h key O);rw[if_neg an]at ad;have b7:=Aa h;have aq:=QF key;obtain⟨c2,c3,V,aR⟩:=h.L0;have cF:16<=L:=Ψ V.fits V.BQ;obtain⟨H,bq⟩:=SQ V O aR v;have bA:=PT v;rw[aq]at bq bA;replace bq:rest.length<=32:=O;replace bA:c.length<=33:=O;have bo:∀pl∈c,pl.nd.pre.length<=1000:=λpl M=>Ω (((Bv _).1 (H pl M).right).1)
 have cK:=Aa H;have cD:=Aa bo;have a7:=Aa (Kw h key O);have cb:=Aa v;have c1:=h.box.lt;have cE:=Aa h.sys.tabs.lt;have af:=Aa h.sys.lt;have cR:0<c.length:=List.length_pos_iff.2 bw;obtain⟨a,ar⟩:∃a,c[c.length-1]' O=a:=⟨_,rfl⟩;have K:c.getLast?=some a:=by rw[List.getLast?_eq_getElem?,List.getElem?_eq_getElem O,ar]
 have bk:a.nd.pre≠rest:=by
  intro e;unfold CX at j;rw[K]at j;simp only at j;rw[if_pos e]at j;cases j
 have az:=Aa (H a (Nw K));have b1:=Aa ar;have b2:=Aa bk;have ca:=Aa j;obtain⟨⟨S,U,I⟩,Q⟩:∃ct,Jd ⟨⟨.up lf,s⟩,[]⟩ a.nd rest l=ct:=⟨_,rfl⟩;have b3:=Aa Q;have a3:Hid (Na ⟨.up lf,s⟩ key.data.toList l=Ey S I a.word U [a.off]):=Aa (by unfold Na;rw[aq,if_neg an,if_neg av,v];simp only;rw[j,K];simp only;rw[Q]);have bj:=yh ⟨⟨.up lf,s⟩,[]⟩ a.nd rest l;rw[Q]at bj;simp only[Dp]at bj;clear j Q ar K bk;have t1:((l.toNat:Int)==0)=false:=by
  rw[beq_eq_false_iff_ne];intro e;exact av (DK.1 (by simp;omega))
 clear h an av v aq V aR H bo;go_enter func60,ntmps60
 go_wp2_with fail
 refine ad.out.mono ?_;rintro e aB⟨rfl,rfl⟩;clear ad
 go_wp2_with fail
 refine a7.out.mono ?_;rintro e aB⟨bg,bm⟩;rw[cb.out]at bm;obtain⟨c8,aE,cc,rfl,a6,br,ck⟩:=bm;have a5:=Aa a6;have a4:=Aa br;have bS:=Aa bg;clear a6 br bg a7
 go_wp2_with fail
 refine(Hw a5.out O cD.out a4.out.1 O).mono ?_;rintro e B⟨J,N⟩;rw[ca.out]at N;replace N:e=.returned (.tuple #[.agg #[.slice none 0 0,.int .u64 0,.slice none 0 0,.slice none 0 0,.int .i64 0,.int .u8 0,.int .i64 0],.bool false]):=N;subst N;obtain⟨bb,cM,rfl,cQ,cP,cf,be⟩:=a5.out.at bw;obtain⟨a8,b,cL,cN,z⟩:=be (c.length-1) O;rw[show c[c.length-1]' O=a from b1.out]at z;have bT:=Aa (τ bS.out J);obtain⟨g,R,G,-⟩:=Fz B 197 [.slice none 0 0,.int .u64 0,.slice none 0 0,.slice none 0 0,.int .i64 0,.int .u8 0,.int .i64 0];obtain⟨n,y,r,-⟩:=Fz g 202 [Az x,.slice none 0 0];have bs:g.heap.size=B.heap.size+1:=by rw[R];simp
 have a0:=Aa (τ bT.out G);have a1:=Aa (τ a0.out r);have cV:=a0.out.size;have ao:=kR (q:=⟨.up lf,s⟩) (b7.out.below a1.out) y (λb u=>Ω (af.out b u)) O (Ω cE.out);have bW:Hid (∀b,(λb=>F b\/b=g.heap.size) b->F b\/w.heap.size<=b):=Aa (λb u=>u.imp id (λe=>O));have ah:η aB g:=τ J G;have T:=Q8.below a4.out ah;have t0:((c.length:Int)==0)=false:=ζ O;obtain⟨m,M⟩:=ε (c.length-1);have cW:IntKind.i64.wrap ((c.length:Int) -1)=(m:Int):=(wrap64 _ O O).trans O;have cX:decide ((m:Int)<(c.length:Int))=true:=decide_eq_true O;have cY:m<c.length:=O;have c0:(m:Int)<(c.length:Int):=O;have a9:η aB n:=τ ah r;obtain⟨C,W,D,X,E,Y,e,cn,co,cp⟩:=z.nd;simp only[Value.agg.injEq]at e;simp at e;obtain⟨rfl,rfl,rfl,rfl⟩:=e;have k:∀A Z,[Ac C a.nd.pre.length W,.int .u64 (a.nd.val.toNat:Int),.slice D a.nd.labels.length X,.slice E a.nd.kids.length Y,.int .i64 a.off,.int .u8 (a.label.toNat:Int),.int .i64 a.word][A]?=some Z->n.cell? (Δ bb (m*7+A))=some Z:=λA Z cg=>by
  rw[a9.cell (p:=Δ bb (m*7+A)) cf,Nat.mul_comm,M];exact z.cells A Z cg
 have aD:=k 0 _ rfl;have bB:=k 1 _ rfl;have bE:=k 2 _ rfl;have bL:=k 3 _ rfl;have bN:=k 4 _ rfl;have bO:=k 5 _ rfl;have bR:=k 6 _ rfl;rw[Nat.add_zero]at aD;have bl:ZK n (λb=>F b\/b=g.heap.size) (.slice C a.nd.pre.length W) (.int .u64 (a.nd.val.toNat:Int)) (.slice D a.nd.labels.length X) (.slice E a.nd.kids.length Y) a.nd:=by
  have cr:ZK B F _ _ _ _ a.nd:=ZK.Ar6 (z.nd.below J) (λb u _ ce=>Ω (af.out b ce));have cs:ZK B (λb=>F b\/b=g.heap.size) _ _ _ _ a.nd:=cr.mono (λb u f=>f.elim id (λe=>by first|omega|(simp only at e;omega)));exact cs.moved (AP.of_below (τ G r))
 have bp:Jo n (λb=>F b\/b=g.heap.size) aE rest.length (rest.map bv):=by
  refine Jo.below (w:=g) ⟨T.1,λci a8 i f=>?_⟩ r;obtain⟨c6,c7,ba,cU,_⟩:=T.1.2 ci;rw[ba]at i;injection i with i
  subst i;rcases f with f|f
  ·have:=(T.2 _ _ ba).1;have:=af.out _ f;simp only at this;omega
  ·simp only at f;omega
 obtain⟨c9,bx,t,aG⟩:=Fz n 197 [.slice C a.nd.pre.length W,.int .u64 (a.nd.val.toNat:Int),.slice D a.nd.labels.length X,.slice E a.nd.kids.length Y,.int .i64 a.off,.int .u8 (a.label.toNat:Int),.int .i64 a.word];have P:=az.out;have cG:=((Bv _).1 P.right).1;have cH:=P.kids;have cI:=P.labels;have o:=Ahe (ao.below t) a.nd C D E W X Y a.off a.word a.label rest aE cc l (bl.moved (AP.of_below t)) O O O (bp.below t) ck O Θ b2.out;rw[b3.out]at o;have o:=Aa o;have bX:=Aa ao.lt;have b4:=Aa R;have cv:=Aa y;have b5:=Aa bx;have al:=Aa bs;have bt:n.heap.size=B.heap.size+2:=by rw[y];simp;omega
 have cq:=Aa bt;have b9:=Aa (τ a1.out t);have b0:=Aa aG;rw[y,R]at aD bB bE bL bN bO bR;clear J G r bs bt ao bp T ah a9 R y bx t aG k z be cn co cp bl M P
 go_wp2_with fail
 rw[<-b4.out,<-cv.out,<-b5.out,<-al.out];refine o.out.mono ?_;rintro e aa⟨rfl,aM,ap,am⟩;have aH:=b0.out.touch am.touch (λf=>Ω (bX.out _ f));obtain⟨ab,aw,ac,-⟩:=Fz aa 3 [.int .i64 a.off];have aL:CQ ab aa.heap.size 3 [zv a.off]:=aw▸heap_alloc_new _ _;have bd:Jo ab aM (some (Φ aa.heap.size)) 1 ([a.off].map zv):=⟨aL.rd,λ_ a8 i f=>by
  injection i with i
  subst i;exact absurd (ap.lt _ f) (Y9 _)⟩
 have bh:Calls prog 102 #[Az g.heap.size,.int .i64 I,.int .i64 a.word,.int .u64 (U.toNat:Int),.slice (some (Φ aa.heap.size)) 1 1] ab (QD (Ey S I a.word U [a.off]) g.heap.size g.heap.size x d p L S aM ab):=by
  obtain⟨cl,cd,ch⟩:=az.out.word;obtain⟨c4,cS,cT⟩:=az.out.off;exact QE (ap.below ac) I a.word cl cd ch U _ 1 [a.off] bd (λc5 cj=>by rw[List.mem_singleton]at cj;omega) Θ (by show S.made.length<=1000;omega)
 have a2:=Aa bh;have cm:=Aa (am.trans (AP.of_below ac));have b6:=Aa aw;have b8:=Aa aH;clear aD bB bE bL bN bO bR am ap ac aL bd bh aw o aH;obtain⟨cw,cx,cy,cz,cA,cB,cC⟩:=EN b8.out;rw[cq.out]at cw cx cy cz cA cB cC;rw[al.out]
 go_wp2_with fail
 rw[<-b6.out,<-al.out];refine a2.out.mono ?_;rintro e da⟨rfl,cJ,bi,bc⟩;have bV:=Aa (bi.done (cm.out.trans bc) b9.out bW.out);clear bi bc a2
 go_wp2_with fail
 go_ret;refine⟨by rw[a3.out];rfl,?_⟩;rw[a3.out];exact bV.out
def ai(h:IU (.up (MU lf)) w x d p L s F)(key:ByteArray)(i:key.size<=1000)(a:UInt64):
 Calls prog 60 #[Az x,.string key,.int .u64 (a.toNat:Int)] w (KY (Na ⟨.up lf,s⟩ key.data.toList a) x d p L F w):=by
 by_cases c:16<key.size
 ·exact WL h key i a (.inl c)
 ·by_cases f:a=0
  ·exact WL h key i a (.inr (.inl f))
  ·cases e:EY s key.data.toList with
   |none=>exact WL h key i a (.inr (.inr e))
   |some wr=>
    obtain⟨b,g⟩:=wr;cases j:CX b g with
    |some l=>exact Ac9 h key c a f b g e l j
    |none=>
     by_cases k:b=[]
     ·exact Ada h key c a f b g e k j
     ·exact Ahg h key c a f b g e k j
def gZ(h:Ix w x d p L s F)(key:ByteArray)(b:key.size<=1000)(a:UInt64):
 Calls prog 60 #[Az x,.string key,.int .u64 (a.toNat:Int)] w (Aau (JD s key.data.toList a) x d p L F w):=by
 have:=ai (lf:= -1) h key b a;rw[Zz]at this;exact this
end
section
variable{len:Mode}{w:World}{x d p L:Nat}{s:St}{F:Nat->Prop}
def GetPost(r:UInt64×Int)(w:World)(e:Ending)(w':World):Prop:=e=.returned (.tuple #[.int .u64 (r.1.toNat:Int),.int .i64 r.2])/\η w w'
def Akr(r:St×UInt64×Int)(x d p L:Nat)(F:Nat->Prop)(w:World)(e:Ending)(w':World):Prop:=
 e=.returned (.tuple #[.int .u64 (r.2.1.toNat:Int),.int .i64 r.2.2])/\∃a,Ix w' x d p L r.1 a/\AP F a w w'
def RQ(r:Ms×UInt64×Int)(x d p L:Nat)(F:Nat->Prop)(w:World)(e:Ending)(w':World):Prop:=
 e=.returned (.tuple #[.int .u64 (r.2.1.toNat:Int),.int .i64 r.2.2])/\∃a,Yj w' x d p L r.1 a/\AP F a w w'
def WM(h:IU len w x d p L s F)(key:ByteArray)(a5:key.size<=1000):
 Calls prog 81 #[Az x,.string key] w (GetPost (GH s key.data.toList) w):=by
 have a3:=Aa h;have g:=Aa (Ih h key O);have j:=QF key;by_cases y:16<key.size
 ·rw[if_pos y]at g;have l:Hid (GH s key.data.toList=(0,3)):=Aa (by unfold GH;rw[j,if_pos y]);clear h j;go_enter func81,ntmps81
  go_wp2_with fail
  refine g.out.mono ?_;rintro a t⟨rfl,rfl⟩
  go_wp2_with fail
  go_ret2;exact⟨by rw[l.out];rfl,(Below.refl _ _)⟩
 ·rw[if_neg y]at g;obtain⟨a8,a9,z,D⟩:=h.L0;have a1:16<=L:=Ψ z.fits z.BQ;have o:=Aa (Kw h key O);cases f:EY s key.data.toList with
  |none=>
   have l:Hid (GH s key.data.toList=(0,5)):=Aa (by unfold GH;rw[j,if_neg y,f]);have H:=Aa f;clear h j z D f;go_enter func81,ntmps81
   go_wp2_with fail
   refine g.out.mono ?_;rintro a t⟨rfl,rfl⟩;clear g
   go_wp2_with fail
   refine o.out.mono ?_;rintro a t⟨i,e⟩;rw[H.out]at e;replace e:a=.returned (.tuple #[.slice none 0 0,.slice none 0 0,.int .i64 5]):=e;subst e;have u:=Aa i;clear o i
   go_wp2_with fail
   go_ret2;exact⟨by rw[l.out];rfl,u.out⟩
  |some wr=>
   obtain⟨P,aB⟩:=wr;obtain⟨B,aw⟩:=SQ z O D f;have az:=PT f;rw[j]at aw az;replace aw:aB.length<=32:=O;replace az:P.length<=33:=O;have N:∀pl∈P,pl.nd.pre.length<=1000:=λpl a0=>Ω (((Bv _).1 (B pl a0).right).1)
   have a2:=Aa B;have ao:=Aa N;have H:=Aa f;have a6:=h.box.lt;have bb:=Aa h.sys.tabs.lt;have a4:=Aa h.sys.lt;cases c:CX P aB with
   |none=>
    have l:Hid (GH s key.data.toList=(0,7)):=Aa (by unfold GH;rw[j,if_neg y,f];simp only;rw[c]);have M:=Aa c;clear h j z D f c B N;go_enter func81,ntmps81
    go_wp2_with fail
    refine g.out.mono ?_;rintro a t⟨rfl,rfl⟩;clear g
    go_wp2_with fail
    refine o.out.mono ?_;rintro a t⟨i,e⟩;rw[H.out]at e;obtain⟨aD,ap,ar,rfl,n,r,av⟩:=e;have G:=Aa n;have E:=Aa r;have u:=Aa i;clear n r i o
    go_wp2_with fail
    refine(Hw G.out O ao.out E.out.1 O).mono ?_;rintro a K⟨q,k⟩;rw[M.out]at k;replace k:a=.returned (.tuple #[.agg #[.slice none 0 0,.int .u64 0,.slice none 0 0,.slice none 0 0,.int .i64 0,.int .u8 0,.int .i64 0],.bool false]):=k;subst k;have A:=Aa (τ u.out q);clear q;have v:Hid (η w (K.alloc (.cells #[.slice none 0 0,.int .u64 0,.slice none 0 0,.slice none 0 0,.int .i64 0,.int .u8 0,.int .i64 0] 197))):=Aa (A.out.alloc A.out.size _)
    go_wp2_with fail
    go_ret2;exact⟨by rw[l.out];rfl,v.out⟩
   |some b=>
    have U:b∈P:=by
     unfold CX at c;split at c
     ·cases c
     ·rename_i a7 aR;split at c
      ·injection c with c;subst c;exact Nw aR
      ·cases c
    have ba:=Aa (B b U);have M:=Aa c;by_cases J:b.nd.val=0
    ·have l:Hid (GH s key.data.toList=(0,7)):=Aa (by unfold GH;rw[j,if_neg y,f];simp only;rw[c];simp only;rw[if_pos J]);have t1:((b.nd.val.toNat:Int)==0)=true:=by rw[J];rfl
     clear h j z D f c B N U;go_enter func81,ntmps81
     go_wp2_with fail
     refine g.out.mono ?_;rintro a t⟨rfl,rfl⟩;clear g
     go_wp2_with fail
     refine o.out.mono ?_;rintro a t⟨i,e⟩;rw[H.out]at e;obtain⟨aD,ap,ar,rfl,n,r,av⟩:=e;have G:=Aa n;have E:=Aa r;have u:=Aa i;clear n r i o
     go_wp2_with fail
     refine(Hw G.out O ao.out E.out.1 O).mono ?_;rintro a K⟨q,k⟩;rw[M.out]at k;obtain⟨aG,aH,aL,aM,rfl,V⟩:=k;obtain⟨Q,W,R,X,S,Y,a,Z,aa,ab⟩:=V;simp only[Value.agg.injEq]at a;simp at a;obtain⟨rfl,rfl,rfl,rfl⟩:=a;have A:=Aa (τ u.out q);obtain⟨aE,m,I,C⟩:=Fz K 197 [.slice Q b.nd.pre.length W,.int .u64 (b.nd.val.toNat:Int),.slice R b.nd.labels.length X,.slice S b.nd.kids.length Y,.int .i64 b.off,.int .u8 (b.label.toNat:Int),.int .i64 b.word];have v:=Aa (τ A.out I);have T:=Aa m;obtain⟨ac,ad,af,ah,al,am,an⟩:=EN C;rw[m]at ac ad af ah al am an;rw[m]at v;clear Z aa ab q I C m T
     go_wp2_with fail
     go_ret2;have aq:=v.out;rw[J]at aq;exact⟨by rw[l.out];rfl,aq⟩
    ·have t1:((b.nd.val.toNat:Int)==0)=false:=by
      rw[beq_eq_false_iff_ne];intro a;exact J (DK.1 (by simp;omega))
     have l:Hid (GH s key.data.toList=(b.nd.val,0)):=Aa (by unfold GH;rw[j,if_neg y,f];simp only;rw[c];simp only;rw[if_neg J]);clear h j z D f c B N U;go_enter func81,ntmps81
     go_wp2_with fail
     refine g.out.mono ?_;rintro a t⟨rfl,rfl⟩;clear g
     go_wp2_with fail
     refine o.out.mono ?_;rintro a t⟨i,e⟩;rw[H.out]at e;obtain⟨aD,ap,ar,rfl,n,r,av⟩:=e;have G:=Aa n;have E:=Aa r;have u:=Aa i;clear n r i o
     go_wp2_with fail
     refine(Hw G.out O ao.out E.out.1 O).mono ?_;rintro a K⟨q,k⟩;rw[M.out]at k;obtain⟨aG,aH,aL,aM,rfl,V⟩:=k;obtain⟨Q,W,R,X,S,Y,a,Z,aa,ab⟩:=V;simp only[Value.agg.injEq]at a;simp at a;obtain⟨rfl,rfl,rfl,rfl⟩:=a;have A:=Aa (τ u.out q);obtain⟨aE,m,I,C⟩:=Fz K 197 [.slice Q b.nd.pre.length W,.int .u64 (b.nd.val.toNat:Int),.slice R b.nd.labels.length X,.slice S b.nd.kids.length Y,.int .i64 b.off,.int .u8 (b.label.toNat:Int),.int .i64 b.word];have v:=Aa (τ A.out I);have T:=Aa m;obtain⟨ac,ad,af,ah,al,am,an⟩:=EN C;rw[m]at ac ad af ah al am an;rw[m]at v;clear Z aa ab q I C m T
     go_wp2_with fail
     go_ret2;exact⟨by rw[l.out];rfl,v.out⟩
def yj{lf:Int}(h:IU (.up (MU lf)) w x d p L s F)(key:ByteArray)(bp:key.size<=1000)(G:∀A I a,EY s key.data.toList=some (A,I)->CX A I=some a->a.nd.val≠0->¬16<key.size->¬a.nd.kids.length=0):
 Calls prog 59 #[Az x,.string key] w (RQ (Ox ⟨.up lf,s⟩ key.data.toList) x d p L F w):=by
 have P:=Aa h;have i:=Aa (Ih h key O);have k:=QF key;by_cases t:16<key.size
 ·rw[if_pos t]at i;have c:Hid (Ox ⟨.up lf,s⟩ key.data.toList=(⟨.up lf,s⟩,0,3)):=Aa (by unfold Ox;rw[k,if_pos t]);clear h k G;go_enter func59,ntmps59
  go_wp2_with fail
  refine i.out.mono ?_;rintro b z⟨rfl,rfl⟩
  go_wp2_with fail
  go_ret2;refine⟨by rw[c.out];rfl,F,?_,AP.of_below (Below.refl _ _)⟩;rw[c.out];exact P.out.below (Below.refl _ _)
 ·rw[if_neg t]at i;obtain⟨bs,bt,C,J⟩:=h.L0;have bm:16<=L:=Ψ C.fits C.BQ;have r:=Aa (Kw h key O);cases g:EY s key.data.toList with
  |none=>
   have c:Hid (Ox ⟨.up lf,s⟩ key.data.toList=(⟨.up lf,s⟩,0,5)):=Aa (by unfold Ox;rw[k,if_neg t,g]);have Q:=Aa g;clear h k C J g G;go_enter func59,ntmps59
   go_wp2_with fail
   refine i.out.mono ?_;rintro b z⟨rfl,rfl⟩;clear i
   go_wp2_with fail
   refine r.out.mono ?_;rintro b z⟨j,f⟩;rw[Q.out]at f;replace f:b=.returned (.tuple #[.slice none 0 0,.slice none 0 0,.int .i64 5]):=f;subst f;have m:=Aa j;clear r j
   go_wp2_with fail
   go_ret2;refine⟨by rw[c.out];rfl,F,?_,AP.of_below m.out⟩;rw[c.out];exact P.out.below m.out
  |some wr=>
   obtain⟨A,I⟩:=wr;obtain⟨E,a3⟩:=SQ C O J g;have a4:=PT g;rw[k]at a3 a4;replace a3:I.length<=32:=O;replace a4:A.length<=33:=O;have ab:∀pl∈A,pl.nd.pre.length<=1000:=λpl bk=>Ω (((Bv _).1 (E pl bk).right).1)
   have bo:=Aa E;have aH:=Aa ab;have Q:=Aa g;have bq:=h.box.lt;have bx:=Aa h.sys.tabs.lt;have a9:=Aa h.sys.lt;cases e:CX A I with
   |none=>
    have c:Hid (Ox ⟨.up lf,s⟩ key.data.toList=(⟨.up lf,s⟩,0,7)):=Aa (by unfold Ox;rw[k,if_neg t,g];simp only;rw[e]);have aa:=Aa e;clear h k C J g e E ab G;go_enter func59,ntmps59
    go_wp2_with fail
    refine i.out.mono ?_;rintro b z⟨rfl,rfl⟩;clear i
    go_wp2_with fail
    refine r.out.mono ?_;rintro b z⟨j,f⟩;rw[Q.out]at f;obtain⟨a7,aL,a1,rfl,o,y,a2⟩:=f;have N:=Aa o;have K:=Aa y;have m:=Aa j;clear o y j r
    go_wp2_with fail
    refine(Hw N.out O aH.out K.out.1 O).mono ?_;rintro b U⟨v,l⟩;rw[aa.out]at l;replace l:b=.returned (.tuple #[.agg #[.slice none 0 0,.int .u64 0,.slice none 0 0,.slice none 0 0,.int .i64 0,.int .u8 0,.int .i64 0],.bool false]):=l;subst l;have B:=Aa (τ m.out v);clear v;have n:Hid (η w (U.alloc (.cells #[.slice none 0 0,.int .u64 0,.slice none 0 0,.slice none 0 0,.int .i64 0,.int .u8 0,.int .i64 0] 197))):=Aa (B.out.alloc B.out.size _)
    go_wp2_with fail
    go_ret2;refine⟨by rw[c.out];rfl,F,?_,AP.of_below n.out⟩;rw[c.out];exact P.out.below n.out
   |some a=>
    have aw:a∈A:=by
     unfold CX at e;split at e
     ·cases e
     ·rename_i br bj;split at e
      ·injection e with e;subst e;exact Nw bj
      ·cases e
    have bl:=Aa (E a aw);have aa:=Aa e;by_cases H:a.nd.val=0
    ·have c:Hid (Ox ⟨.up lf,s⟩ key.data.toList=(⟨.up lf,s⟩,0,7)):=Aa (by unfold Ox;rw[k,if_neg t,g];simp only;rw[e];simp only;rw[if_pos H]);have t1:((a.nd.val.toNat:Int)==0)=true:=by rw[H];rfl
     clear h k C J g e E ab aw G;go_enter func59,ntmps59
     go_wp2_with fail
     refine i.out.mono ?_;rintro b z⟨rfl,rfl⟩;clear i
     go_wp2_with fail
     refine r.out.mono ?_;rintro b z⟨j,f⟩;rw[Q.out]at f;obtain⟨a7,aL,a1,rfl,o,y,a2⟩:=f;have N:=Aa o;have K:=Aa y;have m:=Aa j;clear o y j r
     go_wp2_with fail
     refine(Hw N.out O aH.out K.out.1 O).mono ?_;rintro b U⟨v,l⟩;rw[aa.out]at l;obtain⟨bc,bd,be,bg,rfl,az⟩:=l;obtain⟨V,ac,W,ad,X,af,b,aD,aE,aG⟩:=az;simp only[Value.agg.injEq]at b;simp at b;obtain⟨rfl,rfl,rfl,rfl⟩:=b;have B:=Aa (τ m.out v);obtain⟨bb,u,R,D⟩:=Fz U 197 [.slice V a.nd.pre.length ac,.int .u64 (a.nd.val.toNat:Int),.slice W a.nd.labels.length ad,.slice X a.nd.kids.length af,.int .i64 a.off,.int .u8 (a.label.toNat:Int),.int .i64 a.word];have n:=Aa (τ B.out R);have Z:=Aa u;obtain⟨ah,al,am,an,ao,ap,aq⟩:=EN D;rw[u]at ah al am an ao ap aq;rw[u]at n;clear aD aE aG v R D u Z
     go_wp2_with fail
     go_ret2;have ar:=n.out;rw[H]at ar;refine⟨by rw[c.out];rfl,F,?_,AP.of_below ar⟩;rw[c.out];exact P.out.below ar
    ·have t1:((a.nd.val.toNat:Int)==0)=false:=by
      rw[beq_eq_false_iff_ne];intro b;exact H (DK.1 (by simp;omega))
     have bi:=G A I a g e H t;obtain⟨⟨a6,T⟩,aB⟩:∃ba,LW ⟨.up lf,s⟩ a 0=ba:=⟨_,rfl⟩;have a8:=Aa aB;have c:Hid (Ox ⟨.up lf,s⟩ key.data.toList=if T=0 then(a6,a.nd.val,0)else(a6,0,T)):=Aa (by unfold Ox;rw[k,if_neg t];simp only[g,e,if_neg H,if_neg bi,if_true,aB]);clear aB;have t2:((a.nd.kids.length:Int)==0)=false:=ζ O;clear h k C J g e E ab aw G;go_enter func59,ntmps59
     go_wp2_with fail
     refine i.out.mono ?_;rintro b z⟨rfl,rfl⟩;clear i
     go_wp2_with fail
     refine r.out.mono ?_;rintro b z⟨j,f⟩;rw[Q.out]at f;obtain⟨a7,aL,a1,rfl,o,y,a2⟩:=f;have N:=Aa o;have K:=Aa y;have m:=Aa j;clear o y j r
     go_wp2_with fail
     refine(Hw N.out O aH.out K.out.1 O).mono ?_;rintro b U⟨v,l⟩;rw[aa.out]at l;obtain⟨bc,bd,be,bg,rfl,az⟩:=l;obtain⟨V,ac,W,ad,X,af,b,aD,aE,aG⟩:=az;simp only[Value.agg.injEq]at b;simp at b;obtain⟨rfl,rfl,rfl,rfl⟩:=b;have B:=Aa (τ m.out v);obtain⟨bb,u,R,D⟩:=Fz U 197 [.slice V a.nd.pre.length ac,.int .u64 (a.nd.val.toNat:Int),.slice W a.nd.labels.length ad,.slice X a.nd.kids.length af,.int .i64 a.off,.int .u8 (a.label.toNat:Int),.int .i64 a.word];have n:=Aa (τ B.out R);have M:=QB (q:=⟨.up lf,s⟩) (P.out.below n.out) a (bl.out) V W X a.nd.pre.length ac a.nd.labels.length ad a.nd.kids.length af 0;rw[a8.out]at M;have M:=Aa M;have Z:=Aa u;obtain⟨ah,al,am,an,ao,ap,aq⟩:=EN D;have a0:=Aa D;rw[u]at ah al am an ao ap aq;clear aD aE aG v R D u
     go_wp2_with fail
     rw[<-Z.out];refine M.out.mono ?_;rintro b bw⟨rfl,aR,a5,av⟩;have Y:=Aa (And.intro a5 ((AP.of_below (F:=F) n.out).trans av));have aM:=a0.out.touch av.touch (λbh=>Ψ (a9.out _ bh) B.out.size);obtain⟨bA,bB,bE,bL,bN,bO,bR⟩:=EN aM;clear a5 av ah al am an ao ap aq M Z aM a0;by_cases S:T=0
     ·subst S;rw[if_pos rfl]at c
      go_wp2_with fail
      go_ret2;refine⟨by rw[c.out];rfl,aR,?_,Y.out.2⟩;rw[c.out];exact Y.out.1
     ·rw[if_neg S]at c;have t8:(T==0)=false:=ζ S;have t9:(T !=0)=true:=by rw[bne_iff_ne];exact S
      clear S
      go_wp2_with fail
      go_ret2;refine⟨by rw[c.out];rfl,aR,?_,Y.out.2⟩;rw[c.out];exact Y.out.1
end
def Es(x d p:Nat)(stamp:UInt64)(vs b:Value)(over:Bool)(a:Int):List Value:=
 [Az d,Az p,Az x,.int .u64 (stamp.toNat:Int),vs,b,.bool over,.int .i64 a]
section
variable{w w':World}{x d p L:Nat}{s:St}{F:Nat->Prop}
def Ej.load{len:Mode}(h:Ej len w d p L s F)(a:Nat)(f:a<8*L):Calls prog 27 #[Az d,.int .i64 ((8*a:Nat):Int)] w λb w'=>b=.returned (.tuple #[.int .u64 ((s.ws a).toNat:Int),.int .i64 0])/\w=w':=by
 obtain⟨o,l,n,k,j,own,h,_⟩:=h;obtain⟨⟨c,e,g,m⟩,i⟩:=h.dev;exact UY d L s.ws _ _ c e a w h.L1 i g f
def kT(jb:Nat)(xs:List Value)(h:CQ w jb 126 (Az d::xs)):Calls prog 47 #[Az jb] w λa w'=>a=.returned (.bool false)/\w=w':=by
 have b:=h.p1;clear h;go_enter func47,ntmps47;go_wp2;go_ret;exact⟨rfl,rfl⟩
end
section
variable{w w':World}{x d p L:Nat}{s:St}{F:Nat->Prop}
structure Pv(w:World)(jb x d p:Nat)(stamp:UInt64)(vs vd:Value)(over:Bool)(en:Int)(F:Nat->Prop):Prop where
 box:CQ w jb 126 (Es x d p stamp vs vd over en)
 out:¬F jb
end
def QG{d:Type}(er O0:Int)(a b c:d):d:=if er=0 then(if O0=0 then a else b)else c
def MQ{d:Type}{a b c:d}:QG 0 0 a b c=a:=rfl
def NW{d:Type}{O0:Int}{a b c:d}(h:O0≠0):QG 0 O0 a b c=b:=by unfold QG;rw[if_pos rfl,if_neg h]
def PV{d:Type}{er O0:Int}{a b c:d}(h:er≠0):QG er O0 a b c=c:=if_neg h
section
variable{w w':World}{x d p L:Nat}{s:St}{F:Nat->Prop}
def NY{Q m1 z:Ef}{A B:St}{f:Nat->Prop}{g e:World}{jb:Nat}{stamp:UInt64}{vs n:Value}{i:Int}{a b c o q r:Int}(N:z=m1)(y:B=A)(l:r=c/\o=a/\q=b)(h:IU Q w x d p L s F)(v:Pv w jb x d p stamp vs n false i F)(E:∀b,F b->b<w.heap.size)(J:η w g)(t:AP F f g e)(j:IU m1 e x d p L A f)
 (_:CQ e (w.heap.size+1) 128 [.int .u64 0,.int .u64 0])(G:CQ e jb 126 (Es x d p stamp vs n false i))(R:w.heap.size+1<g.heap.size):
 Ending.returned (.tuple #[.agg #[.int .u64 a,.int .u64 b],.int .i64 c])=.returned (.tuple #[.agg #[.int .u64 o,.int .u64 q],.int .i64 r])/\∃f,IU z ((e.setCell (Φ (w.heap.size+1)) (.int .u64 a)).setCell (Δ (w.heap.size+1) 1) (.int .u64 b)) x d p L B f/\Pv ((e.setCell (Φ (w.heap.size+1)) (.int .u64 a)).setCell (Δ (w.heap.size+1) 1) (.int .u64 b)) jb x d p stamp vs n false i f/\AP F f w ((e.setCell (Φ (w.heap.size+1)) (.int .u64 a)).setCell (Δ (w.heap.size+1) 1) (.int .u64 b)):=by
 rw[l.1,l.2.1,l.2.2];subst N y;have k:Touch (λm=>m=w.heap.size+1) e ((e.setCell (Φ (w.heap.size+1)) (.int .u64 a)).setCell (Δ (w.heap.size+1) 1) (.int .u64 b)):=((Touch.refl (λm=>m=w.heap.size+1) e).setCell (p:=Φ (w.heap.size+1)) (.inl rfl) _).setCell (p:=Δ (w.heap.size+1) 1) (.inl rfl) _;have u:AP F f w e:=(AP.of_below J).trans t;have H:=(u.set (p:=Φ (w.heap.size+1)) (.inr (Nat.le_succ _)) (.int .u64 a)).set (p:=Δ (w.heap.size+1) 1) (.inr (Nat.le_succ _)) (.int .u64 b);have P:¬f (w.heap.size+1):=λD=>(t.own _ D).elim (λK=>absurd (E _ K) O) (λy=>O)
 have S:=h.sys.tabs.lt;have T:=h.box.lt;have M:=v.box.lt;exact⟨rfl,f,⟨j.sys.keep k (λb I C=>P (C▸I)) O O,j.box.touch k (by show x≠_;omega),j.out⟩,⟨G.touch k (by show jb≠_;omega),u.out M v.out⟩,H⟩
def WN{bV m1 m2 m3:Ef}(h:IU bV w x d p L s F){jb:Nat}{stamp:UInt64}{vs br:Value}{bc:Int}(aL:Pv w jb x d p stamp vs br false bc F)(b:Wr)(_:b.key.size<=16){v:UInt64}{n e0:Int}(bq:(v.toNat:Int)=n)
 (bp:(e0=7/\n=0/\b.gone=false)\/(e0=0/\n≠0)){er O0:Int}{s1 s2 s3:St}{pl:UInt64}
 (bm:∀a,η w a->Calls prog 81 #[Az x,.string b.key] a (GetPost (v,e0) a))
 (bd:∀a,η w a->Calls prog 82 #[Az d,Az p,rcV ⟨stamp,v,b.gone,b.text⟩] a λg A=>g=.returned (.tuple #[.int .u64 (pl.toNat:Int),.int .i64 er])/\∃N,Ej m1 A d p L s1 N/\AP F N a A)
 (bg:er=0->∀a N,IU m1 a x d p L s1 N->Calls prog 60 #[Az x,.string b.key,.int .u64 (pl.toNat:Int)] a λg A=>g=.returned (.int .i64 O0)/\∃P,IU m2 A x d p L s2 P/\AP N P a A)
 (be:er=0->O0≠0->∀a P,IU m2 a x d p L s2 P->Calls prog 62 #[Az p,.int .i64 (Bg pl)] a λg A=>(∃v,g=.returned v)/\∃a1,Ej m3 A d p L s3 a1/\AP P a1 a A):
 Calls prog 48 #[Az jb,VR b] w λg w'=>g=.returned (.tuple #[.agg #[.int .u64 (QG er O0 n 0 0),.int .u64 (QG er O0 (pl.toNat:Int) 0 0)],.int .i64 (QG er O0 0 O0 er)])/\
  ∃aw,IU (QG er O0 m2 m3 m1) w' x d p L (QG er O0 s2 s3 s1) aw/\Pv w' jb x d p stamp vs br false bc aw/\AP F aw w w':=by
 obtain⟨i,U⟩:=ε ((w.alloc (.cells #[.string b.key,.string b.text,.bool b.gone] 53)).alloc (.cells #[.int .u64 0,.int .u64 0] 128));have am:η w i:=by rw[U];exact((Below.refl _ _).alloc (Ad _) _).alloc Θ _
 have M:CQ i w.heap.size 53 [.string b.key,.string b.text,.bool b.gone]:=by rw[U];exact(show(Am9 _ _).heap[w.heap.size]?=_ by rw[Am9,Array.getElem?_push,if_neg Θ];exact heap_alloc_new _ _)
 have a0:CQ i (w.heap.size+1) 128 [.int .u64 0,.int .u64 0]:=by
  have:=heap_alloc_new (w.alloc (.cells #[.string b.key,.string b.text,.bool b.gone] 53)) (.cells #[.int .u64 0,.int .u64 0] 128);rw[show(w.alloc (.cells #[.string b.key,.string b.text,.bool b.gone] 53)).heap.size=w.heap.size+1 by simp,<-U]at this;exact this
 have S:=aL.box.ξ am;have af:=Aa (λa(c:η i a)=>bm a (τ am c));unfold GetPost at af;have a2:=Aa bd;have bx:=Aa bg;have bw:=Aa be;have E:=Aa aL;have G:=Aa h;have bE:=Aa U;have u:=Aa am;have a5:=Aa M;have a4:=Aa a0;have ab:=M.cell 0;have aq:=M.cell 1;have ac:=M.cell 2;have ap:=S.cell 2;have I:=S.cell 0;have q:=S.cell 1;have J:=S.cell 3;unfold Es at I q ap J;simp only[Ag,AB]at ab aq ac I q ap J;unfold VR;have bB:=Aa bp;clear bp;simp only[bq]at af;clear h aL am U M a0 S bm bd bg be;go_enter func48,ntmps48
 go_wp2_with fail
 rw[<-bE.out];have B:Hid (∀al,F al->al<w.heap.size):=Aa (λal bO=>G.out.sys.lt al bO);have f:=Aa (λa(c:Touch F i a)=>And.intro ((E.out.box.ξ u.out).touch c E.out.out) (And.intro (a5.out.touch c (λV=>absurd (B.out _ V) O)) (a4.out.touch c (λV=>absurd (B.out _ V) O))));have aB:Hid (∀a,Touch F i a->a.cell? (Δ jb 2)=some (Az x)/\a.cell? (Φ w.heap.size)=some (.string b.key)):=Aa (λa c=>⟨(f.out a c).1.cell 2,(f.out a c).2.1.cell 0⟩);clear a5 a4
 go_region_held3(λw'=>w'.cell? (Δ jb 2)=some (Az x)/\w'.cell? (Φ w.heap.size)=some (.string b.key))(first|exact⟨ap,ab⟩|exact aB.out _ (Touch.of_below an))((first|(go_at_call 81;refine(af.out _ ((Dr.drew _).below _)).mono ?_;rintro g j⟨rfl,bl⟩;have an:η i j:=((Dr.drew i).below _).trans bl)))
 have bA:=Aa (Touch.of_below (F:=F) an);have a3:=Aa an;obtain⟨y,Q,bN⟩:=f.out j bA.out;replace ab:=Q.cell 0;replace aq:=Q.cell 1;replace ac:=Q.cell 2;replace J:=y.cell 3;replace I:=y.cell 0;replace q:=y.cell 1;unfold Es at I q J;simp only[Ag,AB]at ab aq ac I q J;have bS:=y.lt;have bT:=Q.lt;clear y Q bN bl an ap af;rcases bB.out with⟨rfl,W,ao⟩|⟨rfl,W⟩
 case' inl=>have a9:=Aa W;clear W
 case' inr=>have b0:(n==0)=false:=(by rw[beq_eq_false_iff_ne];exact W);clear W;rcases Bool.eq_false_or_eq_true b.gone with ao|ao
 all_goals(
  have aG:=Aa ao;clear ao;rw[aG.out]at ac
  go_wp2_with fail)
 all_goals(go_region)
 all_goals(
  obtain⟨r,H⟩:=ε ((j.alloc (.cells #[.int .u64 (stamp.toNat:Int),.int .u64 n,.bool b.gone,.string b.text] 94)).drew);have K:CQ r j.heap.size 94 [.int .u64 (stamp.toNat:Int),.int .u64 n,.bool b.gone,.string b.text]:=by rw[H];exact heap_alloc_new _ _
  have bk:η j r:=by rw[H];exact((Below.refl _ _).alloc (Ad _) _).drew
  rw[aG.out]at H
  try rw[a9.out]at H
  rw[<-H];have Z:η i r:=τ a3.out bk;have ba:=Aa Z;have ad:=Aa (λa(c:η r a)=>a2.out a (τ u.out (τ Z c)));unfold rcV at ad;simp only[bq]at ad;have T:¬F j.heap.size:=λV=>absurd (B.out _ V) (Ψ a3.out.size u.out.size)
  have aD:Hid (∀w',Touch F r w'->w'.cell? (Φ jb)=some (Az d)/\w'.cell? (Δ jb 1)=some (Az p)/\w'.cell? (Φ j.heap.size)=some (.int .u64 (stamp.toNat:Int))/\w'.cell? (Δ j.heap.size 1)=some (.int .u64 n)/\w'.cell? (Δ j.heap.size 2)=some (.bool b.gone)/\w'.cell? (Δ j.heap.size 3)=some (.string b.text)):=Aa (λa c=>⟨(f.out a ((Touch.of_below Z).trans c (λ_ g=>.inl g))).1.cell 0,(f.out a ((Touch.of_below Z).trans c (λ_ g=>.inl g))).1.cell 1,(K.touch c T).cell 0,(K.touch c T).cell 1,(K.touch c T).cell 2,(K.touch c T).cell 3⟩);have bo:=aD.out r (Touch.refl _ _);clear H bk K Z I q J ab aq ac bS bT T
  go_wp2_with fail
  go_region_held3(λw'=>w'.cell? (Φ jb)=some (Az d)/\w'.cell? (Δ jb 1)=some (Az p)/\w'.cell? (Φ j.heap.size)=some (.int .u64 (stamp.toNat:Int))/\w'.cell? (Δ j.heap.size 1)=some (.int .u64 n)/\w'.cell? (Δ j.heap.size 2)=some (.bool b.gone)/\w'.cell? (Δ j.heap.size 3)=some (.string b.text))(first|exact bo|exact aD.out _ ((Touch.of_below ((Dr.drew r).below _)).trans aE.touch (λ_ g=>.inl g)))((first|(go_at_call 82;refine(ad.out _ ((Dr.drew r).below _)).mono ?_;rintro g t⟨rfl,az,bh,aE⟩))))
 all_goals(
  have ar:AP F az i t:=(AP.of_below (τ ba.out ((Dr.drew r).below _))).trans aE;have bb:IU m1 t x d p L s1 az:=(G.out.below u.out).move bh ar;have R:=Aa ar;have a8:=Aa bb;have aM:=aB.out t ar.touch;clear aE ar bb bh bo ad aD ba a2 aG)
 all_goals(
  by_cases D:er=0
  ·subst D;have a7:=Aa (λa(c:η t a)=>bx.out (by first|rfl|trivial) a az (a8.out.below c))
   go_wp2_with fail
   go_region_held3(λw'=>w'.cell? (Δ jb 2)=some (Az x)/\w'.cell? (Φ w.heap.size)=some (.string b.key))(first|exact aM|exact aB.out _ (R.out.trans ((AP.of_below ((Dr.drew t).below _)).trans aH)).touch)((first|(go_at_call 60;refine(a7.out _ ((Dr.drew t).below _)).mono ?_;rintro g aa⟨rfl,bt,bj,aH⟩)))
   all_goals(
    have C:=Aa (R.out.trans ((AP.of_below ((Dr.drew t).below _)).trans aH));have ah:=Aa bj;clear bj aH aM a7;by_cases z:O0=0
    ·subst z;have e:=(f.out aa C.out.touch).2.2;have X:=e.cell 0;have Y:=e.cell 1;have f0:=e.frozen 0;have f1:=e.frozen 1;simp only[Ag,AB]at X Y;have o:=Aa e;clear e
     go_wp2_with fail
     first
     |(have k:=(o.out.AZ 0 (.int .u64 n)).AZ 1 (.int .u64 (pl.toNat:Int))
       have l:=k.cell 0;have m:=k.cell 1;simp only[Ap,Au,Ag,AB]at l m;refine bodyPost_ret (v:=.tuple #[.agg #[.int .u64 n,.int .u64 (pl.toNat:Int)],.int .i64 0]) (by simp[results,results48,go_sem,l,m]) rfl ?_;exact NY MQ MQ ⟨MQ,MQ,MQ⟩ G.out E.out B.out u.out C.out ah.out o.out (f.out aa C.out.touch).1 (f.out i (Touch.refl _ _)).2.2.lt)
     |(have k:=(o.out.AZ 0 (.int .u64 0)).AZ 1 (.int .u64 (pl.toNat:Int))
       have l:=k.cell 0;have m:=k.cell 1;simp only[Ap,Au,Ag,AB]at l m;refine bodyPost_ret (v:=.tuple #[.agg #[.int .u64 0,.int .u64 (pl.toNat:Int)],.int .i64 0]) (by simp[results,results48,go_sem,l,m]) rfl ?_;exact NY MQ MQ ⟨MQ,MQ.trans a9.out,MQ⟩ G.out E.out B.out u.out C.out ah.out o.out (f.out aa C.out.touch).1 (f.out i (Touch.refl _ _)).2.2.lt)
    ·have bW:(O0==0)=false:=ζ z;have bR:IntKind.i64.wrap (pl.toNat:Int)=Bg pl:=rfl;have a6:=Aa (λa(c:η aa a)=>bw.out (by first|rfl|trivial) z a bt (ah.out.below c));have y:=(f.out aa C.out.touch).1;have q:=y.cell 1;unfold Es at q;simp only[Ag,AB]at q;clear y
     go_wp2_with fail
     refine(a6.out _ (Below.refl _ _)).mono ?_;rintro g bs⟨⟨b1,rfl⟩,bX,bi,av⟩;have bL:=Aa (ah.out.move bi av);have aR:=Aa (C.out.trans av);clear a6 bi av q bR;have e:=(f.out bs aR.out.touch).2.2;have X:=e.cell 0;have Y:=e.cell 1;have f0:=e.frozen 0;have f1:=e.frozen 1;simp only[Ag,AB]at X Y;have o:=Aa e;clear e
     go_wp2_with fail
     have k:=(o.out.AZ 0 (.int .u64 0)).AZ 1 (.int .u64 0);have l:=k.cell 0;have m:=k.cell 1;simp only[Ap,Au,Ag,AB]at l m;refine bodyPost_ret (v:=.tuple #[.agg #[.int .u64 0,.int .u64 0],.int .i64 O0]) (by simp[results,results48,go_sem,l,m]) rfl ?_;exact NY (NW z) (NW z) ⟨(NW z),(NW z),(NW z)⟩ G.out E.out B.out u.out aR.out bL.out o.out (f.out bs aR.out.touch).1 (f.out i (Touch.refl _ _)).2.2.lt
   )
  ·have bW:(er==0)=false:=ζ D;clear aM;have e:=(f.out t R.out.touch).2.2;have X:=e.cell 0;have Y:=e.cell 1;have f0:=e.frozen 0;have f1:=e.frozen 1;simp only[Ag,AB]at X Y;have o:=Aa e;clear e
   go_wp2_with fail
   have k:=(o.out.AZ 0 (.int .u64 0)).AZ 1 (.int .u64 0);have l:=k.cell 0;have m:=k.cell 1;simp only[Ap,Au,Ag,AB]at l m;refine bodyPost_ret (v:=.tuple #[.agg #[.int .u64 0,.int .u64 0],.int .i64 er]) (by simp[results,results48,go_sem,l,m]) rfl ?_;exact NY (PV D) (PV D) ⟨(PV D),(PV D),(PV D)⟩ G.out E.out B.out u.out R.out a8.out o.out (f.out t R.out.touch).1 (f.out i (Touch.refl _ _)).2.2.lt
  )
end
section
variable{w w':World}{x d p L:Nat}{s:St}{F:Nat->Prop}
def ig{T:Ef}(h:IU T w x d p L s F){jb:Nat}{stamp:UInt64}{vs an:Value}{ad:Int}(S:Pv w jb x d p stamp vs an false ad F)(a:Wr){e0:Int}(am:(e0=7/\a.gone=true)\/(e0≠0/\e0≠7))
 (ah:∀b,η w b->Calls prog 81 #[Az x,.string a.key] b (GetPost (0,e0) b)):
 Calls prog 48 #[Az jb,VR a] w λac w'=>ac=.returned (.tuple #[.agg #[.int .u64 0,.int .u64 0],.int .i64 (if e0=7 then 0 else e0)])/\
  ∃N,IU T w' x d p L s N/\Pv w' jb x d p stamp vs an false ad N/\AP F N w w':=by
 obtain⟨c,t⟩:=ε ((w.alloc (.cells #[.string a.key,.string a.text,.bool a.gone] 53)).alloc (.cells #[.int .u64 0,.int .u64 0] 128));have H:η w c:=by rw[t];exact((Below.refl _ _).alloc (Ad _) _).alloc Θ _
 have m:CQ c w.heap.size 53 [.string a.key,.string a.text,.bool a.gone]:=by rw[t];exact(χ _ _ Θ).trans (heap_alloc_new _ _)
 have V:CQ c (w.heap.size+1) 128 [.int .u64 0,.int .u64 0]:=by
  have:=heap_alloc_new (w.alloc (.cells #[.string a.key,.string a.text,.bool a.gone] 53)) (.cells #[.int .u64 0,.int .u64 0] 128);rw[show(w.alloc (.cells #[.string a.key,.string a.text,.bool a.gone] 53)).heap.size=w.heap.size+1 by simp,<-t]at this;exact this
 have r:=S.box.ξ H;have P:=Aa (λb(f:η c b)=>ah b (τ H f));unfold GetPost at P;have ab:=Aa am;have z:=Aa S;have B:=Aa h;have aq:=Aa t;have C:=Aa H;have Y:=Aa m;have X:=Aa V;have K:=m.cell 0;have U:=m.cell 1;have M:=m.cell 2;have J:=r.cell 2;have i:=r.cell 0;have j:=r.cell 1;have k:=r.cell 3;unfold Es at i j J k;simp only[Ag,AB]at K U M i j J k;unfold VR;clear h S H t m V r ah am;go_enter func48,ntmps48
 go_wp2_with fail
 rw[<-aq.out];have D:Hid (∀G,F G->G<w.heap.size):=Aa (λG aw=>B.out.sys.lt G aw);have e:=Aa (λb(f:Touch F c b)=>And.intro ((z.out.box.ξ C.out).touch f z.out.out) (And.intro (Y.out.touch f (λR=>absurd (D.out _ R) O)) (X.out.touch f (λR=>absurd (D.out _ R) O))));have ap:Hid (∀b,Touch F c b->b.cell? (Δ jb 2)=some (Az x)/\b.cell? (Φ w.heap.size)=some (.string a.key)):=Aa (λb f=>⟨(e.out b f).1.cell 2,(e.out b f).2.1.cell 0⟩);clear Y X
 go_region_held3(λw'=>w'.cell? (Δ jb 2)=some (Az x)/\w'.cell? (Φ w.heap.size)=some (.string a.key))(first|exact⟨J,K⟩|exact ap.out _ (Touch.of_below I))((first|(go_at_call 81;refine(P.out _ ((Dr.drew _).below _)).mono ?_;rintro ac g⟨rfl,af⟩;have I:η c g:=((Dr.drew c).below _).trans af)))
 have A:=Aa (Touch.of_below (F:=F) I);have W:=Aa I;obtain⟨n,o,ar⟩:=e.out g A.out;replace K:=o.cell 0;replace U:=o.cell 1;replace M:=o.cell 2;replace k:=n.cell 3;replace i:=n.cell 0;replace j:=n.cell 1;unfold Es at i j k;simp only[Ag,AB]at K U M i j k;have az:=n.lt;have aB:=o.lt;clear n o ar af I J P;have Z:Hid (AP F F c g):=Aa (AP.of_below W.out);have aa:Hid (IU T g x d p L s F):=Aa ((B.out.below C.out).below W.out);have l:=(e.out g A.out).2.2;have aD:=l.cell 0;have aE:=l.cell 1;have f0:=l.frozen 0;have f1:=l.frozen 1;simp only[Ag,AB]at aD aE;have E:=Aa l;clear l i j k az aB;rcases ab.out with⟨rfl,al⟩|⟨av,Q⟩
 ·rw[al]at M;clear al
  go_wp2_with fail
  have q:=(E.out.AZ 0 (.int .u64 0)).AZ 1 (.int .u64 0);have u:=q.cell 0;have y:=q.cell 1;simp only[Ap,Au,Ag,AB]at u y;refine bodyPost_ret (v:=.tuple #[.agg #[.int .u64 0,.int .u64 0],.int .i64 0]) (by simp[results,results48,go_sem,u,y]) rfl ?_;exact NY rfl rfl ⟨rfl,rfl,rfl⟩ B.out z.out D.out C.out Z.out aa.out E.out (e.out g A.out).1 (e.out c (Touch.refl _ _)).2.2.lt
 ·have t0:(e0==0)=false:=ζ av;have t7:(e0==7)=false:=ζ Q;have t8:(7==e0)=false:=by rw[beq_eq_false_iff_ne];exact Ne.symm Q
  have ao:Hid ((if e0=7 then 0 else e0)=e0):=Aa (if_neg Q);clear ab
  go_wp2_with fail
  have q:=(E.out.AZ 0 (.int .u64 0)).AZ 1 (.int .u64 0);have u:=q.cell 0;have y:=q.cell 1;simp only[Ap,Au,Ag,AB]at u y;refine bodyPost_ret (v:=.tuple #[.agg #[.int .u64 0,.int .u64 0],.int .i64 e0]) (by simp[results,results48,go_sem,u,y]) rfl ?_;exact NY rfl rfl ⟨by first|rfl|exact ao.out,rfl,rfl⟩ B.out z.out D.out C.out Z.out aa.out E.out (e.out g A.out).1 (e.out c (Touch.refl _ _)).2.2.lt
def kU(h:Ix w x d p L s F){jb:Nat}{stamp:UInt64}{vs A:Value}{u:Int}(H:Pv w jb x d p stamp vs A false u F)(a:Wr)(I:a.key.size<=16)(M:a.text.size<=40){v:UInt64}{e0:Int}(G:GH s a.key.data.toList=(v,e0))(K:(e0=7/\v=0/\a.gone=false)\/(e0=0/\v.toNat≠0))
 (_:∀o s1,CP s 1=some (o,s1)->(GV {s1 with ws:=BK s1.ws (o/8) (CW ⟨stamp,v,a.gone,a.text⟩)} o).2=0){s1 s2 s3:St}{c:UInt64}{er O0:Int}(D:Iq s ⟨stamp,v,a.gone,a.text⟩=(s1,c,er))(J:er=0->JD s1 a.key.data.toList c=(s2,O0))(E:er=0->O0≠0->(Fj s2 (Bg c)).1=s3):
 Calls prog 48 #[Az jb,VR a] w λj w'=>j=.returned (.tuple #[.agg #[.int .u64 (QG er O0 (v.toNat:Int) 0 0),.int .u64 (QG er O0 (c.toNat:Int) 0 0)],.int .i64 (QG er O0 0 O0 er)])/\
  ∃l,IU (QG er O0 (.up M0) (.up M0) (.up M0)) w' x d p L (QG er O0 s2 s3 s1) l/\Pv w' jb x d p stamp vs A false u l/\AP F l w w':=by
 have t:=λb(n:η w b)=>WM (h.below n) a.key O
 have k:=λb(n:η w b)=>Ag9 (h.below n).sys ⟨stamp,v,a.gone,a.text⟩ (by show a.text.size<=_;omega)
 unfold Aap at k;rw[D]at k;have i:=λ(e:er=0)b g(f:Ix b x d p L s1 g)=>gZ f a.key O c
 unfold Aau at i;have i:=λ(e:er=0)b g(f:Ix b x d p L s1 g)=>by have z:=i e b g f;rw[J e]at z;exact z
 have B:er=0->O0≠0->∀b m,Ix b x d p L s2 m->Calls prog 62 #[Az p,.int .i64 (Bg c)] b λj q=>(∃v,j=.returned v)/\∃r,Sys q d p L s3 r/\AP m r b q:=λe C b m f=>(fQ f.sys (Bg c) (NL c)).mono λj q y=>⟨⟨_,y.1⟩,by rw[<-E e C];exact y.2⟩
 rw[G]at t;exact WN h H a I rfl (K.imp (λh=>⟨h.1,by rw[h.2.1];rfl,h.2.2⟩) (λh=>⟨h.1,O⟩)) t k i B
def Ahh(h:Ix w x d p L s F){jb:Nat}{stamp:UInt64}{vs g:Value}{f:Int}(q:Pv w jb x d p stamp vs g false f F)(a:Wr)(r:a.key.size<=16)(u:a.text.size<=40)
 (m:GH s a.key.data.toList=(0,7))(n:a.gone=false)(k:∀c s1,CP s 1=some (c,s1)->(GV {s1 with ws:=BK s1.ws (c/8) (CW ⟨stamp,0,a.gone,a.text⟩)} c).2=0)
 {s1 s2:St}{e:UInt64}(l:Iq s ⟨stamp,0,a.gone,a.text⟩=(s1,e,0))(t:JD s1 a.key.data.toList e=(s2,0)):
 Calls prog 48 #[Az jb,VR a] w λi w'=>i=.returned (.tuple #[.agg #[.int .u64 0,.int .u64 (e.toNat:Int)],.int .i64 0])/\
  ∃b,Ix w' x d p L s2 b/\Pv w' jb x d p stamp vs g false f b/\AP F b w w':=
 (kU h q a r u m (.inl ⟨rfl,rfl,n⟩) k (s3:=s2) (O0:=0) l (λ_=>t) (λ_ j=>absurd rfl j)).mono λ_ _ o=>o
end
