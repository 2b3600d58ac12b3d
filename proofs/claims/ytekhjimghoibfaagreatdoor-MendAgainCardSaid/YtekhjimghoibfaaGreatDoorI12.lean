import Derived.Deep.LoopGhost
import Derived.Test.YtekhjimghoibfaaGreatDoorI11
set_option linter.defProp false
set_option maxHeartbeats 32000000
set_option maxRecDepth 100000
open Go.Lib renaming hid->Aa
open Nat renaming add_assoc->SC,zero_le->BB,le_refl->Ad,lt_of_not_le->cZ,lt_of_lt_of_le->BI,le_trans->Bi
open List renaming all_eq_true->Ew,getElem_mem->BH,getLast?_eq_getElem?->eQ,getElem?_eq_getElem->Ae,length_append->AY,getElem?_cons_zero->Ag,set_cons_zero->Ap,getElem?_cons_succ->AB,range->DW,range_succ->cu,length_filter_le->Nr,length_map->BX
open Go.World renaming ownsRow_nil->EM,drew->df,cell?_of_block->Bh
open UInt64 renaming ofNat->Aj,toNat_ofNat'->H8
open Array renaming getElem?_eq_some_iff->AA
namespace Go.Proofs.YtekhjimghoibfaaGreatDoor
open Go.RowKit
open Go.Proofs.Tryz
def ZP(a b:ByteArray):Int:=if Op.bytesLess a.toList b.toList=true then-1 else if(a.toList==b.toList)=true then 0 else 1
def An7(a:ByteArray)(w:World):Calls prog 160 #[.string a] w λb w'=>b=.returned (.bool false)/\w=w':=by
 go_enter func160,ntmps160;go_wp2;go_ret;exact⟨by simp,rfl⟩
def An8(a b:ByteArray)(w:World):Calls prog 124 #[.string a,.string b] w λc w'=>c=.returned (.int .i64 (ZP a b))/\w=w':=by
 obtain⟨d,g⟩:∃q,Op.bytesLess a.toList b.toList=q:=⟨_,rfl⟩;obtain⟨e,i⟩:∃q,(a.toList==b.toList)=q:=⟨_,rfl⟩;have f:Hid (ZP a b=if d=true then-1 else if e=true then 0 else 1):=Aa (by unfold ZP;rw[g,i]);cases d<;>cases e<;>(
  go_enter func124,ntmps124
  go_wp2_with(go_at_call 160;refine(An7 _ _).mono ?_;rintro c w'⟨rfl,rfl⟩)
  go_ret;exact⟨by rw[f.out];rfl,rfl⟩)
def Akg(x:Wr)(key:ByteArray)(w:World):Calls prog 76 #[VR x,.string key] w λb w'=>b=.returned (.int .i64 (ZP x.key key))/\η w w':=by
 obtain⟨g,c,h,a⟩:=Fz w 53 [.string x.key,.string x.text,.bool x.gone];have e:=Aa (An8 x.key key g);have j:=a.p1;have d:=Aa h;have f:=Aa c;unfold VR;clear a h c;go_enter func76,ntmps76
 go_wp2_with fail
 rw[<-f.out]
 go_wp2_with fail
 refine e.out.mono ?_;rintro b i⟨rfl,rfl⟩
 go_wp2_with fail
 go_ret;exact⟨rfl,d.out⟩
def qh{w:World}{A:Option Addr}{s:List Wr}(f:Rd w A (s.length*3) (FQ s))(k:Nat)(e:k<s.length):∃a b,A=some (Δ a b)/\a<w.heap.size/\w.cell? (Δ a (b+k*3))=some (.string s[k].key)/\
 w.cell? (Δ a (b+k*3+1))=some (.string s[k].text)/\w.cell? (Δ a (b+k*3+2))=some (.bool s[k].gone):=by
 obtain⟨a,b,rfl,h,c⟩:=f.2 O;have d:=flat_get wrC 3 (λ_=>rfl) s k;refine⟨a,b,rfl,h,?_,?_,?_⟩
 ·have:=c (k*3) O;rw[this];exact d 0 e U
 ·have:=c (k*3+1) O;rw[SC,this];exact d 1 e U
 ·have:=c (k*3+2) O;rw[SC,this];exact d 2 e U
def Akh{w:World}{A:Option Addr}{c:Nat}{s:List Wr}(key:ByteArray)(aa:s.length<=100000)(K:Rd w A (s.length*3) (FQ s))(L:VQ s):
 Calls prog 75 #[.slice A s.length c,.string key,.func (.func 76) #[] #[]] w λn w'=>n=.returned (.tuple #[.int .i64 (GX s key:Nat),.bool (ny s key)])/\η w w':=by
 have P:=Aa K;have I:=Aa L;clear K L;go_enter func75,ntmps75
 go_wp2_with fail
 go_loopg [9,10]s.length(λS Y Z wr=>∃b a:Nat,Y=.int .i64 b/\Z=.int .i64 a/\b<=a/\a<=s.length/\a-b<=S/\η w wr/\(∀d(T:d<s.length),d<b->Gl s[d] key=true)/\(∀d(T:d<s.length),a<=d->Gl s[d] key=false))
 case atStart=>exact⟨0,s.length,rfl,rfl,BB _,Ad _,O,Below.refl _ _,λd _ D=>absurd D (Nat.not_lt_zero _),λd v y=>O⟩
 case round=>
  obtain⟨b,a,rfl,rfl,ac,W,ab,h,v,y⟩:=hrel;have t:=Aa v;have u:=Aa y;have l:=Aa h;have H:=Aa (Rd.below P.out h);clear v y h;have m:=Aa (λ(x:Wr)Q=>Akg x key Q);unfold VR at m;by_cases ad:b<a
  ·have B:(b+a)/2<s.length:=O;obtain⟨R,X,rfl,V,E,F,G⟩:=qh H.out ((b+a)/2) B;obtain⟨x,g⟩:=ε (s[(b+a)/2]);rw[<-g]at E F G;have J:=Aa g;have f:Gl x key=Op.bytesLess x.key.toList key.toList:=rfl;cases e:Op.bytesLess x.key.toList key.toList with
   |true=>
    rw[e,J.out]at f;have z:decide (ZP x.key key<0)=true:=by rw[show ZP x.key key= -1 by unfold ZP;rw[if_pos e]];decide
    have r:=Aa f;clear g f e
    go_wp2_with(go_at_call 76;refine(m.out x _).mono ?_;rintro n w'⟨rfl,k⟩)
    go_roundg(a-((b+a)/2+1))
    case measure=>omega
    case rel=>
     exact⟨(b+a)/2+1,a,by rw[show((b:Int)+(a:Int))/2+1=(((b+a)/2+1:Nat):Int)by omega],rfl,O,W,Ad _,τ l.out k,I.out.left B r.out,u.out⟩
   |false=>
    rw[e,J.out]at f;have z:decide (ZP x.key key<0)=false:=by
     unfold ZP;rw[e,if_neg U];split<;>decide
    have r:=Aa f;clear g f e
    go_wp2_with(go_at_call 76;refine(m.out x _).mono ?_;rintro n w'⟨rfl,k⟩)
    go_roundg((b+a)/2-b)
    case measure=>omega
    case rel=>
     exact⟨b,(b+a)/2,rfl,by rw[show((b:Int)+(a:Int))/2=(((b+a)/2:Nat):Int)by omega],O,O,Ad _,τ l.out k,t.out,I.out.right B r.out⟩
  ·have:a=b:=O;subst this;by_cases o:a<s.length
   ·obtain⟨R,X,rfl,V,E,F,G⟩:=qh H.out a o;obtain⟨j,i⟩:=pW o (u.out a o (Ad _)) t.out;have e:Op.bytesLess s[a].key.toList key.toList=false:=u.out a o (Ad _);obtain⟨x,g⟩:=ε (s[a]);rw[<-g]at E F G i e;have z:(ZP x.key key==0)=ny s key:=by
     rw[i];unfold ZP;rw[e,if_neg U];cases(x.key.toList==key.toList)<;>rfl
    have p:=Aa j;clear g j i e;obtain⟨M,C⟩:∃M,ny s key=M:=⟨_,rfl⟩;rw[C]at z;have q:=Aa C;clear C
    go_wp2_with(go_at_call 76;refine(m.out x _).mono ?_;rintro n w'⟨rfl,k⟩)
    go_ret2;exact⟨by rw[p.out,q.out];rfl,τ l.out k⟩
   ·have f:a=s.length:=O;obtain⟨j,i⟩:=Agx (s:=s) (key:=key) (λd D=>t.out d D O);have p:=Aa j;have q:=Aa i;have N:=Aa f;clear f j i
    go_wp2_with fail
    go_ret2;exact⟨by rw[p.out,q.out,N.out];rfl,l.out⟩
def ZQ{w:World}{A:Option Addr}{c:Nat}{s:List Wr}(key:ByteArray)(g:s.length<=100000)(b:Rd w A (s.length*3) (FQ s))(d:VQ s):
 Calls prog 44 #[.slice A s.length c,.string key] w λa w'=>a=.returned (.tuple #[.int .i64 (GX s key:Nat),.bool (ny s key)])/\η w w':=by
 have e:=Aa (Akh (c:=c) key g b d);clear b d;go_enter func44,ntmps44
 go_wp2_with fail
 refine e.out.mono ?_;rintro a i⟨rfl,f⟩
 go_wp2_with fail
 go_ret2;exact⟨rfl,f⟩
def QA(x:Wr):Bool:=decide (x.key.size<=100)&&decide (x.text.size<=100)
def qi(l:List Wr):Bool:=l.all QA&&decide (l.length<=60)
def qj{l:List Wr}(a:qi l=true):l.length<=60/\∀x∈l,x.key.size<=100/\x.text.size<=100:=by
 unfold qi at a;rw[Bool.and_eq_true,Ew]at a;refine⟨of_decide_eq_true a.2,λx b=>?_⟩;have:=a.1 x b;unfold QA at this;rw[Bool.and_eq_true]at this;exact⟨of_decide_eq_true this.1,of_decide_eq_true this.2⟩
def xU(l:List Wr)(A:Option Addr)(c:Nat)(w:World)(K:l.length<=9223372036854775807)(d:Rd w A (l.length*3) (FQ l)):Calls prog 17 #[.slice A l.length c] w λq w'=>q=.returned (.bool (qi l))/\η w w':=by
 have y:=Aa d;clear d;go_enter func17,ntmps17
 go_wp2_with fail
 go_loopw [7](λs wr=>∃a:Nat,a<=l.length/\s=.int .i64 (a:Nat)/\(∀j(f:j<l.length),j<a->QA l[j]=true)/\η w wr)(λs _=>l.length-(intOf s).toNat)
 case atStart=>exact⟨0,BB _,rfl,λj _ d=>absurd d O,Below.refl _ _⟩
 case round=>
  obtain⟨a,J,rfl,u,h⟩:=hrel;have g:=Aa h;have o:=Aa u;clear h u;by_cases k:a<l.length
  ·obtain⟨C,M,D⟩:=YB k;obtain⟨E,N,rfl,H,P,Q,R⟩:=qh (Rd.below y.out g.out) a k;have L:=jh a O;have b:Hid (QA l[a]=false->qi l=false):=Aa (λd=>by
    unfold qi;rw[Bool.and_eq_false_iff];exact .inl (by rw[List.all_eq_false];exact⟨_,BH k,by rw[d];decide⟩))
   have i:Hid (QA l[a]=true->∀j(f:j<l.length),j<a+1->QA l[j]=true):=Aa (λd j f I=>by
    by_cases q:j=a
    ·subst q;exact d
    ·exact o.out j f O)
   have e:QA l[a]=(decide (l[a].key.size<=100)&&decide (l[a].text.size<=100)):=rfl;generalize l[a]=x at*;obtain⟨z,r⟩:=ε (wr.alloc (.cells #[.string x.key,.string x.text,.bool x.gone] 61));have m:=Aa (τ g.out (show η wr z from r▸(Below.refl _ _).alloc (Ad _) _));have p:=Aa r;clear r;by_cases F:100<x.key.size
   ·have t1:decide ((100:Int)<(x.key.size:Int))=true:=decide_eq_true O;have n:=Aa (b.out (by rw[e,decide_eq_false O];rfl));clear b i e
    go_wp2_with fail
    go_ret;exact⟨by rw[n.out];rfl,p.out▸m.out⟩
   ·have t1:decide ((100:Int)<(x.key.size:Int))=false:=decide_eq_false O;by_cases G:100<x.text.size
    ·have t2:decide ((100:Int)<(x.text.size:Int))=true:=decide_eq_true O;have n:=Aa (b.out (by rw[e,decide_eq_false (by omega:¬x.text.size<=100),Bool.and_false]));clear b i e
     go_wp2_with fail
     go_ret;exact⟨by rw[n.out];rfl,p.out▸m.out⟩
    ·have t2:decide ((100:Int)<(x.text.size:Int))=false:=decide_eq_false O;have v:=Aa (i.out (by rw[e,decide_eq_true O,decide_eq_true O];rfl));clear b i e
     go_wp2_with fail
     go_roundw
     case rel=>exact⟨a+1,O,by go_num,v.out,p.out▸m.out⟩
     case measure=>simp[intOf];omega
  ·obtain⟨C,D⟩:=uH k;have b:Hid (qi l=decide ((l.length:Int)<=60)):=Aa (by
    unfold qi;rw[Ew.2 (λx B=>by
     obtain⟨j,f,rfl⟩:=List.getElem_of_mem B;exact o.out j f O),Bool.true_and]
    rw[Bool.eq_iff_iff,decide_eq_true_iff,decide_eq_true_iff];omega)
   clear o;by_cases t:(l.length:Int)<=60
   ·have t1:decide ((l.length:Int)<=60)=true:=decide_eq_true t;rw[t1]at b
    go_wp2_with fail
    go_ret;exact⟨by rw[b.out];rfl,g.out⟩
   ·have t1:decide ((l.length:Int)<=60)=false:=decide_eq_false t;rw[t1]at b
    go_wp2_with fail
    go_ret;exact⟨by rw[b.out];rfl,g.out⟩
def Tryz.Aan:JE prog 92 96 (.agg #[.int .i64 0,.int .u64 0,.int .u64 0,.bool false,.string ⟨#[]⟩]) 5 48:=⟨underlying92,by kernel_rfl,rfl⟩
def Ag8(s:St)(first:UInt64)(w:World)(e:Ending)(w':World):Prop:=
 η w w'/\match Lu s first with
  |none=>e=.returned (.tuple #[.slice none 0 0,.int .i64 5])
  |some a=>MO s a/\∃b,e=.returned (.tuple #[b,.int .i64 0])/\w'.ownsRow w.heap.size 96 5 b a.length (kJ a)
def Aki(s:St)(first:UInt64)(w:World)(g:Nat)(v a:Value)(wr:World):Prop:=
 ∃(b:List Lk)(c:UInt64)(d:Nat),a=.int .u64 (c.toNat:Int)/\OZ s d c b=Lu s first/\EL b<d/\EL b<=g/\MO s b/\wr.ownsRow w.heap.size 96 5 v b.length (kJ b)/\η w wr
def NL(a:UInt64): -9223372036854775808<=Bg a/\Bg a<=9223372036854775807:=by
 have b:=a.toNat_lt;unfold Bg;simp only[IntKind.wrap,IntKind.bits,IntKind.signed,Bool.true_and,decide_eq_true_eq,show(2:Int)^(64-1)=9223372036854775808 from rfl,show(2:Int)^64=18446744073709551616 from rfl];constructor<;>split<;>omega
def Mc{w w':World}{base n k:Nat}{e:TypeId}{v:Value}{xs:List Value}(b:w.ownsRow base e k v n xs)(h:η w w'):w'.ownsRow base e k v n xs:=
 Fg b (Kept.of_below (r:=none) h) (by
  rcases b.2 with⟨a,_⟩|⟨f,c,d,a,_⟩
  ·exact .inr (by subst a;rfl)
  ·exact .inl (by subst a;exact λe=>nomatch e))
section
variable{w w':World}{d p L:Nat}{s:St}{F:Nat->Prop}
def SV(A:Sys w d p L s F)(first:UInt64):Calls prog 36 #[Az d,Az p,.int .u64 (first.toNat:Int)] w (Ag8 s first w):=by
 have bw:=Aa A;have bs:=Aa (gK A);have b6:=Aa A.pos;clear A;go_enter func36,ntmps36
 go_wp2_with fail
 refine bs.out.mono ?_;rintro e cJ⟨rfl,rfl⟩;clear bs
 go_wp2_with fail
 go_loopg [8,9](EL [])(λy ct ca wr=>Aki s first w y ct ca wr)
 case atStart=>exact⟨[],first,_,rfl,rfl,by decide,Ad _,MO.nil s,EM _ _ _ _,Below.refl _ _⟩
 case round=>
  obtain⟨c,v,x,rfl,f,ah,C,a6,bV,h⟩:=hrel;obtain⟨x,rfl⟩:∃cd,x=cd+1:=⟨x-1,O⟩;rw[OZ]at f;have G:=Aa bV;have X:=Aa h;have bq:=Aa a6;have cl:=a6.few;clear bV h a6;by_cases ad:v.toNat=0
  ·rw[if_pos ad]at f;have t0:((v.toNat:Int)!=0)=false:=by rw[ad];rfl
   have aD:=Aa f;clear f ad ah C
   go_wp2_with fail
   go_ret2;refine⟨X.out,?_⟩;rw[<-aD.out];exact⟨bq.out,_,rfl,G.out⟩
  ·rw[if_neg ad]at f;have t0:((v.toNat:Int)!=0)=true:=by rw[bne_iff_ne];omega
   have bN:=NL v;have cp:IntKind.i64.wrap (v.toNat:Int)=Bg v:=rfl;obtain⟨m,bT⟩:=ε (Bg v);rw[<-bT]at cp bN f;have bE:=bw.out.below X.out;have aa:=Aa (show Calls prog 67 #[Az p,.int .i64 m] wr _ from by
    obtain⟨tb,h,n,cT,cH,own,co,-⟩:=bE;exact Zv co.at m bN)
   clear bT;by_cases B:DC s m=1
   ·rw[if_neg (by rw[B];exact λA=>A rfl)]at f;rw[B]at aa;obtain⟨ch,bB,b0,l⟩:=b6.out;obtain⟨bO,bR,al,a7⟩:=Acz b0 l bB B;obtain⟨j,am⟩:=ε (m.toNat/8);rw[<-am]at al a7 f;have cA:=Aa al;have cB:=Aa am;have bh:m.toNat/8=j:=am.symm;have b5:=Aa bh;have b4:=Aa B;have ab:=Aa f;have bo:=Aa ah;have bp:=Aa C;have b7:=Aa (And.intro bO bR);have av:=Aa (λ(b9:World)(ci:η w b9)=>jS (bw.out.below ci) j 8 a7);rw[<-al,show((8:Nat):Int)=8 from rfl]at av;clear al am bh B f ah C ch bB b0 l bO bR a7 bE
    go_wp2_with fail
    refine aa.out.mono ?_;rintro e b1⟨rfl,Q⟩;have D:=Aa (X.out.trans (Q.below w.heap.size));have bi:=Q.below wr.heap.size;have be:=Aa bi;clear aa Q bi
    go_wp2_with fail
    refine(av.out b1 D.out).mono ?_;rintro e cv⟨cI,rfl,bS,a1⟩;obtain⟨b2,cb,rfl,ck,bW⟩:=CS bS;have bm:=Aa (τ D.out a1);have bg:=Aa (τ be.out a1);have Y:=Aa (Acv (wordsAt s.ws j 8) b2 cb cv ck bW);clear bS bW a1 av
    go_wp2_with fail
    refine Y.out.mono ?_;rintro e W⟨a2,t⟩;have aB:=Aa (τ bm.out a2);have bj:=τ bg.out a2;have ar:=Aa bj;clear a2 Y bj bg be bm D;cases R:Lt (wordsAt s.ws j 8)with
    |none=>
     have o:=ab.out;rw[R]at t o;replace t:e=.returned (.tuple #[.agg #[.int .u64 0,.int .u64 0,.bool false,.string ⟨#[]⟩],.bool false]):=t;subst t;have o:Hid (none=Lu s first):=Aa o;clear R ab
     go_wp2_with fail
     go_quiet(fail)
     go_wp2_with fail
     go_ret2;refine⟨(aB.out.alloc aB.out.size _).trans ((Dr.one _ _).below _),?_⟩;rw[<-o.out];rfl
    |some a=>
     have o:=ab.out;rw[R]at t o;replace t:e=.returned (.tuple #[.agg #[.int .u64 (a.stamp.toNat:Int),.int .u64 (a.next.toNat:Int),.bool a.gone,.string a.text],.bool true]):=t;subst t;have o:=Aa o;have Y:=Aa R;clear R ab;obtain⟨z,bX,a3,az⟩:=Fz W 94 [.int .u64 (a.stamp.toNat:Int),.int .u64 (a.next.toNat:Int),.bool a.gone,.string a.text];have aL:=τ aB.out a3;have aw:=τ ar.out a3;have aE:Hid (∀y,u8.ownBlock=some y->y<wr.heap.size):=Aa (λy C=>(G.out.lt y C).2);have a0:=Fg G.out (Kept.of_below (r:=none) aw) (by
      rcases G.out.2 with⟨aR,_⟩|⟨y,cC,cD,aR,_⟩
      ·exact .inr (by subst aR;rfl)
      ·exact .inl (by subst aR;exact λe=>nomatch e))
     obtain⟨b3,bA,rfl,cF,S⟩:=Vs a0;obtain⟨an,ao,ap,aq,_,_,_,_⟩:=CO az;have K:=Aa a0;have J:=Aa aL;have bk:=Aa aw;have Z:=Aa az;have cG:=aL.size;have aH:=Aa bX;clear a3 az aL aw a0 G bX;obtain⟨n,l⟩:=ε c.length;have bt:=Aa l;rw[<-l]at K;rw[<-l]at cl aE;rw[<-l];by_cases k:EL c<=a.stamp.toNat
     ·have g:=o.out
      dsimp only at g
      rw[if_pos k]at g;have g:=Aa g;have bL:c≠[]:=λe=>by
       subst e;have:=a.stamp.toNat_lt;have cE:(18446744073709551616:Nat)<=a.stamp.toNat:=k;omega
      obtain⟨b,cm⟩:∃b,n=b+1:=⟨n-1,by have:c.length≠0:=(λe=>bL (List.eq_nil_of_length_eq_zero e));omega⟩;obtain⟨bx,bl,rfl,cj,a9,cr,ba,bb,bc⟩:=S.at b O;have af:EL c=c[b].rc.stamp.toNat:=by
       unfold EL;rw[eQ,Ae O];simp only[show c.length-1=b by omega]
      rw[af]at k;subst cm;have cf:decide ((0:Int)<(b:Int)+1)=true:=decide_eq_true O;have cg:decide (0<b+1)=true:=decide_eq_true O;have cn:IntKind.i64.wrap ((b:Int)+1-1)=(b:Int):=by rw[show(b:Int)+1-1=(b:Int)by omega];exact IntWalk.i64_in _ O
      have t5:decide ((c[b].rc.stamp.toNat:Int)<=(a.stamp.toNat:Int))=true:=decide_eq_true O;have t6:decide (c[b].rc.stamp.toNat<=a.stamp.toNat)=true:=decide_eq_true k;generalize c[b].rc.stamp=cq at*;clear af S bL l k a9 ba bb bc
      go_wp2_with fail
      rw[<-aH.out]
      go_quiet(fail)
      go_wp2_with fail
      go_ret2;refine⟨J.out.trans ((Dr.one _ _).below _),?_⟩;rw[<-g.out];rfl
     ·have ac:Hid (a.stamp.toNat<EL c):=Aa (cZ k);have g:=o.out
      dsimp only at g
      rw[if_neg k]at g;have g:=Aa g;have br:=Aa (bq.out.step b7.out b4.out (by rw[b5.out];exact Y.out) (cZ k));cases n with
      |zero=>
       clear S l
       go_wp2_with fail
       rw[<-aH.out]
       go_quiet(fail)
       obtain⟨i,q⟩:=ε (z.drewN nq);have r:η z i:=by rw[q];exact(Dr.one _ _).below _
       have u:=Z.out.ξ r;obtain⟨an,ao,ap,aq,_,_,_,_⟩:=CO u;have aM:=Aa (Mc K.out r);have T:i.heap.size=z.heap.size:=by rw[q];rfl
       have I:=Aa (τ J.out r);have E:=Aa u;have a4:w.heap.size<=i.heap.size:=I.out.size;have b8:=Aa T;rw[<-q];clear r u q K J Z bk T k
       go_wp2_with(at_builtin;refine E5 rfl (.tmp 61) (.tmp 65) 92 rfl Tryz.Aan i w.heap.size (.slice b3 0 bA) 0 (kJ c) [.int .i64 m,.int .u64 (a.stamp.toNat:Int),.int .u64 (a.next.toNat:Int),.bool a.gone,.string a.text] rfl aM.out rfl i.heap.size 1 rfl rfl rfl U (by intro cs V;simp at V;rcases V with rfl|rfl|rfl|rfl|rfl<;>rfl) O U a4 ?_;intro ce cc bd P M N a5;have H:CQ bd W.heap.size 94 _:=(N.2 W.heap.size E.out.lt (λe=>Ψ (aE.out _ e.symm) ar.out.size)).trans E.out;obtain⟨cw,cx,cy,cz,_,_,_,_⟩:=CO H)
       have aG:=Aa P;have a8:=Aa (I.out.trans M);clear P M N a5 H an ao ap aq
       go_wp2_with fail
       go_roundg(a.stamp.toNat)
       case measure=>have:=ac.out;have:=bp.out;omega
       case rel=>exact⟨c++[⟨m,a⟩],a.next,x,rfl,g.out,by rw[GL];have:=ac.out;have:=bo.out;show a.stamp.toNat<x;omega,by rw[GL];exact Ad _,br.out,by rw[pY,AY,<-bt.out];exact aG.out,a8.out⟩
      |succ b=>
       obtain⟨bx,bl,rfl,cj,a9,cr,ba,bb,bc⟩:=S.at b O;have af:EL c=c[b].rc.stamp.toNat:=by
        unfold EL;rw[eQ,Ae O];simp only[show c.length-1=b by omega]
       have cf:decide ((0:Int)<(b:Int)+1)=true:=decide_eq_true O;have cg:decide (0<b+1)=true:=decide_eq_true O;have cn:IntKind.i64.wrap ((b:Int)+1-1)=(b:Int):=by rw[show(b:Int)+1-1=(b:Int)by omega];exact IntWalk.i64_in _ O
       have t5:decide ((c[b].rc.stamp.toNat:Int)<=(a.stamp.toNat:Int))=false:=decide_eq_false O;have t6:decide (c[b].rc.stamp.toNat<=a.stamp.toNat)=false:=decide_eq_false O;generalize c[b].rc.stamp=cq at*;clear af S l a9 ba bb bc
       go_wp2_with fail
       rw[<-aH.out]
       go_quiet(fail)
       obtain⟨i,q⟩:=ε (z.drewN nq);have r:η z i:=by rw[q];exact(Dr.one _ _).below _
       have u:=Z.out.ξ r;obtain⟨an,ao,ap,aq,_,_,_,_⟩:=CO u;have aM:=Aa (Mc K.out r);have T:i.heap.size=z.heap.size:=by rw[q];rfl
       have I:=Aa (τ J.out r);have E:=Aa u;have a4:w.heap.size<=i.heap.size:=I.out.size;have b8:=Aa T;rw[<-q];clear r u q K J Z bk T k
       go_wp2_with(at_builtin;refine E5 rfl (.tmp 61) (.tmp 65) 92 rfl Tryz.Aan i w.heap.size (.slice (some (Δ bx bl)) (b+1) bA) (b+1) (kJ c) [.int .i64 m,.int .u64 (a.stamp.toNat:Int),.int .u64 (a.next.toNat:Int),.bool a.gone,.string a.text] rfl aM.out rfl i.heap.size 1 rfl rfl rfl U (by intro cs V;simp at V;rcases V with rfl|rfl|rfl|rfl|rfl<;>rfl) O U a4 ?_;intro ce cc bd P M N a5;have H:CQ bd W.heap.size 94 _:=(N.2 W.heap.size E.out.lt (λe=>Ψ (aE.out _ e.symm) ar.out.size)).trans E.out;obtain⟨cw,cx,cy,cz,_,_,_,_⟩:=CO H)
       have aG:=Aa P;have a8:=Aa (I.out.trans M);clear P M N a5 H an ao ap aq
       go_wp2_with fail
       go_roundg(a.stamp.toNat)
       case measure=>have:=ac.out;have:=bp.out;omega
       case rel=>exact⟨c++[⟨m,a⟩],a.next,x,rfl,g.out,by rw[GL];have:=ac.out;have:=bo.out;show a.stamp.toNat<x;omega,by rw[GL];exact Ad _,br.out,by rw[pY,AY,<-bt.out];exact aG.out,a8.out⟩
   ·rw[if_pos B]at f;have aD:=Aa f;have t1:(((DC s m:Nat):Int)!=1)=true:=by rw[bne_iff_ne];omega
    clear f ah C
    go_wp2_with fail
    refine aa.out.mono ?_;rintro e b1⟨rfl,Q⟩;have D:=Aa (X.out.trans (Q.below w.heap.size))
    go_wp2_with fail
    go_ret2;refine⟨D.out,?_⟩;rw[<-aD.out];rfl
end
def Akk(b c d:Nat)(a:World)(u:FrameMode)(g:a.cell? (Φ b)=some (.int .i64 0)):
 CallsD prog 129 #[Az b,Az c,Az d] u a λe f w'=>f=u/\(e=.returned (.tuple #[])/\w'=a):=by
 go_enter_d func129,ntmps129
 go_wp2;go_end0;exact⟨rfl,rfl⟩
def Ej.MP{m:Ef}{w:World}{d p L:Nat}{s:St}{F:Nat->Prop}(g:Ej m w d p L s F){b:Nat}(i:Nat)(v:Value)(h:¬F b)(e:b≠0)(f:b≠1):Ej m (w.setCell (Δ b i) v) d p L s F:=
 g.keep (G:=λc=>c=b) ((Touch.refl (λc=>c=b) w).setCell (p:=Δ b i) (.inl rfl) v) (λ_ j a=>h (a▸j)) (λa=>e a.symm) (λa=>f a.symm)
def I9(q:Ms)(r:Rc):Ms×UInt64×Int:=
 if DN r=false then(q,0,2)else
 match CP q.s 1 with
 |none=>(q,0,6)
 |some (a,f)=>
  match Lj ⟨q.pw,f⟩ (JF (a/8) 8) (BK f.ws (a/8) (CW r))with
  |(d,b)=>if b=0 then(match IP d a with|(e,c)=>if c=0 then(e,Aj a,0)else((Eh e a).1,0,c))else((Eh d a).1,0,b)
def qm(s:St)(r:Rc):I9 ⟨.up (-1),s⟩ r=(⟨.up (-1),(Iq s r).1⟩,(Iq s r).2):=by
 unfold I9 Iq;cases DN r
 ·rfl
 ·simp only[Bool.true_eq_false,if_false];cases CP s 1 with
  |none=>rfl
  |some a=>
   obtain⟨b,c⟩:=a;simp only[Qq,fO,if_true];split
   ·rfl
   ·rw[NV]
def Aao{q:Ms}{d p L:Nat}{F:Nat->Prop}(c e f:Nat)(off er:Int)(a:World)(u:FrameMode)(o:a.cell? (Φ c)=some (.int .i64 er))(i:er≠0)(h1:a.cell? (Φ e)=some (Az p))(h2:a.cell? (Φ f)=some (.int .i64 off))
 (j:Ll a d p L q F)(l: -9223372036854775808<=off/\off<=9223372036854775807):
 CallsD prog 129 #[Az c,Az e,Az f] u a λg n w'=>n=u/\(g=.returned (.tuple #[])/\∃b,Ll w' d p L (Eh q off).1 b/\AP F b a w'):=by
 have k:=Aa (LV j off l);have t1:(er==0)=false:=ζ i;clear j i
 go_enter_d func129,ntmps129
 go_wp2_with fail
 refine k.out.mono ?_;rintro g r⟨rfl,m⟩
 go_wp2_with fail
 go_end0;exact⟨rfl,m⟩
def Vu(q:Ms)(r:Rc)(d p L:Nat)(F:Nat->Prop)(w:World)(e:Ending)(w':World):Prop:=
 e=.returned (.tuple #[.int .u64 ((I9 q r).2.1.toNat:Int),.int .i64 (I9 q r).2.2])/\∃a,Ll w' d p L (I9 q r).1 a/\AP F a w w'
section
variable{w w':World}{d p L:Nat}{s:St}{F:Nat->Prop}{q:Ms}
def WG(I:Ll w d p L q F)(r:Rc)(c4:r.text.size<=4294967296):
 Calls prog 82 #[Az d,Az p,rcV r] w (Vu q r d p L F w):=by
 have dq:∀(cj:Fn)(first cap:Array Value)(w:World),(Instr.makeFunc cj first cap).run prog w=.ok (.func cj first cap) w:=λ_ _ _ _=>rfl
 obtain⟨S,X⟩:=ε (((w.alloc (.cells #[Az p] 31)).alloc (.cells #[.int .u64 (r.stamp.toNat:Int),.int .u64 (r.next.toNat:Int),.bool r.gone,.string r.text] 94)).alloc (.cells #[.int .i64 0] 40));have bB:η w S:=by
  rw[X];exact(((Below.refl _ _).alloc (Ad _) _).alloc Θ _).alloc (by simp;omega) _
 have co:S.heap.size=w.heap.size+3:=by rw[X];simp
 have i:CQ S w.heap.size 31 [Az p]:=by
  rw[X];exact(χ _ _ (by simp;omega)).trans ((χ _ _ Θ).trans (heap_alloc_new _ _))
 have M:CQ S (w.heap.size+1) 94 [.int .u64 (r.stamp.toNat:Int),.int .u64 (r.next.toNat:Int),.bool r.gone,.string r.text]:=by
  rw[X];have:=heap_alloc_new (w.alloc (.cells #[Az p] 31)) (.cells #[.int .u64 (r.stamp.toNat:Int),.int .u64 (r.next.toNat:Int),.bool r.gone,.string r.text] 94);rw[show(w.alloc (.cells #[Az p] 31)).heap.size=w.heap.size+1 by simp]at this;exact(χ _ _ Θ).trans this
 have b:CQ S (w.heap.size+1+1) 40 [.int .i64 0]:=by
  rw[X];have:=heap_alloc_new ((w.alloc (.cells #[Az p] 31)).alloc (.cells #[.int .u64 (r.stamp.toNat:Int),.int .u64 (r.next.toNat:Int),.bool r.gone,.string r.text] 94)) (.cells #[.int .i64 0] 40);rw[show((w.alloc (.cells #[Az p] 31)).alloc (.cells #[.int .u64 (r.stamp.toNat:Int),.int .u64 (r.next.toNat:Int),.bool r.gone,.string r.text] 94)).heap.size=w.heap.size+1+1 by simp]at this;exact this
 obtain⟨ch,bl⟩:∃m,m=w.heap.size+1:=⟨_,rfl⟩;obtain⟨a,bm⟩:∃m,m=w.heap.size+1+1:=⟨_,rfl⟩;rw[<-bm]at b;rw[<-bl]at M;have v:=i.cell 0;have x:=b.cell 0;have f2:=b.frozen 0;obtain⟨de,dg,dh,dj,_,_,_,_⟩:=CO M;simp only[Ag]at v x;have ac:=Aa I;have b3:=Aa bB;have b6:=Aa (gK (I.below bB));have bq:=Aa (gG r S c4);have a9:=Aa i;have db:=Aa M;have aw:=Aa b;have cP:=Aa X;have dn:=Aa co;have cK:=Aa bl;have cL:=Aa bm;have dp:w.heap.size<ch/\ch<a/\a<S.heap.size:=O;have aG:=Aa I.lt;unfold rcV at bq⊢;clear I bB co i M b X;obtain⟨A,s⟩:=q
 go_enter_defers func82,ntmps82
 go_wp2_with fail
 rw[<-cP.out,<-cL.out,<-cK.out];refine b6.out.mono ?_;rintro l dd⟨rfl,rfl⟩;clear b6 bl bm
 go_wp2_with fail
 refine bq.out.mono ?_;rintro l dd⟨Z,ah⟩;have a8:=Aa (τ b3.out Z);have dl:=Aa Z;have i:=a9.out.ξ Z;have M:=db.out.ξ Z;have b:=aw.out.ξ Z;replace v:=i.cell 0;replace x:=b.cell 0;replace f2:=b.frozen 0;simp only[Ag]at v x;have dr:=Z.size;clear bq Z de dg dh dj;cases P:DN r with
 |false=>
  rw[P]at ah;replace ah:l=.returned (.tuple #[.slice none 0 0,.bool false]):=ah;subst ah;have t:Hid (I9 ⟨A,s⟩ r=(⟨A,s⟩,0,2)):=Aa (by unfold I9;rw[if_pos P]);have b4:=Aa (a8.out.setCell (p:=Φ a) (by show _<=a;omega) (.int .i64 2));have e:=b.AZ 0 (.int .i64 2);have n:=e.cell 0;simp only[Ap,Ag]at n;clear P i M b e
  go_wp2_with fail
  refine⟨.tuple #[.int .u64 0,.int .i64 2],by simp[results,results82,go_sem,n],?_,F,?_,AP.of_below b4.out⟩
  ·rw[t.out];rfl
  ·rw[t.out];exact Ej.below ac.out b4.out
 |true=>
  rw[P,if_pos rfl]at ah;obtain⟨aL,rfl,bN⟩:=ah;have bs:=Aa bN;have bb:=Aa (Vo (ac.out.below a8.out) 1 U U);have cM:=Aa P;have a9:=Aa i;have aw:=Aa b;cases J:CP s 1 with
  |none=>
   have a0:resV s 1=.tuple #[.int .i64 0,.int .i64 6]:=by unfold resV;rw[J]
   have aR:Uu s 1=s:=by unfold Uu;rw[J]
   rw[a0,aR]at bb;have t:Hid (I9 ⟨A,s⟩ r=(⟨A,s⟩,0,6)):=Aa (by unfold I9;rw[if_neg (by rw[P];exact λl=>nomatch l)];simp only[J]);clear a0 aR J P bN i M b
   go_wp2_with fail
   refine bb.out.mono ?_;rintro l K⟨rfl,al,y⟩;have z:¬F a:=λo=>Ω (aG.out a o)
   have b:=aw.out.touch y.touch z;have be:CQ (K.alloc (.cells #[.int .i64 0] 3)) a 40 [.int .i64 0]:=(χ _ _ b.lt).trans b;have e:=be.AZ 0 (.int .i64 6);have aH:=be.cell 0;have bA:=be.frozen 0;have n:=e.cell 0;have f3:=e.frozen 0;simp only[Ap,Ag]at n aH;have D:η K (K.alloc (.cells #[.int .i64 0] 3)):=(Below.refl _ _).alloc (Ad _) _;have cY:=al.tabs.lt;have cl:0<w.heap.size/\1<w.heap.size:=ac.out.tabs.lt;have cy:Hid (Ll ((K.alloc (.cells #[.int .i64 0] 3)).setCell (Φ a) (.int .i64 6)) d p L ⟨A,s⟩ F):=Aa ((Ej.below al D).MP 0 _ z O O);have cz:Hid (AP F F w ((K.alloc (.cells #[.int .i64 0] 3)).setCell (Φ a) (.int .i64 6))):=Aa (((AP.of_below (F:=F) a8.out).trans (y.below D)).set (p:=Φ a) (.inr (by show _<=a;omega)) _);have cA:=Aa (cy.out.MP 0 (.int .i64 6) z O O);have cB:=Aa (cz.out.set (p:=Φ a) (.inr (by show _<=a;omega)) (.int .i64 6));clear b be e D cY cl al y z
   go_wp2_with fail
   go_region
   all_goals(go_wp2_with fail)
   all_goals(refine⟨.tuple #[.int .u64 0,.int .i64 6],by simp[results,results82,go_sem,n],by rw[t.out];rfl,F,?_,cB.out.below ((Dr.drew _).below _)⟩)
   all_goals(rw[t.out])
   all_goals(exact Ej.below cA.out ((Dr.drew _).below _))
  |some c8=>
   obtain⟨c,ap⟩:=c8;have a0:resV s 1=.tuple #[.int .i64 (c:Int),.int .i64 0]:=by unfold resV;rw[J]
   have aR:Uu s 1=ap:=by unfold Uu;rw[J]
   rw[a0,aR]at bb;obtain⟨_,_,cw,b2⟩:=ac.out.pos;obtain⟨am,cm,cn⟩:=ZL cw b2 (.inl rfl) J;obtain⟨⟨ao,g⟩,bO⟩:∃bV,bV=Lj ⟨A,ap⟩ (JF (c/8) 8) (BK ap.ws (c/8) (CW r)):=⟨_,rfl⟩;have t:Hid (I9 ⟨A,s⟩ r=if g=0 then(match IP ao c with|(an,l)=>if l=0 then(an,Aj c,0)else((Eh an c).1,0,l))else((Eh ao c).1,0,g)):=Aa (by
    unfold I9;rw[if_neg (by rw[cM.out];exact λl=>nomatch l)];simp only[J,<-bO])
   have ba:=Aa bO;have br:=Aa cm;have dm:c+64<=64*L/\L<=1024:=⟨by simp only[Bf]at cn;omega,ac.out.pos.2.1⟩;clear a0 aR J P bN i M b cw b2 cm cn bO
   go_wp2_with fail
   refine bb.out.mono ?_;rintro l K⟨rfl,al,y⟩;have z:¬F a:=λo=>Ω (aG.out a o)
   have a6:¬F w.heap.size:=λo=>Ω (aG.out _ o)
   have c1:=y.touch.size;obtain⟨T,af⟩:=ε (K.alloc (.cells #[.int .i64 (c:Int)] 3));obtain⟨k,aM⟩:∃m,m=K.heap.size:=⟨_,rfl⟩;have D:η K T:=by rw[af];exact(Below.refl _ _).alloc (Ad _) _
   have b:=(aw.out.touch y.touch z).below D (aw.out.touch y.touch z).lt;have i:=(a9.out.touch y.touch a6).below D (a9.out.touch y.touch a6).lt;have e:CQ T k 3 [.int .i64 (c:Int)]:=by rw[af,aM];exact heap_alloc_new _ _
   have ct:Ws T (some (Φ aL)) 8 (CW r):=by
    have cV:=(CV bs.out).2;have cW:∀bh,some ((Φ aL):Addr)=some bh->¬F bh.block:=λbh Y o=>by
     obtain⟨cU,H,c0,_⟩:=Om bs.out U;injection H with H
     injection H with H
     injection Y with Y
     subst Y;have:=aG.out _ o;have:=b3.out.size;show False;simp only at*;omega
    exact Ws.below (Rd.touch cV y.touch cW) D
   have cl:0<w.heap.size/\1<w.heap.size:=ac.out.tabs.lt;have cp:=al.below D;have dk:a<k:=O;have b7:=Aa (λ(ce:World)(I:Ll ce d p L ⟨A,ap⟩ F)(c5:Ws ce (some (Φ aL)) 8 (CW r))=>X4 I am 8 8 (some (Φ aL)) (CW r) (Ω br.out) U c5);have v:=i.cell 0;have x:=b.cell 0;have f2:=b.frozen 0;have n:=e.cell 0;simp only[Ag]at v x n;rw[af]at v x f2 n;rw[aM]at n;have cq:=cp.MP 0 (.int .i64 0) z (b:=a) O O;have cv:Ws (T.setCell (Φ a) (.int .i64 0)) (some (Φ aL)) 8 (CW r):=by
    refine Rd.touch ct ((Touch.refl (λc7=>c7=a) T).setCell (p:=Φ a) (.inl rfl) _) (λbh Y l=>?_);obtain⟨cU,H,c0,_⟩:=Om bs.out U;injection H with H
    injection H with H
    injection Y with Y
    subst Y;simp only at l;omega
   have N:=b7.out _ cq cv;rw[show 8+((am+8-1)/8-am/8+1)+1=JF am 8 from rfl]at N;have ci:am=c/8:=Ω br.out;rw[show((8*am:Nat):Int)=(c:Int)by have:=br.out;omega,ci,<-ba.out]at N;have N:=Aa N;have aD:=b.AZ 0 (.int .i64 0);have bt:=i.far (show w.heap.size≠a by omega) 0 (.int .i64 0);have aE:=e.far (show k≠a by omega) 0 (.int .i64 0);simp only[Ap]at aD;have bL:AP F F w (T.setCell (Φ a) (.int .i64 0)):=((AP.of_below (F:=F) a8.out).trans (y.below D)).set (p:=Φ a) (.inr (by show _<=a;omega)) _;have cT:=aE.p1;rw[af,aM]at cT;have bX:=aE.lt;have a7:=aD.lt;obtain⟨cf,bw⟩:=ε (T.setCell (Φ a) (.int .i64 0));rw[<-bw]at N aD bt aE bL bX a7;have b5:=Aa bL;have cC:=Aa aD;have cD:=Aa bt;have cE:=Aa aE;have dc:=Aa bw;have cQ:=Aa af;have cH:=Aa aM;have b0:¬F k:=λo=>Ω (aG.out _ o)
   clear ci cq cv aD bt aE bL bw ct cp al y i b e D b7 c1 af aM
   go_wp2_with fail
   rw[<-cQ.out,<-dc.out,<-cH.out];refine N.out.mono ?_;rintro l a5⟨rfl,aq,bi,C⟩;have b:=cC.out.touch C.touch z;have i:=cD.out.touch C.touch a6;have e:=cE.out.touch C.touch b0;have W:∀m,m<cf.heap.size->¬F m->¬aq m:=λm h c2 o=>(C.own m o).elim c2 (λI=>O)
   have ck:g=0\/g=12:=by have:=Agb ⟨A,ap⟩ (JF (c/8) 8) (BK ap.ws (c/8) (CW r));rw[<-ba.out]at this;exact this
   by_cases a1:g=0
   rotate_left
   ·have t5:(g !=0)=true:=by simpa using a1
    have Q:=W a a7 z;have c6:=C.touch.size;have v:=i.cell 0;have x:=b.cell 0;have f2:=b.frozen 0;have n:=e.cell 0;have u:=b.AZ 0 (.int .i64 g);have R:=u.AZ 0 (.int .i64 g);have d2:=u.cell 0;have bA:=u.frozen 0;have E:=R.cell 0;simp only[Ag,Ap]at v x n d2 E;have az:Hid (Ll ((a5.setCell (Φ a) (.int .i64 g)).setCell (Φ a) (.int .i64 g)) d p L ao aq):=Aa ((Ej.MP bi 0 (.int .i64 g) Q O O).MP 0 (.int .i64 g) Q O O);have av:=Aa ((((b5.out.trans C).set (p:=Φ a) (.inr (by show _<=a;omega)) (.int .i64 g))).set (p:=Φ a) (.inr (by show _<=a;omega)) (.int .i64 g));have aa:=((i.far (show w.heap.size≠a by omega) 0 (.int .i64 g)).far (show w.heap.size≠a by omega) 0 (.int .i64 g)).cell 0;have ab:=((e.far (show k≠a by omega) 0 (.int .i64 g)).far (show k≠a by omega) 0 (.int .i64 g)).cell 0;simp only[Ag]at aa ab;have bo:=R.lt;have G:=Aa (And.intro E (And.intro aa ab));have aB:Hid (I9 ⟨A,s⟩ r=((Eh ao c).1,0,g)):=Aa (by rw[t.out,if_neg a1]);have cS:c<=65536:=O;have cI:=Aa a1;clear bi C i b e u R W N E aa ab a1 ck t ba
    go_wp2_with fail
    go_region
    all_goals(go_wp2_with fail)
    all_goals(refine leaves_cons (f:=129) (args:= #[Az a,Az w.heap.size,Az k]) Θ (by simp[go_sem]) ?_)
    all_goals(refine(Aao a w.heap.size k (c:Int) g (df ((a5.setCell (Φ a) (.int .i64 g)).setCell (Φ a) (.int .i64 g))) .returning (by exact G.out.1) cI.out (by exact G.out.2.1) (by exact G.out.2.2) (Ej.below az.out ((Dr.drew _).below _)) O).mono ?_)
    all_goals(rintro l cx bk⟨rfl,rfl,bp,bS,bE⟩)
    all_goals(have a3:=(AP.of_below ((Dr.drew ((a5.setCell (Φ a) (.int .i64 g)).setCell (Φ a) (.int .i64 g))).below _)).trans bE)
    all_goals(have bW:bk.cell? (Φ a)=some (.int .i64 g):=(Bh (a3.touch.block a bo Q)).trans G.out.1)
    all_goals(refine⟨.tuple #[.int .u64 0,.int .i64 g],by simp[results,results82,go_sem,bW],by rw[aB.out];rfl,bp,by rw[aB.out];exact bS,av.out.trans a3⟩)
   subst a1;clear ck;have cr:Ll _ d p L ao aq:=Ej.MP bi 0 (.int .i64 0) (b:=a) (W a a7 z) O O;obtain⟨⟨a4,j⟩,bR⟩:∃bV,bV=IP ao c:=⟨_,rfl⟩;have V:=Zw cr (c:Int) O;rw[<-bR]at V;have V:=Aa V;have bd:Hid (I9 ⟨A,s⟩ r=if j=0 then(a4,Aj c,0)else((Eh a4 c).1,0,j)):=Aa (by rw[t.out,if_pos rfl,<-bR]);have v:=i.cell 0;have x:=b.cell 0;have f2:=b.frozen 0;have n:=e.cell 0;have u:=b.AZ 0 (.int .i64 0);have d0:=(i.far (show w.heap.size≠a by omega) 0 (.int .i64 0)).cell 0;have d3:=(e.far (show k≠a by omega) 0 (.int .i64 0)).cell 0;have d2:=u.cell 0;simp only[Ag,Ap]at v x n d0 d2 d3;have cg:=Aa ((b5.out.trans C).set (p:=Φ a) (.inr (by show _<=a;omega)) (.int .i64 0));clear bi cr;have cR:=V;have cc:=i.far (show w.heap.size≠a by omega) 0 (.int .i64 0);have cd:=e.far (show k≠a by omega) 0 (.int .i64 0);have cX:Hid (∀m,m<cf.heap.size->¬F m->¬aq m):=Aa W;have Q:=W a a7 z;have b1:=W k bX b0;have c6:=C.touch.size;have bc:=Aa u;have b8:=Aa cd;have cN:=Aa cc;clear W C i b e u cc cd cR bR t ba N
   go_wp2_with fail
   refine V.out.mono ?_;rintro l bT⟨rfl,ar,bj,B⟩;by_cases a2:j=0
   rotate_left
   ·have t7:(j !=0)=true:=by simpa using a2
    have cF:¬aq w.heap.size:=cX.out _ O a6;have b:=bc.out.touch B.touch Q;have e:=b8.out.touch B.touch b1;have i:=cN.out.touch B.touch cF;have cG:a<(a5.setCell (Δ a 0) (.int .i64 0)).heap.size:=bc.out.lt;have ad:¬ar a:=λo=>(B.own a o).elim Q (λI=>O)
    have aH:=b.cell 0;have bA:=b.frozen 0;have bx:=e.cell 0;have u:=b.AZ 0 (.int .i64 j);have R:=u.AZ 0 (.int .i64 j);have an:=u.cell 0;have da:=u.frozen 0;have E:=R.cell 0;simp only[Ag,Ap]at aH bx an E;have az:Hid (Ll ((bT.setCell (Φ a) (.int .i64 j)).setCell (Φ a) (.int .i64 j)) d p L a4 ar):=Aa ((Ej.MP bj 0 (.int .i64 j) ad O O).MP 0 (.int .i64 j) ad O O);have av:=Aa ((((cg.out.trans B).set (p:=Φ a) (.inr (by show _<=a;omega)) (.int .i64 j))).set (p:=Φ a) (.inr (by show _<=a;omega)) (.int .i64 j));have aa:=((i.far (show w.heap.size≠a by omega) 0 (.int .i64 j)).far (show w.heap.size≠a by omega) 0 (.int .i64 j)).cell 0;have ab:=((e.far (show k≠a by omega) 0 (.int .i64 j)).far (show k≠a by omega) 0 (.int .i64 j)).cell 0;simp only[Ag]at aa ab;have bo:=R.lt;have G:=Aa (And.intro E (And.intro aa ab));have aB:Hid (I9 ⟨A,s⟩ r=((Eh a4 c).1,0,j)):=Aa (by rw[bd.out,if_neg a2]);have cS:c<=65536:=O;have cJ:=Aa a2;clear bj B i b e u R V E aa ab a2 bd v x f2 n d0 d2 d3
    go_wp2_with fail
    go_region
    all_goals(go_wp2_with fail)
    all_goals(refine leaves_cons (f:=129) (args:= #[Az a,Az w.heap.size,Az k]) Θ (by simp[go_sem]) ?_)
    all_goals(refine(Aao a w.heap.size k (c:Int) j (df ((bT.setCell (Φ a) (.int .i64 j)).setCell (Φ a) (.int .i64 j))) .returning (by exact G.out.1) cJ.out (by exact G.out.2.1) (by exact G.out.2.2) (Ej.below az.out ((Dr.drew _).below _)) O).mono ?_)
    all_goals(rintro l cx bk⟨rfl,rfl,bp,bS,bE⟩)
    all_goals(have a3:=(AP.of_below ((Dr.drew ((bT.setCell (Φ a) (.int .i64 j)).setCell (Φ a) (.int .i64 j))).below _)).trans bE)
    all_goals(have bW:bk.cell? (Φ a)=some (.int .i64 j):=(Bh (a3.touch.block a bo ad)).trans G.out.1)
    all_goals(refine⟨.tuple #[.int .u64 0,.int .i64 j],by simp[results,results82,go_sem,bW],by rw[aB.out];rfl,bp,by rw[aB.out];exact bS,av.out.trans a3⟩)
   subst a2;rw[if_pos rfl]at bd;have t:=bd;have b:=bc.out.touch B.touch Q;have e:=b8.out.touch B.touch b1;have cG:a<(a5.setCell (Δ a 0) (.int .i64 0)).heap.size:=bc.out.lt;have ad:¬ar a:=λo=>(B.own a o).elim Q (λI=>O)
   have aH:=b.cell 0;have bA:=b.frozen 0;have bx:=e.cell 0;have bg:=b.AZ 0 (.int .i64 0);have ca:=e.far (show k≠a by omega) 0 (.int .i64 0);have an:=bg.cell 0;have da:=bg.frozen 0;have c9:=ca.cell 0;have cb:=bg.AZ 0 (.int .i64 0);have E:=cb.cell 0;simp only[Ag,Ap]at aH bx an c9 E;have cs:Ll _ d p L a4 ar:=(Ej.MP bj 0 (.int .i64 0) ad O O).MP 0 (.int .i64 0) ad O O;have az:=Aa cs;have av:=Aa (((cg.out.trans B).set (p:=Φ a) (.inr (by show _<=a;omega)) (.int .i64 0)).set (p:=Φ a) (.inr (by show _<=a;omega)) (.int .i64 0));have b9:=Aa E;have ds:IntKind.u64.wrap (c:Int)=(c:Int):=by rw[IntKind.wrap_u64];omega
   have c3:Hid ((Aj c).toNat=c):=Aa (by rw[H8];exact Nat.mod_eq_of_lt O);clear bj B b e bg ca cb cs v x f2 n d0 d2 d3 V
   go_wp2_with fail
   refine leaves_cons (f:=129) (args:= #[Az a,Az w.heap.size,Az k]) Θ (by simp[go_sem]) ?_;refine(Akk a w.heap.size k _ .returning ?_).mono ?_
   ·simp[b9.out]
   rintro l cx bk⟨rfl,rfl,rfl⟩;refine⟨.tuple #[.int .u64 (c:Int),.int .i64 0],by simp[results,results82,go_sem,b9.out],?_,ar,?_,av.out⟩
   ·rw[t.out,c3.out]
   ·rw[t.out];exact az.out
def Aap(s:St)(r:Rc)(d p L:Nat)(F:Nat->Prop)(w:World)(e:Ending)(w':World):Prop:=
 e=.returned (.tuple #[.int .u64 ((Iq s r).2.1.toNat:Int),.int .i64 (Iq s r).2.2])/\∃a,Sys w' d p L (Iq s r).1 a/\AP F a w w'
def Ag9(a:Sys w d p L s F)(r:Rc)(b:r.text.size<=4294967296):Calls prog 82 #[Az d,Az p,rcV r] w (Aap s r d p L F w):=by
 have:=WG (q:=⟨.up (-1),s⟩) a r b;unfold Vu at this;rw[qm]at this;exact this
end
def Tryz.Akn:JE prog 54 3 (.int .i64 0) 1 8:=⟨underlying54,by kernel_rfl,rfl⟩
section
variable{w w':World}{x d p L:Nat}{s:St}{F:Nat->Prop}
def QB{q:Ms}(a:Yj w x d p L q F)(pl:Pl)(A:Acr L pl)(b c e:Option Addr)(j f k g l i:Nat)(n:UInt64):
 Calls prog 100 #[Az x,.agg #[.slice b j f,.int .u64 (pl.nd.val.toNat:Int),.slice c k g,.slice e l i,.int .i64 pl.off,.int .u8 (pl.label.toNat:Int),.int .i64 pl.word],.int .u64 (n.toNat:Int)] w λv w'=>
  v=.returned (.int .i64 (LW q pl n).2)/\∃o,Yj w' x d p L (LW q pl n).1 o/\AP F o w w':=by
 obtain⟨m,z,J⟩:=A.off;obtain⟨S,T,N,C⟩:=a.L0;have t:η w (w.alloc (.cells #[.slice b j f,.int .u64 (pl.nd.val.toNat:Int),.slice c k g,.slice e l i,.int .i64 pl.off,.int .u8 (pl.label.toNat:Int),.int .i64 pl.word] 197)):=(Below.refl _ _).alloc (Ad _) _;have r:=Aa (λ(E:World)(I:η w E)=>RG (q:=q) (a.below I).sys (m+2) n O);rw[show((8*(m+2):Nat):Int)=pl.off+16 by omega]at r;have D:=Aa a;have B:LW q pl n=Lj q 3 (D9 q.s.ws (m+2) n):=by unfold LW;rw[z,show((8*m:Nat):Int).toNat/8=m by omega]
 rw[<-B]at r;generalize LW q pl n=U at r⊢;have R:IntKind.i64.wrap (pl.off+16)=pl.off+16:=wrap64 _ O O;have P:=(t.cell (p:=Φ x) a.box.lt).trans (a.box.cell 0);simp only[Ag]at P;have u:CQ (w.alloc (.cells #[.slice b j f,.int .u64 (pl.nd.val.toNat:Int),.slice c k g,.slice e l i,.int .i64 pl.off,.int .u8 (pl.label.toNat:Int),.int .i64 pl.word] 197)) w.heap.size 197 [.slice b j f,.int .u64 (pl.nd.val.toNat:Int),.slice c k g,.slice e l i,.int .i64 pl.off,.int .u8 (pl.label.toNat:Int),.int .i64 pl.word]:=heap_alloc_new _ _;have W:=(EN u).2.2.2.2.1;have Q:0<=pl.off/\pl.off<=65536:=O;generalize pl.off=M at*;clear a B A z J N C u;go_enter func100,ntmps100
 go_wp2_with fail
 generalize w.alloc (.cells #[.slice b j f,.int .u64 (pl.nd.val.toNat:Int),.slice c k g,.slice e l i,.int .i64 M,.int .u8 (pl.label.toNat:Int),.int .i64 pl.word] 197)=G at*
 go_region_with(go_at_call 50;go_loud(refine(r.out _ (t.trans ((Dr.drew _).below _))).mono ?_;rintro v V⟨rfl,o,K,H⟩))
 all_goals(go_wp2_with fail)
 all_goals(go_ret)
 all_goals(have y:=(AP.of_below (F:=F) (t.trans ((Dr.drew G).below _))).trans H)
 all_goals(exact⟨rfl,o,D.out.move K y,y⟩)
def Ac3{q:Ms}(f:Ll w d p L q F)(j n c:Nat)(A:Option Addr)(xs:List UInt64)(g:j+n<=8*L)(i:0<n)(l:Ws w A n xs){r:Ms}{b:Int}(k:Lj q (JF j n) (BK q.s.ws j xs)=(r,b)):
 Calls prog 79 #[Az d,.int .i64 ((8*j:Nat):Int),.slice A n c] w λe w'=>e=.returned (.int .i64 b)/\∃a,Ll w' d p L r a/\AP F a w w':=by
 have:=X4 f j n c A xs g i l;rw[show n+((j+n-1)/8-j/8+1)+1=JF j n from rfl,k]at this;exact this
end
def IA(r:Jm×UInt64×Int)(base jb x d p L:Nat)(G:Nat->Prop)(w:World)(e:Ending)(w':World):Prop:=
 e=.returned (.tuple #[.int .u64 (r.2.1.toNat:Int),.int .i64 r.2.2])/\∃a,FZ w' base jb x d p L r.1 a/\AP G a w w'
section
variable{w w':World}{base jb x d p L:Nat}{j:Jm}{G:Nat->Prop}
def Md(bS:FZ w base jb x d p L j G)(a:Nd)(ap aq Y:Option Addr)(a7 a8 aE:Nat)(cG:a.pre.length<=1000)(cH:a.labels.length<=1000)(cI:a.kids.length<=1000)
 (h1:Bs w ap a.pre.length a.pre)(h2:Bs w aq a.labels.length a.labels)(h3:Ws w Y a.kids.length a.kids)(cL:j.made.length<=1000):
 Calls prog 146 #[Az jb,.agg #[.slice ap a.pre.length a7,.int .u64 (a.val.toNat:Int),.slice aq a.labels.length a8,.slice Y a.kids.length aE]] w (IA (DD j a) base jb x d p L G w):=by
 obtain⟨ac,aL,N,P,Q,R,h,cN⟩:=Afp w 195 (.slice ap a.pre.length a7) (.int .u64 (a.val.toNat:Int)) (.slice aq a.labels.length a8) (.slice Y a.kids.length aE);have K:=Aa aL;have I:=Aa (Rw ap aq Y a.pre.length a7 a.labels.length a8 a.kids.length aE a ac O O O (h1.below h) (h2.below h) (h3.below h));have a1:=Aa bS;have H:=Aa h;clear aL bS h h1 h2 h3;cases aH:Cf a with
 |false=>
  have l:Hid (DD j a=(j,0,5)):=Aa (by unfold DD;rw[aH];rfl);go_enter func146,ntmps146
  go_wp2_with fail
  rw[<-K.out];clear K;refine I.out.mono ?_;rintro g o⟨b,t⟩;rw[aH]at t;replace t:g=.returned (.tuple #[.slice none 0 0,.bool false]):=t;subst t;have u:=Aa (τ H.out b);clear b I N P Q R
  go_wp2_with fail
  go_ret2;refine⟨by rw[l.out];rfl,G,?_,AP.of_below u.out⟩;rw[l.out];exact a1.out.below u.out
 |true=>
  obtain⟨F,bl,bd,bT⟩:=a1.out;obtain⟨cQ,cR,b7,bp⟩:=bd.ix.L0;have cr:=H.out;have y:=bd.below H.out;have aM:=Aa aH;have bW:(if a.kids.length<=4 then(1:Int)else 2)=((Dl a:Nat):Int):=by unfold Dl;split<;>rfl
  have aB:=Aa (λ(a5:World)(cz cA cB:Value)=>Wi cz cA cB Y a.kids.length aE a5 O);rw[bW]at aB;have Z:=Aa (λ(a5:World)(aL:η ac a5)=>Vo (y.below aL).ix.sys (Dl a) (Ω (SS a)) (Ω (SS a)));have a3:=Aa y;have bq:=Aa bT;have m:=y.box.cell 0;have A:=y.box.cell 1;have u0:=y.ix.box.cell 0;have u1:=y.ix.box.cell 1;simp only[Ag,AB]at m A u0 u1;have S:=y.box.lt;have V:=y.ix.box.lt;have D:w.heap.size<ac.heap.size:=O;have cj:=Aa b7;have ch:=Aa bp;clear bd bT y cr bW b7 bp aH;cases z:CP j.s.s (Dl a)with
  |none=>
   have ab:Hid (resV j.s.s (Dl a)=.tuple #[.int .i64 0,.int .i64 6]):=Aa (by unfold resV;rw[z]);have aa:Hid (Uu j.s.s (Dl a)=j.s.s):=Aa (by unfold Uu;rw[z]);have l:Hid (DD j a=(j,0,6)):=Aa (by unfold DD;rw[aM.out,z];rfl);rw[ab.out,aa.out]at Z;clear ab aa z;go_enter func146,ntmps146
   go_wp2_with fail
   rw[<-K.out];clear K;refine I.out.mono ?_;rintro g o⟨b,t⟩;rw[aM.out,if_pos rfl]at t;obtain⟨cC,rfl,T⟩:=t;obtain⟨aw,bN,rfl,cs,bh⟩:=CS T;have u:=Aa b;replace m:=(b.cell (p:=Φ jb) S).trans m;replace A:=(b.cell (p:=Δ jb 1) S).trans A;replace u0:=(b.cell (p:=Φ x) V).trans u0;replace u1:=(b.cell (p:=Δ x 1) V).trans u1;replace N:=(b.cell (p:=Φ w.heap.size) D).trans N;replace P:=(b.cell (p:=Δ w.heap.size 1) D).trans P;replace Q:=(b.cell (p:=Δ w.heap.size 2) D).trans Q;replace R:=(b.cell (p:=Δ w.heap.size 3) D).trans R;have ar:jb<o.heap.size:=BI S b.size;have av:x<o.heap.size:=BI V b.size;clear b I T bh
   go_wp2_with fail
   go_region_with(first
    |(go_at_call 172;go_loud(refine(aB.out _ _ _ _).mono ?_;rintro g cD⟨rfl,r⟩;have W:=(r.cell (p:=Φ jb) ar).trans m;have X:=(r.cell (p:=Δ x 1) av).trans u1;have v:=(u.out.trans (((Dr.drew o).below ac.heap.size))).trans (r.mono u.out.size)))
    |(go_at_call 128;go_loud(refine(Z.out _ v).mono ?_;rintro g E⟨rfl,al,ah⟩)))
   all_goals(obtain⟨n,e,i,f⟩:=(a3.out.below v).move bq.out al ah)
   all_goals(have J:Hid (∃n,FZ E base jb x d p L j n/\AP G n w E):=Aa ⟨n,⟨F,bl,e,i⟩,(AP.of_below (τ H.out v)).trans f⟩)
   all_goals(clear e i f al ah v W X r)
   all_goals(go_wp2_with fail)
   all_goals(go_ret2)
   all_goals(refine⟨by rw[l.out];rfl,?_⟩)
   all_goals(rw[l.out])
   all_goals(exact J.out)
  |some cx=>
   obtain⟨c,ao⟩:=cx;obtain⟨am,b0,b2⟩:=ZL cj.out ch.out (SS a) z;have ab:Hid (resV j.s.s (Dl a)=.tuple #[.int .i64 (c:Int),.int .i64 0]):=Aa (by unfold resV;rw[z]);have aa:Hid (Uu j.s.s (Dl a)=ao):=Aa (by unfold Uu;rw[z]);have b1:c/8=am:=O;obtain⟨⟨an,M⟩,ba⟩:∃cm,Lj ⟨j.s.pw,ao⟩ (JF am (DT a).length) (BK ao.ws am (DT a))=cm:=⟨_,rfl⟩;obtain⟨C,bb⟩:=ε (IP an (c:Int));have l:Hid (DD j a=if M=0 then(if C.2=0 then(⟨C.1,j.made++[(c:Int)]⟩,Aj c,0)else(⟨C.1,j.made++[(c:Int)]⟩,0,C.2))else(⟨an,j.made++[(c:Int)]⟩,0,M)):=Aa (by unfold DD;rw[aM.out,z,bb];simp only[Bool.not_true,Bool.false_eq_true,if_false,b1,ba]);have bB:=Aa ba;rw[ab.out,aa.out]at Z;have cM:(c:Int)<=65536:=O;have be:=xM a;have a4:=Aa bb;have ci:=Aa b0;have ck:=Aa b2;have cg:=Aa be;have cf:Hid (0<(DT a).length):=Aa (by rw[be];rcases SS a with g|g<;>rw[g]<;>decide);have cl:Hid (((Aj c).toNat:Int)=(c:Int)):=Aa (by rw[H8];omega);have cP:IntKind.u64.wrap (c:Int)=(c:Int):=by
    exact IntWalk.u64_in _ O
   have cy:=Aa a1.out.lt;clear be b2 bb b0 b1 ba;clear ab aa z;go_enter func146,ntmps146
   go_wp2_with fail
   rw[<-K.out];clear K;refine I.out.mono ?_;rintro g o⟨b,t⟩;rw[aM.out,if_pos rfl]at t;obtain⟨cC,rfl,T⟩:=t;obtain⟨aw,bN,rfl,cs,bh⟩:=CS T;have u:=Aa b;replace m:=(b.cell (p:=Φ jb) S).trans m;replace A:=(b.cell (p:=Δ jb 1) S).trans A;replace u0:=(b.cell (p:=Φ x) V).trans u0;replace u1:=(b.cell (p:=Δ x 1) V).trans u1;replace N:=(b.cell (p:=Φ w.heap.size) D).trans N;replace P:=(b.cell (p:=Δ w.heap.size 1) D).trans P;replace Q:=(b.cell (p:=Δ w.heap.size 2) D).trans Q;replace R:=(b.cell (p:=Δ w.heap.size 3) D).trans R;have ar:jb<o.heap.size:=BI S b.size;have av:x<o.heap.size:=BI V b.size;have b5:Hid (Jo o G aw (DT a).length ((DT a).map wv)):=Aa (Jo.KR T (λcn cJ _ ct=>Ψ (cy.out cn ct) H.out.size));clear b I T bh
   go_wp2_with fail
   go_region_with(first
    |(go_at_call 172;go_loud(refine(aB.out _ _ _ _).mono ?_;rintro g cD⟨rfl,r⟩;have W:=(r.cell (p:=Φ jb) ar).trans m;have X:=(r.cell (p:=Δ x 1) av).trans u1;have v:=(u.out.trans (((Dr.drew o).below ac.heap.size))).trans (r.mono u.out.size)))
    |(go_at_call 128;go_loud(refine(Z.out _ v).mono ?_;rintro g E⟨rfl,al,ah⟩)))
   all_goals(obtain⟨n,e,i,f⟩:=(a3.out.below v).move (s':=⟨j.s.pw,ao⟩) bq.out al ah)
   all_goals(have bw:Hid (AP G n w E):=Aa ((AP.of_below (τ H.out v)).trans f))
   all_goals(have bA:Hid (Jo E n aw (DT a).length ((DT a).map wv)):=Aa ((b5.out.below (((Dr.drew o).below o.heap.size).trans r)).moved f))
   all_goals(have k:=Aa e)
   all_goals(have br:=Aa i)
   all_goals(clear e i f al ah v W X r m A u0 u1 N P Q R ar av b5)
   all_goals(have m:=k.out.box.cell 0)
   all_goals(have A:=k.out.box.cell 1)
   all_goals(simp only[Ag,AB]at m A)
   all_goals(have u0:=k.out.ix.box.cell 0)
   all_goals(simp only[Ag]at u0)
   all_goals(have cw:=k.out.xj)
   all_goals(have cK:jb≠x:=λg=>cw g.symm)
   all_goals(have b8:=Aa k.out.row)
   all_goals(have bo:base<=E.heap.size:=Nat.le_of_lt (Nat.lt_of_le_of_lt k.out.bj k.out.box.lt))
   all_goals(have cv:j.made.length<=1000000:=O)
   all_goals(clear aB Z u H a3)
   all_goals(go_wp2_with(at_builtin;refine E5 rfl (.tmp 39) (.tmp 41) 54 rfl Tryz.Akn E base bl j.made.length (j.made.map zv) [zv (c:Int)] rfl b8.out rfl E.heap.size 1 rfl rfl rfl U (by simp[zv,Value.oneCell']) cv U bo ?_;intro cq co bm bL bE aG b6;have az:CQ bm jb 202 [Az x,bl]:=(aG.2 jb k.out.box.lt (λg=>k.out.mj g.symm)).trans k.out.box;have a6:CQ bm x 122 [Az d,Az p]:=(aG.2 x k.out.ix.box.lt (λg=>k.out.mx g.symm)).trans k.out.ix.box;have W:=az.cell 0;have X:=az.cell 1;have cp:=az.frozen 1;have bO:=a6.cell 0;have bR:=a6.cell 1;simp only[Ag,AB]at W X bO bR))
   all_goals(obtain⟨cE,e,i,f⟩:=k.out.app br.out (o:=(c:Int)) O bL bE aG b6)
   all_goals(obtain⟨cF,bV⟩:=ε (bm.setCell (Δ jb 1) (.slice (some (Φ cq)) (j.made.length+1) co)))
   all_goals(rw[<-bV]at e f⊢)
   all_goals(have aD:=Ac3 (q:=⟨j.s.pw,ao⟩) e.ix.sys am (DT a).length bN aw (DT a) (Ψ ck.out cg.out) cf.out (bA.out.moved f).1 bB.out)
   all_goals(rw[show((8*am:Nat):Int)=(c:Int)by have:=ci.out;omega]at aD)
   all_goals(have aR:=Aa (bw.out.trans f))
   all_goals(have a2:=Aa e)
   all_goals(have a0:=Aa i)
   all_goals(clear e i f bL bE aG b6 az a6 W X cp bO bR bV bw bA k br m A u0 b8 bo)
   all_goals(refine aD.mono ?_)
   all_goals(rintro g b9⟨rfl,cb,bi,a9⟩)
   all_goals(obtain⟨cd,e,i,f⟩:=a2.out.move a0.out bi a9)
   all_goals(by_cases bc:M=0)
   all_goals first
    |(have bg:M≠0:=bc
      have B:Hid (DD j a=(⟨an,j.made++[(c:Int)]⟩,0,M)):=Aa (by rw[l.out,if_neg bg]);have t3:(M !=0)=true:=by rw[bne_iff_ne];exact bg
      have J:Hid (∃n,FZ b9 base jb x d p L ⟨an,j.made++[(c:Int)]⟩ n/\AP G n w b9):=Aa ⟨cd,⟨cb,_,e,i⟩,aR.out.trans f⟩;clear e i f bi a9 aD aR a2 a0 l bc bg a4 bB
      go_wp2_with fail
      go_ret2;refine⟨by rw[B.out];rfl,?_⟩;rw[B.out];exact J.out)
    |skip
   all_goals(subst bc)
   all_goals(rw[if_pos rfl]at l)
   all_goals(have ad:=Zw (q:=an) e.ix.sys (c:Int) O)
   all_goals(rw[<-a4.out]at ad)
   all_goals(have ad:=Aa ad)
   all_goals(have bx:=Aa (aR.out.trans f))
   all_goals(have bt:=Aa e)
   all_goals(have bs:=Aa i)
   all_goals(have m:=e.box.cell 0)
   all_goals(have u1:=e.ix.box.cell 1)
   all_goals(simp only[Ag,AB]at m u1)
   all_goals(clear e i f bi a9 aD aR a2 a0)
   all_goals(go_wp2_with fail)
   all_goals(refine ad.out.mono ?_)
   all_goals(rintro g ca⟨rfl,cc,b3,bX⟩)
   all_goals(obtain⟨ce,e,i,f⟩:=bt.out.move bs.out b3 bX)
   all_goals(have J:Hid (∃n,FZ ca base jb x d p L ⟨C.1,j.made++[(c:Int)]⟩ n/\AP G n w ca):=Aa ⟨ce,⟨cc,_,e,i⟩,bx.out.trans f⟩)
   all_goals(obtain⟨bk,b4⟩:=ε C.2)
   all_goals(rw[<-b4]at l⊢)
   all_goals(clear e i f b3 bX bx bt bs ad m u1 a4 b4)
   all_goals(by_cases af:bk=0)
   all_goals first
    |(have B:Hid (DD j a=(⟨C.1,j.made++[(c:Int)]⟩,Aj c,0)):=Aa (by rw[l.out,if_pos af])
      subst af;clear l
      go_wp2_with fail
      go_ret2;refine⟨by rw[B.out];show _=Ending.returned (.tuple #[.int .u64 ((Aj c).toNat:Int),.int .i64 0]);rw[cl.out];rfl,?_⟩;rw[B.out];exact J.out)
    |(have B:Hid (DD j a=(⟨C.1,j.made++[(c:Int)]⟩,0,bk)):=Aa (by rw[l.out,if_neg af])
      have t3:(bk !=0)=true:=by rw[bne_iff_ne];exact af
      clear l af
      go_wp2_with fail
      go_ret2;refine⟨by rw[B.out];rfl,?_⟩;rw[B.out];exact J.out)
end
def Tryz.WH:JE prog 54 3 (.int .i64 0) 1 8:=⟨underlying54,by kernel_rfl,rfl⟩
def XA(l:List Nat):List Value:=l.map λa=>.int .i64 ((a:Nat):Int)
def Aaq(l:List Nat)(a:Nat):XA (l++[a])=XA l++[.int .i64 (a:Int)]:=by simp[XA]
def gV(x:Nat)(w:World)(C:x<18446744073709551616):Calls prog 39 #[.int .u64 (x:Int)] w λb w'=>∃F,b=.returned F/\w'.ownsRow w.heap.size 3 1 F (IZ x).length (XA (IZ x))/\η w w':=by
 have n:=Aa (Hu x w C);have m:=Aa (λi=>GK (Bc x) i (Ω (NT x)));have aa:=GI (Bc x);have I:=Aa (λi t(Z:t<16)=>Rz x t i C O);have v:IZ x=(DW (Bz (Bc x))).filter (EH x):=rfl;rw[v];clear v;generalize Bz (Bc x)=e at*;generalize Bc x=V at*;go_enter func39,ntmps39
 go_wp2_with fail
 refine n.out.mono ?_;rintro b R⟨rfl,u⟩;have H:=Aa (u.below w.heap.size);clear n u
 go_wp2_with fail
 refine(m.out R).mono ?_;rintro b ah⟨rfl,rfl⟩;clear m
 go_wp2_with fail
 go_loopw [3,8](λE l wr=>∃a:Nat,a<=e/\l=.int .i64 (a:Nat)/\wr.ownsRow w.heap.size 3 1 E ((DW a).filter (EH x)).length (XA ((DW a).filter (EH x)))/\η w wr)(λ_ l _=>e-(intOf l).toNat)
 case atStart=>exact⟨0,BB _,rfl,EM _ _ _ _,H.out⟩
 case round=>
  obtain⟨a,ac,rfl,A,h⟩:=hrel;have c:=Aa A;have f:=Aa h;clear A h;by_cases z:a<e
  ·obtain⟨af,N,P⟩:=YB z;have ad:IntKind.i64.wrap ((a:Int)+1)=(a:Int)+1:=wrap64 _ O O;have d:Hid ((DW (a+1)).filter (EH x)=if EH x a then(DW a).filter (EH x)++[a]else(DW a).filter (EH x)):=Aa (by
    rw[cu,List.filter_append];simp only[List.filter_cons,List.filter_nil];split<;>simp)
   have ab:((DW a).filter (EH x)).length<=16:=Bi (Nr _ _) (by simp;omega);have o:=Aa (I.out wr a O);generalize(DW a).filter (EH x)=p at*
   go_wp2_with fail
   refine o.out.mono ?_;rintro b G⟨rfl,k⟩;have g:=Aa (f.out.trans (k.below w.heap.size));have D:=Aa (Fg c.out (Kept.of_below (r:=none) (k.below _)) (by
    rcases c.out.2 with⟨j,_⟩|⟨X,T,W,j,_⟩
    ·exact .inr (by subst j;rfl)
    ·exact .inl (by subst j;exact λb=>nomatch b)))
   clear o k c f;cases y:EH x a with
   |true=>
    rw[y,if_pos rfl]at d
    go_wp2_with(at_builtin;refine E5 rfl (.tmp 14) (.tmp 16) 54 rfl Tryz.WH G w.heap.size u3 p.length (XA p) [.int .i64 (a:Int)] rfl (by exact D.out) rfl G.heap.size 1 rfl rfl rfl U (by intro E B;simp at B;subst B;rfl) O U (by exact g.out.size) ?_;intro Y S al s q L Q)
    have K:=Aa s;have J:=Aa (g.out.trans q);clear s q L Q
    go_wp2_with fail
    go_roundw
    case rel=>exact⟨a+1,O,by go_num,by rw[d.out,AY,Aaq];exact K.out,J.out⟩
    case measure=>simp[intOf];omega
   |false=>
    rw[y]at d
    go_wp2_with fail
    go_roundw
    case rel=>exact⟨a+1,O,by go_num,by rw[d.out];exact D.out,g.out⟩
    case measure=>simp[intOf];omega
  ·obtain⟨N,P⟩:=uH z;have M:a=e:=O;subst M
   go_wp2_with fail
   go_ret;exact⟨_,rfl,c.out,f.out⟩
section
variable{w w':World}{d p L:Nat}{s:St}{tb h n cT cH:Nat}
def Y1(s:St)(i:Nat):List Nat:=(IZ (GU s i)).map λa=>CY s.sh i (Bc (GU s i)) a
def QQ(s:St)(i:Nat):List Nat:=(DW i).flatMap (Y1 s)
def ZV(s:St)(i:Nat):QQ s (i+1)=QQ s i++Y1 s i:=by simp[QQ,cu]
def qp(s:St)(i:Nat):(Y1 s i).length<=16:=by
 unfold Y1;rw[BX];exact Bi (Nr _ _) (by simp[GI])
def gW(s:St):∀a,(QQ s a).length<=16*a
 |0=>by simp[QQ]
 |a+1=>by rw[ZV,AY];have:=gW s a;have:=qp s a;omega
def Vw(g:Ig w d p L s tb h n cT cH):Calls prog 16 #[Az p] w λc w'=>∃a2,c=.returned a2/\w'.ownsRow w.heap.size 3 1 a2 (En s).length (XA (En s))/\η w w':=by
 have ao:=Aa (Gy g);have ah:=Aa g;have ce:=g.y5;have bW:n<=64:=Ξ g.ok.fits g.L1 g.bV;have aw:En s=QQ s n:=by unfold En QQ;rw[g.OA];rfl
 rw[aw];clear g aw;go_enter func16,ntmps16
 go_wp2_with fail
 refine ao.out.mono ?_;rintro c cd⟨rfl,rfl⟩;clear ao
 go_wp2_with fail
 go_loopw [3,15](λD m wr=>∃b:Nat,b<=n/\m=.int .i64 (b:Nat)/\wr.ownsRow w.heap.size 3 1 D (QQ s b).length (XA (QQ s b))/\η w wr)(λ_ m _=>n-(intOf m).toNat)
 case atStart=>exact⟨0,BB _,rfl,EM _ _ _ _,Below.refl _ _⟩
 case round=>
  obtain⟨b,b4,rfl,C,h⟩:=hrel;have t:=Aa C;have G:=Aa h;clear C h;by_cases M:b<n
  ·obtain⟨ca,bB,bE⟩:=YB M;have b9:IntKind.i64.wrap ((b:Int)+1)=(b:Int)+1:=wrap64 _ O O;have cf:=(ah.out.below G.out).tk b M;have aR:=Qp s b;have bs:=NT (GU s b);have b1:=gW s b;have ap:=Aa (gV (GU s b) wr aR);have bg:=Aa (λV=>Hu (GU s b) V aR);have bR:=Aa (λ(V:World)a(bq:η w V)(Y:a<=16)=>Un (ah.out.below bq) b (Bc (GU s b)) a M bs Y);have bi:Hid (QQ s (b+1)=QQ s b++(IZ (GU s b)).map λa=>CY s.sh b (Bc (GU s b)) a):=Aa (ZV s b);have bx:∀a∈IZ (GU s b),a<=16:=λa Y=>by
    have:=List.mem_range.1 (List.mem_filter.1 Y).1;have:=GI (Bc (GU s b));omega
   have b5:(IZ (GU s b)).length<=16:=Bi (Nr _ _) (by simp[GI]);generalize IZ (GU s b)=e at*;generalize Bc (GU s b)=i at*;generalize GU s b=x at*;generalize QQ s b=k at*
   go_wp2_with fail
   refine ap.out.mono ?_;rintro c a3⟨bS,rfl,aa,Z⟩;have ar:∀P aq,bS=.slice P e.length aq->∀a,P=some a->wr.heap.size<=a.block/\a.block<a3.heap.size:=λP aq c a l=>by
    rcases aa.2 with⟨f,_⟩|⟨J,H,I,f,X,y,_⟩
    ·rw[f,l]at c;cases c
    ·rw[f,l]at c;injection c with c
     injection c with c
     rw[<-c];exact⟨X,(AA.1 y).1⟩
   obtain⟨F,bj,rfl,b3,aH⟩:=CS aa;have z:∀a,F=some a->a.block<a3.heap.size/\u3.ownBlock≠some a.block:=λa l=>by
    obtain⟨f,X⟩:=ar F bj rfl a l;refine⟨X,λc=>?_⟩;rcases t.out.2 with⟨y,_⟩|⟨J,H,I,y,_,bp,_⟩
    ·rw[y]at c;cases c
    ·rw[y]at c;injection c with c
     have:=(AA.1 bp).1;simp only at c;omega
   have af:=Aa z;clear ar z;have ba:=Aa aH;have a8:=Aa (τ G.out Z);have bO:=Aa (Fg t.out (Kept.of_below (r:=none) Z) (by
    rcases t.out.2 with⟨f,_⟩|⟨J,H,I,f,_⟩
    ·exact .inr (by subst f;rfl)
    ·exact .inl (by subst f;exact λc=>nomatch c)))
   clear ap aa Z aH t G
   go_wp2_with fail
   go_loopw [3,23](λD m wr=>∃j:Nat,j<=e.length/\m=.int .i64 (j:Nat)/\wr.ownsRow w.heap.size 3 1 D (k++(e.take j).map λa=>CY s.sh b i a).length (XA (k++(e.take j).map λa=>CY s.sh b i a))/\η w wr/\Rd wr F e.length (XA e)/\∀a,F=some a->a.block<wr.heap.size/\D.ownBlock≠some a.block)(λ_ m _=>e.length-(intOf m).toNat)
   case atStart=>exact⟨0,BB _,rfl,by simpa using bO.out,a8.out,ba.out,af.out⟩
   case round=>
    obtain⟨j,aG,rfl,C,h,aL,z⟩:=hrel;have v:=Aa C;have R:=Aa h;have al:=Aa aL;have ac:=Aa z;clear C h aL z af;by_cases q:j<e.length
    ·obtain⟨cb,bL,bN⟩:=YB q;have b8:IntKind.i64.wrap ((j:Int)+1)=(j:Int)+1:=wrap64 _ O O;obtain⟨o,ab,rfl,b2,aD⟩:=al.out.2 O;have a5:=aD j q;rw[XA,List.getElem?_map,Ae q]at a5;simp only[Option.map_some]at a5;clear aD;have br:=bx e[j] (BH q);have bd:Hid (k++(e.take (j+1)).map (λa=>CY s.sh b i a)=k++(e.take j).map (λa=>CY s.sh b i a)++[CY s.sh b i e[j]]):=Aa (by
      rw[List.take_succ_eq_append_getElem q,List.map_append,List.append_assoc];rfl)
     have b6:(k++(e.take j).map λa=>CY s.sh b i a).length<=2000:=by
      simp only[AY,BX,List.length_take];omega
     generalize e[j]=a at*;generalize(k++(e.take j).map λa=>CY s.sh b i a)=an at*
     go_wp2_with fail
     refine(bg.out wr).mono ?_;rintro c bT⟨rfl,A⟩;have Q:=A.below w.heap.size;have T:=Aa (R.out.trans (A.below w.heap.size));have ad:=Aa (bR.out bT a T.out br);have u:=Aa (Fg v.out (Kept.of_below (r:=none) (A.below _)) (by
      rcases v.out.2 with⟨f,_⟩|⟨J,H,I,f,_⟩
      ·exact .inr (by subst f;rfl)
      ·exact .inl (by subst f;exact λc=>nomatch c)))
     clear v R
     go_wp2_with fail
     refine ad.out.mono ?_;rintro c E⟨rfl,B⟩;have be:=Aa (T.out.trans (B.below w.heap.size));have bk:=Aa (Fg u.out (Kept.of_below (r:=none) (B.below _)) (by
      rcases u.out.2 with⟨f,_⟩|⟨J,H,I,f,_⟩
      ·exact .inr (by subst f;rfl)
      ·exact .inl (by subst f;exact λc=>nomatch c)))
     have am:=be;have b7:wr.heap.size<=E.heap.size:=Bi (Q.size) (B.below w.heap.size).size;have a0:Rd E (some (Δ o ab)) e.length (XA e):=Rd.below al.out ((A.below _).trans ((B.below _).mono Q.size));have S:=Aa a0;clear ad B u T a0 A Q
     go_wp2_with(at_builtin;refine E5 rfl (.tmp 27) (.tmp 34) 54 rfl Tryz.WH E w.heap.size u3 an.length (XA an) [.int .i64 ((CY s.sh b i a:Nat):Int)] rfl (by exact bk.out) rfl E.heap.size 1 rfl rfl rfl U (by intro D aM;simp at aM;subst aM;rfl) O U (by exact am.out.size) ?_;intro bo b0 a4 av a1 K aE)
     have a9:=Aa av;have bh:=Aa (am.out.trans a1);have N:=(ac.out _ rfl).2;have aB:=(ac.out _ rfl).1;simp only at N aB;have bb:Hid (Rd a4 (some (Δ o ab)) e.length (XA e)):=Aa (by
      refine⟨S.out.1,λbA=>?_⟩;obtain⟨bX,cc,W,az,a6⟩:=S.out.2 bA;injection W with W
      injection W with bl bm
      subst bl bm;exact⟨o,ab,rfl,BI az K.1,λj aG=>(Bh (w:=E) (K.2 o az (λc=>N c.symm))).trans (a6 j aG)⟩)
     have a7:Hid (o<a4.heap.size/\some bo≠some o):=Aa (by
      refine⟨Ω K.1,λc=>?_⟩;injection c with c
      rcases aE with g|g
      ·exact N (by rw[g,c])
      ·omega)
     clear av a1 K aE N aB S
     go_wp2_with fail
     go_roundw
     case rel=>exact⟨j+1,O,by go_num,by rw[bd.out,AY,Aaq];exact a9.out,bh.out,bb.out,λa l=>by injection l with l;subst l;exact a7.out⟩
     case measure=>simp[intOf];omega
    ·obtain⟨bL,bN⟩:=uH q;have bt:j=e.length:=O;subst bt;have u:Hid (wr.ownsRow w.heap.size 3 1 u3 (k++e.map λa=>CY s.sh b i a).length (XA (k++e.map λa=>CY s.sh b i a))):=Aa (by have:=v.out;rwa [List.take_length]at this);have bc:=R;clear v
     go_wp2_with fail
     go_roundw
     case rel=>exact⟨b+1,O,by go_num,by rw[bi.out];exact u.out,bc.out⟩
     case measure=>simp[intOf];omega
  ·obtain⟨bB,bE⟩:=uH M;have bw:b=n:=O;subst bw
   go_wp2_with fail
   go_ret;exact⟨_,rfl,t.out,G.out⟩
end
