import Derived.Test.YtfmkofmaabgbkaaGreatDoorRows
import Derived.Test.YtfmkofmaabgbkaaGreatDoorJ01
set_option linter.defProp false
set_option maxHeartbeats 32000000
set_option maxRecDepth 100000
open Nat renaming eq_zero_or_pos->Jz,le_refl->Ae,zero_le->BA
open List renaming eq_nil_of_length_eq_zero->Ce,replicate->BB,any_eq_true->Ag1,findIdx?_eq_some_iff_getElem->LM
open Go.Lib renaming run_eql_slice_nil->J7,hid->Ac
open Go.World renaming ownsRow_nil->CP,ownsRow_made->Abm
open Go.Value renaming slice->fD,int->fP,bool->fU,tuple->gJ
open Go.Ending renaming returned->gY
open Go.IntKind renaming i64->gZ,u64->ig
open Bool renaming false->jw
open Go renaming World->jD
namespace Go.Proofs.YtfmkofmaabgbkaaGreatDoor
open Go.RowKit
open Go.Proofs.Tryz
def Tryz.I4:Nv prog 22 5 (fP .u8 0) 1:=⟨underlying22,by kernel_rfl,rfl⟩
def Tryz.infoByte:(prog.info? 5).map (λa=>(a.zero,a.size,a.bytes))=some (some (fP .u8 0),1,1):=by kernel_rfl
def Tryz.Je:Nv prog 89 40 (fP ig 0) 8:=⟨underlying89,by kernel_rfl,rfl⟩
def ZJ(A:Option Addr)(n c:Nat)(l:List UInt64)(w:jD)(r:n<=1000000)(h:Ws w A n l):
 Calls prog 215 #[fD A n c] w λb g=>∃f,b=gY f/\g.ownsRow w.heap.size 40 1 f n (l.map wv)/\η w g:=by
 have k:=h.len;rcases A with _|e
 ·have m:n=0:=by
   rcases Jz n with d|d
   ·exact d
   ·obtain⟨_,_,b,_⟩:=h.2 d;cases b
  subst m;have j:l=[]:=Ce k;subst j;have p:=λa=>J7 (P:=prog) a 89 40 none 0 c 0 0 underlying89
  go_enter func215,ntmps215;go_wp2;go_ret;exact⟨_,rfl,CP _ _ _ _,Below.refl _ _⟩
 ·have p:=λa=>J7 (P:=prog) a 89 40 (some e) n c 0 0 underlying89
  go_enter func215,ntmps215
  go_wp2_with(at_builtin;refine UG rfl (.tmp 5) (.tmp 6) 89 rfl Tryz.Je w.heap.size (fD (some (Φ w.heap.size)) 0 0) 0 [] (l.map wv) rfl (Abm w #[] 0 (Ae _) U rfl) (some e) n c rfl (h.below ((Below.refl _ _).alloc (Ae _) _)) (QU _) O U Θ ?_;intro q s o i)
  go_ret;exact⟨q,rfl,by simpa using o,((Below.refl _ _).alloc (Ae _) _).trans i⟩
def Vg(A:Option Addr)(n c:Nat)(l:List UInt8)(w:jD)(r:n<=1000000)(h:Bs w A n l):
 Calls prog 110 #[fD A n c] w λb g=>∃f,b=gY f/\g.ownsRow w.heap.size 5 1 f n (l.map bv)/\η w g:=by
 have k:=h.len;rcases A with _|e
 ·have m:n=0:=by
   rcases Jz n with d|d
   ·exact d
   ·obtain⟨_,_,b,_⟩:=h.2 d;cases b
  subst m;have j:l=[]:=Ce k;subst j;have p:=λa=>J7 (P:=prog) a 22 5 none 0 c 0 0 underlying22
  go_enter func110,ntmps110;go_wp2;go_ret;exact⟨_,rfl,CP _ _ _ _,Below.refl _ _⟩
 ·have p:=λa=>J7 (P:=prog) a 22 5 (some e) n c 0 0 underlying22
  go_enter func110,ntmps110
  go_wp2_with(at_builtin;refine UG rfl (.tmp 5) (.tmp 6) 22 rfl Tryz.I4 w.heap.size (fD (some (Φ w.heap.size)) 0 0) 0 [] (l.map bv) rfl (Abm w #[] 0 (Ae _) U rfl) (some e) n c rfl (h.below ((Below.refl _ _).alloc (Ae _) _)) (Jk _) O U Θ ?_;intro q s o i)
  go_ret;exact⟨q,rfl,by simpa using o,((Below.refl _ _).alloc (Ae _) _).trans i⟩
def Ua(A:Option Addr)(n c:Nat)(l:List UInt8)(w:jD)(t:n<=4294967296)(h:Bs w A n l):
 Calls prog 199 #[fD A n c] w λi o=>i=gY (fU (l.all DV))/\w=o:=by
 have k:=h.len;go_enter func199,ntmps199;go_wp2
 go_loop [7](λe=>∃a:Nat,a<=n/\e=fP gZ a/\(l.take a).all DV=true)(λe=>n-(intOf e).toNat)
 case atStart=>exact⟨0,BA _,rfl,by simp⟩
 case round=>
  obtain⟨a,s,rfl,b⟩:=hrel;by_cases m:a<n
  ·obtain⟨g,p,u,rfl,q,r⟩:=h.at m;by_cases f:l[a].toNat<16
   ·have d:=Ac (UH DV l a g b (Xn f));clear b;go_wp2
    go_round
    case rel=>exact⟨a+1,O,by go_num,d.out⟩
    case measure=>simp[intOf];omega
   ·have d:=Ac (Xm DV l a g (Ahb f));clear b;go_wp2;go_ret;exact⟨by rw[d.out];rfl,rfl⟩
  ·have j:a=n:=O;subst j;go_wp2;go_ret;exact⟨Adf (by rw[<-k]at b;simpa using b),rfl⟩
def Ahg(s:ByteArray)(w:jD)(C:s.size<=1000000):
 Calls prog 127 #[.string s] w λn l=>∃d,n=gY d/\l.ownsRow w.heap.size 5 1 d (2*s.size) ((Ci s.data.toList).map bv)/\η w l:=by
 obtain⟨y,q,u,v,x⟩:=info_parts Tryz.infoByte;go_enter func127,ntmps127
 go_wp2_with(at_make;refine wpList_make_own _ rfl _ _ 22 rfl w.heap.size 5 y (fP .u8 0) 1 underlying22 q u v gZ gZ _ (2*s.size) rfl rfl Θ (by rw[x];omega) (by unfold maxLen;omega) (Ae _) ?_;intro z j g)
 have o:η w z:=(Below.refl _ _).grown g (Ae _) Θ;clear g
 go_loopw [3,11](λd e wr=>∃a:Nat,a<=s.size/\e=fP gZ a/\wr.ownsRow w.heap.size 5 1 d (2*a) ((Ci (s.data.toList.take a)).map bv)/\η w wr)(λ_ e _=>s.size-(intOf e).toNat)
 case atStart=>exact⟨0,BA _,rfl,by simpa[Ci]using j,o⟩
 case round=>
  obtain⟨a,A,rfl,c,b⟩:=hrel;clear j;have t:=b.size;by_cases i:a<s.size
  ·have B:a<s.data.toList.length:=by simpa using i
   have m:=Ac (UW s a i);go_wp2
   go_region_law(refine lK rfl (.tmp 14) (.tmp 23) 22 rfl Tryz.I4 wr w.heap.size u3 (2*a) ((Ci (s.data.toList.take a)).map bv) [Value.int .u8 (IntKind.u8.wrap (↑s[a].toNat/16)),Value.int .u8 ((↑s[a].toNat:Int).tmod 16)] (by simp[Act.eval]) c rfl rfl rfl rfl 2 2 (by simp[Act.eval]) rfl (by simp[Value.oneCell']) (by simp;omega) U t ?_;intro D E k f)
   all_goals
    have p:=b.trans f;rw[Aln,Alo]at k;clear c b f;go_wp2;go_roundw
    case rel=>exact⟨a+1,O,by go_num,by rw[m.out,List.map_append];exact k,p⟩
    case measure=>simp[intOf];omega
  ·have r:a=s.size:=O;subst r;go_wp2;go_ret;exact⟨_,rfl,by rw[List.take_of_length_le Θ]at c;exact c,b⟩
def MH(A B:Option Addr)(n m o p:Nat)(a b:List UInt8)(w:jD)(F:n<=4294967296)(_hm:m<=4294967296)(i:Bs w A n a)(j:Bs w B m b):
 Calls prog 130 #[fD A n o,fD B m p] w λq u=>q=gY (fP gZ (common a b:Nat))/\Dr w u:=by
 have D:=i.len;have E:=j.len;go_enter func130,ntmps130;go_wp2
 go_loopw [5](λg wr=>∃d:Nat,d<=n/\g=fP gZ d/\alike d a b/\Dr w wr)(λg _=>n-(intOf g).toNat)
 case atStart=>exact⟨0,BA _,rfl,xK _ _,Dr.refl _⟩
 case round=>
  obtain⟨d,z,rfl,c,L,rfl⟩:=hrel;have C:=c.2.1;by_cases s:d<n
  ·obtain⟨k,J,I,rfl,G,x⟩:=i.at s;by_cases t:d<m
   ·obtain⟨l,K,v,rfl,H,y⟩:=j.at t;by_cases f:a[d]=b[d]
    ·have e:=Ac (xM c k l f);have r:=qB f;clear c f;go_wp2
     go_quiet(fail)
     go_wp2;go_roundw
     case rel=>exact⟨d+1,O,by go_num,e.out,by first|exact Dr.one _ _|exact Dr.two _ _ _⟩
     case measure=>simp[intOf];omega
    ·have e:=Ac (YL c k l f);have r:=lL f;clear c f;go_wp2
     go_quiet(fail)
     go_wp2;go_ret;exact⟨by rw[e.out];rfl,by first|exact Dr.one _ _|exact Dr.two _ _ _⟩
   ·have e:=Ac (UX c O);clear c;go_wp2
    go_quiet(fail)
    go_wp2;go_ret;exact⟨by rw[e.out];rfl,by first|exact Dr.one _ _|exact Dr.two _ _ _⟩
  ·have e:=Ac (Py c O);clear c;go_wp2
   go_quiet(fail)
   go_wp2;go_ret;exact⟨by rw[e.out];rfl,by first|exact Dr.one _ _|exact Dr.two _ _ _⟩
def VT(A:Option Addr)(n c:Nat)(l:List UInt8)(w:jD)(p:n<=15)(h:Bs w A n l)(b:l.all DV=true):
 Calls prog 196 #[fD A n c] w λf i=>f=gY (gJ #[fP ig ((n+16*Fa l:Nat):Int),fU true])/\w=i:=by
 have o:=h.len;have d:=Ua A n c l w O h;rw[b]at d;go_enter func196,ntmps196
 go_wp2_with(go_at_call 199;refine d.mono ?_;rintro f i⟨rfl,rfl⟩)
 go_loop [4,20](λq e=>∃a:Nat,a<=n/\e=fP gZ a/\q=fP ig ((n+16*Fa (l.take a):Nat):Int))(λ_ e=>n-(intOf e).toNat)
 case atStart=>exact⟨0,BA _,rfl,by simp[Fa]⟩
 case round=>
  obtain⟨a,u,rfl,rfl⟩:=hrel;by_cases g:a<n
  ·obtain⟨m,r,v,rfl,s,t⟩:=h.at g;have j:=Ac (Adj l n a p g m b);clear d b;go_wp2
   go_round
   case rel=>exact⟨a+1,O,by go_num,j.out⟩
   case measure=>simp[intOf];omega
  ·have k:a=n:=O;subst k;go_wp2;go_ret2;exact⟨by simp[<-o],rfl⟩
def Ahh(A:Option Addr)(n c:Nat)(w:jD)(d:15<n)(e:n<=4294967296):
 Calls prog 196 #[fD A n c] w λa b=>a=gY (gJ #[fP ig 0,fU jw])/\w=b:=by
 go_enter func196,ntmps196;go_wp2;go_ret2;exact⟨rfl,rfl⟩
def Alq(A:Option Addr)(n c:Nat)(l:List UInt8)(w:jD)(f:n<=15)(h:Bs w A n l)(e:l.all DV=jw):
 Calls prog 196 #[fD A n c] w λa d=>a=gY (gJ #[fP ig 0,fU jw])/\w=d:=by
 have b:=Ua A n c l w O h;rw[e]at b;go_enter func196,ntmps196
 go_wp2_with(go_at_call 199;refine b.mono ?_;rintro a d⟨rfl,rfl⟩)
 go_ret2;exact⟨rfl,rfl⟩
def yh(x:Nat)(w:jD)(e:Ending)(w':jD):Prop:=
 η w w'/\(if x/16/16^(x%16)=0 then∃a,e=gY (gJ #[a,fU true])/\w'.ownsRow w.heap.size 5 1 a (x%16) ((digits (x%16) (x/16)).map bv)
  else e=gY (gJ #[fD none 0 0,fU jw]))
def ZK(x:Nat)(w:jD)(T:x<18446744073709551616):
 Calls prog 194 #[fP ig (x:Int)] w (yh x w):=by
 obtain⟨M,F,d,K,L⟩:=info_parts Tryz.infoByte;have H:x%16<16:=Nat.mod_lt _ U;go_enter func194,ntmps194
 go_wp2_with(at_make;refine wpList_make_full _ rfl _ _ 22 rfl w.heap.size 5 M (fP .u8 0) 1 underlying22 F d K gZ gZ _ _ (x%16) rfl rfl Θ Θ (by rw[L];omega) (by unfold maxLen;omega) (Ae _) ?_;intro P k y)
 rw[QV]at k;have u:η w P:=(Below.refl _ _).grown y (Ae _) Θ;clear y;obtain⟨b,j⟩:=ε (x%16);obtain⟨e,C⟩:=ε (x/16);have s:((x:Int)%16)=(b:Int):=O;have t:((x:Int)/16)=(e:Int):=O;have J:e<18446744073709551616:=O;have q:=Ac j;have r:=Ac C;rw[s,t,<-j];rw[<-j]at k H;clear s t j C
 go_loopw [0,16](λN o wr=>∃a:Nat,a<=b/\o=fP gZ a/\N=fP ig ((e/16^a:Nat):Int)/\wr.ownsRow w.heap.size 5 1 (fD (some (Φ w.heap.size)) b b) b ((digits a e++BB (b-a) (0:UInt8)).map bv)/\η w wr)(λ_ o _=>b-(intOf o).toNat)
 case atStart=>exact⟨0,BA _,rfl,by simp,by simpa[digits]using k,u⟩
 case round=>
  clear k u;obtain⟨a,R,rfl,rfl,g,i⟩:=hrel;obtain⟨f,c⟩:=ε (e/16^a);have V:f<18446744073709551616:=by rw[c];exact Nat.lt_of_le_of_lt (Nat.div_le_self _ _) J
  by_cases z:a<b
  ·have n:=lM a b e z;have B:((f:Int)/16)=((e/16^(a+1):Nat):Int):=by rw[Nat.pow_succ,<-Nat.div_div_eq_div_mul,<-c];simp
   rw[<-c]at n⊢;have E:=Ac n;have D:=Ac B;clear n B c;obtain⟨W,S⟩:=Zx g z;have Q:=g.frozenAt a;have A:=(g.stored a (bv (UInt8.ofNat (f%16)))).1;have v:=i.setCell (p:=Δ w.heap.size a) (Ae _) (bv (UInt8.ofNat (f%16)));rw[E.out,<-Abu]at A;rw[<-Abu]at v;clear g i;go_wp2;go_roundw
   case rel=>exact⟨a+1,O,by go_num,by rw[D.out],A,v⟩
   case measure=>simp[intOf];omega
  ·have G:a=b:=O;subst G;rw[<-c];by_cases d:f=0
   ·have I:((f:Int)!=0)=jw:=by simp[d]
    have l:=Ac c;have m:=Ac d;clear c d;go_wp2;go_ret2;refine⟨i,?_⟩;rw[<-q.out,<-r.out,<-l.out,jM m.out];exact⟨_,rfl,by simpa using g⟩
   ·have I:((f:Int)!=0)=true:=by simp;omega
    have l:=Ac c;have m:=Ac d;clear c d;go_wp2;go_ret2;refine⟨i,?_⟩;rw[<-q.out,<-r.out,<-l.out,ku m.out];rfl
def Apm(A:Option Addr)(n c:Nat)(l:List UInt8)(w:jD)(j:n<=1000000)(h:Bs w A n l)(b:NS l=jw):
 Calls prog 169 #[fD A n c] w λf g=>f=gY (gJ #[.string ⟨#[]⟩,fU jw])/\w=g:=by
 have i:=h.len;have d:=Ua A n c l w O h;by_cases a:n%2=0
 ·have e:l.all DV=jw:=by
   simpa[NS,i,a]using b
  rw[e]at d;have t1:((n:Int)%2 !=0)=jw:=by simp;omega
  clear b e a;go_enter func169,ntmps169
  go_wp2_with(go_at_call 199;refine d.mono ?_;rintro f g⟨rfl,rfl⟩)
  go_ret2;exact⟨rfl,rfl⟩
 ·have t1:((n:Int)%2 !=0)=true:=by simp;omega
  clear b a d;go_enter func169,ntmps169;go_wp2;go_ret2;exact⟨rfl,rfl⟩
def Alr(A:Option Addr)(n c:Nat)(l:List UInt8)(w:jD)(ap:n<=1000000)(h:Bs w A n l)(f:NS l=true):
 Calls prog 169 #[fD A n c] w λs C=>s=gY (gJ #[.string ⟨(pairs l).toArray⟩,fU true])/\η w C:=by
 obtain⟨W,K,T,U,V⟩:=info_parts Tryz.infoByte;have an:=h.len;have m:=Ua A n c l w O h;simp only[NS,Bool.and_eq_true,decide_eq_true_eq]at f;rw[f.2]at m;have J:n%2=0:=O;obtain⟨b,g⟩:∃b,n=2*b:=⟨n/2,O⟩;have z:b=l.length/2:=O;have t1:((n:Int)%2 !=0)=jw:=by simp;omega
 have ac:((n:Int)/2)=(b:Int):=O;have E:=Ac g;have r:=Ac z;have ao:b<=n:=O;clear f J g z;go_enter func169,ntmps169
 go_wp2_with(first|(go_at_call 199;refine m.mono ?_;rintro s C⟨rfl,rfl⟩)|(at_make;refine wpList_make_full _ rfl _ _ 22 rfl w.heap.size 5 W (.int .u8 0) 1 underlying22 K T U .i64 .i64 _ _ b rfl rfl (by rfl) (by rfl) (by rw[V];omega) (by unfold maxLen;omega) (Ae _) ?_;intro X j x))
 rw[QV]at j;have u:η w X:=(Below.refl _ _).grown x (Ae _) Θ;clear x m
 go_loopw [21](λq wr=>∃a:Nat,a<=b/\q=fP gZ a/\wr.ownsRow w.heap.size 5 1 (fD (some (Φ w.heap.size)) b b) b ((pairs (l.take (2*a))++BB (b-a) (0:UInt8)).map bv)/\η w wr)(λq _=>b-(intOf q).toNat)
 case atStart=>exact⟨0,BA _,rfl,by simpa[pairs]using j,u⟩
 case round=>
  clear j u;obtain⟨a,f,rfl,d,e⟩:=hrel;by_cases y:a<b
  ·have g:=E.out;have o:=h.below e;obtain⟨am,Z,av,rfl,aq,ad⟩:=Bs.at o (show 2*a<n by omega);obtain⟨M,aa,aw,i,_,ae⟩:=Bs.at o (show 2*a+1<n by omega);injection i with i
   injection i with G H I
   subst G H;obtain⟨az,ar⟩:=Zx d y;have al:=d.frozenAt a;have k:=(d.stored a (bv (l[2*a]*16+l[2*a+1]))).1;have v:=e.setCell (p:=Δ w.heap.size a) (Ae _) (bv (l[2*a]*16+l[2*a+1]));rw[qC l a b y M r.out]at k;have F:=Ac k;have D:=Ac v;clear d e k v g o I;go_wp2;go_region;go_wp2;go_roundw
   case rel=>
    refine⟨a+1,O,by go_num,?_,?_⟩
    ·rw[Abv];exact F.drew
    ·rw[Abv];exact D.drew
   case measure=>simp[intOf];omega
  ·have L:a=b:=O;subst L;simp only[Nat.sub_self,List.replicate_zero,List.append_nil]at d;have t:pairs (l.take (2*a))=pairs l:=by rw[r.out];exact Z4 l
   rw[t]at d;obtain⟨Y,ab,N,_,B⟩:=Cj d;injection N with Q R S
   subst Q;have ah:=J9 (P:=prog) underlying22 underlying5 underlying9 B a;clear t d S B R;go_wp2;go_ret2;exact⟨rfl,e⟩
def Abx{w:jD}{A:Option Addr}{n:Nat}{l:List UInt8}(h:Bs w A n l)(c:Nat):(convert 22 9 (fD A n c)).run prog w=.ok (.string ⟨l.toArray⟩) w:=
 J9 underlying22 underlying5 underlying9 h c
def Ahi(w:jD)(t:TypeId)(a b c d:Value):∃e,e=w.alloc (.cells #[a,b,c,d] t)/\e.cell? (Φ w.heap.size)=some a/\e.cell? (Δ w.heap.size 1)=some b/\e.cell? (Δ w.heap.size 2)=some c/\
 e.cell? (Δ w.heap.size 3)=some d/\η w e/\e.heap.size=w.heap.size+1:=by
 refine⟨_,rfl,?_,?_,?_,?_,(Below.refl _ _).alloc (Ae _) _,by simp⟩<;>
 ·rw[cell_of_row _ w.heap.size _ _ t (0,0) (heap_alloc_new w _)];rfl
def lines_any(c:Int)(w:jD):Calls prog 100 #[fP gZ c] w λd e=>d=gY (fP gZ (if c=1 then 1 else if c=2 then 4 else 0))/\w=e:=by
 by_cases a:c=1
 ·subst a;go_enter func100,ntmps100;go_wp2;go_ret;exact⟨rfl,rfl⟩
 ·by_cases b:c=2
  ·subst b;go_enter func100,ntmps100;go_wp2;go_ret;exact⟨rfl,rfl⟩
  ·have t1:(c==1)=jw:=by simp[a]
   have t2:(c==2)=jw:=by simp[b]
   rw[ku a,ku b];go_enter func100,ntmps100;go_wp2;go_ret;exact⟨rfl,rfl⟩
def MI(c:Int):Int:=if c=1 then 8 else if c=2 then 32 else 0
def JB(c:Int)(w:jD):Calls prog 163 #[fP gZ c] w λa d=>a=gY (fP gZ (MI c))/\w=d:=by
 have g:=lines_any c w;have b:(8*(if c=1 then 1 else if c=2 then 4 else 0):Int)=MI c:=by unfold MI;split<;>(try split)<;>rfl
 have f:(0:Int)<=(if c=1 then 1 else if c=2 then 4 else 0)/\(if c=1 then 1 else if c=2 then 4 else 0:Int)<=4:=by split<;>(try split)<;>decide
 generalize(if c=1 then 1 else if c=2 then 4 else 0:Int)=k at*;obtain⟨i,j⟩:=f;have e:=Ac b;clear b;go_enter func163,ntmps163
 go_wp2_with(go_at_call 100;refine g.mono ?_;rintro a d⟨rfl,rfl⟩)
 go_ret;exact⟨by rw[<-e.out];rfl,rfl⟩
def Vh(A:Option Addr)(n c:Nat)(l:List UInt8)(x:UInt8)(w:jD)(B:n<=4294967296)(h:Bs w A n l):
 Calls prog 165 #[fD A n c,fP .u8 (x.toNat:Int)] w λj r=>j=gY (fP gZ (placeOf (λg=>g.toNat==x.toNat) l))/\w=r:=by
 have z:=h.len;go_enter func165,ntmps165;go_wp2
 go_loop [8](λk=>∃b:Nat,b<=n/\k=fP gZ b/\∀a(h:a<l.length),a<b->(l[a].toNat==x.toNat)=jw)(λk=>n-(intOf k).toNat)
 case atStart=>exact⟨0,BA _,rfl,λa _ d=>absurd d O⟩
 case round=>
  obtain⟨b,y,rfl,e⟩:=hrel;by_cases q:b<n
  ·obtain⟨p,s,C,rfl,t,u⟩:=h.at q;by_cases f:l[b].toNat=x.toNat
   ·have t1:((x.toNat:Int)==(l[b].toNat:Int))=true:=by simp[f]
    have i:=Ac (Yg (λg:UInt8=>g.toNat==x.toNat) l b p (λa d=>e a O d) (by simp[f]));clear e f;go_wp2;go_ret;exact⟨by rw[i.out];rfl,rfl⟩
   ·have t1:((x.toNat:Int)==(l[b].toNat:Int))=jw:=by simp;omega
    have m:Hid (∀a(h:a<l.length),a<b+1->(l[a].toNat==x.toNat)=jw):=Ac λa d v=>by
     by_cases j:a=b
     ·subst j;simp[f]
     ·exact e a d O
    clear e f;go_wp2
    go_round
    case rel=>exact⟨b+1,O,by go_num,m.out⟩
    case measure=>simp[intOf];omega
  ·have o:b=n:=O;subst o;have i:=Ac (VQ (λg:UInt8=>g.toNat==x.toNat) l (λa d=>e a d O));clear e;go_wp2;go_ret;exact⟨by rw[i.out];rfl,rfl⟩
def yj(A:Option Addr)(n c:Nat)(l:List UInt64)(x:UInt64)(w:jD)(B:n<=4294967296)(h:Ws w A n l):
 Calls prog 216 #[fD A n c,fP ig (x.toNat:Int)] w λj r=>j=gY (fP gZ (placeOf (λg=>g.toNat==x.toNat) l))/\w=r:=by
 have z:=h.len;go_enter func216,ntmps216;go_wp2
 go_loop [8](λk=>∃b:Nat,b<=n/\k=fP gZ b/\∀a(h:a<l.length),a<b->(l[a].toNat==x.toNat)=jw)(λk=>n-(intOf k).toNat)
 case atStart=>exact⟨0,BA _,rfl,λa _ d=>absurd d O⟩
 case round=>
  obtain⟨b,y,rfl,e⟩:=hrel;by_cases q:b<n
  ·obtain⟨p,s,C,rfl,t,u⟩:=h.at q;by_cases f:l[b].toNat=x.toNat
   ·have t1:((x.toNat:Int)==(l[b].toNat:Int))=true:=by simp[f]
    have i:=Ac (Yg (λg:UInt64=>g.toNat==x.toNat) l b p (λa d=>e a O d) (by simp[f]));clear e f;go_wp2;go_ret;exact⟨by rw[i.out];rfl,rfl⟩
   ·have t1:((x.toNat:Int)==(l[b].toNat:Int))=jw:=by simp;omega
    have m:Hid (∀a(h:a<l.length),a<b+1->(l[a].toNat==x.toNat)=jw):=Ac λa d v=>by
     by_cases j:a=b
     ·subst j;simp[f]
     ·exact e a d O
    clear e f;go_wp2
    go_round
    case rel=>exact⟨b+1,O,by go_num,m.out⟩
    case measure=>simp[intOf];omega
  ·have o:b=n:=O;subst o;have i:=Ac (VQ (λg:UInt64=>g.toNat==x.toNat) l (λa d=>e a d O));clear e;go_wp2;go_ret;exact⟨by rw[i.out];rfl,rfl⟩
def qL{b:Type}(p:b->Bool)(l:List b):(0<=placeOf p l)<->l.any p=true:=by
 unfold placeOf;cases h:l.findIdx? p with
 |none=>
  rw[List.findIdx?_eq_none_iff]at h;constructor
  ·intro c;simp at c
  ·intro d;obtain⟨i,f,a⟩:=Ag1.1 d;rw[h i f]at a;cases a
 |some g=>
  rw[LM]at h;obtain⟨e,a,_⟩:=h;constructor
  ·intro _;exact Ag1.2 ⟨_,List.getElem_mem e,a⟩
  ·intro _;exact Int.natCast_nonneg g
def Alf{a:Type}(p:a->Bool)(l:List a): -1<=placeOf p l/\placeOf p l<max 1 l.length:=by
 unfold placeOf;cases h:l.findIdx? p with
 |none=>simp;omega
 |some c=>
  rw[LM]at h;obtain⟨b,_⟩:=h;simp;omega
def gu(A:Option Addr)(n c:Nat)(l:List UInt64)(w:jD)(k:n<=4294967296)(h:Ws w A n l):
 Calls prog 197 #[fD A n c,fP ig 0] w λb e=>b=gY (fU (l.any λa=>a.toNat==0))/\w=e:=by
 have i:Calls prog 216 #[fD A n c,fP ig 0] w λb e=>b=gY (fP gZ (placeOf (λa=>a.toNat==0) l))/\w=e:=yj A n c l 0 w k h
 have f:=qL (λa:UInt64=>a.toNat==0) l;generalize placeOf (λa:UInt64=>a.toNat==0) l=g at*;cases d:l.any (λa=>a.toNat==0)with
 |true=>
  have j:0<=g:=f.2 d;clear f d;go_enter func197,ntmps197
  go_wp2_with(go_at_call 216;refine i.mono ?_;rintro b e⟨rfl,rfl⟩)
  go_ret;exact⟨rfl,rfl⟩
 |false=>
  have j:g<0:=by
   rcases Int.lt_or_le g 0 with h|h
   ·exact h
   ·rw[f.1 h]at d;cases d
  clear f d;go_enter func197,ntmps197
  go_wp2_with(go_at_call 216;refine i.mono ?_;rintro b e⟨rfl,rfl⟩)
  go_ret;exact⟨by simp;omega,rfl⟩
def Xt(f g i:Value)(c:Option Addr)(a d:Nat)(w:jD)(k:a<=4294967296):
 Calls prog 167 #[.agg #[f,g,i,fD c a d]] w λe j=>e=gY (fP gZ (if a<=4 then 1 else 2))/\η w j:=by
 by_cases b:a<=4
 ·rw[jM b];go_enter func167,ntmps167;go_wp2;go_ret;exact⟨rfl,(Below.refl _ _).alloc (Ae _) _⟩
 ·rw[ku b];go_enter func167,ntmps167;go_wp2;go_ret;exact⟨rfl,(Below.refl _ _).alloc (Ae _) _⟩
def MJ(j u t:Option Addr)(d p b D q z:Nat)(x:Nd)(w:jD)(Y:d<=1000000)(Z:b<=1000000)(aa:q<=1000000)(h1:Bs w j d x.pre)(h2:Bs w u b x.labels)(h3:Ws w t q x.kids):
 Calls prog 166 #[.agg #[fD j d p,fP ig (x.val.toNat:Int),fD u b D,fD t q z]] w λl n=>l=gY (fU (BU x))/\η w n:=by
 have V:=h1.len;have W:=h2.len;have an:=h3.len;obtain⟨o,J,ab,ac,ad,ae,i,ar⟩:=Ahi w 174 (fD j d p) (fP ig (x.val.toNat:Int)) (fD u b D) (fD t q z);have F:=h1.below i;have G:=h2.below i;have P:=h3.below i;have y:=Ac J;clear J;by_cases m:d<=15/\x.pre.all DV=true
 ·have r:=VT j d p x.pre o m.1 F m.2;have k:=Ac r;clear r;by_cases U:b=q
  ·subst U;have t1:((b:Int)!=(b:Int))=jw:=by simp
   go_enter func166,ntmps166
   go_wp2_with fail
   rw[<-y.out];refine k.mono ?_;rintro l n⟨rfl,rfl⟩;clear k h1 h2 h3
   go_wp2_with fail
   go_loop [27](λB=>∃a:Nat,a<=b/\B=fP gZ a/\(x.labels.take a).all DV=true/\DY (x.labels.take a)=true)(λB=>b-(intOf B).toNat)
   case atStart=>exact⟨0,BA _,rfl,by simp,by simp[DY]⟩
   case round=>
    obtain⟨a,am,rfl,g,f⟩:=hrel;by_cases X:a<b
    ·obtain⟨s,az,av,rfl,ao,Q⟩:=G.at X;by_cases I:x.labels[a].toNat<16
     ·have t2:decide (16<=(x.labels[a].toNat:Int))=jw:=by simp;omega
      have C:=Ac (UH DV x.labels a s g (Xn I));rcases a with _|c
      ·have v:=Ac (Ql x.labels 0 s f (λc al=>O));have t3:decide ((0:Int)<0)=jw:=rfl;clear g f;rw[show((0:Nat):Int)=0 from rfl];simp only[Nat.add_zero]at Q;go_wp2
       go_round
       case rel=>exact⟨1,O,by go_num,C.out,v.out⟩
       case measure=>simp[intOf];omega
      ·obtain⟨aq,aD,aw,A,ap,ah⟩:=G.at (show c<b by omega);injection A with A
       injection A with M N E
       subst M N;by_cases K:x.labels[c].toNat<x.labels[c+1].toNat
       ·have t3:decide ((x.labels[c+1].toNat:Int)<=(x.labels[c].toNat:Int))=jw:=by simp;omega
        have v:=Ac (qH x.labels c s f K);clear g f E;go_wp2
        go_round
        case rel=>exact⟨c+1+1,O,by go_num,C.out,v.out⟩
        case measure=>simp[intOf];omega
       ·have t3:decide ((x.labels[c+1].toNat:Int)<=(x.labels[c].toNat:Int))=true:=by simp;omega
        have e:=Ac (gq x c s K);clear g f E;go_wp2;go_ret;exact⟨by rw[e.out];rfl,i⟩
     ·have t2:decide (16<=(x.labels[a].toNat:Int))=true:=by simp;omega
      have e:=Ac (lS x a s I);clear g f;go_wp2;go_ret;exact⟨by rw[e.out];rfl,i⟩
    ·have T:a=b:=O;subst T;rw[<-W,List.take_length]at g f;have e:=Ac (xQ x O m.2 O g f);have R:=gu t a z x.kids o O P;clear g f m
     go_wp2_with(go_at_call 197;refine R.mono ?_;rintro l n⟨rfl,rfl⟩)
     go_ret;exact⟨by rw[e.out];rfl,i⟩
  ·have e:=Ac (lU x O);have t1:((b:Int)!=(q:Int))=true:=by simp;omega
   go_enter func166,ntmps166
   go_wp2_with fail
   rw[<-y.out];refine k.mono ?_;rintro l n⟨rfl,rfl⟩;clear k h1 h2 h3
   go_wp2_with fail
   go_ret;exact⟨by rw[e.out];rfl,i⟩
 ·have e:=Ac (lT x (by rw[V];exact m));have r:Calls prog 196 #[fD j d p] o λl n=>l=gY (gJ #[fP ig 0,fU jw])/\o=n:=by
   by_cases H:d<=15
   ·have L:x.pre.all DV=jw:=by
     cases S:x.pre.all DV with
     |false=>rfl
     |true=>exact absurd ⟨H,S⟩ m
    exact Alq j d p x.pre o H F L
   ·exact Ahh j d p o O O
  have k:=Ac r;clear r m;go_enter func166,ntmps166
  go_wp2_with fail
  rw[<-y.out];refine k.mono ?_;rintro l n⟨rfl,rfl⟩;clear k h1 h2 h3
  go_wp2_with fail
  go_ret;exact⟨by rw[e.out];rfl,i⟩
