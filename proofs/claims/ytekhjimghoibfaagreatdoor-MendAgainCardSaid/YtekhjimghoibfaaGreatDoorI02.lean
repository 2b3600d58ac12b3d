import Derived.Test.YtekhjimghoibfaaGreatDoorRows
import Derived.Test.YtekhjimghoibfaaGreatDoorI01
set_option linter.defProp false
set_option maxHeartbeats 32000000
set_option maxRecDepth 100000
open Nat renaming eq_zero_or_pos->Js,le_refl->Ad,zero_le->BB
open List renaming eq_nil_of_length_eq_zero->Dk,replicate->BC,any_eq_true->QV,findIdx?_eq_some_iff_getElem->Le
open Go.Lib renaming run_eql_slice_nil->Jv,hid->Aa
open Go.World renaming ownsRow_nil->EM,ownsRow_made->zD
namespace Go.Proofs.YtekhjimghoibfaaGreatDoor
open Go.RowKit
open Go.Proofs.Tryz
def Tryz.Ia:MS prog 23 5 (.int .u8 0) 1:=⟨underlying23,by kernel_rfl,rfl⟩
def Tryz.infoByte:(prog.info? 5).map (λa=>(a.zero,a.size,a.bytes))=some (some (.int .u8 0),1,1):=by kernel_rfl
def Tryz.Jc:MS prog 109 43 (.int .u64 0) 8:=⟨underlying109,by kernel_rfl,rfl⟩
def YS(A:Option Addr)(n c:Nat)(l:List UInt64)(w:World)(r:n<=1000000)(d:Ws w A n l):
 Calls prog 192 #[.slice A n c] w λb h=>∃g,b=.returned g/\h.ownsRow w.heap.size 43 1 g n (l.map wv)/\η w h:=by
 have k:=d.len;rcases A with _|f
 ·have m:n=0:=by
   rcases Js n with e|e
   ·exact e
   ·obtain⟨_,_,b,_⟩:=d.2 e;cases b
  subst m;have j:l=[]:=Dk k;subst j;have p:=λa=>Jv (P:=prog) a 109 43 none 0 c 0 0 underlying109
  go_enter func192,ntmps192;go_wp2;go_ret;exact⟨_,rfl,EM _ _ _ _,Below.refl _ _⟩
 ·have p:=λa=>Jv (P:=prog) a 109 43 (some f) n c 0 0 underlying109
  go_enter func192,ntmps192
  go_wp2_with(at_builtin;refine TI rfl (.tmp 5) (.tmp 6) 109 rfl Tryz.Jc w.heap.size (.slice (some (Φ w.heap.size)) 0 0) 0 [] (l.map wv) rfl (zD w #[] 0 (Ad _) U rfl) (some f) n c rfl (d.below ((Below.refl _ _).alloc (Ad _) _)) (Qe _) O U Θ ?_;intro q s o i)
  go_ret;exact⟨q,rfl,by simpa using o,((Below.refl _ _).alloc (Ad _) _).trans i⟩
def Ug(A:Option Addr)(n c:Nat)(l:List UInt8)(w:World)(r:n<=1000000)(d:Bs w A n l):
 Calls prog 138 #[.slice A n c] w λb h=>∃g,b=.returned g/\h.ownsRow w.heap.size 5 1 g n (l.map bv)/\η w h:=by
 have k:=d.len;rcases A with _|f
 ·have m:n=0:=by
   rcases Js n with e|e
   ·exact e
   ·obtain⟨_,_,b,_⟩:=d.2 e;cases b
  subst m;have j:l=[]:=Dk k;subst j;have p:=λa=>Jv (P:=prog) a 23 5 none 0 c 0 0 underlying23
  go_enter func138,ntmps138;go_wp2;go_ret;exact⟨_,rfl,EM _ _ _ _,Below.refl _ _⟩
 ·have p:=λa=>Jv (P:=prog) a 23 5 (some f) n c 0 0 underlying23
  go_enter func138,ntmps138
  go_wp2_with(at_builtin;refine TI rfl (.tmp 5) (.tmp 6) 23 rfl Tryz.Ia w.heap.size (.slice (some (Φ w.heap.size)) 0 0) 0 [] (l.map bv) rfl (zD w #[] 0 (Ad _) U rfl) (some f) n c rfl (d.below ((Below.refl _ _).alloc (Ad _) _)) (Iw _) O U Θ ?_;intro q s o i)
  go_ret;exact⟨q,rfl,by simpa using o,((Below.refl _ _).alloc (Ad _) _).trans i⟩
def SH(A:Option Addr)(n c:Nat)(l:List UInt8)(w:World)(t:n<=4294967296)(f:Bs w A n l):
 Calls prog 180 #[.slice A n c] w λi o=>i=.returned (.bool (l.all D6))/\w=o:=by
 have k:=f.len;go_enter func180,ntmps180;go_wp2
 go_loop [7](λe=>∃a:Nat,a<=n/\e=.int .i64 a/\(l.take a).all D6=true)(λe=>n-(intOf e).toNat)
 case atStart=>exact⟨0,BB _,rfl,by simp⟩
 case round=>
  obtain⟨a,s,rfl,b⟩:=hrel;by_cases m:a<n
  ·obtain⟨h,p,u,rfl,q,r⟩:=f.at m;by_cases g:l[a].toNat<16
   ·have d:=Aa (TJ D6 l a h b (VX g));clear b;go_wp2
    go_round
    case rel=>exact⟨a+1,O,by go_num,d.out⟩
    case measure=>simp[intOf];omega
   ·have d:=Aa (VW D6 l a h (Afj g));clear b;go_wp2;go_ret;exact⟨by rw[d.out];rfl,rfl⟩
  ·have j:a=n:=O;subst j;go_wp2;go_ret;exact⟨Abj (by rw[<-k]at b;simpa using b),rfl⟩
def Afn(s:ByteArray)(w:World)(B:s.size<=1000000):
 Calls prog 140 #[.string s] w λm k=>∃d,m=.returned d/\k.ownsRow w.heap.size 5 1 d (2*s.size) ((CG s.data.toList).map bv)/\η w k:=by
 obtain⟨x,p,t,u,v⟩:=info_parts Tryz.infoByte;go_enter func140,ntmps140
 go_wp2_with(at_make;refine wpList_make_own _ rfl _ _ 23 rfl w.heap.size 5 x (.int .u8 0) 1 underlying23 p t u .i64 .i64 _ (2*s.size) rfl rfl Θ (by rw[v];omega) (by unfold maxLen;omega) (Ad _) ?_;intro y i g)
 have n:η w y:=(Below.refl _ _).grown g (Ad _) Θ;clear g
 go_loopw [3,11](λd e wr=>∃a:Nat,a<=s.size/\e=.int .i64 a/\wr.ownsRow w.heap.size 5 1 d (2*a) ((CG (s.data.toList.take a)).map bv)/\η w wr)(λ_ e _=>s.size-(intOf e).toNat)
 case atStart=>exact⟨0,BB _,rfl,by simpa[CG]using i,n⟩
 case round=>
  obtain⟨a,z,rfl,c,b⟩:=hrel;clear i;have r:=b.size;by_cases h:a<s.size
  ·have A:a<s.data.toList.length:=by simpa using h
   have l:=Aa (TY s a h);go_wp2
   go_region_law(refine jk rfl (.tmp 14) (.tmp 23) 23 rfl Tryz.Ia wr w.heap.size u3 (2*a) ((CG (s.data.toList.take a)).map bv) [Value.int .u8 (IntKind.u8.wrap (↑s[a].toNat/16)),Value.int .u8 ((↑s[a].toNat:Int).tmod 16)] (by simp[Act.eval]) c rfl rfl rfl rfl 2 2 (by simp[Act.eval]) rfl (by simp[Value.oneCell']) (by simp;omega) U r ?_;intro C D j f)
   all_goals
    have o:=b.trans f;rw[Ajd,Aje]at j;clear c b f;go_wp2;go_roundw
    case rel=>exact⟨a+1,O,by go_num,by rw[l.out,List.map_append];exact j,o⟩
    case measure=>simp[intOf];omega
  ·have q:a=s.size:=O;subst q;go_wp2;go_ret;exact⟨_,rfl,by rw[List.take_of_length_le Θ]at c;exact c,b⟩
def LK(A B:Option Addr)(n m p q:Nat)(a b:List UInt8)(w:World)(F:n<=4294967296)(_hm:m<=4294967296)(h:Bs w A n a)(i:Bs w B m b):
 Calls prog 142 #[.slice A n p,.slice B m q] w λr u=>r=.returned (.int .i64 (common a b:Nat))/\Dr w u:=by
 have D:=h.len;have E:=i.len;go_enter func142,ntmps142;go_wp2
 go_loopw [5](λg wr=>∃c:Nat,c<=n/\g=.int .i64 c/\alike c a b/\Dr w wr)(λg _=>n-(intOf g).toNat)
 case atStart=>exact⟨0,BB _,rfl,uX _ _,Dr.refl _⟩
 case round=>
  obtain⟨c,z,rfl,d,L,rfl⟩:=hrel;have C:=d.2.1;by_cases l:c<n
  ·obtain⟨j,J,I,rfl,G,x⟩:=h.at l;by_cases o:c<m
   ·obtain⟨k,K,v,rfl,H,y⟩:=i.at o;by_cases f:a[c]=b[c]
    ·have e:=Aa (uY d j k f);have s:=nM f;clear d f;go_wp2
     go_quiet(fail)
     go_wp2;go_roundw
     case rel=>exact⟨c+1,O,by go_num,e.out,by first|exact Dr.one _ _|exact Dr.two _ _ _⟩
     case measure=>simp[intOf];omega
    ·have e:=Aa (XZ d j k f);have s:=jl f;clear d f;go_wp2
     go_quiet(fail)
     go_wp2;go_ret;exact⟨by rw[e.out];rfl,by first|exact Dr.one _ _|exact Dr.two _ _ _⟩
   ·have e:=Aa (TZ d O);have t:decide (c<m)=false:=by simpa using o
    clear d;go_wp2
    go_quiet(fail)
    go_wp2;go_ret;exact⟨by rw[e.out];rfl,by first|exact Dr.one _ _|exact Dr.two _ _ _⟩
  ·have e:=Aa (OD d O);have t:decide (c<n)=false:=by simpa using l
   clear d;go_wp2
   go_quiet(fail)
   go_wp2;go_ret;exact⟨by rw[e.out];rfl,by first|exact Dr.one _ _|exact Dr.two _ _ _⟩
def UT(A:Option Addr)(n c:Nat)(l:List UInt8)(w:World)(p:n<=15)(d:Bs w A n l)(b:l.all D6=true):
 Calls prog 190 #[.slice A n c] w λg i=>g=.returned (.tuple #[.int .u64 ((n+16*Fv l:Nat):Int),.bool true])/\w=i:=by
 have o:=d.len;have e:=SH A n c l w O d;rw[b]at e;go_enter func190,ntmps190
 go_wp2_with(go_at_call 180;refine e.mono ?_;rintro g i⟨rfl,rfl⟩)
 go_loop [4,20](λq f=>∃a:Nat,a<=n/\f=.int .i64 a/\q=.int .u64 ((n+16*Fv (l.take a):Nat):Int))(λ_ f=>n-(intOf f).toNat)
 case atStart=>exact⟨0,BB _,rfl,by simp[Fv]⟩
 case round=>
  obtain⟨a,u,rfl,rfl⟩:=hrel;by_cases h:a<n
  ·obtain⟨m,r,v,rfl,s,t⟩:=d.at h;have j:=Aa (Abn l n a p h m b);clear e b;go_wp2
   go_round
   case rel=>exact⟨a+1,O,by go_num,j.out⟩
   case measure=>simp[intOf];omega
  ·have k:a=n:=O;subst k;go_wp2;go_ret2;exact⟨by simp[<-o],rfl⟩
def Afo(A:Option Addr)(n c:Nat)(w:World)(d:15<n)(e:n<=4294967296):
 Calls prog 190 #[.slice A n c] w λa b=>a=.returned (.tuple #[.int .u64 0,.bool false])/\w=b:=by
 go_enter func190,ntmps190;go_wp2;go_ret2;exact⟨rfl,rfl⟩
def Ajg(A:Option Addr)(n c:Nat)(l:List UInt8)(w:World)(g:n<=15)(f:Bs w A n l)(e:l.all D6=false):
 Calls prog 190 #[.slice A n c] w λa d=>a=.returned (.tuple #[.int .u64 0,.bool false])/\w=d:=by
 have b:=SH A n c l w O f;rw[e]at b;go_enter func190,ntmps190
 go_wp2_with(go_at_call 180;refine b.mono ?_;rintro a d⟨rfl,rfl⟩)
 go_ret2;exact⟨rfl,rfl⟩
def vO(x:Nat)(w:World)(e:Ending)(w':World):Prop:=
 η w w'/\(if x/16/16^(x%16)=0 then∃a,e=.returned (.tuple #[a,.bool true])/\w'.ownsRow w.heap.size 5 1 a (x%16) ((digits (x%16) (x/16)).map bv)
  else e=.returned (.tuple #[.slice none 0 0,.bool false]))
def YT(x:Nat)(w:World)(S:x<18446744073709551616):
 Calls prog 189 #[.int .u64 (x:Int)] w (vO x w):=by
 obtain⟨L,E,d,J,K⟩:=info_parts Tryz.infoByte;have G:x%16<16:=Nat.mod_lt _ U;go_enter func189,ntmps189
 go_wp2_with(at_make;refine wpList_make_full _ rfl _ _ 23 rfl w.heap.size 5 L (.int .u8 0) 1 underlying23 E d J .i64 .i64 _ _ (x%16) rfl rfl Θ Θ (by rw[K];omega) (by unfold maxLen;omega) (Ad _) ?_;intro N j v)
 rw[Qg]at j;have t:η w N:=(Below.refl _ _).grown v (Ad _) Θ;clear v;obtain⟨b,i⟩:=ε (x%16);obtain⟨e,B⟩:=ε (x/16);have r:((x:Int)%16)=(b:Int):=O;have s:((x:Int)/16)=(e:Int):=O;have I:e<18446744073709551616:=O;have o:=Aa i;have q:=Aa B;rw[r,s,<-i];rw[<-i]at j G;clear r s i B
 go_loopw [0,16](λM n wr=>∃a:Nat,a<=b/\n=.int .i64 a/\M=.int .u64 ((e/16^a:Nat):Int)/\wr.ownsRow w.heap.size 5 1 (.slice (some (Φ w.heap.size)) b b) b ((digits a e++BC (b-a) (0:UInt8)).map bv)/\η w wr)(λ_ n _=>b-(intOf n).toNat)
 case atStart=>exact⟨0,BB _,rfl,by simp,by simpa[digits]using j,t⟩
 case round=>
  clear j t;obtain⟨a,Q,rfl,rfl,g,h⟩:=hrel;obtain⟨f,c⟩:=ε (e/16^a);have T:f<18446744073709551616:=by rw[c];exact Nat.lt_of_le_of_lt (Nat.div_le_self _ _) I
  by_cases y:a<b
  ·have m:=jo a b e y;have A:((f:Int)/16)=((e/16^(a+1):Nat):Int):=by rw[Nat.pow_succ,<-Nat.div_div_eq_div_mul,<-c];simp
   rw[<-c]at m⊢;have D:=Aa m;have C:=Aa A;clear m A c;obtain⟨V,R⟩:=YC g y;have P:=g.frozenAt a;have z:=(g.stored a (bv (UInt8.ofNat (f%16)))).1;have u:=h.setCell (p:=Δ w.heap.size a) (Ad _) (bv (UInt8.ofNat (f%16)));rw[D.out,<-zN]at z;rw[<-zN]at u;clear g h;go_wp2;go_roundw
   case rel=>exact⟨a+1,O,by go_num,by rw[C.out],z,u⟩
   case measure=>simp[intOf];omega
  ·have F:a=b:=O;subst F;rw[<-c];by_cases d:f=0
   ·have H:((f:Int)!=0)=false:=by simp[d]
    have k:=Aa c;have l:=Aa d;clear c d;go_wp2;go_ret2;refine⟨h,?_⟩;rw[<-o.out,<-q.out,<-k.out,if_pos l.out];exact⟨_,rfl,by simpa using g⟩
   ·have H:((f:Int)!=0)=true:=by simp;omega
    have k:=Aa c;have l:=Aa d;clear c d;go_wp2;go_ret2;refine⟨h,?_⟩;rw[<-o.out,<-q.out,<-k.out,if_neg l.out];rfl
def Ang(A:Option Addr)(n c:Nat)(l:List UInt8)(w:World)(j:n<=1000000)(g:Bs w A n l)(b:J8 l=false):
 Calls prog 152 #[.slice A n c] w λf h=>f=.returned (.tuple #[.string ⟨#[]⟩,.bool false])/\w=h:=by
 have i:=g.len;have d:=SH A n c l w O g;by_cases a:n%2=0
 ·have e:l.all D6=false:=by
   simpa[J8,i,a]using b
  rw[e]at d;have t1:((n:Int)%2 !=0)=false:=by simp;omega
  clear b e a;go_enter func152,ntmps152
  go_wp2_with(go_at_call 180;refine d.mono ?_;rintro f h⟨rfl,rfl⟩)
  go_ret2;exact⟨rfl,rfl⟩
 ·have t1:((n:Int)%2 !=0)=true:=by simp;omega
  clear b a d;go_enter func152,ntmps152;go_wp2;go_ret2;exact⟨rfl,rfl⟩
def Ajh(A:Option Addr)(n c:Nat)(l:List UInt8)(w:World)(ap:n<=1000000)(i:Bs w A n l)(f:J8 l=true):
 Calls prog 152 #[.slice A n c] w λs C=>s=.returned (.tuple #[.string ⟨(pairs l).toArray⟩,.bool true])/\η w C:=by
 obtain⟨W,K,T,U,V⟩:=info_parts Tryz.infoByte;have an:=i.len;have m:=SH A n c l w O i;simp only[J8,Bool.and_eq_true,decide_eq_true_eq]at f;rw[f.2]at m;have J:n%2=0:=O;obtain⟨b,g⟩:∃b,n=2*b:=⟨n/2,O⟩;have z:b=l.length/2:=O;have t1:((n:Int)%2 !=0)=false:=by simp;omega
 have ac:((n:Int)/2)=(b:Int):=O;have E:=Aa g;have r:=Aa z;have ao:b<=n:=O;clear f J g z;go_enter func152,ntmps152
 go_wp2_with(first|(go_at_call 180;refine m.mono ?_;rintro s C⟨rfl,rfl⟩)|(at_make;refine wpList_make_full _ rfl _ _ 23 rfl w.heap.size 5 W (.int .u8 0) 1 underlying23 K T U .i64 .i64 _ _ b rfl rfl (by rfl) (by rfl) (by rw[V];omega) (by unfold maxLen;omega) (Ad _) ?_;intro X j x))
 rw[Qg]at j;have u:η w X:=(Below.refl _ _).grown x (Ad _) Θ;clear x m
 go_loopw [21](λq wr=>∃a:Nat,a<=b/\q=.int .i64 a/\wr.ownsRow w.heap.size 5 1 (.slice (some (Φ w.heap.size)) b b) b ((pairs (l.take (2*a))++BC (b-a) (0:UInt8)).map bv)/\η w wr)(λq _=>b-(intOf q).toNat)
 case atStart=>exact⟨0,BB _,rfl,by simpa[pairs]using j,u⟩
 case round=>
  clear j u;obtain⟨a,f,rfl,d,e⟩:=hrel;by_cases y:a<b
  ·have g:=E.out;have o:=i.below e;obtain⟨am,Z,aw,rfl,ar,ad⟩:=Bs.at o (show 2*a<n by omega);obtain⟨M,aa,az,h,_,af⟩:=Bs.at o (show 2*a+1<n by omega);injection h with h
   injection h with G H I
   subst G H;have aq:2*a+1<n:=O;obtain⟨aB,av⟩:=YC d y;have al:=d.frozenAt a;have k:=(d.stored a (bv (l[2*a]*16+l[2*a+1]))).1;have v:=e.setCell (p:=Δ w.heap.size a) (Ad _) (bv (l[2*a]*16+l[2*a+1]));rw[nN l a b y M r.out]at k;have F:=Aa k;have D:=Aa v;clear d e k v g o I;go_wp2;go_region;go_wp2;go_roundw
   case rel=>
    refine⟨a+1,O,by go_num,?_,?_⟩
    ·rw[zO];exact F.out.drew
    ·rw[zO];exact D.out.drew
   case measure=>simp[intOf];omega
  ·have L:a=b:=O;subst L;simp only[Nat.sub_self,List.replicate_zero,List.append_nil]at d;have t:pairs (l.take (2*a))=pairs l:=by rw[r.out];exact YE l
   rw[t]at d;obtain⟨Y,ab,N,_,B⟩:=CS d;injection N with Q R S
   subst Q;have ah:=LD (P:=prog) underlying23 underlying5 underlying9 B a;clear t d S B R;go_wp2;go_ret2;exact⟨rfl,e⟩
def Afp(w:World)(f:TypeId)(a b c e:Value):∃d,d=w.alloc (.cells #[a,b,c,e] f)/\d.cell? (Φ w.heap.size)=some a/\d.cell? (Δ w.heap.size 1)=some b/\d.cell? (Δ w.heap.size 2)=some c/\
 d.cell? (Δ w.heap.size 3)=some e/\η w d/\d.heap.size=w.heap.size+1:=by
 refine⟨_,rfl,?_,?_,?_,?_,(Below.refl _ _).alloc (Ad _) _,by simp⟩<;>
 ·rw[cell_of_row _ w.heap.size _ _ f (0,0) (heap_alloc_new w _)];rfl
def lines_any(c:Int)(w:World):Calls prog 73 #[.int .i64 c] w λd e=>d=.returned (.int .i64 (if c=1 then 1 else if c=2 then 4 else 0))/\w=e:=by
 by_cases a:c=1
 ·subst a;go_enter func73,ntmps73;go_wp2;go_ret;exact⟨rfl,rfl⟩
 ·by_cases b:c=2
  ·subst b;go_enter func73,ntmps73;go_wp2;go_ret;exact⟨rfl,rfl⟩
  ·have t1:(c==1)=false:=by simp[a]
   have t2:(c==2)=false:=by simp[b]
   rw[if_neg a,if_neg b];go_enter func73,ntmps73;go_wp2;go_ret;exact⟨rfl,rfl⟩
def LM(c:Int):Int:=if c=1 then 8 else if c=2 then 32 else 0
def Jz(c:Int)(w:World):Calls prog 168 #[.int .i64 c] w λa d=>a=.returned (.int .i64 (LM c))/\w=d:=by
 have g:=lines_any c w;have b:(8*(if c=1 then 1 else if c=2 then 4 else 0):Int)=LM c:=by unfold LM;split<;>(try split)<;>rfl
 have f:(0:Int)<=(if c=1 then 1 else if c=2 then 4 else 0)/\(if c=1 then 1 else if c=2 then 4 else 0:Int)<=4:=by split<;>(try split)<;>decide
 generalize(if c=1 then 1 else if c=2 then 4 else 0:Int)=j at*;obtain⟨h,i⟩:=f;have e:=Aa b;clear b;go_enter func168,ntmps168
 go_wp2_with(go_at_call 73;refine g.mono ?_;rintro a d⟨rfl,rfl⟩)
 go_ret;exact⟨by rw[<-e.out];rfl,rfl⟩
def Uh(A:Option Addr)(n c:Nat)(l:List UInt8)(x:UInt8)(w:World)(B:n<=4294967296)(h:Bs w A n l):
 Calls prog 170 #[.slice A n c,.int .u8 (x.toNat:Int)] w λj r=>j=.returned (.int .i64 (placeOf (λg=>g.toNat==x.toNat) l))/\w=r:=by
 have z:=h.len;go_enter func170,ntmps170;go_wp2
 go_loop [8](λk=>∃b:Nat,b<=n/\k=.int .i64 b/\∀a(h:a<l.length),a<b->(l[a].toNat==x.toNat)=false)(λk=>n-(intOf k).toNat)
 case atStart=>exact⟨0,BB _,rfl,λa _ d=>absurd d O⟩
 case round=>
  obtain⟨b,y,rfl,e⟩:=hrel;by_cases q:b<n
  ·obtain⟨p,s,C,rfl,t,u⟩:=h.at q;by_cases f:l[b].toNat=x.toNat
   ·have t1:((x.toNat:Int)==(l[b].toNat:Int))=true:=by simp[f]
    have i:=Aa (Xq (λg:UInt8=>g.toNat==x.toNat) l b p (λa d=>e a O d) (by simp[f]));clear e f;go_wp2;go_ret;exact⟨by rw[i.out];rfl,rfl⟩
   ·have t1:((x.toNat:Int)==(l[b].toNat:Int))=false:=by simp;omega
    have m:Hid (∀a(h:a<l.length),a<b+1->(l[a].toNat==x.toNat)=false):=Aa λa d v=>by
     by_cases j:a=b
     ·subst j;simp[f]
     ·exact e a d O
    clear e f;go_wp2
    go_round
    case rel=>exact⟨b+1,O,by go_num,m.out⟩
    case measure=>simp[intOf];omega
  ·have o:b=n:=O;subst o;have i:=Aa (UO (λg:UInt8=>g.toNat==x.toNat) l (λa d=>e a d O));clear e;go_wp2;go_ret;exact⟨by rw[i.out];rfl,rfl⟩
def vP(A:Option Addr)(n c:Nat)(l:List UInt64)(x:UInt64)(w:World)(B:n<=4294967296)(h:Ws w A n l):
 Calls prog 202 #[.slice A n c,.int .u64 (x.toNat:Int)] w λj r=>j=.returned (.int .i64 (placeOf (λg=>g.toNat==x.toNat) l))/\w=r:=by
 have z:=h.len;go_enter func202,ntmps202;go_wp2
 go_loop [8](λk=>∃b:Nat,b<=n/\k=.int .i64 b/\∀a(h:a<l.length),a<b->(l[a].toNat==x.toNat)=false)(λk=>n-(intOf k).toNat)
 case atStart=>exact⟨0,BB _,rfl,λa _ d=>absurd d O⟩
 case round=>
  obtain⟨b,y,rfl,e⟩:=hrel;by_cases q:b<n
  ·obtain⟨p,s,C,rfl,t,u⟩:=h.at q;by_cases f:l[b].toNat=x.toNat
   ·have t1:((x.toNat:Int)==(l[b].toNat:Int))=true:=by simp[f]
    have i:=Aa (Xq (λg:UInt64=>g.toNat==x.toNat) l b p (λa d=>e a O d) (by simp[f]));clear e f;go_wp2;go_ret;exact⟨by rw[i.out];rfl,rfl⟩
   ·have t1:((x.toNat:Int)==(l[b].toNat:Int))=false:=by simp;omega
    have m:Hid (∀a(h:a<l.length),a<b+1->(l[a].toNat==x.toNat)=false):=Aa λa d v=>by
     by_cases j:a=b
     ·subst j;simp[f]
     ·exact e a d O
    clear e f;go_wp2
    go_round
    case rel=>exact⟨b+1,O,by go_num,m.out⟩
    case measure=>simp[intOf];omega
  ·have o:b=n:=O;subst o;have i:=Aa (UO (λg:UInt64=>g.toNat==x.toNat) l (λa d=>e a d O));clear e;go_wp2;go_ret;exact⟨by rw[i.out];rfl,rfl⟩
def nY{c:Type}(p:c->Bool)(l:List c):(0<=placeOf p l)<->l.any p=true:=by
 unfold placeOf;cases a:l.findIdx? p with
 |none=>
  rw[List.findIdx?_eq_none_iff]at a;constructor
  ·intro d;simp at d
  ·intro e;obtain⟨i,g,b⟩:=QV.1 e;rw[a i g]at b;cases b
 |some h=>
  rw[Le]at a;obtain⟨f,b,_⟩:=a;constructor
  ·intro _;exact QV.2 ⟨_,List.getElem_mem f,b⟩
  ·intro _;exact Int.natCast_nonneg h
def dA{b:Type}(p:b->Bool)(l:List b): -1<=placeOf p l/\placeOf p l<max 1 l.length:=by
 unfold placeOf;cases a:l.findIdx? p with
 |none=>simp;omega
 |some d=>
  rw[Le]at a;obtain⟨c,_⟩:=a;simp;omega
def dB(A:Option Addr)(n c:Nat)(l:List UInt64)(w:World)(k:n<=4294967296)(d:Ws w A n l):
 Calls prog 191 #[.slice A n c,.int .u64 0] w λb f=>b=.returned (.bool (l.any λa=>a.toNat==0))/\w=f:=by
 have i:Calls prog 202 #[.slice A n c,.int .u64 0] w λb f=>b=.returned (.int .i64 (placeOf (λa=>a.toNat==0) l))/\w=f:=vP A n c l 0 w k d
 have g:=nY (λa:UInt64=>a.toNat==0) l;have m:=dA (λa:UInt64=>a.toNat==0) l;generalize placeOf (λa:UInt64=>a.toNat==0) l=h at*;cases e:l.any (λa=>a.toNat==0)with
 |true=>
  have j:0<=h:=g.2 e;clear g e;go_enter func191,ntmps191
  go_wp2_with(go_at_call 202;refine i.mono ?_;rintro b f⟨rfl,rfl⟩)
  go_ret;exact⟨rfl,rfl⟩
 |false=>
  have j:h<0:=by
   rcases Int.lt_or_le h 0 with d|d
   ·exact d
   ·rw[g.1 d]at e;cases e
  clear g e;go_enter func191,ntmps191
  go_wp2_with(go_at_call 202;refine i.mono ?_;rintro b f⟨rfl,rfl⟩)
  go_ret;exact⟨by simp;omega,rfl⟩
def Wi(f g h:Value)(c:Option Addr)(a d:Nat)(w:World)(j:a<=4294967296):
 Calls prog 172 #[.agg #[f,g,h,.slice c a d]] w λe i=>e=.returned (.int .i64 (if a<=4 then 1 else 2))/\η w i:=by
 by_cases b:a<=4
 ·rw[if_pos b];go_enter func172,ntmps172;go_wp2;go_ret;exact⟨rfl,(Below.refl _ _).alloc (Ad _) _⟩
 ·rw[if_neg b];go_enter func172,ntmps172;go_wp2;go_ret;exact⟨rfl,(Below.refl _ _).alloc (Ad _) _⟩
def LP(i t s:Option Addr)(d o b C p y:Nat)(x:Nd)(w:World)(Y:d<=1000000)(Z:b<=1000000)(aa:p<=1000000)(h1:Bs w i d x.pre)(h2:Bs w t b x.labels)(h3:Ws w s p x.kids):
 Calls prog 171 #[.agg #[.slice i d o,.int .u64 (x.val.toNat:Int),.slice t b C,.slice s p y]] w λk m=>k=.returned (.bool (Cf x))/\η w m:=by
 have U:=h1.len;have V:=h2.len;have an:=h3.len;obtain⟨n,I,ab,ac,ad,af,h,ar⟩:=Afp w 195 (.slice i d o) (.int .u64 (x.val.toNat:Int)) (.slice t b C) (.slice s p y);have E:=h1.below h;have F:=h2.below h;have N:=h3.below h;have v:=Aa I;clear I;have X:=Aa (Bv x);by_cases l:d<=15/\x.pre.all D6=true
 ·have q:=UT i d o x.pre n l.1 E l.2;have j:=Aa q;clear q;by_cases T:b=p
  ·subst T;have t1:((b:Int)!=(b:Int))=false:=by simp
   go_enter func171,ntmps171
   go_wp2_with fail
   rw[<-v.out];refine j.out.mono ?_;rintro k m⟨rfl,rfl⟩;clear j h1 h2 h3
   go_wp2_with fail
   go_loop [27](λA=>∃a:Nat,a<=b/\A=.int .i64 a/\(x.labels.take a).all D6=true/\ER (x.labels.take a)=true)(λA=>b-(intOf A).toNat)
   case atStart=>exact⟨0,BB _,rfl,by simp,by simp[ER]⟩
   case round=>
    obtain⟨a,am,rfl,g,f⟩:=hrel;by_cases W:a<b
    ·obtain⟨r,az,av,rfl,ao,P⟩:=F.at W;by_cases H:x.labels[a].toNat<16
     ·have t2:decide (16<=(x.labels[a].toNat:Int))=false:=by simp;omega
      have B:=Aa (TJ D6 x.labels a r g (VX H));rcases a with _|c
      ·have u:=Aa (PD x.labels 0 r f (λc al=>O));have t3:decide ((0:Int)<0)=false:=rfl;clear g f;rw[show((0:Nat):Int)=0 from rfl];simp only[Nat.add_zero]at P;go_wp2
       go_round
       case rel=>exact⟨1,O,by go_num,B.out,u.out⟩
       case measure=>simp[intOf];omega
      ·obtain⟨aq,aB,aw,z,ap,ah⟩:=F.at (show c<b by omega);injection z with z
       injection z with L M D
       subst L M;by_cases J:x.labels[c].toNat<x.labels[c+1].toNat
       ·have t3:decide ((x.labels[c+1].toNat:Int)<=(x.labels[c].toNat:Int))=false:=by simp;omega
        have u:=Aa (nS x.labels c r f J);clear g f D;go_wp2
        go_round
        case rel=>exact⟨c+1+1,O,by go_num,B.out,u.out⟩
        case measure=>simp[intOf];omega
       ·have t3:decide ((x.labels[c+1].toNat:Int)<=(x.labels[c].toNat:Int))=true:=by simp;omega
        have e:=Aa (dw x c r J);clear g f D;go_wp2;go_ret;exact⟨by rw[e.out];rfl,h⟩
     ·have t2:decide (16<=(x.labels[a].toNat:Int))=true:=by simp;omega
      have e:=Aa (jv x a r H);clear g f;go_wp2;go_ret;exact⟨by rw[e.out];rfl,h⟩
    ·have S:a=b:=O;subst S;rw[<-V,List.take_length]at g f;have e:=Aa (vz x O l.2 O g f);have Q:=dB s a y x.kids n O N;clear g f l
     go_wp2_with(go_at_call 191;refine Q.mono ?_;rintro k m⟨rfl,rfl⟩)
     go_ret;exact⟨by rw[e.out];rfl,h⟩
  ·have e:=Aa (jA x O);have t1:((b:Int)!=(p:Int))=true:=by simp;omega
   go_enter func171,ntmps171
   go_wp2_with fail
   rw[<-v.out];refine j.out.mono ?_;rintro k m⟨rfl,rfl⟩;clear j h1 h2 h3
   go_wp2_with fail
   go_ret;exact⟨by rw[e.out];rfl,h⟩
 ·have e:=Aa (jy x (by rw[U];exact l));have q:Calls prog 190 #[.slice i d o] n λk m=>k=.returned (.tuple #[.int .u64 0,.bool false])/\n=m:=by
   by_cases G:d<=15
   ·have K:x.pre.all D6=false:=by
     cases R:x.pre.all D6 with
     |false=>rfl
     |true=>exact absurd ⟨G,R⟩ l
    exact Ajg i d o x.pre n G E K
   ·exact Afo i d o n O O
  have j:=Aa q;clear q l;go_enter func171,ntmps171
  go_wp2_with fail
  rw[<-v.out];refine j.out.mono ?_;rintro k m⟨rfl,rfl⟩;clear j h1 h2 h3
  go_wp2_with fail
  go_ret;exact⟨by rw[e.out];rfl,h⟩
