import Derived.Deep.Upon
import Derived.Lib.AppendZeros
import Derived.Test.YtekhjimghoibfaaGreatDoorI04
set_option linter.defProp false
set_option maxHeartbeats 32000000
set_option maxRecDepth 100000
open Go.Lib renaming hid->Aa,wpList_append_run->FV,run_eql_slice_nil->Jv
open List renaming length_map->BX,length_set->Di
open Array renaming size_setIfInBounds->Hy,getElem?_setIfInBounds->Bd
open Go.World renaming heap_setCells_other->bY,frozen?->GM
open Nat renaming le_refl->Ad
namespace Go.Proofs.YtekhjimghoibfaaGreatDoor
open Go.RowKit
open Go.Proofs.Tryz
def CO{w:World}{g:Nat}{e:TypeId}{a b c d:Value}(f:CQ w g e [a,b,c,d]):
 w.cell? (Φ g)=some a/\w.cell? (Δ g 1)=some b/\w.cell? (Δ g 2)=some c/\w.cell? (Δ g 3)=some d/\
 w.frozen? (Φ g)=false/\w.frozen? (Δ g 1)=false/\w.frozen? (Δ g 2)=false/\w.frozen? (Δ g 3)=false:=
 ⟨f.cell 0,f.cell 1,f.cell 2,f.cell 3,f.frozen 0,f.frozen 1,f.frozen 2,f.frozen 3⟩
def size_nil(w:World):Calls prog 21 #[.pointer none] w λa b=>a=.returned (.int .i64 0)/\w=b:=by
 go_enter func21,ntmps21;go_wp2;go_ret;exact⟨rfl,rfl⟩
def Ot(d L g:Nat)(c e f:Value)(w:World)(i:L<=1024)(b:CQ w d 70 [.slice (some (Φ g)) L L,c,e,f]):
 Calls prog 21 #[Az d] w λa h=>a=.returned (.int .i64 ((L*64:Nat):Int))/\w=h:=by
 obtain⟨j,k,l,m,f0,f1,f2,f3⟩:=CO b;go_enter func21,ntmps21;go_wp2;go_ret;exact⟨by simp,rfl⟩
def vY(d L g off a:Nat)(i j:Value)(w:World)(k:L<=1024)(c:CQ w d 70 [.slice (some (Φ g)) L L,.bool false,i,j])(q:off<L*64)(o:0<a)(m:off%a=0)(p:a<=64):
 Calls prog 57 #[Az d,.int .i64 (off:Int),.int .i64 (a:Int)] w λb e=>b=.returned (.int .i64 0)/\w=e:=by
 obtain⟨r,s,t,u,f0,f1,f2,f3⟩:=CO c;have h:=Ot d L g (.bool false) i j w k c;have f:=Aa h;have t1:(((L*64:Nat):Int)==0)=false:=ζ O;have t2:decide ((off:Int)<0)=false:=by simp
 have t3:decide (((L*64:Nat):Int)<=(off:Int))=false:=by simp;omega
 have t4:((off:Int)%(a:Int)!=0)=false:=by
  have:(off:Int)%(a:Int)=((off%a:Nat):Int):=by rw[Int.natCast_emod]
  rw[this,m];rfl
 generalize l:L*64=n at*;clear h l c;go_enter func57,ntmps57
 go_wp2_with fail
 refine f.out.mono ?_;rintro b e⟨rfl,rfl⟩
 go_wp2_with fail
 refine f.out.mono ?_;rintro b e⟨rfl,rfl⟩
 go_wp2_with fail
 go_ret;exact⟨rfl,rfl⟩
def Zc(d L g off j:Nat)(e f:Value)(w:World)(n:0<L)(k:L<=1024)(a:CQ w d 70 [.slice (some (Φ g)) L L,.bool true,e,f]):
 Calls prog 57 #[Az d,.int .i64 (off:Int),.int .i64 (j:Int)] w λb h=>b=.returned (.int .i64 12)/\w=h:=by
 obtain⟨o,p,q,r,f0,f1,f2,f3⟩:=CO a;have c:=Ot d L g (.bool true) e f w k a;have i:=Aa c;have t1:(((L*64:Nat):Int)==0)=false:=ζ O;generalize l:L*64=m at*;clear c l a;go_enter func57,ntmps57
 go_wp2_with fail
 refine i.out.mono ?_;rintro b h⟨rfl,rfl⟩
 go_wp2_with fail
 go_ret;exact⟨rfl,rfl⟩
def UY(d L:Nat)(ws:Nat->UInt64)(len:Mode)(mark:Nat->Nat)(g:Nat)(hb:Nat->Option Nat)(a:Nat)(w:World)(m:L<=1024)(n:len.lf≠0)(e:Cb w d L ws len mark g hb)(p:a<8*L):
 Calls prog 27 #[Az d,.int .i64 ((8*a:Nat):Int)] w λc h=>c=.returned (.tuple #[.int .u64 ((ws a).toNat:Int),.int .i64 0])/\w=h:=by
 obtain⟨o,b⟩:=e.box;rw[decide_eq_false n]at b;obtain⟨q,r,s,t,f0,f1,f2,f3⟩:=CO b;have k:=vY d L g (8*a) 8 (.int .i64 len.lf) (.int .i64 o) w m b O U O U;have i:=Aa k;have l:=e.line (a/8) O;have f:=o6 (some (Δ g (66*(a/8)))) 64 64 (a%8) (FP ws (a/8)) w U l (by rw[J3];omega);rw[KE,show 8*(a/8)+a%8=a by omega]at f;have j:=Aa f;clear k l f e b;go_enter func27,ntmps27
 go_wp2_with fail
 refine i.out.mono ?_;rintro c h⟨rfl,rfl⟩;clear i
 go_wp2_with fail
 rw[show 8*a/64*66=66*(a/8)by omega,show 8*(a:Int)%64=((8*(a%8):Nat):Int)by omega];refine j.out.mono ?_;rintro c h⟨rfl,rfl⟩;clear j
 go_wp2_with fail
 go_ret2;exact⟨rfl,rfl⟩
def Wl(d L g off:Nat)(e f:Value)(w:World)(j:0<L)(i:L<=1024)(a:CQ w d 70 [.slice (some (Φ g)) L L,.bool true,e,f]):
 Calls prog 27 #[Az d,.int .i64 (off:Int)] w λc h=>c=.returned (.tuple #[.int .u64 0,.int .i64 12])/\w=h:=by
 have b:=Aa (Zc d L g off 8 e f w j i a);obtain⟨k,l,m,n,f0,f1,f2,f3⟩:=CO a;clear a;go_enter func27,ntmps27
 go_wp2_with fail
 refine b.out.mono ?_;rintro c h⟨rfl,rfl⟩;clear b
 go_wp2_with fail
 go_ret2;exact⟨rfl,rfl⟩
def Zd(d L g off:Nat)(x:Int)(e f:Value)(w:World)(j:0<L)(i:L<=1024)(a:CQ w d 70 [.slice (some (Φ g)) L L,.bool true,e,f]):
 Calls prog 133 #[Az d,.int .i64 (off:Int),.int .u64 x] w λc h=>c=.returned (.int .i64 12)/\w=h:=by
 have b:=Aa (Wl d L g off e f w j i a);obtain⟨k,l,m,n,f0,f1,f2,f3⟩:=CO a;clear a;go_enter func133,ntmps133
 go_wp2_with fail
 refine b.out.mono ?_;rintro c h⟨rfl,rfl⟩;clear b
 go_wp2_with fail
 go_ret;exact⟨rfl,rfl⟩
def Ze(d L g off:Nat)(e f:Value)(w:World)(j:0<L)(i:L<=1024)(a:CQ w d 70 [.slice (some (Φ g)) L L,.bool true,e,f]):
 Calls prog 135 #[Az d,.int .i64 (off:Int)] w λc h=>c=.returned (.int .i64 12)/\w=h:=by
 have b:=Aa (Zc d L g off 1 e f w j i a);obtain⟨k,l,m,n,f0,f1,f2,f3⟩:=CO a;clear a;go_enter func135,ntmps135
 go_wp2_with fail
 refine b.out.mono ?_;rintro c h⟨rfl,rfl⟩;clear b
 go_wp2_with fail
 go_ret;exact⟨rfl,rfl⟩
def Zf(d L g:Nat)(e f:Value)(w:World)(j:0<L)(i:L<=1024)(a:CQ w d 70 [.slice (some (Φ g)) L L,.bool true,e,f]):
 Calls prog 88 #[Az d] w λc h=>c=.returned (.int .i64 12)/\w=h:=by
 have b:=Aa (Zc d L g 0 1 e f w j i a);obtain⟨k,l,m,n,f0,f1,f2,f3⟩:=CO a;clear a;go_enter func88,ntmps88
 go_wp2_with fail
 refine b.out.mono ?_;rintro c h⟨rfl,rfl⟩;clear b
 go_wp2_with fail
 go_ret;exact⟨rfl,rfl⟩
def UZ(d g L:Nat)(lf st:Int)(w:World)(k:lf≠0)(t: -1<=lf/\lf<=1000000000)(e:CQ w d 70 [.slice (some (Φ g)) L L,.bool false,.int .i64 lf,.int .i64 st]):
 Calls prog 137 #[Az d] w λq m=>q=.returned (.tuple #[])/\Touch (λb=>b=d) w m/\
  ∃f:Int,CQ m d 70 [.slice (some (Φ g)) L L,.bool (decide ((if 0<lf then lf-1 else lf)=0)),.int .i64 (if 0<lf then lf-1 else lf),.int .i64 f]:=by
 obtain⟨r,a⟩:=ε ((if 0<lf then lf-1 else lf));rw[<-a];have i:=Aa a;have n:=Aa k;clear a k;obtain⟨u,v,x,y,f0,f1,f2,f3⟩:=CO e;have j:=Touch.refl (λb=>b=d) w;have h:=Aa e;clear e;by_cases l:0<lf
 ·have t1:decide (0<lf)=true:=decide_eq_true l;have s:IntKind.i64.wrap (lf-1)=lf-1:=IntWalk.i64_in _ O;have o:Hid (∀c:Int,Touch (λb=>b=d) w (((w.setCell (Δ d 3) (.int .i64 c)).setCell (Δ d 2) (.int .i64 (lf-1))).setCell (Δ d 1) (.bool (lf-1==0)))/\∃f:Int,CQ (((w.setCell (Δ d 3) (.int .i64 c)).setCell (Δ d 2) (.int .i64 (lf-1))).setCell (Δ d 1) (.bool (lf-1==0))) d 70 [.slice (some (Φ g)) L L,.bool (decide (lf-1=0)),.int .i64 (lf-1),.int .i64 f]):=
   Aa (λc=>⟨((j.setCell (p:=Δ d 3) (.inl rfl) _).setCell (p:=Δ d 2) (.inl rfl) _).setCell (p:=Δ d 1) (.inl rfl) _,c,((h.out.AZ 3 (.int .i64 c)).AZ 2 (.int .i64 (lf-1))).AZ 1 (.bool (lf-1==0))⟩)
  go_enter func137,ntmps137;go_wp2;go_end0;have a:=i.out;rw[if_pos O]at a;subst a;exact⟨rfl,o.out _⟩
 ·have t1:decide (0<lf)=false:=decide_eq_false l;go_enter func137,ntmps137;go_wp2;go_end0;have a:=i.out;rw[if_neg O]at a;subst a;rw[decide_eq_false n.out];exact⟨rfl,j.setCell (p:=Δ d 3) (.inl rfl) _,_,h.out.AZ 3 _⟩
def oJ(g off k:Nat)(l:List UInt64)(x:UInt64)(w:World)(N:l.length=8)(h:Bs w (some (Δ g off)) 64 (leBytes l))(v:∀a,a<64->w.frozen? (Δ g (off+a))=false)(T:k<8):
 Calls prog 52 #[.pointer (some (Δ g off)),.int .i64 ((8*k:Nat):Int),.int .u64 (x.toNat:Int)] w λb Q=>b=.returned (.tuple #[])/\∃d,η w d/\Q=d.setCells g off ((leBytes (l.set k x)).map bv):=by
 have B:=Xy (some (Δ g off)) 64 64 k l x w U h O;have r:=Aa B;have A:((leBytes (l.set k x)).map bv).length=64:=by rw[BX,leBytes_length,Di,N]
 have e:=Aa A;have z:g<w.heap.size:=by
  obtain⟨_,t,E,b,hb,_⟩:=h.at (show 0<64 by decide);injection b with b;injection b with b _ _;omega
 have H:Hid (∀a,a<64->(w.cell? (Δ g (off+a))).isSome=true):=Aa (λa c=>by
  obtain⟨_,t,E,b,hb,o⟩:=h.at c;injection b with b;injection b with j m _;subst j m
  rw[o];rfl)
 have J:=Aa v;clear B A h v;go_enter func52,ntmps52
 go_wp2_with fail
 refine r.out.mono ?_;rintro b d⟨f,M,rfl,F,n⟩;clear r;obtain⟨S,G⟩:=CV F;have u:∀a q,((leBytes (l.set k x)).map bv)[a]?=some q->d.cell? (Δ f (0+a))=some q:=λa q c=>by
  have P:=(List.getElem?_eq_some_iff.1 c).1;obtain⟨t,E,b,_,o⟩:=G.2 U;injection b with b;injection b with j m _;subst j m
  rw[o a (by rw[<-e.out];exact P)];exact c
 have C:∀a,a<((leBytes (l.set k x)).map bv).length->(d.cell? (Δ g (off+a))).isSome=true:=λa c=>by
  rw[n.cell (p:=Δ g (off+a)) z];exact H.out a (by rw[e.out]at c;exact c)
 have y:∀a,a<((leBytes (l.set k x)).map bv).length->d.frozen? (Δ g (off+a))=false:=λa c=>by
  rw[n.frozen (p:=Δ g (off+a)) z];exact J.out a (by rw[e.out]at c;exact c)
 have I:=Aa u;have L:=Aa C;have K:=Aa y;have D:(prog.info? 78).map (·.size)=some 64:=by kernel_rfl
 have s:Hid ((prog.info? 78).map (·.size)=some ((leBytes (l.set k x)).map bv).length):=Aa (by rw[e.out];exact D);have R:∀i,(Instr.arrayAt 78 (.slice (some (Φ f)) 64 M)).run prog i=.ok (Az f) i:=λi=>by
  simp[Instr.arrayAt,run_underlying underlying78]
 clear u C y G F D
 go_wp2_with(first
  |(with_reducible refine Za rfl 78 (.tmp 21) rfl f 0 rfl ((leBytes (l.set k x)).map bv) _ underlying78 rfl s.out I.out ?_)
  |(with_reducible refine Yf rfl 78 (.tmp 24) (.tmp 22) rfl g off rfl ((leBytes (l.set k x)).map bv) rfl s.out L.out K.out (Iw _) ?_)
  |fail)
 go_end0;exact⟨rfl,d,n,rfl⟩
def Touch.Va{F:Nat->Prop}{w w':World}{row:Option Nat}(a:w.grownBy w' row)(hF:∀k,row=some k->F k):Touch F w w':=
 ⟨a.os,a.tape,a.output,a.size,λb hb d=>a.block b hb (λc=>d (hF b c.symm))⟩
def YY.append{w:World}{A:Option Addr}{h:List (Nat×UInt64)}{n c:Nat}{hb:Option Nat}(Q:YY w A h c hb)(m:n=h.length)(l:TypeId)(b:Nat)(i:Nat×UInt64)(H:CQ w b 137 [.int .i64 (i.1:Nat),.int .u64 (i.2.toNat:Nat)])(Y:n<=1000000):
 ∃g G k,(Builtin.append_ #[79,79] l #[.slice A n c,.slice (some (Φ b)) 1 1]).run prog w=.ok (.slice (some (Φ g)) (n+1) G) k/\
  YY k (some (Φ g)) (h++[i]) G (some g)/\(hb=some g\/g=w.heap.size)/\Touch (λF=>hb=some F) w k:=by
 obtain⟨e,q⟩:=ε (Value.int .i64 (i.1:Nat));obtain⟨f,r⟩:=ε (Value.int .u64 (i.2.toNat:Nat));have S:chV (h++[i])=chV h++[e,f]:=by rw[zW,q,r];rfl
 have T:(h++[i]).length=n+1:=by rw[m];simp
 have Z:e.oneCell'=true:=by rw[q];rfl
 have aa:f.oneCell'=true:=by rw[r];rfl
 rw[<-q,<-r]at H;clear q r;obtain⟨a,o,s,E,t⟩:∃a,prog.info? 137=some a/\a.zero=some (.agg #[.int .i64 0,.int .u64 0])/\a.size=2/\a.bytes=16:=by
  have R:(prog.info? 137).map (λa=>(a.zero,a.size,a.bytes))=some (some (.agg #[.int .i64 0,.int .u64 0]),2,16):=by kernel_rfl
  exact info_parts R
 have D:∀u j,[e,f][u]?=some j->w.cell? (((Φ b):Addr).add u)=some j:=λu j p=>by
  rw[Addr.add_lit];have:=World.news_of_block H u j (by simpa using p);rw[Addr.add_lit]at this;exact this
 have B:∀j∈[e,f],j.oneCell'=true:=by
  intro j p;simp at p;rcases p with rfl|rfl<;>assumption
 unfold YY;rw[S,T];rcases Q with⟨rfl,rfl,rfl⟩|⟨X,M,N,I⟩
 ·simp only[List.length_nil]at m;subst m;have J:=Src.ofSlice (P:=prog) w underlying79 (Φ b) 1 1 [e,f] (size:=a.size) (by rw[E];rfl) D B;have V:=run_append_grow_src (P:=prog) w 79 79 l 137 a _ underlying79 o s A 0 0 []
   (by cases A with
    |none=>exact run_firstCells_none w.drew a.size 0 0 0
    |some K=>exact run_firstCells_some w.drew a.size 0 K 0 0 [] Θ Θ) (.slice (some (Φ b)) 1 1) 1 [e,f] J U U (by rw[t];decide)
  have W:=run_append_grow_src (P:=prog) w 79 79 l 137 a _ underlying79 o s none 0 0 []
   (run_firstCells_none w.drew a.size 0 0 0) (.slice (some (Φ b)) 1 1) 1 [e,f] J U U (by rw[t];decide)
  obtain⟨g,z,k,v,x,y,d,L⟩:=run_append_lies (P:=prog) w 79 l 0 137 a _ 2 16 underlying79 o s E t rfl U (.slice none 0 0) 0 [] (World.ownsRow_nil w 0 137 2) (Φ b) 1 1 [e,f] rfl D B U (by unfold maxLen;omega) O (Nat.zero_le _) _ rfl;refine⟨g,z,k,(V.trans W.symm).trans v,.inr ⟨g,rfl,rfl,x⟩,?_,Touch.Va y (λF C=>by cases C)⟩;rcases d with d|d
  ·cases d
  ·exact .inr d
 ·subst M N;rw[<-m]at I;obtain⟨g,z,k,v,x,y,d,L⟩:=run_append_lies (P:=prog) w 79 l 0 137 a _ 2 16 underlying79 o s E t rfl U _ n (chV h) I (Φ b) 1 1 [e,f] rfl D B U (by unfold maxLen;omega) O (Nat.zero_le _) _ rfl;refine⟨g,z,k,v,.inr ⟨g,rfl,rfl,x⟩,?_,Touch.Va y (λF C=>C)⟩;rcases d with d|d
  ·left;exact d
  ·right;exact d
section
variable{w:World}{d L:Nat}{ws:Nat->UInt64}{len:Mode}{mark:Nat->Nat}{g:Nat}{hb:Nat->Option Nat}
def MW{w:World}{g i:Nat}{a:Array Value}{e:TypeId}{b:Nat×Nat}(v:Value)(c:w.heap[g]?=some (.cells a e b)):(w.setCell (Δ g i) v).heap[g]?=some (.cells (a.setIfInBounds i v) e b):=by
 simp[World.setCell,Array.getElem?_modify,c]
def Cb.uK(h:Cb w d L ws len mark g hb):g<w.heap.size:=h.lt g (.inr (.inl rfl))
def Cb.dlt(h:Cb w d L ws len mark g hb):d<w.heap.size:=h.lt d (.inl rfl)
def Cb.step(h:Cb w d L ws len mark g hb){w':World}(t:Touch (λa=>a=d) w w'){k:Int}(p:CQ w' d 70 [.slice (some (Φ g)) L L,.bool (decide (len.tick.lf=0)),.int .i64 len.tick.lf,.int .i64 k]):Cb w' d L ws len.tick mark g hb:=by
 have j:∀a,a<w.heap.size->a≠d->w'.heap[a]?=w.heap[a]?:=λa e b=>t.block a e b
 obtain⟨cur,r,s,n,o⟩:=h.blk;refine⟨⟨k,p⟩,?_,h.gd,⟨cur,(j g h.uK h.gd).trans r,s,n,λi f=>?_⟩,h.bd,h.inj,h.mrk⟩
 ·have:=h.lfr;show-1<=(if 0<len.lf then len.lf-1 else len.lf)/\(if 0<len.lf then len.lf-1 else len.lf)<=1000000000;split<;>omega
 ·obtain⟨A,c,l,m,q⟩:=o i f;exact⟨A,c,l,m,q.keep (λa b e=>j a e (h.bd i f a b).2)⟩
def Cb.grow(h:Cb w d L ws len mark g hb){i:Nat}(hi:i<L){o:World}(y:Touch (λk=>hb i=some k) w o){f r:Nat}{p:Nat×UInt64}(I:YY o (some (Φ f)) (len.NC i++[p]) r (some f))(v:hb i=some f\/w.heap.size<=f):
 Cb (o.setCell (Δ g (66*i+64)) (.slice (some (Φ f)) (len i+1) r)) d L ws (len.note i p) mark g (λk=>if k=i then some f else hb k):=by
 have S:(len.note i p).NC i=len.NC i++[p]:=if_pos rfl;have T:∀k,k≠i->(len.note i p).NC k=len.NC k:=λk a=>if_neg a
 have V:=h.uK;have B:=h.dlt;have x:∀b,b≠g->(o.setCell (Δ g (66*i+64)) (.slice (some (Φ f)) (len i+1) r)).heap[b]?=o.heap[b]?:=λb e=>Below.heap_setCell o (Δ g (66*i+64)) _ b e
 have R:¬hb i=some g:=λa=>(h.bd i hi g a).1 rfl
 have Q:¬hb i=some d:=λa=>(h.bd i hi d a).2 rfl
 have F:f≠g/\f≠d:=by
  rcases v with a|a
  ·exact h.bd i hi f a
  ·exact⟨O,O⟩
 obtain⟨st,H⟩:=h.box;obtain⟨cur,K,U,D,E⟩:=h.blk;have M:=(y.block g V R).trans K;refine⟨⟨st,(x d (λa=>h.gd a.symm)).trans ((y.block d B Q).trans H)⟩,h.lfr,h.gd,⟨_,MW _ M,by rw[Hy];exact U,λj l k N=>?_,λj l=>?_⟩,?_,?_,?_⟩
 ·rw[Bd,if_neg O];exact D j l k N
 ·obtain⟨A,c,C,z,J⟩:=E j l;by_cases a:j=i
  ·subst a;refine⟨some (Φ f),r,?_,?_,?_⟩
   ·rw[Bd,if_pos rfl,if_pos O,Mode.Rx,if_pos rfl]
   ·rw[Bd,if_neg O];exact z
   ·rw[S,if_pos rfl];exact I.keep (λb e _=>x b (by injection e with e;omega))
  ·refine⟨A,c,?_,?_,?_⟩
   ·rw[Bd,if_neg O,Mode.Rx,if_neg a];exact C
   ·rw[Bd,if_neg O];exact z
   ·rw[T _ a,if_neg a];exact J.keep (λb e P=>(x b (h.bd j l b e).1).trans (y.block b P (h.inj i j hi l (λX=>a X.symm) b · e)))
 ·intro j l b e;by_cases a:j=i
  ·rw[if_pos a]at e;injection e with e;subst e;exact F
  ·rw[if_neg a]at e;exact h.bd j l b e
 ·intro q b u e G W m;by_cases s:q=i<;>by_cases t:b=i
  ·omega
  ·rw[if_pos s]at m;rw[if_neg t];injection m with m;subst m
   intro n;rcases v with a|a
   ·exact h.inj b i e hi t f n a
   ·have:=h.lt f (.inr (.inr ⟨b,e,n⟩));omega
  ·rw[if_neg s]at m;rw[if_pos t];intro n;injection n with n;subst n
   rcases v with a|a
   ·exact h.inj q i u hi s f m a
   ·have:=h.lt f (.inr (.inr ⟨q,u,m⟩));omega
  ·rw[if_neg s]at m;rw[if_neg t];exact h.inj q b u e G W m
 ·intro j l;have:=h.mrk j l;by_cases a:j=i
  ·subst a;rw[Mode.Rx,if_pos rfl];omega
  ·rw[Mode.Rx,if_neg a];exact this
def Cb.put(h:Cb w d L ws len mark g hb){i k:Nat}(hi:i<L)(p:k<8)(x:UInt64):
 Cb (w.setCells g (66*i) ((leBytes ((FP ws i).set k x)).map bv)) d L (λj=>if j=8*i+k then x else ws j) len mark g hb:=by
 have G:=h.uK;have q:((leBytes ((FP ws i).set k x)).map bv).length=64:=by rw[BX,leBytes_length,Di,J3]
 have o:∀b,b≠g->b<w.heap.size->(w.setCells g (66*i) ((leBytes ((FP ws i).set k x)).map bv)).heap[b]?=w.heap[b]?:=λb m n=>bY w g _ _ n m
 obtain⟨st,C⟩:=h.box;obtain⟨cur,E,r,z,B⟩:=h.blk;obtain⟨u,s,t,e⟩:=EE g _ _ ((leBytes ((FP ws i).set k x)).map bv) (66*i) w cur E (by rw[q,r];omega);rw[q]at e;refine⟨⟨st,(o d (λf=>h.gd f.symm) h.dlt).trans C⟩,h.lfr,h.gd,⟨u,s,by rw[t];exact r,λa l j F=>?_,λa l=>?_⟩,h.bd,h.inj,h.mrk⟩
 ·rw[e];by_cases f:a=i
  ·subst f;rw[if_pos O,show 66*a+j-66*a=j by omega,Ab0 ws a k x p,List.getElem?_map]
  ·rw[if_neg O,oD ws i a k x p f];exact z a l j F
 ·obtain⟨A,c,v,y,D⟩:=B a l;refine⟨A,c,?_,?_,D.keep (λb m n=>o b (h.bd a l b m).1 n)⟩
  ·rw[e,if_neg O];exact v
  ·rw[e,if_neg O];exact y
end
def Touch.setCells{F:Nat->Prop}{w w':World}(a:Touch F w w'){g o:Nat}{vs:List Value}(f:F g\/w.heap.size<=g):Touch F w (w'.setCells g o vs):=by
 refine⟨?_,?_,?_,?_,λc hb b=>?_⟩
 ·rw[Ff];exact a.os
 ·rw[Ei];exact a.tape
 ·rw[DL];exact a.output
 ·rw[setCells_size];exact a.size
 ·rw[bY w' g o vs (Nat.lt_of_lt_of_le hb a.size) (λd=>f.elim (λe=>b (d▸e)) (λh=>O))];exact a.block c hb b
def Cb.below{w w':World}{d L:Nat}{ws:Nat->UInt64}{len:Mode}{mark:Nat->Nat}{g:Nat}{hb:Nat->Option Nat}(h:Cb w d L ws len mark g hb)(k:η w w'):Cb w' d L ws len mark g hb:=
 h.keep (λa _ b=>k.block a b)
def vZ(d L:Nat)(ws:Nat->UInt64)(len:Mode)(mark:Nat->Nat)(g:Nat)(hb:Nat->Option Nat)(c:Nat)(w:World)(p:L<=1024)(h:len.lf≠0)(a:Cb w d L ws len mark g hb)(q:c<8*L):
 Calls prog 133 #[Az d,.int .i64 ((8*c:Nat):Int),.int .u64 ((ws c).toNat:Int)] w λf e=>f=.returned (.int .i64 0)/\Cb e d L ws len.tick mark g hb/\Touch (Dq d L g hb) w e:=by
 have n:=Aa a;obtain⟨r,b⟩:=a.box;rw[decide_eq_false h]at b;obtain⟨s,t,u,v,f0,f1,f2,f3⟩:=CO b;have l:=UY d L ws len mark g hb c w p h a q;have j:=Aa l;have k:=UZ d g L len.lf r w h a.lfr b;have i:=Aa k;clear l k a b;go_enter func133,ntmps133
 go_wp2_with fail
 refine j.out.mono ?_;rintro f e⟨rfl,rfl⟩;clear j
 go_wp2_with fail
 refine i.out.mono ?_;rintro f e⟨rfl,m,y,o⟩;clear i s t u v f0 f1 f2 f3
 go_wp2_with fail
 go_ret;exact⟨rfl,n.out.step m o,m.mono (λx a=>.inl a)⟩
def Ab2(d L:Nat)(ws:Nat->UInt64)(len:Mode)(mark:Nat->Nat)(g:Nat)(hb:Nat->Option Nat)(a:Nat)(x:UInt64)(w:World)(av:L<=1024)(m:len.lf≠0)(c:Cb w d L ws len mark g hb)(aB:a<8*L)(aH:ws a≠x)(aE:len (a/8)<=1000000):
 Calls prog 133 #[Az d,.int .i64 ((8*a:Nat):Int),.int .u64 (x.toNat:Int)] w λb p=>b=.returned (.int .i64 0)/\
  ∃e,(hb (a/8)=some e\/w.heap.size<=e)/\Cb p d L (λab=>if ab=a then x else ws ab) (len.note (a/8) (8*(a%8),ws a)).tick mark g (λD=>if D=a/8 then some e else hb D)/\Touch (Dq d L g hb) w p:=by
 obtain⟨a4,z⟩:=c.box;have ah:=c.lfr;rw[decide_eq_false m]at z;obtain⟨a7,a8,a9,ba,f0,f1,f2,f3⟩:=CO z;have Y:=UY d L ws len mark g hb a w av m c aB;have J:=Aa Y;have t1:(((ws a).toNat:Int)!=(x.toNat:Int))=true:=by
  rw[bne_iff_ne];intro b;exact aH (UInt64.toNat_inj.1 O)
 obtain⟨aq,A,a3,Q,R⟩:=c.blk;obtain⟨t,u,P,ar,V⟩:=R (a/8) O;have ad:w.cell? (Δ g (66*(a/8)+64))=some (.slice t (len (a/8)) u):=by rw[cell_of_row w g _ aq _ (0,0) A];exact P
 have af:w.frozen? (Δ g (66*(a/8)+64))=false:=by simp[GM,A]
 rw[show 66*(a/8)+64=8*a/64*66+64 by omega]at ad af;have i:=Aa c;have al:=Aa V;have a2:=Aa Q;clear Y c z Q R V A P ar;have f:η w (w.alloc (.cells #[.int .i64 (8*(a:Int)%64),.int .u64 ((ws a).toNat:Int)] 137)):=(Below.refl _ _).alloc (Ad _) _;have S:=i.out.below f;have W:=al.out.keep (w':=w.alloc (.cells #[.int .i64 (8*(a:Int)%64),.int .u64 ((ws a).toNat:Int)] 137)) (λk _ aG=>f.block k aG);obtain⟨e,ap,q,aa,X,B,l⟩:=W.append (n:=len (a/8)) rfl 79 w.heap.size (8*(a%8),ws a) (by rw[show((8*(a%8):Nat):Int)=8*(a:Int)%64 by omega];exact heap_alloc_new w _) aE;have Z:¬hb (a/8)=some g:=λb=>(i.out.bd (a/8) O g b).1 rfl
 have C:q.heap[g]?=w.heap[g]?:=(l.block g (by have:=i.out.uK;simp;omega) Z).trans (f.block g i.out.uK);have r:q.cell? (Δ g (8*a/64*66+64))=some (.slice t (len (a/8)) u):=(World.cell?_of_block C).trans ad;have s:q.frozen? (Δ g (8*a/64*66+64))=false:=(World.frozen?_of_block C).trans af;have G:hb (a/8)=some e\/w.heap.size<=e:=B.imp id (λb=>by rw[b];simp);have T:=S.grow (i:=a/8) O l X (B.imp id (λb=>O));have U:Touch (Dq d L g hb) w (q.setCell (Δ g (66*(a/8)+64)) (.slice (some (Φ e)) (len (a/8)+1) ap)):=
  ((Touch.of_below (F:=Dq d L g hb) f).trans (l.mono (λD aD=>.inr (.inr ⟨a/8,O,aD⟩))) (λk aw=>.inl aw)).setCell (.inl (.inr (.inl rfl))) _
 have H:=Aa aa;have M:=Aa r;have N:=Aa s;have j:=Aa T;have K:=Aa U;have am:=Aa G;clear aa r s f S W X B l Z C G T U;go_enter func133,ntmps133
 go_wp2_with fail
 refine J.out.mono ?_;rintro b p⟨rfl,rfl⟩;clear J
 go_wp2_with(at_builtin;go_loud(refine FV _ rfl (.tmp 36) (.tmp 40) 79 79 rfl (.slice t (len (a/8)) u) (.slice (some (Φ w.heap.size)) 1 1) rfl rfl _ _ H.out ?_;clear H;have r:=M.out;have s:=N.out))
 rw[show 8*a/64*66=66*(a/8)by omega,show 8*(a:Int)%64=((8*(a%8):Nat):Int)by omega];refine(oJ g (66*(a/8)) (a%8) (FP ws (a/8)) x _ (J3 _ _) (j.out.line (a/8) O) ?_ O).mono ?_
 ·obtain⟨a1,az,_⟩:=j.out.blk;intro a6 _;simp[GM,az]
 rintro b a0⟨rfl,aR,y,rfl⟩;have h:=(j.out.below y).put (i:=a/8) (k:=a%8) O O x;have v:=(K.out.trans (Touch.of_below (F:=Dq d L g hb) y) (λk c=>.inl c)).setCells (g:=g) (o:=66*(a/8)) (vs:=(leBytes ((FP ws (a/8)).set (a%8) x)).map bv) (.inl (.inr (.inl rfl)));rw[show 8*(a/8)+a%8=a by omega]at h;generalize aR.setCells g (66*(a/8)) ((leBytes ((FP ws (a/8)).set (a%8) x)).map bv)=a0 at h v⊢;obtain⟨aM,E⟩:=h.box;rw[show decide ((len.note (a/8) (8*(a%8),ws a)).lf=0)=false from decide_eq_false m]at E;have I:=Aa (UZ d g L len.lf aM _ m ah E);have aL:=Aa h;have an:=Aa v;clear h v E r s M N y K j
 go_wp2_with fail
 refine I.out.mono ?_;rintro b p⟨rfl,ac,a5,ao⟩;clear I
 go_wp2_with fail
 go_ret;exact⟨rfl,e,am.out,aL.out.step ac ao,an.out.trans ac (λk c=>.inl (.inl c))⟩
def Cb.mark{w:World}{d L:Nat}{ws:Nat->UInt64}{len:Mode}{mark:Nat->Nat}{g:Nat}{hb:Nat->Option Nat}(h:Cb w d L ws len mark g hb){i:Nat}(hi:i<L)(m:Nat)(v:m<=len i+1):
 Cb (w.setCell (Δ g (66*i+65)) (.int .i64 (m:Int))) d L ws len (λk=>if k=i then m else mark k) g hb:=by
 have l:∀b,b≠g->(w.setCell (Δ g (66*i+65)) (.int .i64 (m:Int))).heap[b]?=w.heap[b]?:=λb j=>Below.heap_setCell w (Δ g (66*i+65)) _ b j
 obtain⟨st,r⟩:=h.box;obtain⟨cur,t,x,p,q⟩:=h.blk;refine⟨⟨st,(l d (λe=>h.gd e.symm)).trans r⟩,h.lfr,h.gd,⟨_,MW _ t,by rw[Hy];exact x,λa f k u=>?_,λa f=>?_⟩,h.bd,h.inj,λa f=>?_⟩
 ·rw[Bd,if_neg O];exact p a f k u
 ·obtain⟨A,c,n,o,s⟩:=q a f;refine⟨A,c,?_,?_,s.keep (λb j _=>l b (h.bd a f b j).1)⟩
  ·rw[Bd,if_neg O];exact n
  ·by_cases e:a=i
   ·subst e;rw[Bd,if_pos rfl,if_pos O,if_pos rfl]
   ·rw[Bd,if_neg O,if_neg e];exact o
 ·show(if a=i then m else mark a)<=len a+1;by_cases e:a=i
  ·rw[if_pos e];subst e;exact v
  ·rw[if_neg e];exact h.mrk a f
def Ab3(d L:Nat)(ws:Nat->UInt64)(len:Mode)(mark:Nat->Nat)(g:Nat)(hb:Nat->Option Nat)(off:Nat)(w:World)(H:L<=1024)(l:len.lf≠0)(a:Cb w d L ws len mark g hb)(R:off<64*L)(S:len (off/64)<=1000001):
 Calls prog 135 #[Az d,.int .i64 (off:Int)] w λj h=>j=.returned (.int .i64 0)/\
  Cb h d L ws len.tick (λz=>if z=off/64 then len (off/64)+1 else mark z) g hb/\Touch (Dq d L g hb) w h:=by
 obtain⟨J,e⟩:=a.box;have C:=a.lfr;rw[decide_eq_false l]at e;obtain⟨X,Y,Z,aa,f0,f1,f2,f3⟩:=CO e;have v:=vY d L g off 1 (.int .i64 len.lf) (.int .i64 J) w H e O U O U;have n:=Aa v;obtain⟨r,f,T,G,u⟩:=a.blk;obtain⟨B,F,s,t,I⟩:=u (off/64) O;have M:w.cell? (Δ g (66*(off/64)+64))=some (.slice B (len (off/64)) F):=by rw[cell_of_row w g _ r _ (0,0) f];exact s
 have N:w.frozen? (Δ g (66*(off/64)+65))=false:=by simp[GM,f]
 have P:w.cell? (Δ g (66*(off/64)+65))=some (.int .i64 (mark (off/64):Int)):=by rw[cell_of_row w g _ r _ (0,0) f];exact t
 rw[show 66*(off/64)+64=off/64*66+64 by omega]at M;rw[show 66*(off/64)+65=off/64*66+65 by omega]at N P;have x:=a.mark (i:=off/64) O (len (off/64)+1) (Ad _);have y:=(Touch.refl (Dq d L g hb) w).setCell (p:=Δ g (66*(off/64)+65)) (.inl (.inr (.inl rfl))) (.int .i64 ((len (off/64)+1:Nat):Int));have q:=Aa x;have b:=Aa y;clear v a e G u I f s t x y;go_enter func135,ntmps135
 go_wp2_with fail
 refine n.out.mono ?_;rintro j h⟨rfl,rfl⟩;clear n
 go_wp2_with fail
 rw[show off/64*66=66*(off/64)by omega,show((len (off/64):Int)+1)=((len (off/64)+1:Nat):Int)by omega];have c:=q.out;have k:=b.out;clear q b;generalize w.setCell (Δ g (66*(off/64)+65)) (.int .i64 ((len (off/64)+1:Nat):Int))=W at c k⊢;obtain⟨K,m⟩:=c.box;rw[decide_eq_false l]at m;have o:=Aa (UZ d g L len.lf K _ l C m);have D:=Aa c;have b:=Aa k;clear c k m;refine o.out.mono ?_;rintro j h⟨rfl,A,V,E⟩;clear o
 go_wp2_with fail
 go_ret;exact⟨rfl,D.out.step A E,b.out.trans A (λQ a=>.inl (.inl a))⟩
def wB(A:Option Addr)(c:Nat)(w:World):
 Calls prog 167 #[.slice A 0 c] w λh l=>∃f,h=.returned (.slice f 0 0)/\η w l:=by
 rcases A with _|d
 ·have k:=λb=>Jv (P:=prog) b 79 137 none 0 c 0 0 underlying79
  go_enter func167,ntmps167;go_wp2;go_ret;exact⟨_,rfl,Below.refl _ _⟩
 ·have k:=λb=>Jv (P:=prog) b 79 137 (some d) 0 c 0 0 underlying79
  obtain⟨a,j,m,n,o⟩:∃a,prog.info? 137=some a/\a.zero=some (.agg #[.int .i64 0,.int .u64 0])/\a.size=2/\a.bytes=16:=by
   have i:(prog.info? 137).map (λa=>(a.zero,a.size,a.bytes))=some (some (.agg #[.int .i64 0,.int .u64 0]),2,16):=by kernel_rfl
   exact info_parts i
  have e:(Builtin.append_ #[79,79] 79 #[.slice (some (Φ w.heap.size)) 0 0,.slice (some d) 0 c]).run prog (w.alloc (.cells #[] 137))=.ok (.slice (some (Φ w.heap.size)) 0 0) (w.alloc (.cells #[] 137)):=by
   simp[Builtin.append_,run_underlying underlying79,sizeOf,typeInfo,j,Builtin.lenOf,Builtin.firstCells,loadCells,loadCellsFrom,storeCells]
  have g:=Aa e;clear e;go_enter func167,ntmps167
  go_wp2_with(at_builtin;go_loud(refine FV _ rfl (.tmp 5) (.tmp 6) 79 79 rfl (.slice (some (Φ w.heap.size)) 0 0) (.slice (some d) 0 c) rfl rfl _ _ g.out ?_))
  go_ret;exact⟨_,rfl,(Below.refl _ _).alloc (Ad _) _⟩
def Cb.clear{w:World}{d L:Nat}{ws:Nat->UInt64}{len:Mode}{mark:Nat->Nat}{g:Nat}{hb:Nat->Option Nat}(h:Cb w d L ws len mark g hb){i:Nat}(hi:i<L){l:World}(k:η w l)(B:Option Addr):
 Cb ((l.setCell (Δ g (66*i+64)) (.slice B 0 0)).setCell (Δ g (66*i+65)) (.int .i64 0)) d L ws (len.wipe i) (λk=>if k=i then 0 else mark k) g (λk=>if k=i then none else hb k):=by
 have E:(len.wipe i).NC i=[]:=if_pos rfl;have F:∀k,k≠i->(len.wipe i).NC k=len.NC k:=λk a=>if_neg a
 have h:=h.below k;have q:∀b,b≠g->((l.setCell (Δ g (66*i+64)) (.slice B 0 0)).setCell (Δ g (66*i+65)) (.int .i64 0)).heap[b]?=l.heap[b]?:=λb f=>(Below.heap_setCell _ (Δ g (66*i+65)) _ b f).trans (Below.heap_setCell l (Δ g (66*i+64)) _ b f)
 obtain⟨st,y⟩:=h.box;obtain⟨cur,C,G,t,u⟩:=h.blk;refine⟨⟨st,(q d (λa=>h.gd a.symm)).trans y⟩,h.lfr,h.gd,⟨_,MW _ (MW _ C),by rw[Hy,Hy];exact G,λe j k D=>?_,λe j=>?_⟩,λe j b f=>?_,λn b v f x H m=>?_,λe j=>?_⟩
 ·rw[Bd,if_neg O,Bd,if_neg O];exact t e j k D
 ·obtain⟨A,c,r,s,z⟩:=u e j;by_cases a:e=i
  ·subst a;refine⟨B,0,?_,?_,.inl ⟨if_pos rfl,E,rfl⟩⟩
   ·rw[Bd,if_neg O,Bd,if_pos rfl,if_pos O,Mode.YX,if_pos rfl]
   ·rw[Bd,if_pos rfl,if_pos (by rw[Hy];omega),if_pos rfl];rfl
  ·refine⟨A,c,?_,?_,?_⟩
   ·rw[Bd,if_neg O,Bd,if_neg O,Mode.YX,if_neg a];exact r
   ·rw[Bd,if_neg O,Bd,if_neg O,if_neg a];exact s
   ·rw[F _ a,if_neg a];exact z.keep (λb f _=>q b (h.bd e j b f).1)
 ·by_cases a:e=i
  ·rw[if_pos a]at f;cases f
  ·rw[if_neg a]at f;exact h.bd e j b f
 ·by_cases o:n=i
  ·rw[if_pos o]at m;cases m
  ·rw[if_neg o]at m;by_cases p:b=i
   ·rw[if_pos p];exact λI=>by cases I
   ·rw[if_neg p];exact h.inj n b v f x H m
 ·show(if e=i then 0 else mark e)<=(len.wipe i).len e+1;by_cases a:e=i
  ·rw[if_pos a];omega
  ·rw[if_neg a,Mode.YX,if_neg a];exact h.mrk e j
