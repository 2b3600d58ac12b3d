import Derived.Laws.CopyOwn
import Derived.Test.YtekhjimghoibfaaGreatDoorI02
set_option linter.defProp false
set_option maxHeartbeats 32000000
set_option maxRecDepth 100000
open Array renaming getElem?_eq_some_iff->AA,getElem?_push->Gw,size_modify->P7
open Nat renaming le_refl->Ad,zero_add->DX,min_eq_left->NG,zero_le->BB,le_trans->Bi
open List renaming getElem?_eq_getElem->Ae,take_of_length_le->EP,map_cons->Ci,map_nil->Gv,replicate->BC,map_append->Dc,length_map->BX,length_append->AY,getD->UB
open Go.World renaming setCell->DF,ownsRow_nil->EM
open Go.Value renaming ownBlock->Ba,int->Aw,oneCell'->Aiz,slice->Ac
open UInt64 renaming ofNat->Aj,toNat_ofNat_of_lt'->GY,size->KA
open Go.Lib renaming hid->Aa
namespace Go.Proofs.YtekhjimghoibfaaGreatDoor
open Go.RowKit
open Go.Proofs.Tryz
def CQ(w:World)(g:Nat)(e:TypeId)(xs:List Value):Prop:=w.heap[g]?=some (.cells xs.toArray e (0,0))
def CQ.lt{w:World}{g:Nat}{e:TypeId}{xs:List Value}(a:CQ w g e xs):g<w.heap.size:=(AA.1 a).1
def CQ.cell{w:World}{g:Nat}{e:TypeId}{xs:List Value}(a:CQ w g e xs)(i:Nat):w.cell? (Δ g i)=xs[i]?:=by
 rw[cell_of_row w g i _ e (0,0) a];simp
def CQ.p1{w:World}{g:Nat}{e:TypeId}{a:Value}{l:List Value}(b:CQ w g e (a::l)):w.cell? (Φ g)=some a:=b.cell 0
def CQ.p2{w:World}{g:Nat}{e:TypeId}{a b:Value}{l:List Value}(c:CQ w g e (a::b::l)):w.cell? (Φ g)=some a/\w.cell? (Δ g 1)=some b:=⟨c.cell 0,c.cell 1⟩
def CQ.p3{w:World}{g:Nat}{e:TypeId}{b c d:Value}{l:List Value}(a:CQ w g e (b::c::d::l)):w.cell? (Φ g)=some b/\w.cell? (Δ g 1)=some c/\w.cell? (Δ g 2)=some d:=⟨a.cell 0,a.cell 1,a.cell 2⟩
def Fz(w:World)(e:TypeId)(xs:List Value):∃a,a=w.alloc (.cells xs.toArray e)/\η w a/\CQ a w.heap.size e xs:=⟨_,rfl,(Below.refl _ _).alloc (Ad _) _,heap_alloc_new _ _⟩
def CQ.has{w:World}{g:Nat}{e:TypeId}{xs:List Value}(a:CQ w g e xs){i:Nat}(hi:i<xs.length):w.cell? (Δ g i)=some xs[i]:=by
 rw[a.cell,Ae hi]
def CQ.frozen{w:World}{g:Nat}{e:TypeId}{xs:List Value}(a:CQ w g e xs)(i:Nat):w.frozen? (Δ g i)=false:=by
 unfold CQ at a;simp[World.frozen?,a]
def CQ.AZ{w:World}{g:Nat}{e:TypeId}{xs:List Value}(a:CQ w g e xs)(i:Nat)(u:Value):CQ (w.setCell (Δ g i) u) g e (xs.set i u):=by
 unfold CQ at a⊢;simp[DF,Array.getElem?_modify,a]
def CQ.drew{w:World}{g:Nat}{e:TypeId}{xs:List Value}(a:CQ w g e xs):CQ w.drew g e xs:=a
def CQ.below{w w':World}{g B:Nat}{e:TypeId}{xs:List Value}(a:CQ w g e xs)(b:Below B w w')(c:g<B):CQ w' g e xs:=(b.block g c).trans a
def CQ.ξ{w a:World}{g:Nat}{e:TypeId}{xs:List Value}(b:CQ w g e xs)(k:Below w.heap.size w a):CQ a g e xs:=b.below k b.lt
def CQ.rd{w:World}{g:Nat}{e:TypeId}{xs:List Value}(a:CQ w g e xs):Rd w (some (Φ g)) xs.length xs:=
 ⟨rfl,λ_=>⟨g,0,rfl,a.lt,λb _=>by rw[DX,a.cell]⟩⟩
def CQ.own{w:World}{g B:Nat}{e:TypeId}{xs:List Value}(a:CQ w g e xs)(b:B<=g)(c:xs.length<=maxLen):w.ownsRow B e 1 (.slice (some (Φ g)) xs.length xs.length) xs.length xs:=
 ⟨by simp,.inr ⟨g,xs.length,xs.toArray,rfl,b,a,Ad _,c,by simp,by simp⟩⟩
def YU{w:World}{B g n:Nat}{e:TypeId}{xs:List Value}(b:w.ownsRow B e 1 (.slice (some (Φ g)) n n) n xs):CQ w g e xs:=by
 rcases b.2 with⟨c,_⟩|⟨k,i,j,a,_,f,_,_,d,h⟩
 ·cases c
 ·simp only[Value.slice.injEq,Option.some.injEq,Addr.mk.injEq,and_true,true_and]at a;obtain⟨rfl,rfl⟩:=a;unfold CQ;rw[f];congr 2;rw[<-h,EP (by simp[d])]
def PH{d e:World}{g:Nat}{a b c i:Value}(e0:d.cell? (Φ g)=some a)(j:d.cell? (Δ g 1)=some b)(k:d.cell? (Δ g 2)=some c)(l:d.cell? (Δ g 3)=some i)
 (h:g<d.heap.size)(f:η d e):
 e.cell? (Φ g)=some a/\e.cell? (Δ g 1)=some b/\e.cell? (Δ g 2)=some c/\e.cell? (Δ g 3)=some i/\g<e.heap.size:=
 ⟨(f.cell (p:=Φ g) h).trans e0,(f.cell (p:=Δ g 1) h).trans j,(f.cell (p:=Δ g 2) h).trans k,(f.cell (p:=Δ g 3) h).trans l,Nat.lt_of_lt_of_le h f.size⟩
def Abv{d e:World}{g B:Nat}{a b c i:Value}(e0:d.cell? (Φ g)=some a)(j:d.cell? (Δ g 1)=some b)(k:d.cell? (Δ g 2)=some c)(l:d.cell? (Δ g 3)=some i)
 (f:g<B)(h:Below B d e):
 e.cell? (Φ g)=some a/\e.cell? (Δ g 1)=some b/\e.cell? (Δ g 2)=some c/\e.cell? (Δ g 3)=some i/\True:=
 ⟨(h.cell (p:=Φ g) f).trans e0,(h.cell (p:=Δ g 1) f).trans j,(h.cell (p:=Δ g 2) f).trans k,(h.cell (p:=Δ g 3) f).trans l,trivial⟩
def Qm{d:World}{g g':Nat}{a b c h:Value}(e0:d.cell? (Φ g)=some a)(j:d.cell? (Δ g 1)=some b)(k:d.cell? (Δ g 2)=some c)(l:d.cell? (Δ g 3)=some h)
 (m:g<d.heap.size)(n:g≠g')(i:Nat)(u:Value):
 (d.setCell (Δ g' i) u).cell? (Φ g)=some a/\(d.setCell (Δ g' i) u).cell? (Δ g 1)=some b/\(d.setCell (Δ g' i) u).cell? (Δ g 2)=some c/\(d.setCell (Δ g' i) u).cell? (Δ g 3)=some h/\g<(d.setCell (Δ g' i) u).heap.size:=by
 have f:∀e,(d.setCell (Δ g' i) u).cell? (Δ g e)=d.cell? (Δ g e):=λe=>
  World.cell?_of_block (w:=d) (a:=Δ g e) (Below.heap_setCell d (Δ g' i) u g n)
 exact⟨(f 0).trans e0,(f 1).trans j,(f 2).trans k,(f 3).trans l,by simpa[DF]using m⟩
def Abw{w:World}{A:Option Addr}{n:Nat}{l:List UInt64}(b:Ws w A n l){e:Option Addr}{g off:Nat}(i:e=some (Δ g off):=by rfl):
 0<(l.map wv).length->e=some (Δ g off)/\∃d,A=some d/\∀a c,(l.map wv)[a]?=some c->w.cell? (d.add a)=some c:=by
 intro k;obtain⟨j,m,rfl,_,h⟩:=b.2 (Ω b.1);refine⟨i,_,rfl,λa c f=>?_⟩;rw[Addr.add_lit,h a (Ψ ((List.getElem?_eq_some_iff.1 f).1) b.1),f]
def Kept(w w':World)(row:Option Nat):Prop:=w.heap.size<=w'.heap.size/\∀a,a<w.heap.size->some a≠row->w'.heap[a]?=w.heap[a]?
def Ol{w w':World}{c:Nat}{e:TypeId}{v:Value}{n:Nat}{xs:List Value}{row:Option Nat}(b:w.ownsRow c e 1 v n xs)(k:Kept w w' row)(l:∀a,v.ownBlock=some a->row≠some a):w'.ownsRow c e 1 v n xs:=by
 refine⟨b.1,?_⟩;rcases b.2 with b|⟨a,g,h,d,i,f,j⟩
 ·exact .inl b
 ·exact .inr ⟨a,g,h,d,i,by
   rw[k.2 a (AA.1 f).1 (λe=>l a (by rw[d];rfl) e.symm)];exact f,j⟩
def NS{w:World}{i j:Nat}{e f:TypeId}{g h:Value}{n o:Nat}{p q:List Value}(h1:w.ownsRow i e 1 g n p)(h2:w.ownsRow j f 1 h o q)(l:e≠f):
 ∀b,g.ownBlock=some b->h.ownBlock≠some b:=by
 intro b c d;rcases h1.2 with⟨rfl,_⟩|⟨u,s,x,rfl,_,k,_⟩
 ·simp[Ba]at c
 ·rcases h2.2 with⟨rfl,_⟩|⟨v,t,r,rfl,_,a,_⟩
  ·simp[Ba]at d
  ·simp[Ba]at c d;subst c d;rw[k]at a;injection a with a
   injection a with _ m
   exact l m
def nZ{P:Program}{l e:TypeId}{y:Value}{bytes:Nat}(p:MS P l e y bytes)(x:TypeId){w wr:World}{d:Nat}{v:Value}{n:Nat}{xs a:List Value}
 (t:wr.ownsRow d e 1 v n xs)(b:w.heap=wr.heap.push (.cells a.toArray e))(K:w.os=wr.os)(N:w.tape=wr.tape)(L:w.output=wr.output)
 (h1:∀j∈a,j.oneCell'=true)(I:n+a.length<=1000000000)(E:bytes<=64)(D:d<=wr.heap.size)(m c:Nat)(J:m=a.length):
 ∃o h,(Builtin.append_ #[l,l] x #[v,.slice (some (Φ wr.heap.size)) m c]).run P w=.ok o h/\h.ownsRow d e 1 o (n+m) (xs++a)/\Below d wr h/\Kept wr h v.ownBlock:=by
 subst J;obtain⟨V,G,R,S,T⟩:=info_parts p.hi;have r:η wr w:=⟨K,N,L,by rw[b];simp,λi k=>by rw[b,Gw,if_neg O]⟩;have u:w.ownsRow d e 1 v n xs:=by
  refine⟨t.1,?_⟩;rcases t.2 with B|⟨s,z,A,h1,q,f,C⟩
  ·exact .inl B
  ·exact .inr ⟨s,z,A,h1,q,by rw[r.block s (AA.1 f).1];exact f,C⟩
 have F:∀g j,a[g]?=some j->w.cell? (((Φ wr.heap.size):Addr).add g)=some j:=by
  intro g j Q;rw[show((Φ wr.heap.size):Addr).add g=(Δ wr.heap.size (0+g))from Addr.add_lit _ _ _];rw[cell_of_row w wr.heap.size (0+g) a.toArray e (0,0) (by rw[b,Gw,if_pos rfl])];simpa using Q
 have W:(n+a.length)*bytes<=1000000000*64:=Nat.mul_le_mul I E;obtain⟨o,h,M,q,f,_⟩:=run_append_own (P:=P) w d l x e V y 1 bytes p.ht G R S T p.hz U v n xs u _ a.length c a Θ F h1
  (by unfold maxLen;omega) O (by rw[b];simp;omega)
 refine⟨o,h,M,q,(r.mono D).trans ?_,?_,?_⟩
 ·exact(Below.refl _ _).grown f (by rw[b];simp;omega) (λi k=>(u.lt i k).1)
 ·have:=f.size;rw[b]at this;simp at this;omega
 ·intro i k H;rw[f.block i (by rw[b];simp;omega) H,r.block i k]
def II{P:Program}{j:Array Oper}{rest:List Oper}{o:Oper}{a:Act}{w:World}{i:Exit->Act->World->Prop}(z:o.guard=none)(s x:Operand)(h:TypeId)
 (C:o.op=.call {callee:=.builtin .append,args:= #[s,x],argTypes:= #[h,h]}){e:TypeId}{M:Value}{bytes:Nat}(k:MS P h e M bytes)
 (wr:World)(f:Nat)(v:Value)(n:Nat)(xs d:List Value)(H:a.eval s=v)(F:wr.ownsRow f e 1 v n xs)(J:w.heap=wr.heap.push (.cells d.toArray e))
 (D:w.os=wr.os)(I:w.tape=wr.tape)(E:w.output=wr.output)
 (m c:Nat)(K:a.eval x=.slice (some (Φ wr.heap.size)) m c)(B:m=d.length)
 (h1:∀L∈d,L.oneCell'=true)(A:n+d.length<=1000000000)(y:bytes<=64)(u:f<=wr.heap.size)
 (l:∀g b,b.ownsRow f e 1 g (n+m) (xs++d)->Below f wr b->Kept wr b v.ownBlock->wpList P j i rest (a.put o.dst g) b):wpList P j i (o::rest) a w:=by
 refine wpList_plain z λN t=>?_
 obtain⟨g,b,G,p,q,r⟩:=nZ k o.type F J D I E h1 A y u m c B;unfold Oper.wp execOp;simp only[C,resolve,invoke,builtin,Sem.run_bind,Sem.run_pure,Result.andThen_ok,List.map_toArray,Ci,Gv,H,K,G];exact t _ _ (l g b p q r)
def own_below{w w':World}{a:Nat}{e:TypeId}{v:Value}{n:Nat}{xs:List Value}(c:w.ownsRow a e 1 v n xs)(b:η w w'):w'.ownsRow a e 1 v n xs:=
 Ol c (row:=none) ⟨b.size,λf d _=>b.block f d⟩ Θ
def Fe{w:World}{b base':Nat}{e:TypeId}{v:Value}{n:Nat}{xs:List Value}(a:w.ownsRow b e 1 v n xs)(j:base'<=b):w.ownsRow base' e 1 v n xs:=by
 refine⟨a.1,?_⟩;rcases a.2 with a|⟨f,c,d,g,i,h⟩
 ·exact .inl a
 ·exact .inr ⟨f,c,d,g,O,h⟩
def CV{w:World}{a:Nat}{e:TypeId}{A:Option Addr}{c:Nat}{n:Nat}{xs:List Value}(f:w.ownsRow a e 1 (.slice A n c) n xs):n<=c/\Rd w A n xs:=by
 obtain⟨i,j,e,g,h⟩:=CS f;injection e with b k d
 subst b d;exact⟨g,h⟩
def AQ{w:World}{b:Nat}{e:TypeId}{v:Value}{n:Nat}{xs:List Value}(c:w.ownsRow b e 1 v n xs){g:Nat}(d:g<b)(i:Nat)(u:Value):(w.setCell (Δ g i) u).ownsRow b e 1 v n xs:=
 ownsRow_setCell_below c (a:=Δ g i) d u
def Ws.cellAt{w:World}{b off n:Nat}{l:List UInt64}(e:Ws w (some (Δ b off)) n l){k:Nat}(g:k<n)(h:k<l.length):w.cell? (Δ b (off+k))=some (.int .u64 (l[k].toNat:Int)):=by
 obtain⟨i,m,a,_,f⟩:=e.2 O;injection a with a
 injection a with c d j
 subst c d;rw[f k g];simp[h,wv]
def og(n:Nat)(a:n<18446744073709551616):wv (Aj n)=.int .u64 (n:Int):=by
 rw[wv,GY (by simpa[KA]using a)]
def vT(x:Nd)(b:x.kids.length<=4):(DT x).map wv=splice ((((((BC 8 (0:UInt64)).map wv).set 0 (.int .u64 (1+256*(x.kids.length:Int)))).set 1 (.int .u64 ((Gn x.pre).toNat:Int))).set 2 (.int .u64 (x.val.toNat:Int))).set 3 (.int .u64 ((Gn x.labels).toNat:Int))) 4 (x.kids.map wv):=by
 rw[DT,if_pos b,encS];have c:wv (Aj (1+256*x.kids.length))=.int .u64 (1+256*(x.kids.length:Int)):=by rw[og _ O];simp
 simp only[splice,Dc,Ci,Gv,c,BX,List.map_replicate];obtain⟨a,d⟩:=ε x.kids.length;rw[<-d]at b⊢;have:a=0\/a=1\/a=2\/a=3\/a=4:=O;rcases this with rfl|rfl|rfl|rfl|rfl<;>simp[BC,wv]
def Abx(x:Nd)(b:x.kids.length<=1000000):(Dw (headB x) (x.labels.take 0) (x.kids.take 0)).map wv=((((BC 32 (0:UInt64)).map wv).set 0 (.int .u64 (2+256*(x.kids.length:Int)))).set 1 (.int .u64 ((Gn x.pre).toNat:Int))).set 2 (.int .u64 (x.val.toNat:Int)):=by
 have a:wv (Aj (2+256*x.kids.length))=.int .u64 (2+256*(x.kids.length:Int)):=by rw[og _ O];simp
 simp only[List.take_zero,Dw,headB,Dc,Ci,Gv,a];simp[BC,wv]
def oh(x:Nd)(k:Nat)(h1:k<x.labels.length)(h2:k<x.kids.length):
 (Dw (headB x) (x.labels.take (k+1)) (x.kids.take (k+1))).map wv=((Dw (headB x) (x.labels.take k) (x.kids.take k)).map wv).set (4+x.labels[k].toNat) (.int .u64 (x.kids[k].toNat:Int)):=by
 rw[OE _ _ _ k h1 h2,List.map_set];rfl
def Tryz.oq:(prog.info? 43).map (λa=>(a.zero,a.size,a.bytes))=some (some (.int .u64 0),1,8):=by kernel_rfl
def Aji(x:Nd)(w:World)(e:Ending)(w':World):Prop:=
 η w w'/\(if Cf x then∃a,e=.returned (.tuple #[a,.bool true])/\w'.ownsRow w.heap.size 43 1 a (DT x).length ((DT x).map wv)
  else e=.returned (.tuple #[.slice none 0 0,.bool false]))
def Rw(t C n:Option Addr)(j F g V c G:Nat)(x:Nd)(w:World)(cn:j<=1000000)(co:g<=1000000)(cp:c<=1000000)(h1:Bs w t j x.pre)(h2:Bs w C g x.labels)(h3:Ws w n c x.kids):
 Calls prog 176 #[.agg #[.slice t j F,.int .u64 (x.val.toNat:Int),.slice C g V,.slice n c G]] w (Aji x w):=by
 obtain⟨z,b0,b5,b6,b7⟩:=info_parts Tryz.oq;have b1:=h1.len;have cv:=h2.len;have Y:=h3.len;obtain⟨v,bW,bL,bN,bO,bR,I,cx⟩:=Afp w 195 (.slice t j F) (.int .u64 (x.val.toNat:Int)) (.slice C g V) (.slice n c G);have bS:=h1.below I;have bT:=h2.below I;have W:=h3.below I;have bA:=Aa bW;clear bW;have b8:=LP t C n j F g V c G x v cn co cp bS bT W;have b9:=Aa b8;clear b8;go_enter func176,ntmps176
 go_wp2_with fail
 rw[<-bA.out];refine b9.out.mono ?_;rintro y bE⟨rfl,ah⟩;clear b9 bA;obtain⟨a4,a5,a6,a7,b4⟩:=PH bL bN bO bR O ah;clear bL bN bO bR;have ac:η w bE:=τ I ah;clear I ah cx bS bT W;cases X:Cf x with
 |false=>
  have u:=Aa X;clear X
  go_wp2_with fail
  go_ret2;exact⟨ac,by rw[u.out];rfl⟩
 |true=>
  have u:=Aa X;clear X
  go_wp2_with fail
  refine(Wi _ _ _ n c G bE O).mono ?_;rintro y a⟨rfl,al⟩;obtain⟨Q,R,S,T,ao⟩:=PH a4 a5 a6 a7 b4 al;clear a4 a5 a6 a7;have l:=τ ac al;clear ac al b4;by_cases af:c<=4
  ·rw[if_pos af]
   go_wp2_with fail
   refine(Jz 1 a).mono ?_;rintro y Z⟨rfl,rfl⟩;rw[show LM 1=8 from rfl]
   go_wp2_with
    (at_make
     refine wpList_make_full _ rfl _ _ 109 rfl w.heap.size 43 z (.int .u64 0) 1 underlying109 b0 b5 b6 .i64 .i64 _ _ 8 rfl rfl rfl rfl (by rw[b7];omega) U (by exact l.size) ?_;intro k L K;have r:η a k:=(Below.refl _ _).grown K (Ad _) Θ;obtain⟨a8,a9,ba,bb,e⟩:=PH Q R S T ao r;clear Q R S T;have q:=τ l r;have b:CQ k a.heap.size 43 ((BC 8 (0:UInt64)).map wv):=by rw[<-LC];exact YU L
     have z:=b.has (i:=0) Θ;have ar:=b.has (i:=1) Θ;have av:=b.has (i:=2) Θ;have M:=b.has (i:=3) Θ;have f0:=b.frozen 0;have f1:=b.frozen 1;have f2:=b.frozen 2;have f3:=b.frozen 3;have m:w.heap.size≠a.heap.size:=O;have f:=l.size;clear L K r l)
   have ap:=(Bv x).1 u.out;obtain⟨aw,A,az,P,_,_⟩:=ap;have s:=UT t j F x.pre (k.setCell (Φ a.heap.size) (.int .u64 (1+256*(c:Int)))) O (h1.below (q.setCell (p:=Φ a.heap.size) f _)) A;have H:=UN x.pre 15 aw A;rw[MJ]at H;have ab:Hid (((j+16*Fv x.pre:Nat):Int)=((Gn x.pre).toNat:Int)):=Aa (by rw[Gn,b1,GY (by simp[KA];omega)]);rw[ab.out]at s;have N:=Aa s;have ad:Hid (g<=4):=Aa O;clear s az H;refine N.out.mono ?_;rintro y Z⟨rfl,rfl⟩;clear N
   go_wp2_with fail
   have o:=((b.AZ 0 (.int .u64 (1+256*(c:Int)))).AZ 1 (.int .u64 ((Gn x.pre).toNat:Int))).AZ 2 (.int .u64 (x.val.toNat:Int));have E:=((q.setCell (p:=Φ a.heap.size) f (.int .u64 (1+256*(c:Int)))).setCell (p:=Δ a.heap.size 1) f (.int .u64 ((Gn x.pre).toNat:Int))).setCell (p:=Δ a.heap.size 2) f (.int .u64 (x.val.toNat:Int));obtain⟨bc,bd,be,bg,e⟩:=Qm a8 a9 ba bb e m 0 (.int .u64 (1+256*(c:Int)));clear a8 a9 ba bb;obtain⟨bh,bi,bj,bk,e⟩:=Qm bc bd be bg e m 1 (.int .u64 ((Gn x.pre).toNat:Int));clear bc bd be bg;obtain⟨bl,bm,bo,bp,e⟩:=Qm bh bi bj bk e m 2 (.int .u64 (x.val.toNat:Int));clear bh bi bj bk;clear z ar av M f0 f1 f2 f3 q b;generalize(((k.setCell (Φ a.heap.size) (.int .u64 (1+256*(c:Int)))).setCell (Δ a.heap.size 1) (.int .u64 ((Gn x.pre).toNat:Int))).setCell (Δ a.heap.size 2) (.int .u64 (x.val.toNat:Int)))=D at*;have am:=UT C g V x.labels D (Ω ad.out) (h2.below E) P;have bV:=UN x.labels 15 (Ω ad.out) P;rw[MJ]at bV;have cg:Hid (((g+16*Fv x.labels:Nat):Int)=((Gn x.labels).toNat:Int)):=Aa (by rw[Gn,cv,GY (by have:=ad.out;simp[KA];omega)]);rw[cg.out]at am;have bx:=Aa am;have M:=o.has (i:=3) Θ;have f3:=o.frozen 3;clear am bV;refine bx.out.mono ?_;rintro y Z⟨rfl,rfl⟩;clear bx;have cf:=o.AZ 3 (.int .u64 ((Gn x.labels).toNat:Int));have bB:=E.setCell (p:=Δ a.heap.size 3) f (.int .u64 ((Gn x.labels).toNat:Int));have cK:∀v,(Instr.slice 109 (.slice (some (Φ a.heap.size)) 8 8) (some (.int .i64 4)) none none).run prog v=.ok (.slice (some (Δ a.heap.size 4)) 4 4) v:=λv=>by
    have:=nJ Tryz.Jc (some (Φ a.heap.size)) 8 8 .i64 4 U v;simpa[UH,Addr.add_lit]using this
   obtain⟨cB,cC,cD,cE,e⟩:=Qm bl bm bo bp e m 3 (.int .u64 ((Gn x.labels).toNat:Int));clear bl bm bo bp
   go_wp2_with fail
   clear M f3 E o;generalize D.setCell (Δ a.heap.size 3) (.int .u64 ((Gn x.labels).toNat:Int))=cm at*;have W:Ws cm.drew n c x.kids:=h3.below bB.drew
   go_region_law(refine step_copy_splice rfl (.tmp 49) (.tmp 51) 109 109 rfl 43 underlying109 Γ (some (Δ a.heap.size 4)) n 4 4 c G (by simp[Act.eval]) (by simp[Act.eval]) a.heap.size 4 _ 43 cf.drew (x.kids.map wv) (by rw[BX,Y];exact(NG af).symm) (Abw W) (by simp[Y];omega) (Qe _) w.heap.size w bB.drew f ?_;intro cy cl cs)
   all_goals
    go_wp2;go_ret2;refine⟨cs,?_⟩;rw[if_pos u.out];have cr:CQ cy a.heap.size 43 ((DT x).map wv):=by
     have cq:=cl.out;rw[vT x O];rw[Y];exact cq
    have h:((DT x).map wv).length=8:=by rw[BX,Fb,if_pos O]
    refine⟨_,rfl,?_⟩;have:=cr.own (B:=w.heap.size) f (by rw[h];decide);rw[h]at this;rw[show(DT x).length=8 by simpa using h];exact this
  ·rw[if_neg af]
   go_wp2_with fail
   refine(Jz 2 a).mono ?_;rintro y Z⟨rfl,rfl⟩;rw[show LM 2=32 from rfl]
   go_wp2_with
    (at_make
     refine wpList_make_full _ rfl _ _ 109 rfl w.heap.size 43 z (.int .u64 0) 1 underlying109 b0 b5 b6 .i64 .i64 _ _ 32 rfl rfl rfl rfl (by rw[b7];omega) U (by exact l.size) ?_;intro k L K;have r:η a k:=(Below.refl _ _).grown K (Ad _) Θ;obtain⟨bq,br,bs,bt,e⟩:=PH Q R S T ao r;clear Q R S T;have q:=τ l r;have b:CQ k a.heap.size 43 ((BC 32 (0:UInt64)).map wv):=by rw[<-LC];exact YU L
     have z:=b.has (i:=0) Θ;have ar:=b.has (i:=1) Θ;have av:=b.has (i:=2) Θ;have M:=b.has (i:=3) Θ;have f0:=b.frozen 0;have f1:=b.frozen 1;have f2:=b.frozen 2;have f3:=b.frozen 3;have m:w.heap.size≠a.heap.size:=O;have f:=l.size;clear L K r l)
   have ap:=(Bv x).1 u.out;obtain⟨aw,A,az,P,_,_⟩:=ap;have s:=UT t j F x.pre (k.setCell (Φ a.heap.size) (.int .u64 (2+256*(c:Int)))) O (h1.below (q.setCell (p:=Φ a.heap.size) f _)) A;have H:=UN x.pre 15 aw A;rw[MJ]at H;have ab:Hid (((j+16*Fv x.pre:Nat):Int)=((Gn x.pre).toNat:Int)):=Aa (by rw[Gn,b1,GY (by simp[KA];omega)]);rw[ab.out]at s;have N:=Aa s;clear s H;refine N.out.mono ?_;rintro y Z⟨rfl,rfl⟩;clear N
   go_wp2_with fail
   have o:=((b.AZ 0 (.int .u64 (2+256*(c:Int)))).AZ 1 (.int .u64 ((Gn x.pre).toNat:Int))).AZ 2 (.int .u64 (x.val.toNat:Int));have E:=((q.setCell (p:=Φ a.heap.size) f (.int .u64 (2+256*(c:Int)))).setCell (p:=Δ a.heap.size 1) f (.int .u64 ((Gn x.pre).toNat:Int))).setCell (p:=Δ a.heap.size 2) f (.int .u64 (x.val.toNat:Int));obtain⟨a0,a1,a2,a3,e⟩:=Qm bq br bs bt e m 0 (.int .u64 (2+256*(c:Int)));clear bq br bs bt;obtain⟨aB,aD,aE,aG,e⟩:=Qm a0 a1 a2 a3 e m 1 (.int .u64 ((Gn x.pre).toNat:Int));clear a0 a1 a2 a3;obtain⟨aH,aL,aM,aR,e⟩:=Qm aB aD aE aG e m 2 (.int .u64 (x.val.toNat:Int));clear aB aD aE aG;clear z ar av M f0 f1 f2 f3 q b;generalize(((k.setCell (Φ a.heap.size) (.int .u64 (2+256*(c:Int)))).setCell (Δ a.heap.size 1) (.int .u64 ((Gn x.pre).toNat:Int))).setCell (Δ a.heap.size 2) (.int .u64 (x.val.toNat:Int)))=D at*;have i:CQ D a.heap.size 43 ((Dw (headB x) (x.labels.take 0) (x.kids.take 0)).map wv):=by
    rw[Abx x O,Y];exact o
   clear o;have ce:g=c:=O;have ck:=Aa P;clear P az A;subst ce
   go_wp2_with fail
   go_loopw [57](λaq wr=>∃d:Nat,d<=g/\aq=.int .i64 d/\CQ wr a.heap.size 43 ((Dw (headB x) (x.labels.take d) (x.kids.take d)).map wv)/\Below a.heap.size D wr)(λaq _=>g-(intOf aq).toNat)
   case atStart=>exact⟨0,BB _,rfl,i,Below.refl _ _⟩
   case round=>
    obtain⟨d,cJ,rfl,i,J⟩:=hrel;obtain⟨ca,cb,cc,cd,e⟩:=Abv aH aL aM aR ao J;clear aH aL aM aR;have aa:η w wr:=E.trans (J.mono f);by_cases b2:d<g
    ·obtain⟨b3,cM,cz,rfl,_,cH⟩:=(h2.below aa).at b2;obtain⟨cw,cN,cA,rfl,_,cI⟩:=(h3.below aa).at b2;have cG:=Yt ck.out b3;have h:((Dw (headB x) (x.labels.take d) (x.kids.take d)).map wv).length=32:=by simp[Oj,headB]
     have cL:=i.has (i:=4+x.labels[d].toNat) (by rw[h];omega);have cF:=i.frozen (4+x.labels[d].toNat);have an:=i.AZ (4+x.labels[d].toNat) (.int .u64 (x.kids[d].toNat:Int));rw[<-oh x d b3 cw]at an;have cj:=Aa an;have ch:=Aa (J.setCell (p:=Δ a.heap.size (4+x.labels[d].toNat)) (Ad _) (.int .u64 (x.kids[d].toNat:Int)));clear i an J;go_wp2;go_roundw
     case rel=>exact⟨d+1,O,by go_num,cj.out,ch.out⟩
     case measure=>simp[intOf];omega
    ·have ct:d=g:=O;subst ct;have bX:(Dw (headB x) (x.labels.take d) (x.kids.take d)).map wv=(DT x).map wv:=by
      rw[DT,if_neg O,Rt,EP O,EP O]
     rw[bX]at i;have h:((DT x).map wv).length=32:=by rw[BX,Fb,if_neg O]
     have ci:=Aa (i.own (B:=w.heap.size) f (by rw[h];decide));have bw:=Aa h;clear i J bX h ca cb cc cd;go_wp2;go_ret2;refine⟨aa,?_⟩;rw[if_pos u.out];refine⟨_,rfl,?_⟩;have:=ci.out;rw[bw.out]at this;rw[show(DT x).length=32 by simpa using bw.out];exact this
def Qn(A B:Option Addr)(n m c q:Nat)(a b:List UInt64)(w:World)(F:n<=4294967296)(_hm:m<=4294967296)(k:Ws w A n a)(l:Ws w B m b):
 Calls prog 91 #[.slice A n c,.slice B m q] w λf u=>f=.returned (.bool (decide (a=b)))/\Dr w u:=by
 have D:=k.len;have E:=l.len;by_cases t:n=m
 ·subst t;have t1:((n:Int)!=(n:Int))=false:=by simp
  go_enter func91,ntmps91;go_wp2
  go_loopw [13](λj wr=>∃e:Nat,e<=n/\j=.int .i64 e/\(∀d(h1:d<a.length)(h2:d<b.length),d<e->a[d]=b[d])/\Dr w wr)(λj _=>n-(intOf j).toNat)
  case atStart=>exact⟨0,BB _,rfl,λd _ _ r=>absurd r O,Dr.refl _⟩
  case round=>
   obtain⟨e,C,rfl,i,N,rfl⟩:=hrel;by_cases o:e<n
   ·obtain⟨I,L,K,rfl,G,x⟩:=k.at o;obtain⟨J,M,v,rfl,H,y⟩:=l.at o;by_cases g:a[e]=b[e]
    ·have t2:(((a[e].toNat:Int))!=(b[e].toNat:Int))=false:=by simp[g]
     have p:Hid (∀d(h1:d<a.length)(h2:d<b.length),d<e+1->a[d]=b[d]):=Aa λd h1 h2 z=>by
      by_cases f:d=e
      ·subst f;exact g
      ·exact i d h1 h2 O
     clear i g;go_wp2
     go_quiet(fail)
     go_wp2;go_roundw
     case rel=>exact⟨e+1,O,by go_num,p.out,by first|exact Dr.one _ _|exact Dr.two _ _ _⟩
     case measure=>simp[intOf];omega
    ·have t2:(((a[e].toNat:Int))!=(b[e].toNat:Int))=true:=by
      rw[bne_iff_ne];intro f;exact g (UInt64.toNat_inj.1 O)
     have h:Hid (decide (a=b)=false):=Aa (by rw[decide_eq_false_iff_not];intro f;subst f;exact g rfl);clear i g;go_wp2
     go_quiet(fail)
     go_wp2;go_ret;exact⟨by rw[h.out];rfl,by first|exact Dr.one _ _|exact Dr.two _ _ _⟩
   ·have s:e=n:=O;subst s;have h:Hid (decide (a=b)=true):=Aa (by
     rw[decide_eq_true_iff];apply List.ext_getElem O;intro d h1 h2;exact i d h1 h2 O)
    clear i;go_wp2;go_ret;exact⟨by rw[h.out];rfl,Dr.one _ _⟩
 ·have t1:((n:Int)!=(m:Int))=true:=by simp;omega
  have h:Hid (decide (a=b)=false):=Aa (by rw[decide_eq_false_iff_not];intro f;subst f;omega);go_enter func91,ntmps91;go_wp2;go_ret;exact⟨by rw[h.out];rfl,Dr.refl _⟩
def zT(lb:List UInt8)(a:List UInt64)(w:World)(e:Ending)(w':World):Prop:=
 η w w'/\∃b d c f,e=.returned (.tuple #[.slice b lb.length d,.slice c a.length f])/\w'.ownsRow w.heap.size 5 1 (.slice b lb.length d) lb.length (lb.map bv)/\w'.ownsRow w.heap.size 43 1 (.slice c a.length f) a.length (a.map wv)
def Ws.sub{w:World}{A:Option Addr}{n:Nat}{l:List UInt64}(a:Ws w A n l){c lo hi:Nat}(h1:lo<=hi)(h2:hi<=n)(b:n<=c):Ws w (UH A c lo) (hi-lo) ((l.drop lo).take (hi-lo)):=by
 have:=Rd.sub a h1 h2 b
 rwa [<-List.map_drop,<-List.map_take]at this
def Aby(A:Option Addr)(c:Nat)(l:List UInt64)(w:World)(N:8<=c)(i:Ws w A 8 l)(u:UInt64)(E:l[3]?=some u):
 Calls prog 187 #[.slice A 8 c] w (zT (Jj u.toNat (l.drop 4)).1 (Jj u.toNat (l.drop 4)).2 w):=by
 have S:=i.len;obtain⟨T,t,H,rfl,X,B⟩:=i.at (show 3<8 by decide);have F:l[3]=u:=by rw[Ae T]at E;injection E
 rw[F]at B;have G:=YT u.toNat w (by have:=u.toNat_lt;simpa[KA]using this);have s:=Aa G;clear G F;go_enter func187,ntmps187
 go_wp2_with fail
 refine s.out.mono ?_;rintro f I⟨g,h⟩;clear s B;have Y:=Nat.mod_lt u.toNat (show 0<16 by decide);by_cases d:u.toNat/16/16^(u.toNat%16)=0
 ·rw[if_pos d]at h;obtain⟨Z,rfl,m⟩:=h;obtain⟨p,v,rfl,P,U⟩:=CS m;by_cases j:u.toNat%16<=4
  ·have b:Jj u.toNat (l.drop 4)=(digits (u.toNat%16) (u.toNat/16),(l.drop 4).take (u.toNat%16)):=by rw[Jj,if_pos ⟨d,j⟩]
   have e:=Aa b;have K:Hid (I.ownsRow w.heap.size 5 1 (.slice p (u.toNat%16) v) (u.toNat%16) ((digits (u.toNat%16) (u.toNat/16)).map bv)):=Aa m;obtain⟨a,k⟩:=ε (u.toNat%16);have W:=i.below g;have o:=Ws.sub W (c:=c) (lo:=4) (hi:=4+a) O O N;rw[<-k]at P j⊢;have r:=Aa k;have D:=zM Tryz.Jc (some (Δ t H)) 8 c .i64 .i64 4 (4+a) O O;rw[show 4+a-4=a by omega]at D o;have C:=YS (UH (some (Δ t H)) c 4) a (c-4) _ I O o;have q:=Aa C;have x:((4:Nat):Int)=4:=rfl;have y:((4+a:Nat):Int)=4+(a:Int):=O;simp only[x,y]at D;have d4:decide (4<(a:Int))=false:=by simp;omega
   clear d b m U k C o x y
   go_wp2_with fail
   refine q.out.mono ?_;rintro f ab⟨aa,rfl,n,z⟩;obtain⟨J,M,rfl,Q,V⟩:=CS n;have L:=Aa (Fe n g.size);clear q n V Q
   go_wp2_with fail
   go_ret2;have R:((l.drop 4).take a).length=a:=by simp[S];omega
   refine⟨τ g z,?_⟩;rw[e.out]
   dsimp only
   rw[<-r.out,digits_length,R];refine⟨p,v,J,M,rfl,?_,L.out⟩;have:=own_below K.out z;rw[<-r.out]at this;exact this
  ·have b:Jj u.toNat (l.drop 4)=([],[]):=by rw[Jj,if_neg (λf=>j f.2)]
   have e:=Aa b;have d4:decide (4<((u.toNat%16:Nat):Int))=true:=by simp;omega
   generalize u.toNat%16=a at*;clear d b
   go_wp2_with fail
   go_ret2;refine⟨g,?_⟩;rw[e.out];exact⟨none,0,none,0,rfl,EM _ _ _ _,EM _ _ _ _⟩
 ·rw[if_neg d]at h;subst h;have b:Jj u.toNat (l.drop 4)=([],[]):=by rw[Jj,if_neg (λf=>d f.1)]
  have e:=Aa b;clear d b
  go_wp2_with fail
  go_ret2;refine⟨g,?_⟩;rw[e.out];exact⟨none,0,none,0,rfl,EM _ _ _ _,EM _ _ _ _⟩
def Ajn(A:Option Addr)(c:Nat)(l:List UInt64)(w:World)(aa:32<=c)(t:Ws w A 32 l):
 Calls prog 188 #[.slice A 32 c] w (zT (Lp 0 ((l.drop 4).take 16)) (N9 ((l.drop 4).take 16)) w):=by
 have ah:=t.len;obtain⟨_,j,n,rfl,_,_⟩:=t.at (show 0<32 by decide);have H:=zM Tryz.Jc (some (Δ j n)) 32 c .i64 .i64 4 20 O O;have u:UH (some (Δ j n)) c 4=some (Δ j (n+4)):=by rw[UH,if_neg O];simp[Addr.add_lit]
 rw[u]at H;have E:((4:Nat):Int)=4:=rfl;have C:((20:Nat):Int)=20:=rfl;simp only[E,C]at H;have J:Ws w (some (Δ j (n+4))) 16 ((l.drop 4).take 16):=by
  have:=Ws.sub t (c:=c) (lo:=4) (hi:=20) O O aa
  rwa [u]at this
 clear u E C ah;generalize(l.drop 4).take 16=b at*;have a1:=J.len;go_enter func188,ntmps188;go_wp2
 go_loopw [4,5,11](λaz aB x wr=>∃a:Nat,a<=16/\x=.int .i64 a/\wr.ownsRow w.heap.size 5 1 az (Lp 0 (b.take a)).length ((Lp 0 (b.take a)).map bv)/\wr.ownsRow w.heap.size 43 1 aB (N9 (b.take a)).length ((N9 (b.take a)).map wv)/\η w wr)(λ_ _ x _=>16-(intOf x).toNat)
 case atStart=>exact⟨0,BB _,rfl,EM _ _ _ _,EM _ _ _ _,Below.refl _ _⟩
 case round=>
  obtain⟨a,aL,rfl,e,d,i⟩:=hrel;have I:=i.size;by_cases al:a<16
  ·have v:=J.below i;obtain⟨ao,aD,a2,s,_,aH⟩:=v.at al;injection s with s
   injection s with T V D
   subst T V;have m:b.take (a+1)=b.take a++[b[a]]:=List.take_succ_eq_append_getElem ao;have f:=YJ 0 (b.take a) b[a];have g:=vC (b.take a) b[a];rw[<-m,List.length_take,NG O,DX]at f;rw[<-m]at g;have af:(N9 (b.take a)).length<=16:=by have:=YK (b.take a);simp at this;omega
   have aM:(Lp 0 (b.take a)).length<=16:=by rw[OG];exact af
   by_cases h:b[a].toNat=0
   ·rw[if_pos h,List.append_nil]at f g;have t1:((b[a].toNat:Int)!=0)=false:=by simp[h]
    have o:=Aa f;have p:=Aa g;have r:=Aa e;have q:=Aa d;clear f g h e d v D m;go_wp2;go_roundw
    case rel=>exact⟨a+1,O,by go_num,by rw[o.out];exact r.out,by rw[p.out];exact q.out,i⟩
    case measure=>simp[intOf];omega
   ·rw[if_neg h]at f g;have t1:((b[a].toNat:Int)!=0)=true:=by simp;omega
    have o:=Aa f;have p:=Aa g;have K:Aw .u8 (a:Int)=bv (UInt8.ofNat a):=by simp only[bv,UInt8.toNat_ofNat'];congr 1;omega
    have Q:=Aa K;have F:=NS e d U;have Y:∀k,u5.ownBlock=some k->u4.ownBlock≠some k:=λk X W=>F k W X
    generalize am:(Lp 0 (b.take a)).length=ar at*;generalize an:(N9 (b.take a)).length=av at*;clear f g h v D m K F
    go_wp2_with(first
     |(at_builtin
       refine II rfl (.tmp 18) (.tmp 21) 23 rfl Tryz.Ia wr w.heap.size u4 ar ((Lp 0 (b.take a)).map bv) [.int .u8 (a:Int)] rfl e rfl rfl rfl rfl 1 1 rfl rfl (by simp[Aiz]) (by simp;omega) U I ?_;intro a3 L z G ab;have B:=Ol d ab Y;have aw:w.heap.size<=L.heap.size:=Bi I G.size)
     |(at_builtin
       refine II rfl (.tmp 23) (.tmp 25) 109 rfl Tryz.Jc L w.heap.size u5 av ((N9 (b.take a)).map wv) [.int .u64 (b[a].toNat:Int)] rfl B rfl rfl rfl rfl 1 1 rfl rfl (by simp[Aiz]) (by simp;omega) U aw ?_;intro a4 a5 P Z ac;have y:=Ol z ac (NS z B U)))
    go_roundw
    case rel=>
     refine⟨a+1,O,by go_num,?_,?_,i.trans (G.trans Z)⟩
     ·rw[o.out,AY,am,Dc];rw[Q.out]at y;exact y
     ·rw[p.out,AY,an,Dc];exact P
    case measure=>simp[intOf];omega
  ·have ad:a=16:=O;subst ad;rw[EP O]at e d;obtain⟨M,R,ap,aE,aR⟩:=CS e;obtain⟨N,S,aq,aG,a0⟩:=CS d;subst ap aq;have r:=Aa e;have q:=Aa d;clear e d;go_wp2;go_ret2;exact⟨i,M,R,N,S,rfl,r.out,q.out⟩
def Ui{w:World}{a base' size n:Nat}{e:TypeId}{v:Value}{xs:List Value}(b:w.ownsRow a e size v n xs)(g:base'<=a):w.ownsRow base' e size v n xs:=
 ⟨b.1,b.2.elim Or.inl (λ⟨f,c,d,i,h,j⟩=>Or.inr ⟨f,c,d,i,Bi g h,j⟩)⟩
def Yu(l:List UInt64)(w:World)(e:Ending)(w':World):Prop:=
 η w w'/\(if Ja l then∃a d b f c g,e=.returned (.tuple #[.agg #[.slice a (Fh l).pre.length d,.int .u64 ((Fh l).val.toNat:Int),.slice b (Fh l).labels.length f,.slice c (Fh l).kids.length g],.bool true])/\
  (Fh l).pre.length<=d/\(Fh l).labels.length<=f/\(Fh l).kids.length<=g/\Bs w' a (Fh l).pre.length (Fh l).pre/\Bs w' b (Fh l).labels.length (Fh l).labels/\Ws w' c (Fh l).kids.length (Fh l).kids/\w'.ownsRow w.heap.size 5 1 (.slice a (Fh l).pre.length d) (Fh l).pre.length ((Fh l).pre.map bv)/\w'.ownsRow w.heap.size 5 1 (.slice b (Fh l).labels.length f) (Fh l).labels.length ((Fh l).labels.map bv)/\w'.ownsRow w.heap.size 43 1 (.slice c (Fh l).kids.length g) (Fh l).kids.length ((Fh l).kids.map wv)
  else e=.returned (.tuple #[.agg #[.slice none 0 0,.int .u64 0,.slice none 0 0,.slice none 0 0],.bool false]))
def Xv(u:Nat)(w:World)(k:u<18446744073709551616):
 Calls prog 189 #[.int .u64 (u:Int)] w λg f=>η w f/\∃a b i,g=.returned (.tuple #[.slice a (Eu u).length b,.bool i])/\f.ownsRow w.heap.size 5 1 (.slice a (Eu u).length b) (Eu u).length ((Eu u).map bv):=by
 refine(YT u w k).mono ?_;rintro g f⟨j,c⟩;refine⟨j,?_⟩;by_cases d:u/16/16^(u%16)=0
 ·rw[if_pos d]at c;obtain⟨n,rfl,h⟩:=c;obtain⟨a,b,rfl,l,m⟩:=CS h;have e:Eu u=digits (u%16) (u/16):=by rw[Eu,if_pos d]
  rw[e,digits_length];exact⟨a,b,true,rfl,h⟩
 ·rw[if_neg d]at c;subst c;have e:Eu u=[]:=by rw[Eu,if_neg d]
  rw[e];exact⟨none,0,false,rfl,EM _ _ _ _⟩
def blk4{w:World}{g:Nat}{e:TypeId}{a b c f:Value}(d:CQ w g e [a,b,c,f]):
 w.cell? (Φ g)=some a/\w.cell? (Δ g 1)=some b/\w.cell? (Δ g 2)=some c/\w.cell? (Δ g 3)=some f/\
 w.frozen? (Φ g)=false/\w.frozen? (Δ g 1)=false/\w.frozen? (Δ g 2)=false/\w.frozen? (Δ g 3)=false:=
 ⟨d.cell 0,d.cell 1,d.cell 2,d.cell 3,d.frozen 0,d.frozen 1,d.frozen 2,d.frozen 3⟩
def CQ.far{w:World}{g g':Nat}{e:TypeId}{xs:List Value}(a:CQ w g e xs)(b:g≠g')(i:Nat)(u:Value):CQ (w.setCell (Δ g' i) u) g e xs:=
 (Below.heap_setCell w (Δ g' i) u g b).trans a
def Wj(w:World)(b:TypeId)(a:Value)(c:Value):∃d,d=(w.alloc (.cells #[a,c,a,a] b)).alloc (.cells #[a,c,a,a] b)/\CQ d w.heap.size b [a,c,a,a]/\CQ d (w.heap.size+1) b [a,c,a,a]/\
 η w d/\d.heap.size=w.heap.size+2:=by
 refine⟨_,rfl,?_,?_,((Below.refl _ _).alloc (Ad _) _).alloc Θ _,by simp⟩
 ·have:CQ (w.alloc (.cells #[a,c,a,a] b)) w.heap.size b [a,c,a,a]:=heap_alloc_new w _;exact(Below.heap_alloc _ _ _ Θ).trans this
 ·have:CQ ((w.alloc (.cells #[a,c,a,a] b)).alloc (.cells #[a,c,a,a] b)) (w.alloc (.cells #[a,c,a,a] b)).heap.size b [a,c,a,a]:=heap_alloc_new _ _;simpa using this
def Ajo(A:Option Addr)(c:Nat)(l:List UInt64)(w:World)(bl:8<=c)(J:Ws w A 8 l):
 Calls prog 169 #[.slice A 8 c] w (Yu l w):=by
 have a3:=J.len;obtain⟨bB,x,C,rfl,a0,bm⟩:=J.at (show 1<8 by decide);go_enter func169,ntmps169
 go_wp2_with(go_at_call 168;refine(Jz 1 _).mono ?_;rintro I bR⟨rfl,rfl⟩;rw[show LM 1=8 from rfl])
 obtain⟨bg,aR,W,D,a1,bL⟩:=Wj w 195 (.slice none 0 0) (.int .u64 0);rw[<-aR];clear aR;have bq:3<l.length:=O;have a4:=Aby (some (Δ x C)) c l bg bl (J.below a1) l[3] (Ae bq);have aE:=Aa a4;clear a4;refine aE.out.mono ?_;rintro I az⟨K,b,f,d,h,rfl,S,T⟩;have aG:=Aa S;have aH:=Aa T;clear S T;clear aE;replace W:=W.below K O;replace D:=D.below K O;obtain⟨o,q,r,s,f0,f1,f2,f3⟩:=blk4 D;have ao:=τ a1 K;have bo:az.cell? (Δ x (C+1))=some (.int .u64 (l[1].toNat:Int)):=(ao.cell (p:=Δ x (C+1)) a0).trans bm;have bx:x≠w.heap.size+1:=O
 go_wp2_with fail
 have y:Fh l={pre:=Eu l[1].toNat,val:=l[2],labels:=(Jj l[3].toNat (l.drop 4)).1,kids:=(Jj l[3].toNat (l.drop 4)).2}:=by
  rw[Fh,if_pos a3,Afk];simp[UB,show 1<l.length by omega,show 2<l.length by omega,show 3<l.length by omega]
 have bt:(Jj l[3].toNat (l.drop 4)).1.length<=15:=by unfold Jj;split<;>simp[digits_length];omega
 have br:(Jj l[3].toNat (l.drop 4)).2.length<=15:=by unfold Jj;split<;>simp;omega
 have S:=aG.out;have T:=aH.out;clear aG aH;generalize(Jj l[3].toNat (l.drop 4)).1=j at*;generalize(Jj l[3].toNat (l.drop 4)).2=i at*;have bw:=eY l[1].toNat;have E:=(D.AZ 2 (.slice b j.length f)).AZ 3 (.slice d i.length h);have X:=(W.far (g':=w.heap.size+1) O 2 (.slice b j.length f)).far (g':=w.heap.size+1) O 3 (.slice d i.length h);have aB:=(ao.setCell (p:=Δ (w.heap.size+1) 2) Θ (.slice b j.length f)).setCell (p:=Δ (w.heap.size+1) 3) Θ (.slice d i.length h);have a7:=AQ (AQ S (g:=w.heap.size+1) O 2 (.slice b j.length f)) (g:=w.heap.size+1) O 3 (.slice d i.length h);have a8:=AQ (AQ T (g:=w.heap.size+1) O 2 (.slice b j.length f)) (g:=w.heap.size+1) O 3 (.slice d i.length h);have bE:w.heap.size+2<=((az.setCell (Δ (w.heap.size+1) 2) (.slice b j.length f)).setCell (Δ (w.heap.size+1) 3) (.slice d i.length h)).heap.size:=by
  have:=K.size;simp only[DF,P7];omega
 clear S T W D ao o q r s f0 f1 f2 f3 bo K;generalize(az.setCell (Δ (w.heap.size+1) 2) (.slice b j.length f)).setCell (Δ (w.heap.size+1) 3) (.slice d i.length h)=bh at*;refine(Xv l[1].toNat bh (by have:=l[1].toNat_lt;simpa[KA]using this)).mono ?_;rintro I bc⟨L,a,e,bs,rfl,a6⟩;replace X:=X.ξ L;replace E:=E.ξ L;have ap:=τ aB L;obtain⟨o,q,r,s,f0,f1,f2,f3⟩:=blk4 E;have bp:bc.cell? (Δ x (C+2))=some (.int .u64 (l[2].toNat:Int)):=(ap.cell (p:=Δ x (C+2)) a0).trans (J.cellAt U O)
 go_wp2_with fail
 have m:=(E.AZ 0 (.slice a (Eu l[1].toNat).length e)).AZ 1 (.int .u64 (l[2].toNat:Int));have k:=(X.far (g':=w.heap.size+1) O 0 (.slice a (Eu l[1].toNat).length e)).far (g':=w.heap.size+1) O 1 (.int .u64 (l[2].toNat:Int));have bj:=(ap.setCell (p:=Φ (w.heap.size+1)) Θ (.slice a (Eu l[1].toNat).length e)).setCell (p:=Δ (w.heap.size+1) 1) Θ (.int .u64 (l[2].toNat:Int));have ba:=AQ (AQ (own_below a7 L) (g:=w.heap.size+1) O 0 (.slice a (Eu l[1].toNat).length e)) (g:=w.heap.size+1) O 1 (.int .u64 (l[2].toNat:Int));have bb:=AQ (AQ (own_below a8 L) (g:=w.heap.size+1) O 0 (.slice a (Eu l[1].toNat).length e)) (g:=w.heap.size+1) O 1 (.int .u64 (l[2].toNat:Int));have a9:=AQ (AQ a6 (g:=w.heap.size+1) O 0 (.slice a (Eu l[1].toNat).length e)) (g:=w.heap.size+1) O 1 (.int .u64 (l[2].toNat:Int));clear a6 a7 a8 X E aB ap o q r s f0 f1 f2 f3 bp;generalize(bc.setCell (Φ (w.heap.size+1)) (.slice a (Eu l[1].toNat).length e)).setCell (Δ (w.heap.size+1) 1) (.int .u64 (l[2].toNat:Int))=bi at*;have aw:=Rw a b d (Eu l[1].toNat).length e j.length f i.length h (Fh l) bi O O O (by rw[y];exact(CV a9).2) (by rw[y];exact(CV ba).2) (by rw[y];exact(CV bb).2);rw[show(Fh l).val=l[2]by rw[y]]at aw;have aD:=Aa aw;have be:=Aa y;clear aw y;obtain⟨o,q,r,s,f0,f1,f2,f3⟩:=blk4 m
 go_wp2_with fail
 refine aD.out.mono ?_;rintro I af⟨z,Y⟩;clear aD o q r s f0 f1 f2 f3;replace k:=k.ξ z;replace m:=m.ξ z;obtain⟨o,q,r,s,f0,f1,f2,f3⟩:=blk4 m;obtain⟨ah,al,am,an,Z,aa,ab,ac⟩:=blk4 k;have t:=τ bj z;cases u:Cf (Fh l)with
 |false=>
  rw[u]at Y;subst Y;have G:Hid (Ja l=false):=Aa (by rw[Ja,u];simp);clear u
  go_wp2_with fail
  have F:=((((k.AZ 0 (Ac none 0 0)).AZ 1 (Aw .u64 0)).AZ 2 (Ac none 0 0)).AZ 3 (Ac none 0 0));have L6:=(((t.setCell (p:=Φ w.heap.size) (Ad _) (Ac none 0 0)).setCell (p:=Δ w.heap.size 1) (Ad _) (Aw .u64 0)).setCell (p:=Δ w.heap.size 2) (Ad _) (Ac none 0 0)).setCell (p:=Δ w.heap.size 3) (Ad _) (Ac none 0 0);generalize(((af.setCell (Φ w.heap.size) (Ac none 0 0)).setCell (Δ w.heap.size 1) (Aw .u64 0)).setCell (Δ w.heap.size 2) (Ac none 0 0)).setCell (Δ w.heap.size 3) (Ac none 0 0)=aM at*;obtain⟨N,P,Q,R,_⟩:=blk4 F;refine bodyPost_ret (v:=.tuple #[.agg #[Ac none 0 0,Aw .u64 0,Ac none 0 0,Ac none 0 0],.bool false]) (by simp[results,results169,go_sem,N,P,Q,R]) rfl ?_;exact⟨L6,by rw[G.out];rfl⟩
 |true=>
  rw[u,if_pos rfl]at Y;obtain⟨bO,rfl,aL⟩:=Y;obtain⟨bd,bk,rfl,_,a5⟩:=CS aL;have a2:=Qn bd (some (Δ x C)) (DT (Fh l)).length 8 bk c (DT (Fh l)) l af (by rw[Fb];split<;>decide) U a5 (J.below t);have bA:(DT (Fh l)).length<=32:=by rw[Fb];split<;>decide
  generalize(DT (Fh l)).length=bN at*;have ad:=Aa a2;clear a2 aL a5;by_cases B:DT (Fh l)=l
  ·have G:Hid (Ja l=true):=Aa (by rw[Ja,u];simp[a3,B]);have H:Hid (decide (DT (Fh l)=l)=true):=Aa (by simp[B]);clear B u
   go_wp2_with fail
   refine ad.out.mono ?_;rintro I V⟨rfl,M⟩;have n:η af V:=M.below _;replace k:=k.ξ n;replace m:=m.ξ n;replace t:=τ t n;clear o q r s f0 f1 f2 f3 ah al am an Z aa ab ac M;obtain⟨o,q,r,s,f0,f1,f2,f3⟩:=blk4 m;obtain⟨ah,al,am,an,Z,aa,ab,ac⟩:=blk4 k;rw[H.out];clear ad H
   go_wp2_with fail
   have F:=((((k.AZ 0 (Ac a (Eu l[1].toNat).length e)).AZ 1 (Aw .u64 (l[2].toNat:Int))).AZ 2 (Ac b j.length f)).AZ 3 (Ac d i.length h));have L6:=(((t.setCell (p:=Φ w.heap.size) (Ad _) (Ac a (Eu l[1].toNat).length e)).setCell (p:=Δ w.heap.size 1) (Ad _) (Aw .u64 (l[2].toNat:Int))).setCell (p:=Δ w.heap.size 2) (Ad _) (Ac b j.length f)).setCell (p:=Δ w.heap.size 3) (Ad _) (Ac d i.length h);have aq:=AQ (AQ (AQ (AQ (own_below (own_below a9 z) n) (g:=w.heap.size) O 0 (Ac a (Eu l[1].toNat).length e)) (g:=w.heap.size) O 1 (Aw .u64 (l[2].toNat:Int))) (g:=w.heap.size) O 2 (Ac b j.length f)) (g:=w.heap.size) O 3 (Ac d i.length h);have ar:=AQ (AQ (AQ (AQ (own_below (own_below ba z) n) (g:=w.heap.size) O 0 (Ac a (Eu l[1].toNat).length e)) (g:=w.heap.size) O 1 (Aw .u64 (l[2].toNat:Int))) (g:=w.heap.size) O 2 (Ac b j.length f)) (g:=w.heap.size) O 3 (Ac d i.length h);have av:=AQ (AQ (AQ (AQ (own_below (own_below bb z) n) (g:=w.heap.size) O 0 (Ac a (Eu l[1].toNat).length e)) (g:=w.heap.size) O 1 (Aw .u64 (l[2].toNat:Int))) (g:=w.heap.size) O 2 (Ac b j.length f)) (g:=w.heap.size) O 3 (Ac d i.length h);generalize(((V.setCell (Φ w.heap.size) (Ac a (Eu l[1].toNat).length e)).setCell (Δ w.heap.size 1) (Aw .u64 (l[2].toNat:Int))).setCell (Δ w.heap.size 2) (Ac b j.length f)).setCell (Δ w.heap.size 3) (Ac d i.length h)=aM at*;obtain⟨N,P,Q,R,_⟩:=blk4 F;refine bodyPost_ret (v:=.tuple #[.agg #[Ac a (Eu l[1].toNat).length e,Aw .u64 (l[2].toNat:Int),Ac b j.length f,Ac d i.length h],.bool true]) (by simp[results,results169,go_sem,N,P,Q,R]) rfl ?_;refine⟨L6,?_⟩;rw[G.out,if_pos rfl,be.out];exact⟨a,e,b,f,d,h,rfl,(CV aq).1,(CV ar).1,(CV av).1,(CV aq).2,(CV ar).2,(CV av).2,Ui aq O,Ui ar O,Ui av O⟩
  ·have G:Hid (Ja l=false):=Aa (by rw[Ja,u];simp[B]);have H:Hid (decide (DT (Fh l)=l)=false):=Aa (by simp[B]);clear B u
   go_wp2_with fail
   refine ad.out.mono ?_;rintro I V⟨rfl,M⟩;have n:η af V:=M.below _;replace k:=k.ξ n;replace m:=m.ξ n;replace t:=τ t n;clear o q r s f0 f1 f2 f3 ah al am an Z aa ab ac M;obtain⟨o,q,r,s,f0,f1,f2,f3⟩:=blk4 m;obtain⟨ah,al,am,an,Z,aa,ab,ac⟩:=blk4 k;rw[H.out];clear ad H
   go_wp2_with fail
   have F:=((((k.AZ 0 (Ac none 0 0)).AZ 1 (Aw .u64 0)).AZ 2 (Ac none 0 0)).AZ 3 (Ac none 0 0));have L6:=(((t.setCell (p:=Φ w.heap.size) (Ad _) (Ac none 0 0)).setCell (p:=Δ w.heap.size 1) (Ad _) (Aw .u64 0)).setCell (p:=Δ w.heap.size 2) (Ad _) (Ac none 0 0)).setCell (p:=Δ w.heap.size 3) (Ad _) (Ac none 0 0);generalize(((V.setCell (Φ w.heap.size) (Ac none 0 0)).setCell (Δ w.heap.size 1) (Aw .u64 0)).setCell (Δ w.heap.size 2) (Ac none 0 0)).setCell (Δ w.heap.size 3) (Ac none 0 0)=aM at*;obtain⟨N,P,Q,R,_⟩:=blk4 F;refine bodyPost_ret (v:=.tuple #[.agg #[Ac none 0 0,Aw .u64 0,Ac none 0 0,Ac none 0 0],.bool false]) (by simp[results,results169,go_sem,N,P,Q,R]) rfl ?_;exact⟨L6,by rw[G.out];rfl⟩
def Afq(A:Option Addr)(c:Nat)(l:List UInt64)(w:World)(bl:32<=c)(J:Ws w A 32 l):
 Calls prog 169 #[.slice A 32 c] w (Yu l w):=by
 have bo:=J.len;obtain⟨bB,x,D,rfl,a0,bm⟩:=J.at (show 1<32 by decide);go_enter func169,ntmps169
 go_wp2_with(first|(go_at_call_of 168(Aw IntKind.i64 1);refine(Jz 1 _).mono ?_;rintro z br⟨rfl,rfl⟩;rw[show LM 1=8 from rfl])|(go_at_call_of 168(Aw IntKind.i64 2);refine(Jz 2 _).mono ?_;rintro z br⟨rfl,rfl⟩;rw[show LM 2=32 from rfl]))
 obtain⟨bg,aR,W,E,a1,bL⟩:=Wj w 195 (.slice none 0 0) (.int .u64 0);rw[<-aR];clear aR;have bO:3<l.length:=O;have a3:=Ajn (some (Δ x D)) c l bg bl (J.below a1);have aE:=Aa a3;clear a3;refine aE.out.mono ?_;rintro z az⟨K,b,f,d,h,rfl,S,T⟩;have aG:=Aa S;have aH:=Aa T;clear S T;clear aE;replace W:=W.below K O;replace E:=E.below K O;obtain⟨o,q,r,s,f0,f1,f2,f3⟩:=blk4 E;have ao:=τ a1 K;have bp:az.cell? (Δ x (D+1))=some (.int .u64 (l[1].toNat:Int)):=(ao.cell (p:=Δ x (D+1)) a0).trans bm;have bx:x≠w.heap.size+1:=O
 go_wp2_with fail
 have y:Fh l={pre:=Eu l[1].toNat,val:=l[2],labels:=(Lp 0 ((l.drop 4).take 16)),kids:=(N9 ((l.drop 4).take 16))}:=by
  rw[Fh,if_neg O,vF];simp[UB,show 1<l.length by omega,show 2<l.length by omega]
 have bd:(N9 ((l.drop 4).take 16)).length<=16:=by have:=YK ((l.drop 4).take 16);simp at this;omega
 have bt:(Lp 0 ((l.drop 4).take 16)).length<=16:=by rw[OG];exact bd
 have S:=aG.out;have T:=aH.out;clear aG aH;generalize(Lp 0 ((l.drop 4).take 16))=j at*;generalize(N9 ((l.drop 4).take 16))=i at*;have bw:=eY l[1].toNat;have F:=(E.AZ 2 (.slice b j.length f)).AZ 3 (.slice d i.length h);have X:=(W.far (g':=w.heap.size+1) O 2 (.slice b j.length f)).far (g':=w.heap.size+1) O 3 (.slice d i.length h);have aB:=(ao.setCell (p:=Δ (w.heap.size+1) 2) Θ (.slice b j.length f)).setCell (p:=Δ (w.heap.size+1) 3) Θ (.slice d i.length h);have a6:=AQ (AQ S (g:=w.heap.size+1) O 2 (.slice b j.length f)) (g:=w.heap.size+1) O 3 (.slice d i.length h);have a7:=AQ (AQ T (g:=w.heap.size+1) O 2 (.slice b j.length f)) (g:=w.heap.size+1) O 3 (.slice d i.length h);have bE:w.heap.size+2<=((az.setCell (Δ (w.heap.size+1) 2) (.slice b j.length f)).setCell (Δ (w.heap.size+1) 3) (.slice d i.length h)).heap.size:=by
  have:=K.size;simp only[DF,P7];omega
 clear S T W E ao o q r s f0 f1 f2 f3 bp K;generalize(az.setCell (Δ (w.heap.size+1) 2) (.slice b j.length f)).setCell (Δ (w.heap.size+1) 3) (.slice d i.length h)=bh at*;refine(Xv l[1].toNat bh (by have:=l[1].toNat_lt;simpa[KA]using this)).mono ?_;rintro z bb⟨L,a,e,bs,rfl,a5⟩;replace X:=X.ξ L;replace F:=F.ξ L;have ap:=τ aB L;obtain⟨o,q,r,s,f0,f1,f2,f3⟩:=blk4 F;have bq:bb.cell? (Δ x (D+2))=some (.int .u64 (l[2].toNat:Int)):=(ap.cell (p:=Δ x (D+2)) a0).trans (J.cellAt U O)
 go_wp2_with fail
 have m:=(F.AZ 0 (.slice a (Eu l[1].toNat).length e)).AZ 1 (.int .u64 (l[2].toNat:Int));have k:=(X.far (g':=w.heap.size+1) O 0 (.slice a (Eu l[1].toNat).length e)).far (g':=w.heap.size+1) O 1 (.int .u64 (l[2].toNat:Int));have bj:=(ap.setCell (p:=Φ (w.heap.size+1)) Θ (.slice a (Eu l[1].toNat).length e)).setCell (p:=Δ (w.heap.size+1) 1) Θ (.int .u64 (l[2].toNat:Int));have a9:=AQ (AQ (own_below a6 L) (g:=w.heap.size+1) O 0 (.slice a (Eu l[1].toNat).length e)) (g:=w.heap.size+1) O 1 (.int .u64 (l[2].toNat:Int));have ba:=AQ (AQ (own_below a7 L) (g:=w.heap.size+1) O 0 (.slice a (Eu l[1].toNat).length e)) (g:=w.heap.size+1) O 1 (.int .u64 (l[2].toNat:Int));have a8:=AQ (AQ a5 (g:=w.heap.size+1) O 0 (.slice a (Eu l[1].toNat).length e)) (g:=w.heap.size+1) O 1 (.int .u64 (l[2].toNat:Int));clear a5 a6 a7 X F aB ap o q r s f0 f1 f2 f3 bq;generalize(bb.setCell (Φ (w.heap.size+1)) (.slice a (Eu l[1].toNat).length e)).setCell (Δ (w.heap.size+1) 1) (.int .u64 (l[2].toNat:Int))=bi at*;have aw:=Rw a b d (Eu l[1].toNat).length e j.length f i.length h (Fh l) bi O O O (by rw[y];exact(CV a8).2) (by rw[y];exact(CV a9).2) (by rw[y];exact(CV ba).2);rw[show(Fh l).val=l[2]by rw[y]]at aw;have aD:=Aa aw;have be:=Aa y;clear aw y;obtain⟨o,q,r,s,f0,f1,f2,f3⟩:=blk4 m
 go_wp2_with fail
 refine aD.out.mono ?_;rintro z af⟨B,Y⟩;clear aD o q r s f0 f1 f2 f3;replace k:=k.ξ B;replace m:=m.ξ B;obtain⟨o,q,r,s,f0,f1,f2,f3⟩:=blk4 m;obtain⟨ah,al,am,an,Z,aa,ab,ac⟩:=blk4 k;have t:=τ bj B;cases u:Cf (Fh l)with
 |false=>
  rw[u]at Y;subst Y;have H:Hid (Ja l=false):=Aa (by rw[Ja,u];simp);clear u
  go_wp2_with fail
  have G:=((((k.AZ 0 (Ac none 0 0)).AZ 1 (Aw .u64 0)).AZ 2 (Ac none 0 0)).AZ 3 (Ac none 0 0));have L6:=(((t.setCell (p:=Φ w.heap.size) (Ad _) (Ac none 0 0)).setCell (p:=Δ w.heap.size 1) (Ad _) (Aw .u64 0)).setCell (p:=Δ w.heap.size 2) (Ad _) (Ac none 0 0)).setCell (p:=Δ w.heap.size 3) (Ad _) (Ac none 0 0);generalize(((af.setCell (Φ w.heap.size) (Ac none 0 0)).setCell (Δ w.heap.size 1) (Aw .u64 0)).setCell (Δ w.heap.size 2) (Ac none 0 0)).setCell (Δ w.heap.size 3) (Ac none 0 0)=aM at*;obtain⟨N,P,Q,R,_⟩:=blk4 G;refine bodyPost_ret (v:=.tuple #[.agg #[Ac none 0 0,Aw .u64 0,Ac none 0 0,Ac none 0 0],.bool false]) (by simp[results,results169,go_sem,N,P,Q,R]) rfl ?_;exact⟨L6,by rw[H.out];rfl⟩
 |true=>
  rw[u,if_pos rfl]at Y;obtain⟨bR,rfl,aL⟩:=Y;obtain⟨bc,bk,rfl,_,a4⟩:=CS aL;have a2:=Qn bc (some (Δ x D)) (DT (Fh l)).length 32 bk c (DT (Fh l)) l af (by rw[Fb];split<;>decide) U a4 (J.below t);have bA:(DT (Fh l)).length<=32:=by rw[Fb];split<;>decide
  generalize(DT (Fh l)).length=bN at*;have ad:=Aa a2;clear a2 aL a4;by_cases C:DT (Fh l)=l
  ·have H:Hid (Ja l=true):=Aa (by rw[Ja,u];simp[bo,C]);have I:Hid (decide (DT (Fh l)=l)=true):=Aa (by simp[C]);clear C u
   go_wp2_with fail
   refine ad.out.mono ?_;rintro z V⟨rfl,M⟩;have n:η af V:=M.below _;replace k:=k.ξ n;replace m:=m.ξ n;replace t:=τ t n;clear o q r s f0 f1 f2 f3 ah al am an Z aa ab ac M;obtain⟨o,q,r,s,f0,f1,f2,f3⟩:=blk4 m;obtain⟨ah,al,am,an,Z,aa,ab,ac⟩:=blk4 k;rw[I.out];clear ad I
   go_wp2_with fail
   have G:=((((k.AZ 0 (Ac a (Eu l[1].toNat).length e)).AZ 1 (Aw .u64 (l[2].toNat:Int))).AZ 2 (Ac b j.length f)).AZ 3 (Ac d i.length h));have L6:=(((t.setCell (p:=Φ w.heap.size) (Ad _) (Ac a (Eu l[1].toNat).length e)).setCell (p:=Δ w.heap.size 1) (Ad _) (Aw .u64 (l[2].toNat:Int))).setCell (p:=Δ w.heap.size 2) (Ad _) (Ac b j.length f)).setCell (p:=Δ w.heap.size 3) (Ad _) (Ac d i.length h);have aq:=AQ (AQ (AQ (AQ (own_below (own_below a8 B) n) (g:=w.heap.size) O 0 (Ac a (Eu l[1].toNat).length e)) (g:=w.heap.size) O 1 (Aw .u64 (l[2].toNat:Int))) (g:=w.heap.size) O 2 (Ac b j.length f)) (g:=w.heap.size) O 3 (Ac d i.length h);have ar:=AQ (AQ (AQ (AQ (own_below (own_below a9 B) n) (g:=w.heap.size) O 0 (Ac a (Eu l[1].toNat).length e)) (g:=w.heap.size) O 1 (Aw .u64 (l[2].toNat:Int))) (g:=w.heap.size) O 2 (Ac b j.length f)) (g:=w.heap.size) O 3 (Ac d i.length h);have av:=AQ (AQ (AQ (AQ (own_below (own_below ba B) n) (g:=w.heap.size) O 0 (Ac a (Eu l[1].toNat).length e)) (g:=w.heap.size) O 1 (Aw .u64 (l[2].toNat:Int))) (g:=w.heap.size) O 2 (Ac b j.length f)) (g:=w.heap.size) O 3 (Ac d i.length h);generalize(((V.setCell (Φ w.heap.size) (Ac a (Eu l[1].toNat).length e)).setCell (Δ w.heap.size 1) (Aw .u64 (l[2].toNat:Int))).setCell (Δ w.heap.size 2) (Ac b j.length f)).setCell (Δ w.heap.size 3) (Ac d i.length h)=aM at*;obtain⟨N,P,Q,R,_⟩:=blk4 G;refine bodyPost_ret (v:=.tuple #[.agg #[Ac a (Eu l[1].toNat).length e,Aw .u64 (l[2].toNat:Int),Ac b j.length f,Ac d i.length h],.bool true]) (by simp[results,results169,go_sem,N,P,Q,R]) rfl ?_;refine⟨L6,?_⟩;rw[H.out,if_pos rfl,be.out];exact⟨a,e,b,f,d,h,rfl,(CV aq).1,(CV ar).1,(CV av).1,(CV aq).2,(CV ar).2,(CV av).2,Ui aq O,Ui ar O,Ui av O⟩
  ·have H:Hid (Ja l=false):=Aa (by rw[Ja,u];simp[C]);have I:Hid (decide (DT (Fh l)=l)=false):=Aa (by simp[C]);clear C u
   go_wp2_with fail
   refine ad.out.mono ?_;rintro z V⟨rfl,M⟩;have n:η af V:=M.below _;replace k:=k.ξ n;replace m:=m.ξ n;replace t:=τ t n;clear o q r s f0 f1 f2 f3 ah al am an Z aa ab ac M;obtain⟨o,q,r,s,f0,f1,f2,f3⟩:=blk4 m;obtain⟨ah,al,am,an,Z,aa,ab,ac⟩:=blk4 k;rw[I.out];clear ad I
   go_wp2_with fail
   have G:=((((k.AZ 0 (Ac none 0 0)).AZ 1 (Aw .u64 0)).AZ 2 (Ac none 0 0)).AZ 3 (Ac none 0 0));have L6:=(((t.setCell (p:=Φ w.heap.size) (Ad _) (Ac none 0 0)).setCell (p:=Δ w.heap.size 1) (Ad _) (Aw .u64 0)).setCell (p:=Δ w.heap.size 2) (Ad _) (Ac none 0 0)).setCell (p:=Δ w.heap.size 3) (Ad _) (Ac none 0 0);generalize(((V.setCell (Φ w.heap.size) (Ac none 0 0)).setCell (Δ w.heap.size 1) (Aw .u64 0)).setCell (Δ w.heap.size 2) (Ac none 0 0)).setCell (Δ w.heap.size 3) (Ac none 0 0)=aM at*;obtain⟨N,P,Q,R,_⟩:=blk4 G;refine bodyPost_ret (v:=.tuple #[.agg #[Ac none 0 0,Aw .u64 0,Ac none 0 0,Ac none 0 0],.bool false]) (by simp[results,results169,go_sem,N,P,Q,R]) rfl ?_;exact⟨L6,by rw[H.out];rfl⟩
def jE(A:Option Addr)(n c:Nat)(l:List UInt64)(w:World)(_hn:n<=1000000)(k:Ws w A n l)(d:n≠8)(b:n≠32):
 Calls prog 169 #[.slice A n c] w (Yu l w):=by
 have o:=k.len;have g:Hid (Ja l=false):=Aa (by rw[Ja,o];simp[d,b]);have t8:((n:Int)==8)=false:=by simp;omega
 have t32:((n:Int)==32)=false:=by simp;omega
 obtain⟨i,e,a,x,m,z⟩:=Wj w 195 (.slice none 0 0) (.int .u64 0);obtain⟨F,G,H,I,B,C,D,E⟩:=blk4 a;have h:=Aa e;clear e d b;go_enter func169,ntmps169
 go_wp2_with fail
 rw[<-h.out];refine(Jz 1 _).mono ?_;rintro j u⟨rfl,rfl⟩;rw[show LM 1=8 from rfl]
 go_wp2_with fail
 refine(Jz 2 _).mono ?_;rintro j u⟨rfl,rfl⟩;rw[show LM 2=32 from rfl]
 go_wp2_with fail
 have f:=((((a.AZ 0 (Ac none 0 0)).AZ 1 (Aw .u64 0)).AZ 2 (Ac none 0 0)).AZ 3 (Ac none 0 0));have L6:=(((m.setCell (p:=Φ w.heap.size) (Ad _) (Ac none 0 0)).setCell (p:=Δ w.heap.size 1) (Ad _) (Aw .u64 0)).setCell (p:=Δ w.heap.size 2) (Ad _) (Ac none 0 0)).setCell (p:=Δ w.heap.size 3) (Ad _) (Ac none 0 0);generalize(((i.setCell (Φ w.heap.size) (Ac none 0 0)).setCell (Δ w.heap.size 1) (Aw .u64 0)).setCell (Δ w.heap.size 2) (Ac none 0 0)).setCell (Δ w.heap.size 3) (Ac none 0 0)=y at*;obtain⟨q,r,s,t,_⟩:=blk4 f;refine bodyPost_ret (v:=.tuple #[.agg #[Ac none 0 0,Aw .u64 0,Ac none 0 0,Ac none 0 0],.bool false]) (by simp[results,results169,go_sem,q,r,s,t]) rfl ?_;exact⟨L6,by rw[g.out];rfl⟩
def decode_any(A:Option Addr)(n c:Nat)(l:List UInt64)(w:World)(f:n<=1000000)(e:n<=c)(a:Ws w A n l):
 Calls prog 169 #[.slice A n c] w (Yu l w):=by
 by_cases d:n=8
 ·subst d;exact Ajo A c l w e a
 ·by_cases b:n=32
  ·subst b;exact Afq A c l w e a
  ·exact jE A n c l w f a d b
def Yd(x:Nd)(b:UInt8):Value:=
 match x.labels.findIdx? (λc=>c.toNat==b.toNat)with
 |some a=>if Cf x then .tuple #[.int .u64 ((x.kids.getD a 0).toNat:Int),.int .i64 (if x.kids.length<=4 then 4+(a:Int)else 4+(b.toNat:Int)),.bool true]else .tuple #[.int .u64 0,.int .i64 0,.bool false]
 |none=>.tuple #[.int .u64 0,.int .i64 0,.bool false]
def Afr(o h i:Option Addr)(m y g q e r:Nat)(x:Nd)(a:UInt8)(w:World)(U:m<=1000000)(V:g<=1000000)(W:e<=1000000)(h1:Bs w o m x.pre)(h2:Bs w h g x.labels)(h3:Ws w i e x.kids):
 Calls prog 143 #[.agg #[.slice o m y,.int .u64 (x.val.toNat:Int),.slice h g q,.slice i e r],.int .u8 (a.toNat:Int)] w λj C=>j=.returned (Yd x a)/\η w C:=by
 have ah:=h1.len;have al:=h2.len;have Z:=h3.len;have am:a.toNat<256:=a.toNat_lt;obtain⟨F,K,G,H,I,J,f,ap⟩:=Afp w 195 (.slice o m y) (.int .u64 (x.val.toNat:Int)) (.slice h g q) (.slice i e r);have M:=Uh h g q x.labels a F O (h2.below f);have N:=LP o h i m y g q e r x F U V W (h1.below f) (h2.below f) (h3.below f);have E:=Aa K;have v:=Aa M;have T:=Aa N;clear K M N;cases d:x.labels.findIdx? (λn=>n.toNat==a.toNat)with
 |none=>
  have l:placeOf (λn=>n.toNat==a.toNat) x.labels= -1:=by rw[placeOf,d]
  have c:Hid (Yd x a=.tuple #[.int .u64 0,.int .i64 0,.bool false]):=Aa (by rw[Yd,d]);have p:=Aa l;clear l d;go_enter func143,ntmps143
  go_wp2_with fail
  rw[<-E.out];refine v.out.mono ?_;rintro j C⟨rfl,rfl⟩;rw[p.out]
  go_wp2_with fail
  go_ret3
  exact⟨by rw[c.out];rfl,f⟩
 |some b=>
  have af:decide ((b:Int)<0)=false:=by simp
  have l:placeOf (λn=>n.toNat==a.toNat) x.labels=(b:Int):=by rw[placeOf,d]
  have X:b<g:=by
   rw[List.findIdx?_eq_some_iff_getElem]at d;obtain⟨X,_⟩:=d;omega
  have p:=Aa l;have D:=Aa d;clear l d;go_enter func143,ntmps143
  go_wp2_with fail
  rw[<-E.out];refine v.out.mono ?_;rintro j C⟨rfl,rfl⟩;rw[p.out];clear v p
  go_wp2_with fail
  refine T.out.mono ?_;rintro j ab⟨rfl,z⟩;obtain⟨P,Q,R,S,aa⟩:=PH G H I J O z;have u:=τ f z;clear T G H I J f z;cases k:Cf x with
  |false=>
   have c:Hid (Yd x a=.tuple #[.int .u64 0,.int .i64 0,.bool false]):=Aa (by rw[Yd,D.out];simp[k]);clear k
   go_wp2_with fail
   go_ret3
   exact⟨by rw[c.out];rfl,u⟩
  |true=>
   have an:=((Bv x).1 k).2.2.1;have Y:b<e:=O;have L:x.kids.getD b 0=x.kids[b]' O:=by simp[UB,show b<x.kids.length by omega]
   have B:Yd x a=.tuple #[.int .u64 ((x.kids.getD b 0).toNat:Int),.int .i64 (if x.kids.length<=4 then 4+(b:Int)else 4+(a.toNat:Int)),.bool true]:=by rw[Yd,D.out];simp[k]
   rw[Z,L]at B;clear L;have c:=Aa B;clear B k
   go_wp2_with fail
   refine(Wi _ _ _ i e r ab O).mono ?_;rintro j aD⟨rfl,A⟩;obtain⟨av,aw,az,aB,aq⟩:=PH P Q R S aa A;have t:=τ u A;clear P Q R S u A;obtain⟨ao,ac,ar,rfl,_,ad⟩:=(h3.below t).at Y;by_cases s:e<=4
   ·rw[if_pos s]at c;rw[if_pos s]
    go_wp2_with fail
    go_ret3
    exact⟨by rw[c.out];rfl,t⟩
   ·rw[if_neg s]at c;rw[if_neg s]
    go_wp2_with fail
    go_ret3
    exact⟨by rw[c.out];rfl,t⟩
