import Derived.Laws.CopyOwn
import Derived.Test.YtfmkofmaabgbkaaGreatDoorJ02
set_option linter.defProp false
set_option maxHeartbeats 32000000
set_option maxRecDepth 100000
open Array renaming getElem?_eq_some_iff->AA,getElem?_push->GH,size_modify->Qh
open Nat renaming le_refl->Ae,zero_add->DI,min_eq_left->NW,zero_le->BA,le_trans->Bq
open List renaming getElem?_eq_getElem->Ah,take_of_length_le->EL,map_cons->BM,map_nil->FP,replicate->BB,map_append->CE,length_map->CZ,length_append->AP,getD->VD
open Go.World renaming setCell->D9,ownsRow_nil->CP
open Go.Value renaming ownBlock->AV,int->Aw,oneCell'->Ak8,slice->Ad
open UInt64 renaming ofNat->Az,toNat_ofNat_of_lt'->GY,size->KO
open Go.Lib renaming hid->Ac
open Go.Value renaming slice->fD,int->fP,bool->fU,tuple->gJ,agg->gU
open Go.Ending renaming returned->gY
open Go.IntKind renaming i64->gZ,u64->ig
open Go.Obj renaming cells->iy
open Option renaming some->iC,none->iD
open Bool renaming false->jw
open Go renaming World->jD,Value->jL
namespace Go.Proofs.YtfmkofmaabgbkaaGreatDoor
open Go.RowKit
open Go.Proofs.Tryz
def CB(w:jD)(g:Nat)(e:TypeId)(xs:List jL):Prop:=w.heap[g]?=iC (iy xs.toArray e (0,0))
def CB.lt{w:jD}{g:Nat}{e:TypeId}{xs:List jL}(h:CB w g e xs):g<w.heap.size:=(AA.1 h).1
def CB.cell{w:jD}{g:Nat}{e:TypeId}{xs:List jL}(h:CB w g e xs)(i:Nat):w.cell? (Δ g i)=xs[i]?:=by
 rw[cell_of_row w g i _ e (0,0) h];simp
def CB.p1{w:jD}{g:Nat}{e:TypeId}{a:jL}{l:List jL}(h:CB w g e (a::l)):w.cell? (Φ g)=iC a:=h.cell 0
def CB.p2{w:jD}{g:Nat}{e:TypeId}{a b:jL}{l:List jL}(h:CB w g e (a::b::l)):w.cell? (Φ g)=iC a/\w.cell? (Δ g 1)=iC b:=⟨h.cell 0,h.cell 1⟩
def CB.p3{w:jD}{g:Nat}{e:TypeId}{a b c:jL}{l:List jL}(h:CB w g e (a::b::c::l)):w.cell? (Φ g)=iC a/\w.cell? (Δ g 1)=iC b/\w.cell? (Δ g 2)=iC c:=⟨h.cell 0,h.cell 1,h.cell 2⟩
def CB.p4{w:jD}{g:Nat}{e:TypeId}{a b c d:jL}{l:List jL}(h:CB w g e (a::b::c::d::l)):w.cell? (Φ g)=iC a/\w.cell? (Δ g 1)=iC b/\w.cell? (Δ g 2)=iC c/\w.cell? (Δ g 3)=iC d:=⟨h.cell 0,h.cell 1,h.cell 2,h.cell 3⟩
def CB.p5{w:jD}{g:Nat}{e:TypeId}{a b c d f:jL}{l:List jL}(h:CB w g e (a::b::c::d::f::l)):w.cell? (Φ g)=iC a/\w.cell? (Δ g 1)=iC b/\w.cell? (Δ g 2)=iC c/\w.cell? (Δ g 3)=iC d/\w.cell? (Δ g 4)=iC f:=⟨h.cell 0,h.cell 1,h.cell 2,h.cell 3,h.cell 4⟩
def newB(w:jD)(e:TypeId)(xs:List jL):∃a,a=w.alloc (iy xs.toArray e)/\η w a/\CB a w.heap.size e xs:=⟨_,rfl,(Below.refl _ _).alloc (Ae _) _,heap_alloc_new _ _⟩
def CB.has{w:jD}{g:Nat}{e:TypeId}{xs:List jL}(h:CB w g e xs){i:Nat}(hi:i<xs.length):w.cell? (Δ g i)=iC xs[i]:=by
 rw[h.cell,Ah hi]
def CB.frozen{w:jD}{g:Nat}{e:TypeId}{xs:List jL}(h:CB w g e xs)(i:Nat):w.frozen? (Δ g i)=jw:=by
 unfold CB at h;simp[World.frozen?,h]
def CB.AX{w:jD}{g:Nat}{e:TypeId}{xs:List jL}(h:CB w g e xs)(i:Nat)(u:jL):CB (w.setCell (Δ g i) u) g e (xs.set i u):=by
 unfold CB at h⊢;simp[D9,Array.getElem?_modify,h]
def CB.drew{w:jD}{g:Nat}{e:TypeId}{xs:List jL}(h:CB w g e xs):CB w.drew g e xs:=h
def CB.below{w w':jD}{g B:Nat}{e:TypeId}{xs:List jL}(h:CB w g e xs)(a:Below B w w')(b:g<B):CB w' g e xs:=(a.block g b).trans h
def CB.ξ{w a:jD}{g:Nat}{e:TypeId}{xs:List jL}(h:CB w g e xs)(k:Below w.heap.size w a):CB a g e xs:=h.below k h.lt
def CB.rd{w:jD}{g:Nat}{e:TypeId}{xs:List jL}(h:CB w g e xs):Rd w (iC (Φ g)) xs.length xs:=
 ⟨rfl,λ_=>⟨g,0,rfl,h.lt,λa _=>by rw[DI,h.cell]⟩⟩
def CB.own{w:jD}{g B:Nat}{e:TypeId}{xs:List jL}(h:CB w g e xs)(a:B<=g)(b:xs.length<=maxLen):w.ownsRow B e 1 (fD (iC (Φ g)) xs.length xs.length) xs.length xs:=
 ⟨by simp,.inr ⟨g,xs.length,xs.toArray,rfl,a,h,Ae _,b,by simp,by simp⟩⟩
def ZL{w:jD}{B g n:Nat}{e:TypeId}{xs:List jL}(h:w.ownsRow B e 1 (fD (iC (Φ g)) n n) n xs):CB w g e xs:=by
 rcases h.2 with⟨b,_⟩|⟨k,i,j,a,_,d,_,_,c,f⟩
 ·cases b
 ·simp only[Value.slice.injEq,Option.some.injEq,Addr.mk.injEq,and_true,true_and]at a;obtain⟨rfl,rfl⟩:=a;unfold CB;rw[d];congr 2;rw[<-f,EL (by simp[c])]
def Qr{e f:jD}{g:Nat}{a b c d:jL}(e0:e.cell? (Φ g)=iC a)(k:e.cell? (Δ g 1)=iC b)(l:e.cell? (Δ g 2)=iC c)(m:e.cell? (Δ g 3)=iC d)
 (j:g<e.heap.size)(i:η e f):
 f.cell? (Φ g)=iC a/\f.cell? (Δ g 1)=iC b/\f.cell? (Δ g 2)=iC c/\f.cell? (Δ g 3)=iC d/\g<f.heap.size:=
 ⟨(i.cell (p:=Φ g) j).trans e0,(i.cell (p:=Δ g 1) j).trans k,(i.cell (p:=Δ g 2) j).trans l,(i.cell (p:=Δ g 3) j).trans m,Nat.lt_of_lt_of_le j i.size⟩
def Adq{e f:jD}{g B:Nat}{a b c d:jL}(e0:e.cell? (Φ g)=iC a)(k:e.cell? (Δ g 1)=iC b)(l:e.cell? (Δ g 2)=iC c)(m:e.cell? (Δ g 3)=iC d)
 (i:g<B)(j:Below B e f):
 f.cell? (Φ g)=iC a/\f.cell? (Δ g 1)=iC b/\f.cell? (Δ g 2)=iC c/\f.cell? (Δ g 3)=iC d/\True:=
 ⟨(j.cell (p:=Φ g) i).trans e0,(j.cell (p:=Δ g 1) i).trans k,(j.cell (p:=Δ g 2) i).trans l,(j.cell (p:=Δ g 3) i).trans m,trivial⟩
def Rh{e:jD}{g g':Nat}{a b c d:jL}(e0:e.cell? (Φ g)=iC a)(k:e.cell? (Δ g 1)=iC b)(l:e.cell? (Δ g 2)=iC c)(m:e.cell? (Δ g 3)=iC d)
 (n:g<e.heap.size)(o:g≠g')(i:Nat)(u:jL):
 (e.setCell (Δ g' i) u).cell? (Φ g)=iC a/\(e.setCell (Δ g' i) u).cell? (Δ g 1)=iC b/\(e.setCell (Δ g' i) u).cell? (Δ g 2)=iC c/\(e.setCell (Δ g' i) u).cell? (Δ g 3)=iC d/\g<(e.setCell (Δ g' i) u).heap.size:=by
 have j:∀f,(e.setCell (Δ g' i) u).cell? (Δ g f)=e.cell? (Δ g f):=λf=>
  World.cell?_of_block (w:=e) (a:=Δ g f) (Below.heap_setCell e (Δ g' i) u g o)
 exact⟨(j 0).trans e0,(j 1).trans k,(j 2).trans l,(j 3).trans m,by simpa[D9]using n⟩
def Adr{w:jD}{A:Option Addr}{n:Nat}{l:List UInt64}(h:Ws w A n l){d:Option Addr}{g off:Nat}(i:d=iC (Δ g off):=by rfl):
 0<(l.map wv).length->d=iC (Δ g off)/\∃c,A=iC c/\∀a b,(l.map wv)[a]?=iC b->w.cell? (c.add a)=iC b:=by
 intro k;obtain⟨j,m,rfl,_,f⟩:=h.2 (Ω h.1);refine⟨i,_,rfl,λa b e=>?_⟩;rw[Addr.add_lit,f a (Ψ ((List.getElem?_eq_some_iff.1 e).1) h.1),e]
def Kept(w w':jD)(row:Option Nat):Prop:=w.heap.size<=w'.heap.size/\∀a,a<w.heap.size->iC a≠row->w'.heap[a]?=w.heap[a]?
def OD{w w':jD}{b:Nat}{e:TypeId}{v:jL}{n:Nat}{xs:List jL}{row:Option Nat}(h:w.ownsRow b e 1 v n xs)(k:Kept w w' row)(l:∀a,v.ownBlock=iC a->row≠iC a):w'.ownsRow b e 1 v n xs:=by
 refine⟨h.1,?_⟩;rcases h.2 with h|⟨a,f,g,c,i,d,j⟩
 ·exact .inl h
 ·exact .inr ⟨a,f,g,c,i,by
   rw[k.2 a (AA.1 d).1 (λe=>l a (by rw[c];rfl) e.symm)];exact d,j⟩
def Oq{w:jD}{j k:Nat}{e f:TypeId}{g i:jL}{o p:Nat}{q r:List jL}(h1:w.ownsRow j e 1 g o q)(h2:w.ownsRow k f 1 i p r)(m:e≠f):
 ∀b,g.ownBlock=iC b->i.ownBlock≠iC b:=by
 intro b c d;rcases h1.2 with⟨rfl,_⟩|⟨v,t,y,rfl,_,l,_⟩
 ·simp[AV]at c
 ·rcases h2.2 with⟨rfl,_⟩|⟨x,u,s,rfl,_,a,_⟩
  ·simp[AV]at d
  ·simp[AV]at c d;subst c d;rw[l]at a;injection a with a
   injection a with _ n
   exact m n
def qM{P:Program}{t e:TypeId}{z:jL}{bytes:Nat}(p:Nv P t e z bytes)(y:TypeId){w wr:jD}{d:Nat}{v:jL}{n:Nat}{xs a:List jL}
 (u:wr.ownsRow d e 1 v n xs)(b:w.heap=wr.heap.push (iy a.toArray e))(K:w.os=wr.os)(N:w.tape=wr.tape)(L:w.output=wr.output)
 (h1:∀k∈a,k.oneCell'=true)(I:n+a.length<=1000000000)(E:bytes<=64)(D:d<=wr.heap.size)(m c:Nat)(J:m=a.length):
 ∃o i,(Builtin.append_ #[t,t] y #[v,fD (iC (Φ wr.heap.size)) m c]).run P w=.ok o i/\i.ownsRow d e 1 o (n+m) (xs++a)/\Below d wr i/\Kept wr i v.ownBlock:=by
 subst J;obtain⟨V,G,R,S,T⟩:=info_parts p.hi;have r:η wr w:=⟨K,N,L,by rw[b];simp,λj l=>by rw[b,GH,ku O]⟩;have x:w.ownsRow d e 1 v n xs:=by
  refine⟨u.1,?_⟩;rcases u.2 with h|⟨s,A,B,h1,q,f,C⟩
  ·exact .inl h
  ·exact .inr ⟨s,A,B,h1,q,by rw[r.block s (AA.1 f).1];exact f,C⟩
 have F:∀g k,a[g]?=iC k->w.cell? (((Φ wr.heap.size):Addr).add g)=iC k:=by
  intro g k Q;rw[show((Φ wr.heap.size):Addr).add g=(Δ wr.heap.size (0+g))from Addr.add_lit _ _ _];rw[cell_of_row w wr.heap.size (0+g) a.toArray e (0,0) (by rw[b,GH,jM rfl])];simpa using Q
 have W:(n+a.length)*bytes<=1000000000*64:=Nat.mul_le_mul I E;obtain⟨o,i,M,q,f,_⟩:=run_append_own (P:=P) w d t y e V z 1 bytes p.ht G R S T p.hz U v n xs x _ a.length c a Θ F h1
  (by unfold maxLen;omega) O (by rw[b];simp;omega)
 refine⟨o,i,M,q,(r.mono D).trans ?_,?_,?_⟩
 ·exact(Below.refl _ _).grown f (by rw[b];simp;omega) (λj l=>(x.lt j l).1)
 ·have:=f.size;rw[b]at this;simp at this;omega
 ·intro j l H;rw[f.block j (by rw[b];simp;omega) H,r.block j l]
def IG{P:Program}{j:Array Oper}{rest:List Oper}{o:Oper}{a:Act}{w:jD}{i:Exit->Act->jD->Prop}(z:o.guard=iD)(s x:Operand)(t:TypeId)
 (C:o.op=.call {callee:=.builtin .append,args:= #[s,x],argTypes:= #[t,t]}){e:TypeId}{M:jL}{bytes:Nat}(k:Nv P t e M bytes)
 (wr:jD)(f:Nat)(v:jL)(n:Nat)(xs d:List jL)(H:a.eval s=v)(F:wr.ownsRow f e 1 v n xs)(J:w.heap=wr.heap.push (iy d.toArray e))
 (D:w.os=wr.os)(I:w.tape=wr.tape)(E:w.output=wr.output)
 (m c:Nat)(K:a.eval x=fD (iC (Φ wr.heap.size)) m c)(B:m=d.length)
 (h1:∀L∈d,L.oneCell'=true)(A:n+d.length<=1000000000)(y:bytes<=64)(u:f<=wr.heap.size)
 (h:∀g b,b.ownsRow f e 1 g (n+m) (xs++d)->Below f wr b->Kept wr b v.ownBlock->wpList P j i rest (a.put o.dst g) b):wpList P j i (o::rest) a w:=by
 refine wpList_plain z λN r=>?_
 obtain⟨g,b,G,l,p,q⟩:=qM k o.type F J D I E h1 A y u m c B;unfold Oper.wp execOp;simp only[C,resolve,invoke,builtin,Sem.run_bind,Sem.run_pure,Result.andThen_ok,List.map_toArray,BM,FP,H,K,G];exact r _ _ (h g b l p q)
def own_below{w w':jD}{a:Nat}{e:TypeId}{v:jL}{n:Nat}{xs:List jL}(h:w.ownsRow a e 1 v n xs)(b:η w w'):w'.ownsRow a e 1 v n xs:=
 OD h (row:=iD) ⟨b.size,λd c _=>b.block d c⟩ Θ
def EU{w:jD}{a base':Nat}{e:TypeId}{v:jL}{n:Nat}{xs:List jL}(h:w.ownsRow a e 1 v n xs)(j:base'<=a):w.ownsRow base' e 1 v n xs:=by
 refine⟨h.1,?_⟩;rcases h.2 with h|⟨d,b,c,f,i,g⟩
 ·exact .inl h
 ·exact .inr ⟨d,b,c,f,O,g⟩
def CQ{w:jD}{a:Nat}{e:TypeId}{A:Option Addr}{c:Nat}{n:Nat}{xs:List jL}(h:w.ownsRow a e 1 (fD A n c) n xs):n<=c/\Rd w A n xs:=by
 obtain⟨i,j,e,f,g⟩:=Cj h;injection e with b k d
 subst b d;exact⟨f,g⟩
def AO{w:jD}{b:Nat}{e:TypeId}{v:jL}{n:Nat}{xs:List jL}(h:w.ownsRow b e 1 v n xs){g:Nat}(c:g<b)(i:Nat)(u:jL):(w.setCell (Δ g i) u).ownsRow b e 1 v n xs:=
 ownsRow_setCell_below h (a:=Δ g i) c u
def Ws.cellAt{w:jD}{b off n:Nat}{l:List UInt64}(h:Ws w (iC (Δ b off)) n l){k:Nat}(f:k<n)(g:k<l.length):w.cell? (Δ b (off+k))=iC (fP ig (l[k].toNat:Int)):=by
 obtain⟨i,m,a,_,e⟩:=h.2 O;injection a with a
 injection a with c d j
 subst c d;rw[e k f];simp[g,wv]
def qN(n:Nat)(h:n<18446744073709551616):wv (Az n)=fP ig (n:Int):=by
 rw[wv,GY (by simpa[KO]using h)]
def yu(x:Nd)(h:x.kids.length<=4):(DL x).map wv=splice ((((((BB 8 (0:UInt64)).map wv).set 0 (fP ig (1+256*(x.kids.length:Int)))).set 1 (fP ig ((Gv x.pre).toNat:Int))).set 2 (fP ig (x.val.toNat:Int))).set 3 (fP ig ((Gv x.labels).toNat:Int))) 4 (x.kids.map wv):=by
 rw[DL,jM h,encS];have b:wv (Az (1+256*x.kids.length))=fP ig (1+256*(x.kids.length:Int)):=by rw[qN _ O];simp
 simp only[splice,CE,BM,FP,b,CZ,List.map_replicate];obtain⟨a,c⟩:=ε x.kids.length;rw[<-c]at h⊢;have:a=0\/a=1\/a=2\/a=3\/a=4:=O;rcases this with rfl|rfl|rfl|rfl|rfl<;>simp[BB,wv]
def Ads(x:Nd)(h:x.kids.length<=1000000):(CO (headB x) (x.labels.take 0) (x.kids.take 0)).map wv=((((BB 32 (0:UInt64)).map wv).set 0 (fP ig (2+256*(x.kids.length:Int)))).set 1 (fP ig ((Gv x.pre).toNat:Int))).set 2 (fP ig (x.val.toNat:Int)):=by
 have a:wv (Az (2+256*x.kids.length))=fP ig (2+256*(x.kids.length:Int)):=by rw[qN _ O];simp
 simp only[List.take_zero,CO,headB,CE,BM,FP,a];simp[BB,wv]
def qO(x:Nd)(k:Nat)(h1:k<x.labels.length)(h2:k<x.kids.length):
 (CO (headB x) (x.labels.take (k+1)) (x.kids.take (k+1))).map wv=((CO (headB x) (x.labels.take k) (x.kids.take k)).map wv).set (4+x.labels[k].toNat) (fP ig (x.kids[k].toNat:Int)):=by
 rw[P5 _ _ _ k h1 h2,List.map_set];rfl
def Tryz.qP:(prog.info? 40).map (λa=>(a.zero,a.size,a.bytes))=iC (iC (fP ig 0),1,8):=by kernel_rfl
def Als(x:Nd)(w:jD)(e:Ending)(w':jD):Prop:=
 η w w'/\(if BU x then∃a,e=gY (gJ #[a,fU true])/\w'.ownsRow w.heap.size 40 1 a (DL x).length ((DL x).map wv)
  else e=gY (gJ #[fD iD 0 0,fU jw]))
def Td(u D o:Option Addr)(k H g W c I:Nat)(x:Nd)(w:jD)(ch:k<=1000000)(ci:g<=1000000)(cj:c<=1000000)(h1:Bs w u k x.pre)(h2:Bs w D g x.labels)(h3:Ws w o c x.kids):
 Calls prog 195 #[gU #[fD u k H,fP ig (x.val.toNat:Int),fD D g W,fD o c I]] w (Als x w):=by
 obtain⟨A,bR,b0,b1,b2⟩:=info_parts Tryz.qP;have bS:=h1.len;have cn:=h2.len;have Z:=h3.len;obtain⟨y,bN,bC,bD,bE,bG,K,cp⟩:=Ahi w 174 (fD u k H) (fP ig (x.val.toNat:Int)) (fD D g W) (fD o c I);have bH:=h1.below K;have bJ:=h2.below K;have X:=h3.below K;have bx:=Ac bN;clear bN;have b3:=MJ u D o k H g W c I x y ch ci cj bH bJ X;have bw:=Ac b3;clear b3;go_enter func195,ntmps195
 go_wp2_with fail
 rw[<-bx.out];refine bw.mono ?_;rintro z bB⟨rfl,al⟩;clear bw bx;obtain⟨aX,aZ,a0,a4,bY⟩:=Qr bC bD bE bG O al;clear bC bD bE bG;have ad:η w bB:=τ K al;clear K al cp bH bJ X;cases Y:BU x with
 |false=>
  have v:=Ac Y;clear Y
  go_wp2_with fail
  go_ret2;exact⟨ad,by rw[v.out];rfl⟩
 |true=>
  have v:=Ac Y;clear Y
  go_wp2_with fail
  refine(Xt _ _ _ o c I bB O).mono ?_;rintro z a⟨rfl,am⟩;obtain⟨R,S,T,V,ap⟩:=Qr aX aZ a0 a4 bY am;clear aX aZ a0 a4;have m:=τ ad am;clear ad am bY;by_cases ah:c<=4
  ·rw[jM ah]
   go_wp2_with fail
   refine(JB 1 a).mono ?_;rintro z aa⟨rfl,rfl⟩;rw[show MI 1=8 from rfl]
   go_wp2_with
    (at_make
     refine wpList_make_full _ rfl _ _ 89 rfl w.heap.size 40 A (fP ig 0) 1 underlying89 bR b0 b1 gZ gZ _ _ 8 rfl rfl rfl rfl (by rw[b2];omega) U (by exact m.size) ?_;intro l N M;have s:η a l:=(Below.refl _ _).grown M (Ae _) Θ;obtain⟨a5,a6,a7,a8,e⟩:=Qr R S T V ap s;clear R S T V;have r:=τ m s;have b:CB l a.heap.size 40 ((BB 8 (0:UInt64)).map wv):=by rw[<-Me];exact ZL N
     have A:=b.has (i:=0) Θ;have av:=b.has (i:=1) Θ;have aw:=b.has (i:=2) Θ;have P:=b.has (i:=3) Θ;have f0:=b.frozen 0;have f1:=b.frozen 1;have f2:=b.frozen 2;have f3:=b.frozen 3;have n:w.heap.size≠a.heap.size:=O;have f:=m.size;clear N M s m)
   have aq:=(Bh x).1 v.out;obtain⟨az,C,aD,Q,_,_⟩:=aq;have t:=VT u k H x.pre (l.setCell (Φ a.heap.size) (fP ig (1+256*(c:Int)))) O (h1.below (r.setCell (p:=Φ a.heap.size) f _)) C;have J:=VP x.pre 15 az C;rw[Nc]at J;have ac:Hid (((k+16*Fa x.pre:Nat):Int)=((Gv x.pre).toNat:Int)):=Ac (by rw[Gv,bS,GY (by simp[KO];omega)]);rw[ac.out]at t;have E:=Ac t;have ae:Hid (g<=4):=Ac O;clear t aD J;refine E.mono ?_;rintro z aa⟨rfl,rfl⟩;clear E
   go_wp2_with fail
   have q:=((b.AX 0 (fP ig (1+256*(c:Int)))).AX 1 (fP ig ((Gv x.pre).toNat:Int))).AX 2 (fP ig (x.val.toNat:Int));have G:=((r.setCell (p:=Φ a.heap.size) f (fP ig (1+256*(c:Int)))).setCell (p:=Δ a.heap.size 1) f (fP ig ((Gv x.pre).toNat:Int))).setCell (p:=Δ a.heap.size 2) f (fP ig (x.val.toNat:Int));obtain⟨a9,ba,bb,bc,e⟩:=Rh a5 a6 a7 a8 e n 0 (fP ig (1+256*(c:Int)));clear a5 a6 a7 a8;obtain⟨bd,be,bg,bh,e⟩:=Rh a9 ba bb bc e n 1 (fP ig ((Gv x.pre).toNat:Int));clear a9 ba bb bc;obtain⟨bi,bj,bk,bl,e⟩:=Rh bd be bg bh e n 2 (fP ig (x.val.toNat:Int));clear bd be bg bh;clear A av aw P f0 f1 f2 f3 r b;generalize(((l.setCell (Φ a.heap.size) (fP ig (1+256*(c:Int)))).setCell (Δ a.heap.size 1) (fP ig ((Gv x.pre).toNat:Int))).setCell (Δ a.heap.size 2) (fP ig (x.val.toNat:Int)))=F at*;have an:=VT D g W x.labels F (Ω ae.out) (h2.below G) Q;have bL:=VP x.labels 15 (Ω ae.out) Q;rw[Nc]at bL;have ca:Hid (((g+16*Fa x.labels:Nat):Int)=((Gv x.labels).toNat:Int)):=Ac (by rw[Gv,cn,GY (by have:=ae.out;simp[KO];omega)]);rw[ca.out]at an;have bt:=Ac an;have P:=q.has (i:=3) Θ;have f3:=q.frozen 3;clear an bL;refine bt.mono ?_;rintro z aa⟨rfl,rfl⟩;clear bt;have b9:=q.AX 3 (fP ig ((Gv x.labels).toNat:Int));have bA:=G.setCell (p:=Δ a.heap.size 3) f (fP ig ((Gv x.labels).toNat:Int));have cD:∀y,(Instr.slice 89 (fD (iC (Φ a.heap.size)) 8 8) (iC (fP gZ 4)) iD iD).run prog y=.ok (fD (iC (Δ a.heap.size 4)) 4 4) y:=λy=>by
    have:=Aha Tryz.Je (iC (Φ a.heap.size)) 8 8 gZ 4 U y;simpa[Zy,Addr.add_lit]using this
   obtain⟨ct,cv,cw,cx,e⟩:=Rh bi bj bk bl e n 3 (fP ig ((Gv x.labels).toNat:Int));clear bi bj bk bl
   go_wp2_with fail
   clear P f3 G q;generalize F.setCell (Δ a.heap.size 3) (fP ig ((Gv x.labels).toNat:Int))=cg at*;have X:Ws cg.drew o c x.kids:=h3.below bA.drew
   go_region_law(refine step_copy_splice rfl (.tmp 49) (.tmp 51) 89 89 rfl 40 underlying89 Γ (iC (Δ a.heap.size 4)) o 4 4 c I (by simp[Act.eval]) (by simp[Act.eval]) a.heap.size 4 _ 40 b9.drew (x.kids.map wv) (by rw[CZ,Z];exact(NW ah).symm) (Adr X) (by simp[Z];omega) (QU _) w.heap.size w bA.drew f ?_;intro cq cf cl)
   all_goals
    go_wp2;go_ret2;refine⟨cl,?_⟩;rw[jM v.out];have ck:CB cq a.heap.size 40 ((DL x).map wv):=by
     have h:=cf.out;rw[yu x O];rw[Z];exact h
    have i:((DL x).map wv).length=8:=by rw[CZ,Hm,jM O]
    refine⟨_,rfl,?_⟩;have:=ck.own (B:=w.heap.size) f (by rw[i];decide);rw[i]at this;rw[show(DL x).length=8 by simpa using i];exact this
  ·rw[ku ah]
   go_wp2_with fail
   refine(JB 2 a).mono ?_;rintro z aa⟨rfl,rfl⟩;rw[show MI 2=32 from rfl]
   go_wp2_with
    (at_make
     refine wpList_make_full _ rfl _ _ 89 rfl w.heap.size 40 A (fP ig 0) 1 underlying89 bR b0 b1 gZ gZ _ _ 32 rfl rfl rfl rfl (by rw[b2];omega) U (by exact m.size) ?_;intro l N M;have s:η a l:=(Below.refl _ _).grown M (Ae _) Θ;obtain⟨bm,bo,bp,bq,e⟩:=Qr R S T V ap s;clear R S T V;have r:=τ m s;have b:CB l a.heap.size 40 ((BB 32 (0:UInt64)).map wv):=by rw[<-Me];exact ZL N
     have A:=b.has (i:=0) Θ;have av:=b.has (i:=1) Θ;have aw:=b.has (i:=2) Θ;have P:=b.has (i:=3) Θ;have f0:=b.frozen 0;have f1:=b.frozen 1;have f2:=b.frozen 2;have f3:=b.frozen 3;have n:w.heap.size≠a.heap.size:=O;have f:=m.size;clear N M s m)
   have aq:=(Bh x).1 v.out;obtain⟨az,C,aD,Q,_,_⟩:=aq;have t:=VT u k H x.pre (l.setCell (Φ a.heap.size) (fP ig (2+256*(c:Int)))) O (h1.below (r.setCell (p:=Φ a.heap.size) f _)) C;have J:=VP x.pre 15 az C;rw[Nc]at J;have ac:Hid (((k+16*Fa x.pre:Nat):Int)=((Gv x.pre).toNat:Int)):=Ac (by rw[Gv,bS,GY (by simp[KO];omega)]);rw[ac.out]at t;have E:=Ac t;clear t J;refine E.mono ?_;rintro z aa⟨rfl,rfl⟩;clear E
   go_wp2_with fail
   have q:=((b.AX 0 (fP ig (2+256*(c:Int)))).AX 1 (fP ig ((Gv x.pre).toNat:Int))).AX 2 (fP ig (x.val.toNat:Int));have G:=((r.setCell (p:=Φ a.heap.size) f (fP ig (2+256*(c:Int)))).setCell (p:=Δ a.heap.size 1) f (fP ig ((Gv x.pre).toNat:Int))).setCell (p:=Δ a.heap.size 2) f (fP ig (x.val.toNat:Int));obtain⟨br,a1,a2,a3,e⟩:=Rh bm bo bp bq e n 0 (fP ig (2+256*(c:Int)));clear bm bo bp bq;obtain⟨aE,aF,aJ,aL,e⟩:=Rh br a1 a2 a3 e n 1 (fP ig ((Gv x.pre).toNat:Int));clear br a1 a2 a3;obtain⟨aM,aR,aV,aW,e⟩:=Rh aE aF aJ aL e n 2 (fP ig (x.val.toNat:Int));clear aE aF aJ aL;clear A av aw P f0 f1 f2 f3 r b;generalize(((l.setCell (Φ a.heap.size) (fP ig (2+256*(c:Int)))).setCell (Δ a.heap.size 1) (fP ig ((Gv x.pre).toNat:Int))).setCell (Δ a.heap.size 2) (fP ig (x.val.toNat:Int)))=F at*;have j:CB F a.heap.size 40 ((CO (headB x) (x.labels.take 0) (x.kids.take 0)).map wv):=by
    rw[Ads x O,Z];exact q
   clear q;have b8:g=c:=O;have ce:=Ac Q;clear Q aD C;subst b8
   go_wp2_with fail
   go_loopw [57](λar wr=>∃d:Nat,d<=g/\ar=fP gZ d/\CB wr a.heap.size 40 ((CO (headB x) (x.labels.take d) (x.kids.take d)).map wv)/\Below a.heap.size F wr)(λar _=>g-(intOf ar).toNat)
   case atStart=>exact⟨0,BA _,rfl,j,Below.refl _ _⟩
   case round=>
    obtain⟨d,cC,rfl,j,L⟩:=hrel;obtain⟨b4,b5,b6,b7,e⟩:=Adq aM aR aV aW ap L;clear aM aR aV aW;have ab:η w wr:=G.trans (L.mono f);by_cases bV:d<g
    ·obtain⟨bX,cF,cr,rfl,_,cA⟩:=(h2.below ab).at bV;obtain⟨co,cG,cs,rfl,_,cB⟩:=(h3.below ab).at bV;have cz:=Zg ce.out bX;have i:((CO (headB x) (x.labels.take d) (x.kids.take d)).map wv).length=32:=by simp[OA,headB]
     have cE:=j.has (i:=4+x.labels[d].toNat) (by rw[i];omega);have cy:=j.frozen (4+x.labels[d].toNat);have ao:=j.AX (4+x.labels[d].toNat) (fP ig (x.kids[d].toNat:Int));rw[<-qO x d bX co]at ao;have cd:=Ac ao;have cb:=Ac (L.setCell (p:=Δ a.heap.size (4+x.labels[d].toNat)) (Ae _) (fP ig (x.kids[d].toNat:Int)));clear j ao L;go_wp2;go_roundw
     case rel=>exact⟨d+1,O,by go_num,cd.out,cb.out⟩
     case measure=>simp[intOf];omega
    ·have cm:d=g:=O;subst cm;have bO:(CO (headB x) (x.labels.take d) (x.kids.take d)).map wv=(DL x).map wv:=by
      rw[DL,ku O,SY,EL O,EL O]
     rw[bO]at j;have i:((DL x).map wv).length=32:=by rw[CZ,Hm,ku O]
     have cc:=Ac (j.own (B:=w.heap.size) f (by rw[i];decide));have bs:=Ac i;clear j L bO i b4 b5 b6 b7;go_wp2;go_ret2;refine⟨ab,?_⟩;rw[jM v.out];refine⟨_,rfl,?_⟩;have:=cc.out;rw[bs.out]at this;rw[show(DL x).length=32 by simpa using bs.out];exact this
def Ri(A B:Option Addr)(n m c d:Nat)(a b:List UInt64)(w:jD)(F:n<=4294967296)(_hm:m<=4294967296)(o:Ws w A n a)(p:Ws w B m b):
 Calls prog 152 #[fD A n c,fD B m d] w λg u=>g=gY (fU (decide (a=b)))/\Dr w u:=by
 have D:=o.len;have E:=p.len;by_cases t:n=m
 ·subst t;have t1:((n:Int)!=(n:Int))=jw:=by simp
  go_enter func152,ntmps152;go_wp2
  go_loopw [13](λl wr=>∃f:Nat,f<=n/\l=fP gZ f/\(∀e(h1:e<a.length)(h2:e<b.length),e<f->a[e]=b[e])/\Dr w wr)(λl _=>n-(intOf l).toNat)
  case atStart=>exact⟨0,BA _,rfl,λe _ _ h=>absurd h O,Dr.refl _⟩
  case round=>
   obtain⟨f,C,rfl,k,N,rfl⟩:=hrel;by_cases q:f<n
   ·obtain⟨I,L,K,rfl,G,x⟩:=o.at q;obtain⟨J,M,v,rfl,H,y⟩:=p.at q;by_cases i:a[f]=b[f]
    ·have t2:(((a[f].toNat:Int))!=(b[f].toNat:Int))=jw:=by simp[i]
     have r:Hid (∀e(h1:e<a.length)(h2:e<b.length),e<f+1->a[e]=b[e]):=Ac λe h1 h2 z=>by
      by_cases g:e=f
      ·subst g;exact i
      ·exact k e h1 h2 O
     clear k i;go_wp2
     go_quiet(fail)
     go_wp2;go_roundw
     case rel=>exact⟨f+1,O,by go_num,r.out,by first|exact Dr.one _ _|exact Dr.two _ _ _⟩
     case measure=>simp[intOf];omega
    ·have t2:(((a[f].toNat:Int))!=(b[f].toNat:Int))=true:=by
      rw[bne_iff_ne];intro g;exact i (UInt64.toNat_inj.1 O)
     have j:Hid (decide (a=b)=jw):=Ac (by rw[decide_eq_false_iff_not];intro g;subst g;exact i rfl);clear k i;go_wp2
     go_quiet(fail)
     go_wp2;go_ret;exact⟨by rw[j.out];rfl,by first|exact Dr.one _ _|exact Dr.two _ _ _⟩
   ·have s:f=n:=O;subst s;have j:Hid (decide (a=b)=true):=Ac (by
     rw[decide_eq_true_iff];apply List.ext_getElem O;intro e h1 h2;exact k e h1 h2 O)
    clear k;go_wp2;go_ret;exact⟨by rw[j.out];rfl,Dr.one _ _⟩
 ·have t1:((n:Int)!=(m:Int))=true:=by simp;omega
  have j:Hid (decide (a=b)=jw):=Ac (by rw[decide_eq_false_iff_not];intro g;subst g;omega);go_enter func152,ntmps152;go_wp2;go_ret;exact⟨by rw[j.out];rfl,Dr.refl _⟩
def Aby(lb:List UInt8)(a:List UInt64)(w:jD)(e:Ending)(w':jD):Prop:=
 η w w'/\∃b d c f,e=gY (gJ #[fD b lb.length d,fD c a.length f])/\w'.ownsRow w.heap.size 5 1 (fD b lb.length d) lb.length (lb.map bv)/\w'.ownsRow w.heap.size 40 1 (fD c a.length f) a.length (a.map wv)
def Ws.sub{w:jD}{A:Option Addr}{n:Nat}{l:List UInt64}(h:Ws w A n l){c lo hi:Nat}(h1:lo<=hi)(h2:hi<=n)(a:n<=c):Ws w (Zy A c lo) (hi-lo) ((l.drop lo).take (hi-lo)):=by
 have:=Rd.sub h h1 h2 a
 rwa [<-List.map_drop,<-List.map_take]at this
def Adt(A:Option Addr)(c:Nat)(l:List UInt64)(w:jD)(N:8<=c)(h:Ws w A 8 l)(u:UInt64)(E:l[3]?=iC u):
 Calls prog 192 #[fD A 8 c] w (Aby (Jp u.toNat (l.drop 4)).1 (Jp u.toNat (l.drop 4)).2 w):=by
 have S:=h.len;obtain⟨T,t,H,rfl,X,B⟩:=h.at (show 3<8 by decide);have F:l[3]=u:=by rw[Ah T]at E;injection E
 rw[F]at B;have G:=ZK u.toNat w (by have:=u.toNat_lt;simpa[KO]using this);have s:=Ac G;clear G F;go_enter func192,ntmps192
 go_wp2_with fail
 refine s.mono ?_;rintro f I⟨g,i⟩;clear s B;have Y:=Nat.mod_lt u.toNat (show 0<16 by decide);by_cases d:u.toNat/16/16^(u.toNat%16)=0
 ·rw[jM d]at i;obtain⟨Z,rfl,m⟩:=i;obtain⟨p,v,rfl,P,U⟩:=Cj m;by_cases j:u.toNat%16<=4
  ·have b:Jp u.toNat (l.drop 4)=(digits (u.toNat%16) (u.toNat/16),(l.drop 4).take (u.toNat%16)):=by rw[Jp,jM ⟨d,j⟩]
   have e:=Ac b;have K:Hid (I.ownsRow w.heap.size 5 1 (fD p (u.toNat%16) v) (u.toNat%16) ((digits (u.toNat%16) (u.toNat/16)).map bv)):=Ac m;obtain⟨a,k⟩:=ε (u.toNat%16);have W:=h.below g;have o:=Ws.sub W (c:=c) (lo:=4) (hi:=4+a) O O N;rw[<-k]at P j⊢;have r:=Ac k;have D:=Abt Tryz.Je (iC (Δ t H)) 8 c gZ gZ 4 (4+a) O O;rw[show 4+a-4=a by omega]at D o;have C:=ZJ (Zy (iC (Δ t H)) c 4) a (c-4) _ I O o;have q:=Ac C;have x:((4:Nat):Int)=4:=rfl;have y:((4+a:Nat):Int)=4+(a:Int):=O;simp only[x,y]at D;have d4:decide (4<(a:Int))=jw:=by simp;omega
   clear d b m U k C o x y
   go_wp2_with fail
   refine q.mono ?_;rintro f ab⟨aa,rfl,n,z⟩;obtain⟨J,M,rfl,Q,V⟩:=Cj n;have L:=Ac (EU n g.size);clear q n V Q
   go_wp2_with fail
   go_ret2;have R:((l.drop 4).take a).length=a:=by simp[S];omega
   refine⟨τ g z,?_⟩;rw[e.out]
   dsimp only
   rw[<-r.out,digits_length,R];refine⟨p,v,J,M,rfl,?_,L.out⟩;have:=own_below K.out z;rw[<-r.out]at this;exact this
  ·have b:Jp u.toNat (l.drop 4)=([],[]):=by rw[Jp,ku (λf=>j f.2)]
   have e:=Ac b;have d4:decide (4<((u.toNat%16:Nat):Int))=true:=by simp;omega
   generalize u.toNat%16=a at*;clear d b
   go_wp2_with fail
   go_ret2;refine⟨g,?_⟩;rw[e.out];exact⟨iD,0,iD,0,rfl,CP _ _ _ _,CP _ _ _ _⟩
 ·rw[ku d]at i;subst i;have b:Jp u.toNat (l.drop 4)=([],[]):=by rw[Jp,ku (λf=>d f.1)]
  have e:=Ac b;clear d b
  go_wp2_with fail
  go_ret2;refine⟨g,?_⟩;rw[e.out];exact⟨iD,0,iD,0,rfl,CP _ _ _ _,CP _ _ _ _⟩
def Al0(A:Option Addr)(c:Nat)(l:List UInt64)(w:jD)(aa:32<=c)(h:Ws w A 32 l):
 Calls prog 193 #[fD A 32 c] w (Aby (JL 0 ((l.drop 4).take 16)) (KP ((l.drop 4).take 16)) w):=by
 obtain⟨_,k,o,rfl,_,_⟩:=h.at (show 0<32 by decide);have H:=Abt Tryz.Je (iC (Δ k o)) 32 c gZ gZ 4 20 O O;have u:Zy (iC (Δ k o)) c 4=iC (Δ k (o+4)):=by rw[Zy,ku O];simp[Addr.add_lit]
 rw[u]at H;have E:((4:Nat):Int)=4:=rfl;have C:((20:Nat):Int)=20:=rfl;simp only[E,C]at H;have J:Ws w (iC (Δ k (o+4))) 16 ((l.drop 4).take 16):=by
  have:=Ws.sub h (c:=c) (lo:=4) (hi:=20) O O aa
  rwa [u]at this
 clear u E C;generalize(l.drop 4).take 16=b at*;have aW:=J.len;go_enter func193,ntmps193;go_wp2
 go_loopw [4,5,11](λaw az x wr=>∃a:Nat,a<=16/\x=fP gZ a/\wr.ownsRow w.heap.size 5 1 aw (JL 0 (b.take a)).length ((JL 0 (b.take a)).map bv)/\wr.ownsRow w.heap.size 40 1 az (KP (b.take a)).length ((KP (b.take a)).map wv)/\η w wr)(λ_ _ x _=>16-(intOf x).toNat)
 case atStart=>exact⟨0,BA _,rfl,CP _ _ _ _,CP _ _ _ _,Below.refl _ _⟩
 case round=>
  obtain⟨a,aL,rfl,d,e,j⟩:=hrel;have I:=j.size;by_cases ah:a<16
  ·have v:=J.below j;obtain⟨an,aD,aX,t,_,aJ⟩:=v.at ah;injection t with t
   injection t with T V D
   subst T V;have n:b.take (a+1)=b.take a++[b[a]]:=List.take_succ_eq_append_getElem an;have f:=Z9 0 (b.take a) b[a];have g:=xR (b.take a) b[a];rw[<-n,List.length_take,NW O,DI]at f;rw[<-n]at g;have ae:(KP (b.take a)).length<=16:=by have:=ZA (b.take a);simp at this;omega
   have aM:(JL 0 (b.take a)).length<=16:=by rw[P7];exact ae
   by_cases i:b[a].toNat=0
   ·rw[jM i,List.append_nil]at f g;have t1:((b[a].toNat:Int)!=0)=jw:=by simp[i]
    have p:=Ac f;have q:=Ac g;have s:=Ac d;have r:=Ac e;clear f g i d e v D n;go_wp2;go_roundw
    case rel=>exact⟨a+1,O,by go_num,by rw[p.out];exact s.out,by rw[q.out];exact r.out,j⟩
    case measure=>simp[intOf];omega
   ·rw[ku i]at f g;have t1:((b[a].toNat:Int)!=0)=true:=by simp;omega
    have p:=Ac f;have q:=Ac g;have K:Aw .u8 (a:Int)=bv (UInt8.ofNat a):=by simp only[bv,UInt8.toNat_ofNat'];congr 1;omega
    have Q:=Ac K;have F:=Oq d e U;have Y:∀m,u5.ownBlock=iC m->u4.ownBlock≠iC m:=λm X W=>F m W X
    generalize al:(JL 0 (b.take a)).length=ar at*;generalize am:(KP (b.take a)).length=av at*;clear f g i v D n K F
    go_wp2_with(first
     |(at_builtin
       refine IG rfl (.tmp 18) (.tmp 21) 22 rfl Tryz.I4 wr w.heap.size u4 ar ((JL 0 (b.take a)).map bv) [fP .u8 (a:Int)] rfl d rfl rfl rfl rfl 1 1 rfl rfl (by simp[Ak8]) (by simp;omega) U I ?_;intro aZ L z G ab;have B:=OD e ab Y;have aq:w.heap.size<=L.heap.size:=Bq I G.size)
     |(at_builtin
       refine IG rfl (.tmp 23) (.tmp 25) 89 rfl Tryz.Je L w.heap.size u5 av ((KP (b.take a)).map wv) [fP ig (b[a].toNat:Int)] rfl B rfl rfl rfl rfl 1 1 rfl rfl (by simp[Ak8]) (by simp;omega) U aq ?_;intro a0 a1 P Z ac;have y:=OD z ac (Oq z B U)))
    go_roundw
    case rel=>
     refine⟨a+1,O,by go_num,?_,?_,j.trans (G.trans Z)⟩
     ·rw[p.out,AP,al,CE];rw[Q.out]at y;exact y
     ·rw[q.out,AP,am,CE];exact P
    case measure=>simp[intOf];omega
  ·have ad:a=16:=O;subst ad;rw[EL O]at d e;obtain⟨M,R,ao,aE,aR⟩:=Cj d;obtain⟨N,S,ap,aF,aV⟩:=Cj e;subst ao ap;have s:=Ac d;have r:=Ac e;clear d e;go_wp2;go_ret2;exact⟨j,M,R,N,S,rfl,s.out,r.out⟩
def Vj{w:jD}{a base' size n:Nat}{e:TypeId}{v:jL}{xs:List jL}(h:w.ownsRow a e size v n xs)(f:base'<=a):w.ownsRow base' e size v n xs:=
 ⟨h.1,h.2.elim Or.inl (λ⟨d,b,c,i,g,j⟩=>Or.inr ⟨d,b,c,i,Bq f g,j⟩)⟩
def Zh(l:List UInt64)(w:jD)(e:Ending)(w':jD):Prop:=
 η w w'/\(if Jd l then∃a d b f c g,e=gY (gJ #[gU #[fD a (Fb l).pre.length d,fP ig ((Fb l).val.toNat:Int),fD b (Fb l).labels.length f,fD c (Fb l).kids.length g],fU true])/\
  (Fb l).pre.length<=d/\(Fb l).labels.length<=f/\(Fb l).kids.length<=g/\Bs w' a (Fb l).pre.length (Fb l).pre/\Bs w' b (Fb l).labels.length (Fb l).labels/\Ws w' c (Fb l).kids.length (Fb l).kids/\w'.ownsRow w.heap.size 5 1 (fD a (Fb l).pre.length d) (Fb l).pre.length ((Fb l).pre.map bv)/\w'.ownsRow w.heap.size 5 1 (fD b (Fb l).labels.length f) (Fb l).labels.length ((Fb l).labels.map bv)/\w'.ownsRow w.heap.size 40 1 (fD c (Fb l).kids.length g) (Fb l).kids.length ((Fb l).kids.map wv)
  else e=gY (gJ #[gU #[fD iD 0 0,fP ig 0,fD iD 0 0,fD iD 0 0],fU jw]))
def Yk(u:Nat)(w:jD)(k:u<18446744073709551616):
 Calls prog 194 #[fP ig (u:Int)] w λf e=>η w e/\∃a b i,f=gY (gJ #[fD a (En u).length b,fU i])/\e.ownsRow w.heap.size 5 1 (fD a (En u).length b) (En u).length ((En u).map bv):=by
 refine(ZK u w k).mono ?_;rintro f e⟨j,h⟩;refine⟨j,?_⟩;by_cases c:u/16/16^(u%16)=0
 ·rw[jM c]at h;obtain⟨n,rfl,g⟩:=h;obtain⟨a,b,rfl,l,m⟩:=Cj g;have d:En u=digits (u%16) (u/16):=by rw[En,jM c]
  rw[d,digits_length];exact⟨a,b,true,rfl,g⟩
 ·rw[ku c]at h;subst h;have d:En u=[]:=by rw[En,ku c]
  rw[d];exact⟨iD,0,jw,rfl,CP _ _ _ _⟩
def blk4{w:jD}{g:Nat}{e:TypeId}{a b c d:jL}(h:CB w g e [a,b,c,d]):
 w.cell? (Φ g)=iC a/\w.cell? (Δ g 1)=iC b/\w.cell? (Δ g 2)=iC c/\w.cell? (Δ g 3)=iC d/\
 w.frozen? (Φ g)=jw/\w.frozen? (Δ g 1)=jw/\w.frozen? (Δ g 2)=jw/\w.frozen? (Δ g 3)=jw:=
 ⟨h.cell 0,h.cell 1,h.cell 2,h.cell 3,h.frozen 0,h.frozen 1,h.frozen 2,h.frozen 3⟩
def CB.far{w:jD}{g g':Nat}{e:TypeId}{xs:List jL}(h:CB w g e xs)(a:g≠g')(i:Nat)(u:jL):CB (w.setCell (Δ g' i) u) g e xs:=
 (Below.heap_setCell w (Δ g' i) u g a).trans h
def Xu(w:jD)(t:TypeId)(a:jL)(y:jL):∃b,b=(w.alloc (iy #[a,y,a,a] t)).alloc (iy #[a,y,a,a] t)/\CB b w.heap.size t [a,y,a,a]/\CB b (w.heap.size+1) t [a,y,a,a]/\
 η w b/\b.heap.size=w.heap.size+2:=by
 refine⟨_,rfl,?_,?_,((Below.refl _ _).alloc (Ae _) _).alloc Θ _,by simp⟩
 ·have:CB (w.alloc (iy #[a,y,a,a] t)) w.heap.size t [a,y,a,a]:=heap_alloc_new w _;exact(Below.heap_alloc _ _ _ Θ).trans this
 ·have:CB ((w.alloc (iy #[a,y,a,a] t)).alloc (iy #[a,y,a,a] t)) (w.alloc (iy #[a,y,a,a] t)).heap.size t [a,y,a,a]:=heap_alloc_new _ _;simpa using this
def Al1(A:Option Addr)(c:Nat)(l:List UInt64)(w:jD)(bi:8<=c)(h:Ws w A 8 l):
 Calls prog 164 #[fD A 8 c] w (Zh l w):=by
 have aZ:=h.len;obtain⟨bs,z,D,rfl,aV,bj⟩:=h.at (show 1<8 by decide);go_enter func164,ntmps164
 go_wp2_with(go_at_call 163;refine(JB 1 _).mono ?_;rintro J bB⟨rfl,rfl⟩;rw[show MI 1=8 from rfl])
 obtain⟨bc,aR,W,E,aW,bw⟩:=Xu w 174 (fD iD 0 0) (fP ig 0);rw[<-aR];clear aR;have bm:3<l.length:=O;have a1:=Adt (iC (Δ z D)) c l bc bi (h.below aW) l[3] (Ah bm);have aF:=Ac a1;clear a1;refine aF.mono ?_;rintro J az⟨K,b,f,d,i,rfl,S,T⟩;have aJ:=Ac S;have aL:=Ac T;clear S T;clear aF;replace W:=W.below K O;replace E:=E.below K O;obtain⟨q,r,s,t,f0,f1,f2,f3⟩:=blk4 E;have ao:=τ aW K;have bk:az.cell? (Δ z (D+1))=iC (fP ig (l[1].toNat:Int)):=(ao.cell (p:=Δ z (D+1)) aV).trans bj
 go_wp2_with fail
 have y:Fb l={pre:=En l[1].toNat,val:=l[2],labels:=(Jp l[3].toNat (l.drop 4)).1,kids:=(Jp l[3].toNat (l.drop 4)).2}:=by
  rw[Fb,jM aZ,Ahd];simp[VD,show 1<l.length by omega,show 2<l.length by omega,show 3<l.length by omega]
 have bq:(Jp l[3].toNat (l.drop 4)).1.length<=15:=by unfold Jp;split<;>simp[digits_length];omega
 have bo:(Jp l[3].toNat (l.drop 4)).2.length<=15:=by unfold Jp;split<;>simp;omega
 have S:=aJ.out;have T:=aL.out;clear aJ aL;generalize(Jp l[3].toNat (l.drop 4)).1=k at*;generalize(Jp l[3].toNat (l.drop 4)).2=j at*;have br:=iL l[1].toNat;have F:=(E.AX 2 (fD b k.length f)).AX 3 (fD d j.length i);have X:=(W.far (g':=w.heap.size+1) O 2 (fD b k.length f)).far (g':=w.heap.size+1) O 3 (fD d j.length i);have aD:=(ao.setCell (p:=Δ (w.heap.size+1) 2) Θ (fD b k.length f)).setCell (p:=Δ (w.heap.size+1) 3) Θ (fD d j.length i);have a4:=AO (AO S (g:=w.heap.size+1) O 2 (fD b k.length f)) (g:=w.heap.size+1) O 3 (fD d j.length i);have a5:=AO (AO T (g:=w.heap.size+1) O 2 (fD b k.length f)) (g:=w.heap.size+1) O 3 (fD d j.length i);have bt:w.heap.size+2<=((az.setCell (Δ (w.heap.size+1) 2) (fD b k.length f)).setCell (Δ (w.heap.size+1) 3) (fD d j.length i)).heap.size:=by
  have:=K.size;simp only[D9,Qh];omega
 clear S T W E ao q r s t f0 f1 f2 f3 bk K;generalize(az.setCell (Δ (w.heap.size+1) 2) (fD b k.length f)).setCell (Δ (w.heap.size+1) 3) (fD d j.length i)=bd at*;refine(Yk l[1].toNat bd (by have:=l[1].toNat_lt;simpa[KO]using this)).mono ?_;rintro J a9⟨L,a,e,bp,rfl,a3⟩;replace X:=X.ξ L;replace F:=F.ξ L;have ap:=τ aD L;obtain⟨q,r,s,t,f0,f1,f2,f3⟩:=blk4 F;have bl:a9.cell? (Δ z (D+2))=iC (fP ig (l[2].toNat:Int)):=(ap.cell (p:=Δ z (D+2)) aV).trans (h.cellAt U O)
 go_wp2_with fail
 have n:=(F.AX 0 (fD a (En l[1].toNat).length e)).AX 1 (fP ig (l[2].toNat:Int));have m:=(X.far (g':=w.heap.size+1) O 0 (fD a (En l[1].toNat).length e)).far (g':=w.heap.size+1) O 1 (fP ig (l[2].toNat:Int));have bg:=(ap.setCell (p:=Φ (w.heap.size+1)) Θ (fD a (En l[1].toNat).length e)).setCell (p:=Δ (w.heap.size+1) 1) Θ (fP ig (l[2].toNat:Int));have a7:=AO (AO (own_below a4 L) (g:=w.heap.size+1) O 0 (fD a (En l[1].toNat).length e)) (g:=w.heap.size+1) O 1 (fP ig (l[2].toNat:Int));have a8:=AO (AO (own_below a5 L) (g:=w.heap.size+1) O 0 (fD a (En l[1].toNat).length e)) (g:=w.heap.size+1) O 1 (fP ig (l[2].toNat:Int));have a6:=AO (AO a3 (g:=w.heap.size+1) O 0 (fD a (En l[1].toNat).length e)) (g:=w.heap.size+1) O 1 (fP ig (l[2].toNat:Int));clear a3 a4 a5 X F aD ap q r s t f0 f1 f2 f3 bl;generalize(a9.setCell (Φ (w.heap.size+1)) (fD a (En l[1].toNat).length e)).setCell (Δ (w.heap.size+1) 1) (fP ig (l[2].toNat:Int))=be at*;have aw:=Td a b d (En l[1].toNat).length e k.length f j.length i (Fb l) be O O O (by rw[y];exact(CQ a6).2) (by rw[y];exact(CQ a7).2) (by rw[y];exact(CQ a8).2);rw[show(Fb l).val=l[2]by rw[y]]at aw;have aE:=Ac aw;have bb:=Ac y;clear aw y;obtain⟨q,r,s,t,f0,f1,f2,f3⟩:=blk4 n
 go_wp2_with fail
 refine aE.mono ?_;rintro J ad⟨B,Y⟩;clear aE q r s t f0 f1 f2 f3;replace m:=m.ξ B;replace n:=n.ξ B;obtain⟨q,r,s,t,f0,f1,f2,f3⟩:=blk4 n;obtain⟨ah,al,am,an,Z,aa,ab,ac⟩:=blk4 m;have u:=τ bg B;cases x:BU (Fb l)with
 |false=>
  rw[x]at Y;subst Y;have H:Hid (Jd l=jw):=Ac (by rw[Jd,x];simp);clear x
  go_wp2_with fail
  have G:=((((m.AX 0 (Ad iD 0 0)).AX 1 (Aw ig 0)).AX 2 (Ad iD 0 0)).AX 3 (Ad iD 0 0));have LZ:=(((u.setCell (p:=Φ w.heap.size) (Ae _) (Ad iD 0 0)).setCell (p:=Δ w.heap.size 1) (Ae _) (Aw ig 0)).setCell (p:=Δ w.heap.size 2) (Ae _) (Ad iD 0 0)).setCell (p:=Δ w.heap.size 3) (Ae _) (Ad iD 0 0);generalize(((ad.setCell (Φ w.heap.size) (Ad iD 0 0)).setCell (Δ w.heap.size 1) (Aw ig 0)).setCell (Δ w.heap.size 2) (Ad iD 0 0)).setCell (Δ w.heap.size 3) (Ad iD 0 0)=aM at*;obtain⟨N,P,Q,R,_⟩:=blk4 G;refine bodyPost_ret (v:=gJ #[gU #[Ad iD 0 0,Aw ig 0,Ad iD 0 0,Ad iD 0 0],fU jw]) (by simp[results,results164,go_sem,N,P,Q,R]) rfl ?_;exact⟨LZ,by rw[H.out];rfl⟩
 |true=>
  rw[x,jM rfl]at Y;obtain⟨bA,rfl,a0⟩:=Y;obtain⟨ba,bh,rfl,_,a2⟩:=Cj a0;have aX:=Ri ba (iC (Δ z D)) (DL (Fb l)).length 8 bh c (DL (Fb l)) l ad (by rw[Hm];split<;>decide) U a2 (h.below u);generalize(DL (Fb l)).length=bx at*;have ae:=Ac aX;clear aX a0 a2;by_cases C:DL (Fb l)=l
  ·have H:Hid (Jd l=true):=Ac (by rw[Jd,x];simp[aZ,C]);have I:Hid (decide (DL (Fb l)=l)=true):=Ac (by simp[C]);clear C x
   go_wp2_with fail
   refine ae.mono ?_;rintro J V⟨rfl,M⟩;have o:η ad V:=M.below _;replace m:=m.ξ o;replace n:=n.ξ o;replace u:=τ u o;clear q r s t f0 f1 f2 f3 ah al am an Z aa ab ac M;obtain⟨q,r,s,t,f0,f1,f2,f3⟩:=blk4 n;obtain⟨ah,al,am,an,Z,aa,ab,ac⟩:=blk4 m;rw[I.out];clear ae I
   go_wp2_with fail
   have G:=((((m.AX 0 (Ad a (En l[1].toNat).length e)).AX 1 (Aw ig (l[2].toNat:Int))).AX 2 (Ad b k.length f)).AX 3 (Ad d j.length i));have LZ:=(((u.setCell (p:=Φ w.heap.size) (Ae _) (Ad a (En l[1].toNat).length e)).setCell (p:=Δ w.heap.size 1) (Ae _) (Aw ig (l[2].toNat:Int))).setCell (p:=Δ w.heap.size 2) (Ae _) (Ad b k.length f)).setCell (p:=Δ w.heap.size 3) (Ae _) (Ad d j.length i);have aq:=AO (AO (AO (AO (own_below (own_below a6 B) o) (g:=w.heap.size) O 0 (Ad a (En l[1].toNat).length e)) (g:=w.heap.size) O 1 (Aw ig (l[2].toNat:Int))) (g:=w.heap.size) O 2 (Ad b k.length f)) (g:=w.heap.size) O 3 (Ad d j.length i);have ar:=AO (AO (AO (AO (own_below (own_below a7 B) o) (g:=w.heap.size) O 0 (Ad a (En l[1].toNat).length e)) (g:=w.heap.size) O 1 (Aw ig (l[2].toNat:Int))) (g:=w.heap.size) O 2 (Ad b k.length f)) (g:=w.heap.size) O 3 (Ad d j.length i);have av:=AO (AO (AO (AO (own_below (own_below a8 B) o) (g:=w.heap.size) O 0 (Ad a (En l[1].toNat).length e)) (g:=w.heap.size) O 1 (Aw ig (l[2].toNat:Int))) (g:=w.heap.size) O 2 (Ad b k.length f)) (g:=w.heap.size) O 3 (Ad d j.length i);generalize(((V.setCell (Φ w.heap.size) (Ad a (En l[1].toNat).length e)).setCell (Δ w.heap.size 1) (Aw ig (l[2].toNat:Int))).setCell (Δ w.heap.size 2) (Ad b k.length f)).setCell (Δ w.heap.size 3) (Ad d j.length i)=aM at*;obtain⟨N,P,Q,R,_⟩:=blk4 G;refine bodyPost_ret (v:=gJ #[gU #[Ad a (En l[1].toNat).length e,Aw ig (l[2].toNat:Int),Ad b k.length f,Ad d j.length i],fU true]) (by simp[results,results164,go_sem,N,P,Q,R]) rfl ?_;refine⟨LZ,?_⟩;rw[H.out,jM rfl,bb.out];exact⟨a,e,b,f,d,i,rfl,(CQ aq).1,(CQ ar).1,(CQ av).1,(CQ aq).2,(CQ ar).2,(CQ av).2,Vj aq O,Vj ar O,Vj av O⟩
  ·have H:Hid (Jd l=jw):=Ac (by rw[Jd,x];simp[C]);have I:Hid (decide (DL (Fb l)=l)=jw):=Ac (by simp[C]);clear C x
   go_wp2_with fail
   refine ae.mono ?_;rintro J V⟨rfl,M⟩;have o:η ad V:=M.below _;replace m:=m.ξ o;replace n:=n.ξ o;replace u:=τ u o;clear q r s t f0 f1 f2 f3 ah al am an Z aa ab ac M;obtain⟨q,r,s,t,f0,f1,f2,f3⟩:=blk4 n;obtain⟨ah,al,am,an,Z,aa,ab,ac⟩:=blk4 m;rw[I.out];clear ae I
   go_wp2_with fail
   have G:=((((m.AX 0 (Ad iD 0 0)).AX 1 (Aw ig 0)).AX 2 (Ad iD 0 0)).AX 3 (Ad iD 0 0));have LZ:=(((u.setCell (p:=Φ w.heap.size) (Ae _) (Ad iD 0 0)).setCell (p:=Δ w.heap.size 1) (Ae _) (Aw ig 0)).setCell (p:=Δ w.heap.size 2) (Ae _) (Ad iD 0 0)).setCell (p:=Δ w.heap.size 3) (Ae _) (Ad iD 0 0);generalize(((V.setCell (Φ w.heap.size) (Ad iD 0 0)).setCell (Δ w.heap.size 1) (Aw ig 0)).setCell (Δ w.heap.size 2) (Ad iD 0 0)).setCell (Δ w.heap.size 3) (Ad iD 0 0)=aM at*;obtain⟨N,P,Q,R,_⟩:=blk4 G;refine bodyPost_ret (v:=gJ #[gU #[Ad iD 0 0,Aw ig 0,Ad iD 0 0,Ad iD 0 0],fU jw]) (by simp[results,results164,go_sem,N,P,Q,R]) rfl ?_;exact⟨LZ,by rw[H.out];rfl⟩
def Ahj(A:Option Addr)(c:Nat)(l:List UInt64)(w:jD)(bi:32<=c)(h:Ws w A 32 l):
 Calls prog 164 #[fD A 32 c] w (Zh l w):=by
 have bk:=h.len;obtain⟨bs,z,E,rfl,aV,bj⟩:=h.at (show 1<32 by decide);go_enter func164,ntmps164
 go_wp2_with(first|(go_at_call_of 163(Aw IntKind.i64 1);refine(JB 1 _).mono ?_;rintro B bo⟨rfl,rfl⟩;rw[show MI 1=8 from rfl])|(go_at_call_of 163(Aw IntKind.i64 2);refine(JB 2 _).mono ?_;rintro B bo⟨rfl,rfl⟩;rw[show MI 2=32 from rfl]))
 obtain⟨bc,aR,W,F,aW,bw⟩:=Xu w 174 (fD iD 0 0) (fP ig 0);rw[<-aR];clear aR;have a0:=Al0 (iC (Δ z E)) c l bc bi (h.below aW);have aF:=Ac a0;clear a0;refine aF.mono ?_;rintro B az⟨K,b,f,d,i,rfl,S,T⟩;have aJ:=Ac S;have aL:=Ac T;clear S T;clear aF;replace W:=W.below K O;replace F:=F.below K O;obtain⟨q,r,s,t,f0,f1,f2,f3⟩:=blk4 F;have ao:=τ aW K;have bl:az.cell? (Δ z (E+1))=iC (fP ig (l[1].toNat:Int)):=(ao.cell (p:=Δ z (E+1)) aV).trans bj
 go_wp2_with fail
 have y:Fb l={pre:=En l[1].toNat,val:=l[2],labels:=(JL 0 ((l.drop 4).take 16)),kids:=(KP ((l.drop 4).take 16))}:=by
  rw[Fb,ku O,xU];simp[VD,show 1<l.length by omega,show 2<l.length by omega]
 have ba:(KP ((l.drop 4).take 16)).length<=16:=by have:=ZA ((l.drop 4).take 16);simp at this;omega
 have bq:(JL 0 ((l.drop 4).take 16)).length<=16:=by rw[P7];exact ba
 have S:=aJ.out;have T:=aL.out;clear aJ aL;generalize(JL 0 ((l.drop 4).take 16))=k at*;generalize(KP ((l.drop 4).take 16))=j at*;have br:=iL l[1].toNat;have G:=(F.AX 2 (fD b k.length f)).AX 3 (fD d j.length i);have X:=(W.far (g':=w.heap.size+1) O 2 (fD b k.length f)).far (g':=w.heap.size+1) O 3 (fD d j.length i);have aD:=(ao.setCell (p:=Δ (w.heap.size+1) 2) Θ (fD b k.length f)).setCell (p:=Δ (w.heap.size+1) 3) Θ (fD d j.length i);have a3:=AO (AO S (g:=w.heap.size+1) O 2 (fD b k.length f)) (g:=w.heap.size+1) O 3 (fD d j.length i);have a4:=AO (AO T (g:=w.heap.size+1) O 2 (fD b k.length f)) (g:=w.heap.size+1) O 3 (fD d j.length i);have bt:w.heap.size+2<=((az.setCell (Δ (w.heap.size+1) 2) (fD b k.length f)).setCell (Δ (w.heap.size+1) 3) (fD d j.length i)).heap.size:=by
  have:=K.size;simp only[D9,Qh];omega
 clear S T W F ao q r s t f0 f1 f2 f3 bl K;generalize(az.setCell (Δ (w.heap.size+1) 2) (fD b k.length f)).setCell (Δ (w.heap.size+1) 3) (fD d j.length i)=bd at*;refine(Yk l[1].toNat bd (by have:=l[1].toNat_lt;simpa[KO]using this)).mono ?_;rintro B a8⟨L,a,e,bp,rfl,a2⟩;replace X:=X.ξ L;replace G:=G.ξ L;have ap:=τ aD L;obtain⟨q,r,s,t,f0,f1,f2,f3⟩:=blk4 G;have bm:a8.cell? (Δ z (E+2))=iC (fP ig (l[2].toNat:Int)):=(ap.cell (p:=Δ z (E+2)) aV).trans (h.cellAt U O)
 go_wp2_with fail
 have n:=(G.AX 0 (fD a (En l[1].toNat).length e)).AX 1 (fP ig (l[2].toNat:Int));have m:=(X.far (g':=w.heap.size+1) O 0 (fD a (En l[1].toNat).length e)).far (g':=w.heap.size+1) O 1 (fP ig (l[2].toNat:Int));have bg:=(ap.setCell (p:=Φ (w.heap.size+1)) Θ (fD a (En l[1].toNat).length e)).setCell (p:=Δ (w.heap.size+1) 1) Θ (fP ig (l[2].toNat:Int));have a6:=AO (AO (own_below a3 L) (g:=w.heap.size+1) O 0 (fD a (En l[1].toNat).length e)) (g:=w.heap.size+1) O 1 (fP ig (l[2].toNat:Int));have a7:=AO (AO (own_below a4 L) (g:=w.heap.size+1) O 0 (fD a (En l[1].toNat).length e)) (g:=w.heap.size+1) O 1 (fP ig (l[2].toNat:Int));have a5:=AO (AO a2 (g:=w.heap.size+1) O 0 (fD a (En l[1].toNat).length e)) (g:=w.heap.size+1) O 1 (fP ig (l[2].toNat:Int));clear a2 a3 a4 X G aD ap q r s t f0 f1 f2 f3 bm;generalize(a8.setCell (Φ (w.heap.size+1)) (fD a (En l[1].toNat).length e)).setCell (Δ (w.heap.size+1) 1) (fP ig (l[2].toNat:Int))=be at*;have aw:=Td a b d (En l[1].toNat).length e k.length f j.length i (Fb l) be O O O (by rw[y];exact(CQ a5).2) (by rw[y];exact(CQ a6).2) (by rw[y];exact(CQ a7).2);rw[show(Fb l).val=l[2]by rw[y]]at aw;have aE:=Ac aw;have bb:=Ac y;clear aw y;obtain⟨q,r,s,t,f0,f1,f2,f3⟩:=blk4 n
 go_wp2_with fail
 refine aE.mono ?_;rintro B ad⟨C,Y⟩;clear aE q r s t f0 f1 f2 f3;replace m:=m.ξ C;replace n:=n.ξ C;obtain⟨q,r,s,t,f0,f1,f2,f3⟩:=blk4 n;obtain⟨ah,al,am,an,Z,aa,ab,ac⟩:=blk4 m;have u:=τ bg C;cases x:BU (Fb l)with
 |false=>
  rw[x]at Y;subst Y;have I:Hid (Jd l=jw):=Ac (by rw[Jd,x];simp);clear x
  go_wp2_with fail
  have H:=((((m.AX 0 (Ad iD 0 0)).AX 1 (Aw ig 0)).AX 2 (Ad iD 0 0)).AX 3 (Ad iD 0 0));have LZ:=(((u.setCell (p:=Φ w.heap.size) (Ae _) (Ad iD 0 0)).setCell (p:=Δ w.heap.size 1) (Ae _) (Aw ig 0)).setCell (p:=Δ w.heap.size 2) (Ae _) (Ad iD 0 0)).setCell (p:=Δ w.heap.size 3) (Ae _) (Ad iD 0 0);generalize(((ad.setCell (Φ w.heap.size) (Ad iD 0 0)).setCell (Δ w.heap.size 1) (Aw ig 0)).setCell (Δ w.heap.size 2) (Ad iD 0 0)).setCell (Δ w.heap.size 3) (Ad iD 0 0)=aM at*;obtain⟨N,P,Q,R,_⟩:=blk4 H;refine bodyPost_ret (v:=gJ #[gU #[Ad iD 0 0,Aw ig 0,Ad iD 0 0,Ad iD 0 0],fU jw]) (by simp[results,results164,go_sem,N,P,Q,R]) rfl ?_;exact⟨LZ,by rw[I.out];rfl⟩
 |true=>
  rw[x,jM rfl]at Y;obtain⟨bA,rfl,aZ⟩:=Y;obtain⟨a9,bh,rfl,_,a1⟩:=Cj aZ;have aX:=Ri a9 (iC (Δ z E)) (DL (Fb l)).length 32 bh c (DL (Fb l)) l ad (by rw[Hm];split<;>decide) U a1 (h.below u);generalize(DL (Fb l)).length=bx at*;have ae:=Ac aX;clear aX aZ a1;by_cases D:DL (Fb l)=l
  ·have I:Hid (Jd l=true):=Ac (by rw[Jd,x];simp[bk,D]);have J:Hid (decide (DL (Fb l)=l)=true):=Ac (by simp[D]);clear D x
   go_wp2_with fail
   refine ae.mono ?_;rintro B V⟨rfl,M⟩;have o:η ad V:=M.below _;replace m:=m.ξ o;replace n:=n.ξ o;replace u:=τ u o;clear q r s t f0 f1 f2 f3 ah al am an Z aa ab ac M;obtain⟨q,r,s,t,f0,f1,f2,f3⟩:=blk4 n;obtain⟨ah,al,am,an,Z,aa,ab,ac⟩:=blk4 m;rw[J.out];clear ae J
   go_wp2_with fail
   have H:=((((m.AX 0 (Ad a (En l[1].toNat).length e)).AX 1 (Aw ig (l[2].toNat:Int))).AX 2 (Ad b k.length f)).AX 3 (Ad d j.length i));have LZ:=(((u.setCell (p:=Φ w.heap.size) (Ae _) (Ad a (En l[1].toNat).length e)).setCell (p:=Δ w.heap.size 1) (Ae _) (Aw ig (l[2].toNat:Int))).setCell (p:=Δ w.heap.size 2) (Ae _) (Ad b k.length f)).setCell (p:=Δ w.heap.size 3) (Ae _) (Ad d j.length i);have aq:=AO (AO (AO (AO (own_below (own_below a5 C) o) (g:=w.heap.size) O 0 (Ad a (En l[1].toNat).length e)) (g:=w.heap.size) O 1 (Aw ig (l[2].toNat:Int))) (g:=w.heap.size) O 2 (Ad b k.length f)) (g:=w.heap.size) O 3 (Ad d j.length i);have ar:=AO (AO (AO (AO (own_below (own_below a6 C) o) (g:=w.heap.size) O 0 (Ad a (En l[1].toNat).length e)) (g:=w.heap.size) O 1 (Aw ig (l[2].toNat:Int))) (g:=w.heap.size) O 2 (Ad b k.length f)) (g:=w.heap.size) O 3 (Ad d j.length i);have av:=AO (AO (AO (AO (own_below (own_below a7 C) o) (g:=w.heap.size) O 0 (Ad a (En l[1].toNat).length e)) (g:=w.heap.size) O 1 (Aw ig (l[2].toNat:Int))) (g:=w.heap.size) O 2 (Ad b k.length f)) (g:=w.heap.size) O 3 (Ad d j.length i);generalize(((V.setCell (Φ w.heap.size) (Ad a (En l[1].toNat).length e)).setCell (Δ w.heap.size 1) (Aw ig (l[2].toNat:Int))).setCell (Δ w.heap.size 2) (Ad b k.length f)).setCell (Δ w.heap.size 3) (Ad d j.length i)=aM at*;obtain⟨N,P,Q,R,_⟩:=blk4 H;refine bodyPost_ret (v:=gJ #[gU #[Ad a (En l[1].toNat).length e,Aw ig (l[2].toNat:Int),Ad b k.length f,Ad d j.length i],fU true]) (by simp[results,results164,go_sem,N,P,Q,R]) rfl ?_;refine⟨LZ,?_⟩;rw[I.out,jM rfl,bb.out];exact⟨a,e,b,f,d,i,rfl,(CQ aq).1,(CQ ar).1,(CQ av).1,(CQ aq).2,(CQ ar).2,(CQ av).2,Vj aq O,Vj ar O,Vj av O⟩
  ·have I:Hid (Jd l=jw):=Ac (by rw[Jd,x];simp[D]);have J:Hid (decide (DL (Fb l)=l)=jw):=Ac (by simp[D]);clear D x
   go_wp2_with fail
   refine ae.mono ?_;rintro B V⟨rfl,M⟩;have o:η ad V:=M.below _;replace m:=m.ξ o;replace n:=n.ξ o;replace u:=τ u o;clear q r s t f0 f1 f2 f3 ah al am an Z aa ab ac M;obtain⟨q,r,s,t,f0,f1,f2,f3⟩:=blk4 n;obtain⟨ah,al,am,an,Z,aa,ab,ac⟩:=blk4 m;rw[J.out];clear ae J
   go_wp2_with fail
   have H:=((((m.AX 0 (Ad iD 0 0)).AX 1 (Aw ig 0)).AX 2 (Ad iD 0 0)).AX 3 (Ad iD 0 0));have LZ:=(((u.setCell (p:=Φ w.heap.size) (Ae _) (Ad iD 0 0)).setCell (p:=Δ w.heap.size 1) (Ae _) (Aw ig 0)).setCell (p:=Δ w.heap.size 2) (Ae _) (Ad iD 0 0)).setCell (p:=Δ w.heap.size 3) (Ae _) (Ad iD 0 0);generalize(((V.setCell (Φ w.heap.size) (Ad iD 0 0)).setCell (Δ w.heap.size 1) (Aw ig 0)).setCell (Δ w.heap.size 2) (Ad iD 0 0)).setCell (Δ w.heap.size 3) (Ad iD 0 0)=aM at*;obtain⟨N,P,Q,R,_⟩:=blk4 H;refine bodyPost_ret (v:=gJ #[gU #[Ad iD 0 0,Aw ig 0,Ad iD 0 0,Ad iD 0 0],fU jw]) (by simp[results,results164,go_sem,N,P,Q,R]) rfl ?_;exact⟨LZ,by rw[I.out];rfl⟩
def lY(A:Option Addr)(n c:Nat)(l:List UInt64)(w:jD)(_hn:n<=1000000)(h:Ws w A n l)(d:n≠8)(b:n≠32):
 Calls prog 164 #[fD A n c] w (Zh l w):=by
 have o:=h.len;have g:Hid (Jd l=jw):=Ac (by rw[Jd,o];simp[d,b]);have t8:((n:Int)==8)=jw:=by simp;omega
 have t32:((n:Int)==32)=jw:=by simp;omega
 obtain⟨j,e,a,x,m,z⟩:=Xu w 174 (fD iD 0 0) (fP ig 0);obtain⟨F,G,H,I,B,C,D,E⟩:=blk4 a;have i:=Ac e;clear e d b;go_enter func164,ntmps164
 go_wp2_with fail
 rw[<-i.out];refine(JB 1 _).mono ?_;rintro k u⟨rfl,rfl⟩;rw[show MI 1=8 from rfl]
 go_wp2_with fail
 refine(JB 2 _).mono ?_;rintro k u⟨rfl,rfl⟩;rw[show MI 2=32 from rfl]
 go_wp2_with fail
 have f:=((((a.AX 0 (Ad iD 0 0)).AX 1 (Aw ig 0)).AX 2 (Ad iD 0 0)).AX 3 (Ad iD 0 0));have LZ:=(((m.setCell (p:=Φ w.heap.size) (Ae _) (Ad iD 0 0)).setCell (p:=Δ w.heap.size 1) (Ae _) (Aw ig 0)).setCell (p:=Δ w.heap.size 2) (Ae _) (Ad iD 0 0)).setCell (p:=Δ w.heap.size 3) (Ae _) (Ad iD 0 0);generalize(((j.setCell (Φ w.heap.size) (Ad iD 0 0)).setCell (Δ w.heap.size 1) (Aw ig 0)).setCell (Δ w.heap.size 2) (Ad iD 0 0)).setCell (Δ w.heap.size 3) (Ad iD 0 0)=y at*;obtain⟨q,r,s,t,_⟩:=blk4 f;refine bodyPost_ret (v:=gJ #[gU #[Ad iD 0 0,Aw ig 0,Ad iD 0 0,Ad iD 0 0],fU jw]) (by simp[results,results164,go_sem,q,r,s,t]) rfl ?_;exact⟨LZ,by rw[g.out];rfl⟩
def decode_any(A:Option Addr)(n c:Nat)(l:List UInt64)(w:jD)(e:n<=1000000)(d:n<=c)(h:Ws w A n l):
 Calls prog 164 #[fD A n c] w (Zh l w):=by
 by_cases b:n=8
 ·subst b;exact Al1 A c l w d h
 ·by_cases a:n=32
  ·subst a;exact Ahj A c l w d h
  ·exact lY A n c l w e h b a
def YQ(x:Nd)(b:UInt8):jL:=
 match x.labels.findIdx? (λc=>c.toNat==b.toNat)with
 |some a=>if BU x then gJ #[fP ig ((x.kids.getD a 0).toNat:Int),fP gZ (if x.kids.length<=4 then 4+(a:Int)else 4+(b.toNat:Int)),fU true]else gJ #[fP ig 0,fP gZ 0,fU jw]
 |none=>gJ #[fP ig 0,fP gZ 0,fU jw]
def Ahk(p i j:Option Addr)(n z g r e s:Nat)(x:Nd)(a:UInt8)(w:jD)(V:n<=1000000)(W:g<=1000000)(X:e<=1000000)(h1:Bs w p n x.pre)(h2:Bs w i g x.labels)(h3:Ws w j e x.kids):
 Calls prog 131 #[gU #[fD p n z,fP ig (x.val.toNat:Int),fD i g r,fD j e s],fP .u8 (a.toNat:Int)] w λk D=>k=gY (YQ x a)/\η w D:=by
 have al:=h2.len;have aa:=h3.len;have am:a.toNat<256:=a.toNat_lt;obtain⟨H,M,I,J,K,L,f,ap⟩:=Ahi w 174 (fD p n z) (fP ig (x.val.toNat:Int)) (fD i g r) (fD j e s);have P:=Vh i g r x.labels a H O (h2.below f);have U:=MJ p i j n z g r e s x H V W X (h1.below f) (h2.below f) (h3.below f);have G:=Ac M;have y:=Ac P;have F:=Ac U;clear M P U;cases d:x.labels.findIdx? (λo=>o.toNat==a.toNat)with
 |none=>
  have m:placeOf (λo=>o.toNat==a.toNat) x.labels= -1:=by rw[placeOf,d]
  have c:Hid (YQ x a=gJ #[fP ig 0,fP gZ 0,fU jw]):=Ac (by rw[YQ,d]);have q:=Ac m;clear m d;go_enter func131,ntmps131
  go_wp2_with fail
  rw[<-G.out];refine y.mono ?_;rintro k D⟨rfl,rfl⟩;rw[q.out]
  go_wp2_with fail
  go_ret3
  exact⟨by rw[c.out];rfl,f⟩
 |some b=>
  have ah:decide ((b:Int)<0)=jw:=by simp
  have m:placeOf (λo=>o.toNat==a.toNat) x.labels=(b:Int):=by rw[placeOf,d]
  have Y:b<g:=by
   rw[List.findIdx?_eq_some_iff_getElem]at d;obtain⟨Y,_⟩:=d;omega
  have q:=Ac m;have E:=Ac d;clear m d;go_enter func131,ntmps131
  go_wp2_with fail
  rw[<-G.out];refine y.mono ?_;rintro k D⟨rfl,rfl⟩;rw[q.out];clear y q
  go_wp2_with fail
  refine F.mono ?_;rintro k ac⟨rfl,A⟩;obtain⟨Q,R,S,T,ab⟩:=Qr I J K L O A;have v:=τ f A;clear F I J K L f A;cases l:BU x with
  |false=>
   have c:Hid (YQ x a=gJ #[fP ig 0,fP gZ 0,fU jw]):=Ac (by rw[YQ,E.out];simp[l]);clear l
   go_wp2_with fail
   go_ret3
   exact⟨by rw[c.out];rfl,v⟩
  |true=>
   have an:=((Bh x).1 l).2.2.1;have Z:b<e:=O;have N:x.kids.getD b 0=x.kids[b]' O:=by simp[VD,show b<x.kids.length by omega]
   have C:YQ x a=gJ #[fP ig ((x.kids.getD b 0).toNat:Int),fP gZ (if x.kids.length<=4 then 4+(b:Int)else 4+(a.toNat:Int)),fU true]:=by rw[YQ,E.out];simp[l]
   rw[aa,N]at C;clear N;have c:=Ac C;clear C l
   go_wp2_with fail
   refine(Xt _ _ _ j e s ac O).mono ?_;rintro k aE⟨rfl,B⟩;obtain⟨av,aw,az,aD,aq⟩:=Qr Q R S T ab B;have u:=τ v B;clear Q R S T v B;obtain⟨ao,ad,ar,rfl,_,ae⟩:=(h3.below u).at Z;by_cases t:e<=4
   ·rw[jM t]at c;rw[jM t]
    go_wp2_with fail
    go_ret3
    exact⟨by rw[c.out];rfl,u⟩
   ·rw[ku t]at c;rw[ku t]
    go_wp2_with fail
    go_ret3
    exact⟨by rw[c.out];rfl,u⟩
