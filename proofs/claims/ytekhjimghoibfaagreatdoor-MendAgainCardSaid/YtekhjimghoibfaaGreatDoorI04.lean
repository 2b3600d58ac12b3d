import Derived.Test.YtekhjimghoibfaaGreatDoorI03
set_option linter.defProp false
set_option maxHeartbeats 32000000
set_option maxRecDepth 100000
open List renaming length_nil->Dp,length_cons->BD,getElem?_append_left->DU,getElem?_take->Dj,getElem?_append_right->Eg,length_take->Em,getElem?_drop->D7,ext_getElem?->Jt,getElem?_eq_none->FU,eq_nil_of_length_eq_zero->Dk,getElem?_eq_some_iff->C9,ext_getElem->EC,map_toArray->Nu,map_cons->Ci,map_nil->Gv
open Go.World renaming setCell->DF,setCells->O8
open Array renaming getElem?_modify->Rk,getElem?_setIfInBounds->Bd,getElem?_eq_some_iff->AA,getElem?_push->Gw
open Nat renaming min_eq_left->NG,zero_add->DX,le_refl->Ad,eq_zero_or_pos->Js,mul_le_mul->IE,le_trans->Bi,lt_of_lt_of_le->BI,pow_le_pow_right->FK,mod_lt->Tv,pow_pos->TG,lt_of_le_of_lt->Ju,and_le_right->Ai1,and_le_left->Ai8,xor_comm->Ap9
open Int renaming natCast_pow->IY,natCast_mul->Gx,natCast_ediv->Ai0
open Go.Lib renaming hid->Aa
namespace Go.Proofs.YtekhjimghoibfaaGreatDoor
open Go.RowKit
open Go.Proofs.Tryz
def EE(g:Nat)(e:TypeId)(d:Nat×Nat):∀(vs:List Value)(o:Nat)(w:World)(b:Array Value),w.heap[g]?=some (.cells b e d)->o+vs.length<=b.size->
 ∃c:Array Value,(w.setCells g o vs).heap[g]?=some (.cells c e d)/\c.size=b.size/\∀a:Nat,c[a]?=if o<=a/\a<o+vs.length then vs[a-o]? else b[a]?
 |[],o,w,b,h,_=>⟨b,h,rfl,λa=>by rw[if_neg (by simp only[Dp];omega)]⟩
 |f::k,o,w,b,h,j=>by
  have l:(w.setCell (Δ g o) f).heap[g]?=some (.cells (b.setIfInBounds o f) e d):=by
   simp[DF,Rk,h]
  obtain⟨c,m,n,p⟩:=EE g e d k (o+1) (w.setCell (Δ g o) f) (b.setIfInBounds o f) l (by simp at j⊢;omega);refine⟨c,m,by rw[n];simp,λa=>?_⟩;rw[p a];simp only[BD]at j⊢;by_cases q:a=o
  ·subst q;rw[if_neg O,if_pos O,Bd,if_pos rfl,if_pos O];simp
  ·by_cases i:o+1<=a/\a<o+1+k.length
   ·rw[if_pos i,if_pos O];rw[show a-o=(a-(o+1))+1 by omega];simp
   ·rw[if_neg i,if_neg O,Bd,if_neg O]
def setCells_size(w:World)(g o:Nat)(vs:List Value):(w.setCells g o vs).heap.size=w.heap.size:=by
 induction vs generalizing w o with
 |nil=>rfl
 |cons c b a=>rw[O8,a];simp[DF]
def Ei(w:World)(g o:Nat)(vs:List Value):(w.setCells g o vs).tape=w.tape:=by
 induction vs generalizing w o with
 |nil=>rfl
 |cons c b a=>rw[O8,a];rfl
def Ff(w:World)(g o:Nat)(vs:List Value):(w.setCells g o vs).os=w.os:=by
 induction vs generalizing w o with
 |nil=>rfl
 |cons c b a=>rw[O8,a];rfl
def DL(w:World)(g o:Nat)(vs:List Value):(w.setCells g o vs).output=w.output:=by
 induction vs generalizing w o with
 |nil=>rfl
 |cons c b a=>rw[O8,a];rfl
def Jl(w:World)(g o:Nat)(vs:List Value){k:Nat}(b:k≠g):(w.setCells g o vs).heap[k]?=w.heap[k]?:=by
 induction vs generalizing w o with
 |nil=>rfl
 |cons d e c=>rw[O8,c];exact Below.heap_setCell w (Δ g o) d k (λa=>b a)
def UU(xs:List Value)(i:Nat)(u:Value):List Value:=xs.take i++u::xs.drop i
def oz(xs:List Value)(i:Nat)(u:Value)(hi:i<=xs.length)(a:Nat):(UU xs i u)[a]?=if a<i then xs[a]? else if a=i then some u else xs[a-1]?:=by
 unfold UU;by_cases b:a<i
 ·rw[if_pos b,DU (by simp;omega),Dj,if_pos b]
 ·rw[if_neg b,Eg (by simp;omega)];simp only[Em,NG hi];by_cases c:a=i
  ·subst c;simp
  ·rw[if_neg c,show a-i=(a-1-i)+1 by omega,List.getElem?_cons_succ,D7];congr 1;omega
def Xw(xs:List Value)(i:Nat)(u:Value)(hi:i<=xs.length):(UU xs i u).length=xs.length+1:=by
 unfold UU;simp;omega
def fD{w:World}{h g n c i:Nat}{e:TypeId}{xs:List Value}{u:Value}(v:w.ownsRow h e 1 (.slice (some (Φ g)) n c) n xs)(hi:i<=n)(z:n+1<=c):
 ((w.setCells g (i+1) (xs.drop i)).setCells g i [u]).ownsRow h e 1 (.slice (some (Φ g)) (n+1) c) (n+1) (UU xs i u):=by
 obtain⟨x,d⟩:=v;have J:xs.length=n:=by simpa using x
 rcases d with⟨d,_⟩|⟨H,G,j,m,y,B,K,A,I,C⟩
 ·cases d
 simp only[Value.slice.injEq,Option.some.injEq,Addr.mk.injEq,and_true,true_and]at m;obtain⟨rfl,rfl⟩:=m;obtain⟨D,p,E,q⟩:=EE g e (0,0) (xs.drop i) (i+1) w j B (by simp;omega);obtain⟨b,r,F,s⟩:=EE g e (0,0) [u] i _ D p (by simp;omega);refine⟨by rw[Xw xs i u O];omega,.inr ⟨g,c,b,rfl,y,r,z,A,O,?_⟩⟩;apply Jt;intro a;rw[oz xs i u O a,Dj];have o:∀a,a<n->j[a]?=xs[a]?:=λa f=>by rw[<-C,Dj,if_pos O];simp
 by_cases f:a<(n+1)*1
 ·rw[if_pos f];have t:b.toList[a]?=b[a]?:=by simp
  rw[t,s a];simp only[BD,Dp,DX];by_cases k:a=i
  ·subst k;rw[if_pos O,if_neg O,if_pos rfl];simp
  ·rw[if_neg O,q a];by_cases l:a<i
   ·rw[if_neg O,if_pos l,o a O]
   ·rw[if_pos (by simp;omega),if_neg l,if_neg k,D7];congr 1;omega
 ·rw[if_neg f,if_neg O,if_neg O,FU O]
def fE{w:World}{f G:Nat}{e:TypeId}{xs zs:List Value}{i:Nat}{u:Value}(b:Array Value)(s:f<=w.heap.size)(hi:i<=xs.length)(q:xs.length+1<=G)(r:G<=maxLen)(A:b.size=G)(v:∀a,a<i->b[a]?=xs[a]?)(x:zs=xs.drop i):
 ((((w.alloc (.cells b e)).drew.setCells w.heap.size i [u]).drew).setCells w.heap.size (i+1) zs).ownsRow f e 1 (.slice (some (Φ w.heap.size)) (xs.length+1) G) (xs.length+1) (UU xs i u):=by
 subst x;have t:((w.alloc (.cells b e)).drew).heap[w.heap.size]?=some (.cells b e (0,0)):=by
  show(w.heap.push _)[w.heap.size]?=_;simp
 obtain⟨j,k,y,m⟩:=EE w.heap.size e (0,0) [u] i _ b t (by simp;omega);have l:(((w.alloc (.cells b e)).drew.setCells w.heap.size i [u]).drew).heap[w.heap.size]?=some (.cells j e (0,0)):=k;obtain⟨c,n,z,o⟩:=EE w.heap.size e (0,0) (xs.drop i) (i+1) _ j l (by simp;omega);refine⟨by rw[Xw xs i u hi];omega,.inr ⟨w.heap.size,G,c,rfl,s,n,q,r,O,?_⟩⟩;apply Jt;intro a;rw[oz xs i u hi a,Dj];by_cases g:a<(xs.length+1)*1
 ·rw[if_pos g];have p:c.toList[a]?=c[a]?:=by simp
  rw[p,o a,m a];simp only[BD,Dp,DX,List.length_drop];by_cases h:a=i
  ·subst h;rw[if_neg O,if_pos O,if_neg O,if_pos rfl];simp
  ·by_cases d:a<i
   ·rw[if_neg O,if_neg O,if_pos d,v a d]
   ·rw[if_pos O,if_neg d,if_neg h,D7];congr 1;omega
 ·rw[if_neg g,if_neg O,if_neg O,FU O]
def jF(xs:List Value)(i:Nat):List Value:=xs.take i++xs.drop (i+1)
def Afs(xs:List Value)(i:Nat)(hi:i<xs.length)(a:Nat):(jF xs i)[a]?=if a<i then xs[a]? else xs[a+1]?:=by
 unfold jF;by_cases b:a<i
 ·rw[if_pos b,DU (by simp;omega),Dj,if_pos b]
 ·rw[if_neg b,Eg (by simp;omega)];simp only[Em,NG (Nat.le_of_lt hi)];rw[D7];congr 1;omega
def o5(xs:List Value)(i:Nat)(hi:i<xs.length):(jF xs i).length=xs.length-1:=by
 unfold jF;simp;omega
def Xx{w:World}{h g n c i:Nat}{e:TypeId}{xs zs:List Value}(t:w.ownsRow h e 1 (.slice (some (Φ g)) n c) n xs)(hi:i<n)(I:zs.length=1):
 ((w.setCells g i (xs.drop (i+1))).setCells g (n-1) zs).ownsRow h e 1 (.slice (some (Φ g)) (n-1) c) (n-1) (jF xs i):=by
 obtain⟨u,d⟩:=t;have G:xs.length=n:=by simpa using u
 rcases d with⟨d,_⟩|⟨E,D,j,l,v,y,H,x,F,z⟩
 ·cases d
 simp only[Value.slice.injEq,Option.some.injEq,Addr.mk.injEq,and_true,true_and]at l;obtain⟨rfl,rfl⟩:=l;obtain⟨A,o,B,p⟩:=EE g e (0,0) (xs.drop (i+1)) i w j y (by simp;omega);obtain⟨b,q,C,r⟩:=EE g e (0,0) zs (n-1) _ A o O;refine⟨by rw[o5 xs i O];omega,.inr ⟨g,c,b,rfl,v,q,O,x,O,?_⟩⟩;apply Jt;intro a;rw[Afs xs i O a,Dj];have m:∀a,a<n->j[a]?=xs[a]?:=λa f=>by rw[<-z,Dj,if_pos O];simp
 by_cases f:a<(n-1)*1
 ·rw[if_pos f];have s:b.toList[a]?=b[a]?:=by simp
  rw[s,r a,if_neg O,p a];by_cases k:a<i
  ·rw[if_neg O,if_pos k,m a O]
  ·rw[if_pos (by simp;omega),if_neg k,D7];congr 1;omega
 ·rw[if_neg f,if_neg O,FU O]
def Kept.refl(w:World)(row:Option Nat):Kept w w row:=⟨Ad _,λ_ _ _=>rfl⟩
def Kept.setCells{w w':World}{g:Nat}(a:Kept w w' (some g))(o:Nat)(vs:List Value):Kept w (w'.setCells g o vs) (some g):=
 ⟨by rw[setCells_size];exact a.1,λe d b=>by rw[Jl _ _ _ _ (λc=>b (by rw[c]))];exact a.2 e d b⟩
def Kept.drew{w w':World}{row:Option Nat}(a:Kept w w' row):Kept w w'.drew row:=a
def Kept.below{w w':World}{row:Option Nat}{B:Nat}(b:Kept w w' row)(i:B<=w.heap.size)(e:w'.os=w.os)(h:w'.tape=w.tape)(f:w'.output=w.output)(g:∀a,row=some a->B<=a):Below B w w':=
 ⟨e,h,f,b.1,λc j=>b.2 c O (λd=>Ω (g c d.symm))⟩
def Uj{P:Program}{l e:TypeId}{z:Value}{bytes:Nat}(d:MS P l e z bytes)(y:TypeId){w:World}{f:Nat}{v:Value}{n:Nat}{xs a:List Value}
 (k:w.ownsRow f e 1 v n xs){A:Option Addr}{m:Nat}(h:Rd w A m a)
 (h1:∀j∈a,j.oneCell'=true)(H:n+m<=1000000000)(D:bytes<=64)(u:f<=w.heap.size)(c:Nat):
 ∃o b,(Builtin.append_ #[l,l] y #[v,.slice A m c]).run P w=.ok o b/\b.ownsRow f e 1 o (n+m) (xs++a)/\Below f w b/\Kept w b v.ownBlock:=by
 obtain⟨R,q,M,N,Q⟩:=info_parts d.hi;rcases A with _|t
 ·have g:m=0:=by
   rcases Js m with g|g
   ·exact g
   ·obtain⟨_,_,e,_⟩:=h.2 g;cases e
  subst g;have I:a=[]:=Dk h.1;subst I;refine⟨v,w,?_,by simpa using k,Below.refl _ _,Kept.refl _ _⟩;rcases k.2 with⟨rfl,rfl⟩|⟨W,T,V,rfl,_,_,J,_⟩
  ·simp[Builtin.append_,run_underlying d.ht,sizeOf,typeInfo,q,Builtin.lenOf,Builtin.firstCells]
  ·simp[Builtin.append_,run_underlying d.ht,sizeOf,typeInfo,q,Builtin.lenOf,Builtin.firstCells,J,storeCells]
 ·have F:∀i j,a[i]?=some j->w.cell? (t.add i)=some j:=by
   intro i j x;have G:i<m:=by
    have:=(C9.1 x).1;have:=h.1;omega
   obtain⟨S,Y,e,_,E⟩:=h.2 O;injection e with e
   subst e;rw[Addr.add_lit,E i G,x]
  have X:(n+m)*bytes<=1000000000*64:=IE H D;obtain⟨o,b,L,C,p,_⟩:=run_append_own (P:=P) w f l y e R z 1 bytes d.ht q M N Q d.hz U v n xs k t m c a (by simp[h.1]) F h1
   (by unfold maxLen;omega) O u
  exact⟨o,b,L,C,(Below.refl _ _).grown p u (λs r=>(k.lt s r).1),p.size,λs r K=>p.block s r (λB=>K B)⟩
structure Touch(F:Nat->Prop)(w w':World):Prop where
 os:w'.os=w.os
 tape:w'.tape=w.tape
 output:w'.output=w.output
 size:w.heap.size<=w'.heap.size
 block:∀k,k<w.heap.size->¬F k->w'.heap[k]?=w.heap[k]?
def Touch.refl(F:Nat->Prop)(w:World):Touch F w w:=⟨rfl,rfl,rfl,Ad _,λ_ _ _=>rfl⟩
def Touch.mono{F G:Nat->Prop}{w w':World}(a:Touch F w w')(c:∀k,F k->G k):Touch G w w':=
 ⟨a.os,a.tape,a.output,a.size,λk d e=>a.block k d (λb=>e (c k b))⟩
def Touch.of_below{F:Nat->Prop}{w w':World}(a:η w w'):Touch F w w':=
 ⟨a.os,a.tape,a.output,a.size,λk b _=>a.block k b⟩
def Touch.below{F:Nat->Prop}{w w':World}(a:Touch F w w'){B:Nat}(c:B<=w.heap.size)(hF:∀k,F k->B<=k):Below B w w':=
 ⟨a.os,a.tape,a.output,a.size,λk d=>a.block k O (λb=>Ω (hF k b))⟩
def Touch.trans{F G:Nat->Prop}{w w' e:World}(b:Touch F w w')(k:Touch G w' e)(f:∀a,G a->F a\/w.heap.size<=a):Touch F w e:=
 ⟨k.os.trans b.os,k.tape.trans b.tape,k.output.trans b.output,Bi b.size k.size,λa c d=>by
  rw[k.block a (BI c b.size) (λg=>(f a g).elim d (λh=>O))];exact b.block a c d⟩
def Touch.setCell{F:Nat->Prop}{w w':World}(a:Touch F w w'){p:Addr}(g:F p.block\/w.heap.size<=p.block)(u:Value):Touch F w (w'.setCell p u):=
 ⟨a.os,a.tape,a.output,by simpa[DF]using a.size,λb e c=>by
  rw[Below.heap_setCell w' p u b (λd=>g.elim (λf=>c (d▸f)) (λh=>O))];exact a.block b e c⟩
def CQ.touch{w w':World}{F:Nat->Prop}{g:Nat}{e:TypeId}{xs:List Value}(a:CQ w g e xs)(c:Touch F w w')(b:¬F g):CQ w' g e xs:=(c.block g a.lt b).trans a
def Rd.touch{w w':World}{F:Nat->Prop}{A:Option Addr}{n:Nat}{xs:List Value}(d:Rd w A n xs)(f:Touch F w w')(hF:∀a,A=some a->¬F a.block):Rd w' A n xs:=
 ⟨d.1,λi=>by
   obtain⟨b,k,c,e,g⟩:=d.2 i;exact⟨b,k,c,BI e f.size,λj h=>(World.cell?_of_block (w:=w) (f.block b e (hF _ c))).trans (g j h)⟩⟩
def Ie{w w':World}{F:Nat->Prop}{c:Nat}{e:TypeId}{v:Value}{n:Nat}{xs:List Value}{size:Nat}(b:w.ownsRow c e size v n xs)(k:Touch F w w')(hF:∀a,v.ownBlock=some a->¬F a):w'.ownsRow c e size v n xs:=by
 refine⟨b.1,?_⟩;rcases b.2 with b|⟨a,g,h,d,i,f,j⟩
 ·exact .inl b
 ·exact .inr ⟨a,g,h,d,i,(k.block a (AA.1 f).1 (hF a (by rw[d];rfl))).trans f,j⟩
def OI{w:World}{b g n c i:Nat}{e:TypeId}{xs:List Value}{u:Value}(k:w.ownsRow b e 1 (.slice (some (Φ g)) n c) n xs)(_:i<n):
 (w.setCell (Δ g i) u).ownsRow b e 1 (.slice (some (Φ g)) n c) n (xs.set i u):=by
 obtain⟨d,a⟩:=k;have v:xs.length=n:=by simpa using d
 rcases a with⟨a,_⟩|⟨t,s,j,f,l,p,q,m,o,r⟩
 ·cases a
 simp only[Value.slice.injEq,Option.some.injEq,Addr.mk.injEq,and_true,true_and]at f;obtain⟨rfl,rfl⟩:=f;have h:(w.setCell (Δ g i) u).heap[g]?=some (.cells (j.setIfInBounds i u) e (0,0)):=by
  simp[DF,Rk,p]
 refine⟨by simpa using d,.inr ⟨g,c,_,rfl,l,h,q,m,by simpa using o,?_⟩⟩;rw[Array.toList_setIfInBounds,List.take_set,r]
def SK{w:World}{d g n c i:Nat}{e:TypeId}{xs:List Value}(a:w.ownsRow d e 1 (.slice (some (Φ g)) n c) n xs)(hi:i<n):
 (∃j,w.cell? (Δ g i)=some j)/\w.frozen? (Δ g i)=false:=by
 refine⟨YC a hi,?_⟩;rcases a.2 with⟨f,_⟩|⟨m,k,l,b,o,h,_⟩
 ·cases f
 ·simp only[Value.slice.injEq,Option.some.injEq,Addr.mk.injEq,and_true,true_and]at b;obtain⟨rfl,rfl⟩:=b;simp[World.frozen?,h]
def Om{w:World}{b n c:Nat}{A:Option Addr}{e:TypeId}{xs:List Value}(g:w.ownsRow b e 1 (.slice A n c) n xs)(o:0<n):∃a,A=some (Φ a)/\b<=a/\a<w.heap.size:=by
 rcases g.2 with⟨m,l⟩|⟨f,j,k,d,h,i,_⟩
 ·omega
 ·simp only[Value.slice.injEq]at d;exact⟨f,d.1,h,(AA.1 i).1⟩
def zU(A:Option Addr)(n c k:Nat)(w:World)(f:n<=1000000000)(d:k%8=0)(e:k+8<=n):
 Calls prog 95 #[.slice A n c,.int .i64 (k:Int)] w λa b=>a=.returned (.bool true)/\w=b:=by
 have t1:decide ((0:Int)<=(k:Int))=true:=by simp
 have t2:((k:Int)%8==0)=true:=by rw[beq_iff_eq];omega
 have t3:decide ((k:Int)<=(n:Int) -8)=true:=decide_eq_true O;go_enter func95,ntmps95;go_wp2;go_ret;exact⟨rfl,rfl⟩
def jG(a:Nat):2^(8*a)=256^a:=by rw[Nat.pow_mul]
def Abz(a:Nat)(b:a<8):256^a<=72057594037927936:=by
 have:256^a<=256^7:=FK U O;exact Bi this U
def zV(X b a:Nat)(k:b<256)(i:a<8):bits .or .u64 ((X:Int)%256^a) (IntKind.u64.wrap (IntKind.u64.wrap (b:Int)*2^(8*a)))=((X%256^a+b*256^a:Nat):Int):=by
 have g:X%256^a<256^a:=Tv _ (TG U);have h:=Abz a i;have j:b*256^a<=255*72057594037927936:=IE O h;have c:((X:Int)%256^a)=((X%256^a:Nat):Int):=by rw[Int.natCast_emod,IY];rfl
 have d:IntKind.u64.wrap (b:Int)=(b:Int):=by rw[IntKind.wrap_u64];omega
 have e:(b:Int)*2^(8*a)=((b*256^a:Nat):Int):=by rw[<-jG,Gx,IY];rfl
 have f:IntKind.u64.wrap ((b*256^a:Nat):Int)=((b*256^a:Nat):Int):=by rw[IntKind.wrap_u64];omega
 rw[c,d,e,f,u64_or_nat _ _ O O,Nat.or_comm,nat_join (8*a) _ _ (by rw[jG];exact Nat.mul_mod_left _ _) (by rw[jG];exact g)];congr 1;omega
def o6(A:Option Addr)(n c k:Nat)(l:List UInt64)(w:World)(x:n<=1000000)(g:Bs w A n (leBytes l))(r:k<l.length):
 Calls prog 58 #[.slice A n c,.int .i64 ((8*k:Nat):Int)] w λf j=>f=.returned (.tuple #[.int .u64 (l[k].toNat:Int),.bool true])/\w=j:=by
 have s:=g.len;rw[leBytes_length]at s;have h:=zU A n c (8*k) w O O O;have e:=Aa h;have m:=Aa (Ji l k · r ·);clear h;go_enter func58,ntmps58
 go_wp2_with fail
 refine e.out.mono ?_;rintro f j⟨rfl,rfl⟩;clear e
 go_wp2_with fail
 go_loop [6,12](λu d=>∃a:Nat,a<=8/\d=.int .i64 a/\u=.int .u64 ((l[k].toNat%256^a:Nat):Int))(λ_ d=>8-(intOf d).toNat)
 case atStart=>exact⟨0,O,rfl,by simp⟩
 case round=>
  obtain⟨a,v,rfl,rfl⟩:=hrel;by_cases i:a<8
  ·obtain⟨t,B,z,rfl,y,p⟩:=g.at (show 8*k+a<n by omega);have b:=m.out a i;rw[List.getElem?_eq_getElem t]at b;injection b with b
   rw[b]at p;have o:Hid (bits .or .u64 ((l[k].toNat:Int)%256^a) (IntKind.u64.wrap (IntKind.u64.wrap ((leB l[k] a).toNat:Int)*2^(8*a)))=((l[k].toNat%256^(a+1):Nat):Int)):=Aa (by
    rw[zV _ _ _ (leB l[k] a).toNat_lt i,le_step])
   go_wp2
   go_round
   case rel=>exact⟨a+1,O,by go_num,by rw[o.out]⟩
   case measure=>simp[intOf];omega
  ·have q:a=8:=O;subst q;rw[Anf];go_wp2;go_ret2;exact⟨rfl,rfl⟩
def oC(x:UInt64)(a:Nat):(x.toNat:Int)/2^(8*a)%256=((leB x a).toNat:Int):=by
 have b:(x.toNat:Int)/2^(8*a)=((x.toNat/256^a:Nat):Int):=by
  rw[Ai0,<-jG,IY];rfl
 rw[VY,b];rfl
def Xy(A:Option Addr)(n c k:Nat)(l:List UInt64)(x:UInt64)(w:World)(G:n<=1000000)(q:Bs w A n (leBytes l))(s:k<l.length):
 Calls prog 90 #[.slice A n c,.int .i64 ((8*k:Nat):Int),.int .u64 (x.toNat:Int)] w λg i=>∃b o,g=.returned (.tuple #[.slice (some (Φ b)) n o,.bool true])/\i.ownsRow w.heap.size 5 1 (.slice (some (Φ b)) n o) n ((leBytes (l.set k x)).map bv)/\η w i:=by
 have E:=q.len;rw[leBytes_length]at E;have v:=Aa (Abq l k x · s ·);have m:=Aa (Abp l k x);have u:=Aa (nR l k x s);go_enter func90,ntmps90
 go_wp2_with fail
 refine(Ug A n c (leBytes l) w G q).mono ?_;rintro g H⟨Q,rfl,e,B⟩;obtain⟨I,f,rfl,J,_⟩:=CS e;obtain⟨b,rfl,C,L⟩:=Om e O;have j:=Aa (zU A n c (8*k) H O O O);rw[<-m.out]at e;clear m
 go_wp2_with fail
 refine j.out.mono ?_;rintro g i⟨rfl,rfl⟩;clear j
 go_wp2_with fail
 go_loopw [17](λh wr=>∃a:Nat,a<=8/\h=.int .i64 a/\wr.ownsRow w.heap.size 5 1 (.slice (some (Φ b)) n f) n ((Yb l k x a).map bv)/\η w wr)(λh _=>8-(intOf h).toNat)
 case atStart=>exact⟨0,O,rfl,e,B⟩
 case round=>
  obtain⟨a,M,rfl,d,r⟩:=hrel;by_cases F:a<8
  ·obtain⟨⟨P,N⟩,K⟩:=SK d (show 8*k+a<n by omega);have y:Hid ((wr.setCell (Δ b (8*k+a)) (.int .u8 ((leB x a).toNat:Int))).ownsRow w.heap.size 5 1 (.slice (some (Φ b)) n f) n ((Yb l k x (a+1)).map bv)):=Aa (by
    rw[<-v.out a F,List.map_set];exact OI d O)
   have t:=Aa (r.setCell (p:=Δ b (8*k+a)) C (.int .u8 ((leB x a).toNat:Int)));have z:=Aa (oC x a);clear d;go_wp2;rw[z.out];go_roundw
   case rel=>exact⟨a+1,O,by go_num,y.out,t.out⟩
   case measure=>simp[intOf];omega
  ·have D:a=8:=O;subst D;rw[u.out]at d;go_wp2;go_ret2;exact⟨b,f,rfl,d,r⟩
def FP(ws:Nat->UInt64)(i:Nat):List UInt64:=(List.range 8).map λa=>ws (8*i+a)
def J3(ws:Nat->UInt64)(i:Nat):(FP ws i).length=8:=by simp[FP]
def KE(ws:Nat->UInt64)(i k:Nat)(a:k<(FP ws i).length):(FP ws i)[k]=ws (8*i+k):=by simp[FP]
def Ab0(ws:Nat->UInt64)(i k:Nat)(x:UInt64)(_:k<8):(FP ws i).set k x=FP (λb=>if b=8*i+k then x else ws b) i:=by
 apply EC
 ·simp[FP]
 ·intro c d e;rw[List.getElem_set,KE,KE];by_cases a:k=c
  ·rw[if_pos a,if_pos O]
  ·rw[if_neg a,if_neg O]
def oD(ws:Nat->UInt64)(i a k:Nat)(x:UInt64)(f:k<8)(g:a≠i):FP (λb=>if b=8*i+k then x else ws b) a=FP ws a:=by
 apply EC
 ·simp[FP]
 ·intro d c e;have:d<8:=by simpa[FP]using c
  rw[KE,KE,if_neg O]
structure Mode where
 NC:Nat->List (Nat×UInt64)
 lf:Int
def Mode.len(m:Mode)(i:Nat):Nat:=(m.NC i).length
instance:CoeFun Mode (λ_=>Nat->Nat):=⟨Mode.len⟩
abbrev MU(lf:Int):Mode:=⟨λ_=>[],lf⟩
abbrev M0:Mode:=MU (-1)
def Mode.tick(m:Mode):Mode:=⟨m.NC,if 0<m.lf then m.lf-1 else m.lf⟩
def Mode.note(m:Mode)(i:Nat)(c:Nat×UInt64):Mode:=⟨λa=>if a=i then m.NC i++[c]else m.NC a,m.lf⟩
def Mode.wipe(m:Mode)(i:Nat):Mode:=⟨λa=>if a=i then[]else m.NC a,m.lf⟩
def Mode.Rx(m:Mode)(i:Nat)(c:Nat×UInt64)(k:Nat):(m.note i c).len k=if k=i then m.len i+1 else m.len k:=by
 unfold Mode.note Mode.len;simp only;split
 ·simp
 ·rfl
def Mode.YX(m:Mode)(i k:Nat):(m.wipe i).len k=if k=i then 0 else m.len k:=by
 unfold Mode.wipe Mode.len;simp only;split<;>rfl
def chV:List (Nat×UInt64)->List Value
 |[]=>[]
 |a::b=>.int .i64 (a.1:Nat):: .int .u64 (a.2.toNat:Nat)::chV b
def Jn(i:Nat):List (Nat×UInt64)->(Nat->UInt64)->Nat->UInt64
 |[],a=>a
 |b::d,a=>λc=>if c=8*i+b.1/8 then b.2 else Jn i d a c
def PI(m:Mode)(a:Nat->Nat)(ws:Nat->UInt64)(q:Nat):UInt64:=Jn (q/8) ((m.NC (q/8)).drop (a (q/8))) ws q
def zW:∀(a b:List (Nat×UInt64)),chV (a++b)=chV a++chV b
 |[],_=>rfl
 |c::a,b=>by simp only[List.cons_append,chV,zW a b]
def YY(w:World)(A:Option Addr)(a:List (Nat×UInt64))(c:Nat)(d:Option Nat):Prop:=
 (d=none/\a=[]/\c=0)\/∃b,d=some b/\A=some (Φ b)/\w.ownsRow 0 137 2 (.slice A a.length c) a.length (chV a)
structure Cb(w:World)(d L:Nat)(ws:Nat->UInt64)(len:Mode)(mark:Nat->Nat)(g:Nat)(hb:Nat->Option Nat):Prop where
 box:∃st:Int,CQ w d 70 [.slice (some (Φ g)) L L,.bool (decide (len.lf=0)),.int .i64 len.lf,.int .i64 st]
 lfr: -1<=len.lf/\len.lf<=1000000000
 gd:g≠d
 blk:∃cur:Array Value,w.heap[g]?=some (.cells cur 81 (0,0))/\cur.size=66*L/\
  (∀i,i<L->∀k,k<64->cur[66*i+k]?=(leBytes (FP ws i))[k]?.map bv)/\
  ∀i,i<L->∃A c,cur[66*i+64]?=some (.slice A (len i) c)/\cur[66*i+65]?=some (.int .i64 (mark i:Int))/\YY w A (len.NC i) c (hb i)
 bd:∀i,i<L->∀h,hb i=some h->h≠g/\h≠d
 inj:∀i j,i<L->j<L->i≠j->∀h,hb i=some h->hb j≠some h
 mrk:∀i,i<L->mark i<=len i+1
def Dq(c L g:Nat)(d:Nat->Option Nat)(b:Nat):Prop:=b=c\/b=g\/∃a,a<L/\d a=some b
def Dev(w:World)(b L:Nat)(ws:Nat->UInt64)(len:Mode)(mark:Nat->Nat)(own:Nat->Prop):Prop:=
 ∃c d,Cb w b L ws len mark c d/\∀a,own a<->Dq b L c d a
def YY.keep{w w':World}{A:Option Addr}{i:List (Nat×UInt64)}{c:Nat}{g:Option Nat}(e:YY w A i c g)(r:∀a,g=some a->a<w.heap.size->w'.heap[a]?=w.heap[a]?):YY w' A i c g:=by
 rcases e with e|⟨l,j,k,⟨q,f⟩⟩
 ·exact .inl e
 ·refine .inr ⟨l,j,k,⟨q,?_⟩⟩;rcases f with f|⟨d,o,p,b,m,h,n⟩
  ·exact .inl f
  ·refine .inr ⟨d,o,p,b,m,?_,n⟩;have:d=l:=by
    simp only[Value.slice.injEq]at b;have:=b.1.symm.trans k;simpa using this
   subst this;rw[r d j (AA.1 h).1];exact h
def YY.lt{w:World}{A:Option Addr}{j:List (Nat×UInt64)}{c:Nat}{h:Option Nat}(e:YY w A j c h):∀d,h=some d->d<w.heap.size:=by
 intro d a;rcases e with⟨e,_⟩|⟨n,k,g,⟨s,b⟩⟩
 ·rw[e]at a;cases a
 ·rcases b with⟨b,_⟩|⟨m,q,r,f,o,i,p⟩
  ·simp only[Value.slice.injEq]at b;rw[g]at b;cases b.1
  ·have l:m=n:=by
    simp only[Value.slice.injEq]at f;have:=f.1.symm.trans g;simpa using this
   rw[k]at a;injection a with a
   subst l a;exact(AA.1 i).1
def Cb.keep{w w':World}{d L:Nat}{ws:Nat->UInt64}{len:Mode}{mark:Nat->Nat}{g:Nat}{hb:Nat->Option Nat}(h:Cb w d L ws len mark g hb)
 (b:∀a,Dq d L g hb a->a<w.heap.size->w'.heap[a]?=w.heap[a]?):Cb w' d L ws len mark g hb:=by
 obtain⟨st,e⟩:=h.box;obtain⟨cur,f,r,m,n⟩:=h.blk;refine⟨⟨st,(b d (.inl rfl) e.lt).trans e⟩,h.lfr,h.gd,⟨cur,(b g (.inr (.inl rfl)) (AA.1 f).1).trans f,r,m,λi j=>?_⟩,h.bd,h.inj,h.mrk⟩;obtain⟨A,c,k,l,p⟩:=n i j;exact⟨A,c,k,l,p.keep (λa o q=>b a (.inr (.inr ⟨i,j,o⟩)) q)⟩
def Dev.touch{w w':World}{b L:Nat}{ws:Nat->UInt64}{len:Mode}{mark:Nat->Nat}{own F:Nat->Prop}(e:Dev w b L ws len mark own)(j:Touch F w w')(hF:∀a,own a->¬F a):Dev w' b L ws len mark own:=by
 obtain⟨d,f,h,c⟩:=e;exact⟨d,f,h.keep (λa i g=>j.block a g (hF a ((c a).2 i))),c⟩
def Dev.below{w w':World}{a L:Nat}{ws:Nat->UInt64}{len:Mode}{mark:Nat->Nat}{own:Nat->Prop}(d:Dev w a L ws len mark own)(e:η w w'):Dev w' a L ws len mark own:=by
 obtain⟨c,f,i,h⟩:=d;exact⟨c,f,i.keep (λb _ g=>e.block b g),h⟩
def Cb.lt{w:World}{d L:Nat}{ws:Nat->UInt64}{len:Mode}{mark:Nat->Nat}{g:Nat}{hb:Nat->Option Nat}(h:Cb w d L ws len mark g hb):∀a,Dq d L g hb a->a<w.heap.size:=by
 intro a e;obtain⟨st,f⟩:=h.box;obtain⟨cur,k,o,n,b⟩:=h.blk;rcases e with rfl|rfl|⟨i,m,l⟩
 ·exact f.lt
 ·exact(AA.1 k).1
 ·obtain⟨A,c,_,_,j⟩:=b i m;exact j.lt a l
def Dev.lt{w:World}{b L:Nat}{ws:Nat->UInt64}{len:Mode}{mark:Nat->Nat}{own:Nat->Prop}(c:Dev w b L ws len mark own):∀a,own a->a<w.heap.size:=by
 obtain⟨g,h,f,e⟩:=c;exact λa d=>f.lt a ((e a).1 d)
def Cb.line{w:World}{d L:Nat}{ws:Nat->UInt64}{len:Mode}{mark:Nat->Nat}{g:Nat}{hb:Nat->Option Nat}(h:Cb w d L ws len mark g hb)(i:Nat)(hi:i<L):Bs w (some (Δ g (66*i))) 64 (leBytes (FP ws i)):=by
 obtain⟨cur,a,f,b,e⟩:=h.blk;refine⟨by rw[List.length_map,leBytes_length,J3],λ_=>⟨g,66*i,rfl,(AA.1 a).1,λj c=>?_⟩⟩;rw[cell_of_row w g _ cur _ (0,0) a,b i hi j c,List.getElem?_map]
def YZ{P:Program}(w:World)(b off:Nat)(a:TypeId)(vs:List Value)(e:TypeDesc)(k:P.underlying a=some e)(n:(match e with| .struct _| .array _ _=>true|_=>false)=true)
 (hi:(P.info? a).map (·.size)=some vs.length)(g:∀c d,vs[c]?=some d->w.cell? (Δ b (off+c))=some d):(loadVar a (Δ b off)).run P w=.ok (.agg vs.toArray) w:=by
 have i:(loadCells (Δ b off) vs.length).run P w=.ok vs.toArray w:=
  run_loadCells_list (P:=P) w (Δ b off) vs (λc d l=>by rw[Addr.add_lit];exact g c d l)
 cases f:P.info? a with
 |none=>simp[f]at hi
 |some m=>
  have j:m.size=vs.length:=by simpa[f]using hi
  have h:(isAgg a).run P w=.ok true w:=by
   unfold isAgg;rw[Sem.run_bind,run_underlying k w];cases e<;>simp_all
  simp[loadVar,Sem.run_bind,h,sizeOf,typeInfo,f,j,i]
def Za{P:Program}{g:Array Oper}{rest:List Oper}{o:Oper}{a:Act}{w:World}{e:Exit->Act->World->Prop}(m:o.guard=none)(c:TypeId)(x:Operand)(n:o.op=.load c x)
 (b off:Nat)(q:a.eval x=.pointer (some (Δ b off)))(vs:List Value)(d:TypeDesc)(p:P.underlying c=some d)(l:(match d with| .struct _| .array _ _=>true|_=>false)=true)
 (hi:(P.info? c).map (·.size)=some vs.length)(k:∀f h,vs[f]?=some h->w.cell? (Δ b (off+f))=some h)
 (i:wpList P g e rest (a.put o.dst (.agg vs.toArray)) w):wpList P g e (o::rest) a w:=by
 refine wpList_plain m λr j=>?_
 unfold Oper.wp execOp;simp only[n,q,Instr.loadAt,Instr.sureAddr,Sem.run_bind,Sem.run_pure,Result.andThen_ok,YZ w b off c vs d p l hi k];exact j _ _ i
def Ye{P:Program}(w:World)(b off:Nat)(d:TypeId)(vs:List Value)(hi:(P.info? d).map (·.size)=some vs.length)(f:∀a,a<vs.length->(w.cell? (Δ b (off+a))).isSome=true)
 (g:∀a,a<vs.length->w.frozen? (Δ b (off+a))=false)(h1:∀j∈vs,j.oneCell'=true):(storeVar d (Δ b off) (.agg vs.toArray)).run P w=.ok () (w.setCells b off vs):=by
 have e:=run_storeCells_cells (P:=P) b off vs 0 w (by simpa using f) (by simpa using g) h1;cases c:P.info? d with
 |none=>simp[c]at hi
 |some i=>
  have h:i.size=vs.length:=by simpa[c]using hi
  simp only[Nat.add_zero]at e;simp[storeVar,Sem.run_bind,sizeOf,typeInfo,c,h,Value.cells,e]
def Yf{P:Program}{f:Array Oper}{rest:List Oper}{o:Oper}{a:Act}{w:World}{e:Exit->Act->World->Prop}(l:o.guard=none)(d:TypeId)(x g:Operand)(m:o.op=.store d x g)
 (b off:Nat)(n:a.eval x=.pointer (some (Δ b off)))(vs:List Value)(hy:a.eval g=.agg vs.toArray)(hi:(P.info? d).map (·.size)=some vs.length)(j:∀c,c<vs.length->(w.cell? (Δ b (off+c))).isSome=true)
 (k:∀c,c<vs.length->w.frozen? (Δ b (off+c))=false)(h1:∀p∈vs,p.oneCell'=true)
 (h:wpList P f e rest (a.put o.dst undef) (w.setCells b off vs)):wpList P f e (o::rest) a w:=by
 refine wpList_plain l λq i=>?_
 unfold Oper.wp execOp;simp only[m,n,hy,Instr.storeAt,Instr.sureAddr,Sem.run_bind,Sem.run_pure,Result.andThen_ok,Ye w b off d vs hi j k h1];exact i _ _ h
def jH(size:Nat)(a:size<=32):2^size-1<4294967296:=by
 have:2^size<=2^32:=FK U a;omega
def vU(a:Nat)(b:a<=31):2^a<=2147483648:=FK U b
def Aft(x a size:Nat)(d:x<18446744073709551616)(c:size<=32):bits .and .u64 ((x:Int)/2^a) ((2^size-1:Nat):Int)=(fieldN x a size:Nat):=by
 have b:(x:Int)/2^a=((x/2^a:Nat):Int):=by rw[Ai0,IY];rfl
 have:=jH size c;rw[b,u64_and_nat _ _ (Ju (Nat.div_le_self _ _) d) O,Nat.and_two_pow_sub_one_eq_mod];rfl
def Ajp(x a size v:Nat)(j:x<18446744073709551616)(i:v<18446744073709551616)(h:size<=32)(g:a<=31):
 bits .or .u64 (bits .andNot .u64 (x:Int) (IntKind.u64.wrap (((2^size-1:Nat):Int)*2^a))) (IntKind.u64.wrap (bits .and .u64 (v:Int) ((2^size-1:Nat):Int)*2^a))=(EG x a size v:Nat):=by
 have k:=jH size h;have b:=vU a g;have l:(2^size-1)*2^a<=4294967295*2147483648:=IE O b;have m:v&&&(2^size-1)<=2^size-1:=Ai1;have n:(v&&&(2^size-1))*2^a<=4294967295*2147483648:=IE O b;have c:((2^size-1:Nat):Int)*2^a=(((2^size-1)*2^a:Nat):Int):=by rw[Gx,IY];rfl
 have d:IntKind.u64.wrap (((2^size-1)*2^a:Nat):Int)=(((2^size-1)*2^a:Nat):Int):=by rw[IntKind.wrap_u64];omega
 have e:((v&&&(2^size-1):Nat):Int)*2^a=(((v&&&(2^size-1))*2^a:Nat):Int):=by rw[Gx,IY];rfl
 have f:IntKind.u64.wrap (((v&&&(2^size-1))*2^a:Nat):Int)=(((v&&&(2^size-1))*2^a:Nat):Int):=by rw[IntKind.wrap_u64];omega
 have o:x&&&(18446744073709551615-(2^size-1)*2^a)<=x:=Ai8;rw[c,d,u64_andNot_nat _ _ j O,u64_and_nat _ _ i O,e,f,u64_or_nat _ _ O O];rfl
def oH(a size:Nat)(w:World)(h:a+size<=64)(d:size<=32):
 Calls prog 139 #[.int .i64 (a:Int),.int .i64 (size:Int)] w λb e=>b=.returned (.tuple #[.int .i64 (a:Int),.int .u64 ((2^size-1:Nat):Int)])/\Dr w e:=by
 have g:=jH size d;have i:0<2^size:=TG U;have c:((2^size:Nat):Int)=(2:Int)^size:=by rw[IY];rfl
 have f:IntKind.u64.wrap (IntKind.u64.wrap ((2:Int)^size) -1)=((2^size-1:Nat):Int):=by
  rw[IntKind.wrap_u64,IntKind.wrap_u64,<-c];omega
 go_enter func139,ntmps139
 go_wp2_with fail
 go_quiet(fail)
 go_wp2_with fail
 go_ret2;exact⟨by simp;omega,_,rfl⟩
def SL(x a size:Nat)(w:World)(g:x<18446744073709551616)(f:a+size<=64)(c:size<=32):
 Calls prog 93 #[.int .u64 (x:Int),.int .i64 (a:Int),.int .i64 (size:Int)] w λb d=>b=.returned (.int .u64 (fieldN x a size:Nat))/\Dr w d:=by
 have e:=Aa (Aft x a size g c);go_enter func93,ntmps93
 go_wp2_with fail
 refine(oH a size w f c).mono ?_;rintro b d⟨rfl,h,rfl⟩
 go_wp2_with fail
 rw[e.out];go_ret;exact⟨rfl,_,rfl⟩
def Ry(x a size v:Nat)(w:World)(f:x<18446744073709551616)(e:v<18446744073709551616)(g:a+size<=31):
 Calls prog 94 #[.int .u64 (x:Int),.int .i64 (a:Int),.int .i64 (size:Int),.int .u64 (v:Int)] w λb c=>b=.returned (.int .u64 (EG x a size v:Nat))/\Dr w c:=by
 have d:=Aa (Ajp x a size v f e O O);go_enter func94,ntmps94
 go_wp2_with fail
 refine(oH a size w O O).mono ?_;rintro b c⟨rfl,h,rfl⟩
 go_wp2_with fail
 go_quiet(fail)
 go_wp2_with fail
 rw[d.out];go_ret;exact⟨rfl,Dr.two _ _ _⟩
def fF(x a size:Nat):fieldN x a size<2^size:=Tv _ (TG U)
def UW(x:Nat):Ed x<4:=fF x 16 2
def Ab1(x:Nat):JY x<65536:=fF x 0 16
def GI(c:Nat):Bz c<=16:=by unfold Bz;split<;>omega
def fG(c:Nat):Bf c<=4:=by unfold Bf;split<;>omega
def PK(x a size v:Nat)(e:x<18446744073709551616)(h:a+size<=64):EG x a size v<18446744073709551616:=by
 unfold EG;have c:x&&&(jq-(2^size-1)*2^a)<2^64:=Ju Ai8 e;have d:(v&&&(2^size-1))*2^a<2^64:=by
  have f:v&&&(2^size-1)<=2^size-1:=Ai1;have g:0<2^size:=TG U;have b:(v&&&(2^size-1))*2^a<2^size*2^a:=Nat.mul_lt_mul_of_pos_right O (TG U);rw[<-Nat.pow_add]at b;exact BI b (FK U O)
 exact Nat.or_lt_two_pow c d
def GK(c:Nat)(w:World)(f:c<1000000):Calls prog 71 #[.int .i64 (c:Int)] w λa e=>a=.returned (.int .i64 (Bz c:Nat))/\w=e:=by
 by_cases b:c=1
 ·subst b;go_enter func71,ntmps71;go_wp2;go_ret;exact⟨rfl,rfl⟩
 ·by_cases d:c=2
  ·subst d;go_enter func71,ntmps71;go_wp2;go_ret;exact⟨rfl,rfl⟩
  ·have t1:((c:Int)==1)=false:=ζ O;have t2:((c:Int)==2)=false:=ζ O;have a:Bz c=0:=by unfold Bz;split<;>first|omega|rfl
   rw[a];go_enter func71,ntmps71;go_wp2;go_ret;exact⟨rfl,rfl⟩
def Ph(c:Nat)(w:World)(f:c<1000000):Calls prog 73 #[.int .i64 (c:Int)] w λa e=>a=.returned (.int .i64 (Bf c:Nat))/\w=e:=by
 by_cases b:c=1
 ·subst b;go_enter func73,ntmps73;go_wp2;go_ret;exact⟨rfl,rfl⟩
 ·by_cases d:c=2
  ·subst d;go_enter func73,ntmps73;go_wp2;go_ret;exact⟨rfl,rfl⟩
  ·have t1:((c:Int)==1)=false:=ζ O;have t2:((c:Int)==2)=false:=ζ O;have a:Bf c=0:=by unfold Bf;split<;>first|omega|rfl
   rw[a];go_enter func73,ntmps73;go_wp2;go_ret;exact⟨rfl,rfl⟩
def UX(x:Nat)(w:World)(e:x<18446744073709551616):Calls prog 74 #[.int .u64 (x:Int)] w λb c=>b=.returned (.int .i64 (Ed x:Nat))/\Dr w c:=by
 have a:=Dr.refl w;have g:=UW x;have f:IntKind.i64.wrap (Ed x:Int)=(Ed x:Int):=by rw[IntKind.wrap_i64];omega
 go_enter func74,ntmps74
 go_wp2_with fail
 refine(SL x 16 2 _ e U U).mono ?_;rintro b c⟨rfl,d⟩;replace a:=a.trans d;rw[show fieldN x 16 2=Ed x from rfl]
 go_wp2_with fail
 go_ret;exact⟨rfl,a⟩
def fH(x:Nat)(w:World)(e:x<18446744073709551616):Calls prog 151 #[.int .u64 (x:Int)] w λb c=>b=.returned (.int .u64 (JY x:Nat))/\Dr w c:=by
 have a:=Dr.refl w;go_enter func151,ntmps151
 go_wp2_with fail
 refine(SL x 0 16 _ e U U).mono ?_;rintro b c⟨rfl,d⟩;replace a:=a.trans d;rw[show fieldN x 0 16=JY x from rfl]
 go_wp2_with fail
 go_ret;exact⟨rfl,a⟩
def Uk(x:Nat)(w:World)(g:x<18446744073709551616):Calls prog 56 #[.int .u64 (x:Int)] w λc d=>c=.returned (.bool (FW x))/\Dr w d:=by
 have a:=Dr.refl w;have s:=UW x;have r:=GI (Ed x);by_cases j:x=0
 ·subst j;rw[show FW 0=true from rfl];go_enter func56,ntmps56;go_wp2;go_ret;exact⟨rfl,a⟩
 ·have t0:((x:Int)==0)=false:=ζ O;have h:=Aa (λe=>SL x 0 (Bz (Ed x)) e g O O);have q:=PK x 0 (Bz (Ed x)) 0 g O;have l:=Aa (λe=>Ry x 0 (Bz (Ed x)) 0 e g U O);have m:=Aa (λe=>Ry (EG x 0 (Bz (Ed x)) 0) 16 2 0 e q U U);by_cases f:fieldN x 0 (Bz (Ed x))=0
  ·have i:Hid (FW x=false):=Aa (by simp[FW,j,f]);have t1:(((fieldN x 0 (Bz (Ed x)):Nat):Int)!=0)=false:=by rw[f];rfl
   generalize fieldN x 0 (Bz (Ed x))=p at h t1;clear f;go_enter func56,ntmps56
   go_wp2_with fail
   refine(UX x _ g).mono ?_;rintro c d⟨rfl,b⟩;replace a:=a.trans b
   go_wp2_with fail
   refine(GK (Ed x) _ O).mono ?_;rintro c d⟨rfl,rfl⟩
   go_wp2_with fail
   refine(h.out _).mono ?_;rintro c d⟨rfl,b⟩;replace a:=a.trans b
   go_wp2_with fail
   rw[i.out];go_ret;exact⟨rfl,a⟩
  ·have i:Hid (FW x=(EG (EG x 0 (Bz (Ed x)) 0) 16 2 0==0)):=Aa (by
    have n:(x==0)=false:=ζ j;have o:(fieldN x 0 (Bz (Ed x))!=0)=true:=by rw[bne_iff_ne];exact f
    rw[FW,n,o];rfl)
   have t1:(((fieldN x 0 (Bz (Ed x)):Nat):Int)!=0)=true:=by rw[bne_iff_ne];omega
   have k:Hid ((((EG (EG x 0 (Bz (Ed x)) 0) 16 2 0:Nat):Int)==0)=(EG (EG x 0 (Bz (Ed x)) 0) 16 2 0==0)):=Aa (by
    rw[Bool.eq_iff_iff,beq_iff_eq,beq_iff_eq];omega)
   generalize fieldN x 0 (Bz (Ed x))=p at h t1;clear f;go_enter func56,ntmps56
   go_wp2_with fail
   refine(UX x _ g).mono ?_;rintro c d⟨rfl,b⟩;replace a:=a.trans b
   go_wp2_with fail
   refine(GK (Ed x) _ O).mono ?_;rintro c d⟨rfl,rfl⟩
   go_wp2_with fail
   refine(h.out _).mono ?_;rintro c d⟨rfl,b⟩;replace a:=a.trans b
   go_wp2_with fail
   refine(l.out _).mono ?_;rintro c d⟨rfl,b⟩;replace a:=a.trans b
   go_wp2_with fail
   refine(m.out _).mono ?_;rintro c d⟨rfl,b⟩;replace a:=a.trans b
   go_wp2_with fail
   rw[i.out,k.out];go_ret;exact⟨rfl,a⟩
def NT(x:Nat):Bc x<4:=by unfold Bc;split;exact UW x;decide
def Hu(x:Nat)(w:World)(g:x<18446744073709551616):Calls prog 41 #[.int .u64 (x:Int)] w λe f=>e=.returned (.int .i64 (Bc x:Nat))/\Dr w f:=by
 have a:=Dr.refl w;have d:=Aa (λh=>Uk x h g);cases b:FW x
 ·rw[show Bc x=0 by simp[Bc,b]];rw[b]at d;clear b;go_enter func41,ntmps41
  go_wp2_with fail
  refine(d.out _).mono ?_;rintro e f⟨rfl,c⟩;replace a:=a.trans c
  go_wp2_with fail
  go_ret;exact⟨rfl,a⟩
 ·rw[show Bc x=Ed x by simp[Bc,b]];rw[b]at d;clear b;go_enter func41,ntmps41
  go_wp2_with fail
  refine(d.out _).mono ?_;rintro e f⟨rfl,c⟩;replace a:=a.trans c
  go_wp2_with fail
  refine(UX x _ g).mono ?_;rintro e f⟨rfl,c⟩;replace a:=a.trans c
  go_wp2_with fail
  go_ret;exact⟨rfl,a⟩
def Rz(x a:Nat)(w:World)(f:x<18446744073709551616)(k:a<1000000):Calls prog 72 #[.int .u64 (x:Int),.int .i64 (a:Int)] w λc d=>c=.returned (.bool (EH x a))/\Dr w d:=by
 have b:=Dr.refl w;have m:=NT x;have l:=GI (Bc x);have t0:decide ((0:Int)<=(a:Int))=true:=by simp
 by_cases g:a<Bz (Bc x)
 ·have h:=Aa (λj=>SL x a 1 j f O O);have t1:decide ((a:Int)<((Bz (Bc x):Nat):Int))=true:=decide_eq_true O;have i:Hid ((((fieldN x a 1:Nat):Int)==1)=EH x a):=Aa (by
   rw[Bool.eq_iff_iff,beq_iff_eq];simp[EH,g];omega)
  go_enter func72,ntmps72
  go_wp2_with fail
  refine(Hu x _ f).mono ?_;rintro c d⟨rfl,e⟩;replace b:=b.trans e
  go_wp2_with fail
  refine(GK (Bc x) _ O).mono ?_;rintro c d⟨rfl,rfl⟩
  go_wp2_with fail
  refine(h.out _).mono ?_;rintro c d⟨rfl,e⟩;replace b:=b.trans e
  go_wp2_with fail
  rw[i.out];go_ret;exact⟨rfl,b⟩
 ·have t1:decide ((a:Int)<((Bz (Bc x):Nat):Int))=false:=decide_eq_false O;rw[show EH x a=false by simp[EH,g]];go_enter func72,ntmps72
  go_wp2_with fail
  refine(Hu x _ f).mono ?_;rintro c d⟨rfl,e⟩;replace b:=b.trans e
  go_wp2_with fail
  refine(GK (Bc x) _ O).mono ?_;rintro c d⟨rfl,rfl⟩
  go_wp2_with fail
  go_ret;exact⟨rfl,b⟩
structure JE(P:Program)(t e:TypeId)(z:Value)(k bytes:Nat):Prop where
 ht:P.underlying t=some (.slice e)
 hi:(P.info? e).map (λi=>(i.zero,i.size,i.bytes))=some (some z,k,bytes)
 hz:z.cells.size=k
def Zb{P:Program}{l e:TypeId}{t:Value}{k bytes:Nat}(m:JE P l e t k bytes)(s:TypeId){w:World}{g:Nat}{v:Value}{n:Nat}{xs d:List Value}
 (r:w.ownsRow g e k v n xs)(b:Nat)(z:CQ w b e d)(p:d.length=k)(D:0<k)(h1:∀i∈d,i.oneCell'=true)(M:n<=1000000)(A:bytes<=1000)(q:g<=w.heap.size)(c:Nat):
 ∃a j f,(Builtin.append_ #[l,l] s #[v,.slice (some (Φ b)) 1 c]).run P w=.ok (.slice (some (Φ a)) (n+1) j) f/\f.ownsRow g e k (.slice (some (Φ a)) (n+1) j) (n+1) (xs++d)/\Below g w f/\Kept w f v.ownBlock/\(v.ownBlock=some a\/a=w.heap.size):=by
 obtain⟨K,B,H,I,J⟩:=info_parts m.hi;have E:∀h i,d[h]?=some i->w.cell? (((Φ b):Addr).add h)=some i:=λh i G=>by
  rw[Addr.add_lit,DX,z.cell,G]
 have N:(n+1)*bytes<=1000001*1000:=IE O A;obtain⟨a,j,f,u,x,o,y,L⟩:=run_append_lies (P:=P) w l s g e K t k bytes m.ht B H I J m.hz D v n xs r (Φ b) 1 c d (by rw[p,Nat.one_mul]) E h1 U (by unfold maxLen;omega) O q _ rfl;exact⟨a,j,f,u,x,(Below.refl _ _).grown o q (λk p=>(r.lt k p).1),⟨o.size,λh C F=>o.block h C F⟩,y⟩
def E5{P:Program}{A:Array Oper}{rest:List Oper}{o:Oper}{a:Act}{w:World}{t:Exit->Act->World->Prop}(I:o.guard=none)(s x:Operand)(r:TypeId)
 (M:o.op=.call {callee:=.builtin .append,args:= #[s,x],argTypes:= #[r,r]}){e:TypeId}{V:Value}{k bytes:Nat}(B:JE P r e V k bytes)
 (wr:World)(i:Nat)(v:Value)(n:Nat)(xs g:List Value)(R:a.eval s=v)(y:wr.ownsRow i e k v n xs)(S:w=wr.alloc (.cells g.toArray e))(b c:Nat)(T:a.eval x=.slice (some (Φ b)) 1 c)(F:b=wr.heap.size)
 (J:g.length=k)(K:0<k)(h1:∀U∈g,U.oneCell'=true)(L:n<=1000000)(H:bytes<=1000)(G:i<=wr.heap.size)
 (p:∀d f h,h.ownsRow i e k (.slice (some (Φ d)) (n+1) f) (n+1) (xs++g)->Below i wr h->Kept wr h v.ownBlock->(v.ownBlock=some d\/wr.heap.size<=d)->wpList P A t rest (a.put o.dst (.slice (some (Φ d)) (n+1) f)) h):wpList P A t (o::rest) a w:=by
 refine wpList_plain I λW E=>?_
 subst S F;have j:η wr (wr.alloc (.cells g.toArray e)):=(Below.refl _ _).alloc (Ad _) _;have N:(wr.alloc (.cells g.toArray e)).ownsRow i e k v n xs:=by
  refine⟨y.1,?_⟩;rcases y.2 with p|⟨d,f,C,h1,q,l,m⟩
  ·exact .inl p
  ·exact .inr ⟨d,f,C,h1,q,by rw[j.block d (AA.1 l).1];exact l,m⟩
 obtain⟨d,f,h,Q,q,l,m,D⟩:=Zb B o.type N wr.heap.size (heap_alloc_new wr _) J K h1 L H (by simp;omega) c;unfold Oper.wp execOp;simp only[M,resolve,invoke,builtin,Sem.run_bind,Sem.run_pure,Result.andThen_ok,Nu,Ci,Gv,R,T,Q];refine E _ _ (p d f h q ((j.mono G).trans l) ⟨Bi j.size m.1,λz u O=>(m.2 z (BI u j.size) O).trans (j.block z u)⟩ (D.imp id (λe=>by rw[e];simp)))
def EF(a:World)(r:Nat)(b:Array MapEntry)(c:Nat):World:={a with heap:=a.heap.setIfInBounds r (.map b c)}
def Xz(a:World)(r:Nat)(b:Array MapEntry)(c:Nat):(EF a r b c).heap.size=a.heap.size:=by simp[EF]
def NU(a:World)(r:Nat)(b:Array MapEntry)(c:Nat)(d:r<a.heap.size):(EF a r b c).heap[r]?=some (.map b c):=by simp[EF,d]
def J4(a:World)(r:Nat)(e:Array MapEntry)(c:Nat):Touch (λb=>b=r) a (EF a r e c):=
 ⟨rfl,rfl,rfl,by simp[EF],λh g f=>by
  simp only[EF];rw[Bd,if_neg (λd=>f d.symm)]⟩
def Oo{P:Program}{w:World}{r:Nat}{a:Array MapEntry}{c:Nat}(b:w.heap[r]?=some (.map a c)):(getObj r).run P w=.ok (.map a c) w:=by simp[getObj,Sem.run,b]
def Ul{P:Program}{w:World}{r:Nat}{a:Array MapEntry}{c:Nat}(o:Obj)(b:w.heap[r]?=some (.map a c)):(setObj r o).run P w=.ok () {w with heap:=w.heap.setIfInBounds r o}:=by simp[setObj,Sem.run,b]
def run_makeMap{P:Program}(a:TypeId)(w:World):(Instr.makeMap a none).run P w=.ok (.map (some w.heap.size)) (w.alloc (.map #[] 0)):=by
 simp[Instr.makeMap,Result.andThen]
def J5{P:Program}{a:TypeId}{c:IntKind}(d:P.underlying a=some (.int c))(b:Bool)(n:Nat)(q:IntKind)(k:Int)(w:World):(Instr.checkKey b (n+1) a (.int q k)).run P w=.ok () w:=by
 simp[Instr.checkKey,run_underlying d,Result.andThen]
def Yv{P:Program}{h g i:TypeId}{a:IntKind}(q:P.underlying h=some (.map g i))(f:P.underlying g=some (.int a))(b:World)(r:Nat)(d:Array MapEntry)(c:Nat)(k:Int)(v:Value)
 (e:b.heap[r]?=some (.map d c))(p:Instr.findNow (.int a) (.int a k) d.toList 0=some none):
 (Instr.mapUpdate h (.map (some r)) (.int a k) v).run P b=.ok () (EF b r (d.push {key:=.int a k,val:=v,born:=c}) (c+1)):=by
 have j:=run_underlying (P:=P) q;have l:=run_underlying (P:=P) f;have m:=λt=>J5 (P:=P) f false 9999 a k t
 have n:=Oo (P:=P) e;have o:=λs=>Ul (P:=P) s e
 simp[Instr.mapUpdate,j,l,m,n,o,Instr.findKey,p,EF,Result.andThen]
def Oq{P:Program}{g f j:TypeId}{a:IntKind}(s:P.underlying g=some (.map f j))(e:P.underlying f=some (.int a))(b:World)(r:Nat)(d:Array MapEntry)(c:Nat)(k:Int)(i:Nat)(v:Value)
 (l:b.heap[r]?=some (.map d c))(q:Instr.findNow (.int a) (.int a k) d.toList 0=some (some (i,v))):
 (Instr.lookup g (.map (some r)) (.int a k) false).run P b=.ok v b:=by
 have m:=run_underlying (P:=P) s;have n:=run_underlying (P:=P) e;have o:=λh t=>J5 (P:=P) e h 9999 a k t
 have p:=Oo (P:=P) l;simp[Instr.lookup,m,n,o,p,Instr.findKey,q,Result.andThen]
def Ajq(w:World):Prop:=∀a,a<16->w.cell? (Δ 0 a)=some (.int .u32 (LG.getD a 0:Nat))
def Afu(b:Nat):LG.getD b 0<4294967296:=by
 rcases Nat.lt_or_ge b 16 with a|a
 ·have d:∀c:Fin 16,LG.getD c.val 0<4294967296:=by decide
  exact d ⟨b,a⟩
 ·rw[List.getD_eq_getElem?_getD,FU (by simpa[LG]using a)];decide
def zX(a:Nat)(hy:a<4294967296):bits .and .u32 (a:Int) 15=((a%16:Nat):Int):=by
 rw[show(15:Int)=((15:Nat):Int)from rfl,u32_and_nat _ _ hy U,nat_mask4]
def zY(a:Nat)(hy:a<4294967296):bits .xor .u32 ((a:Int)/16) ((LG.getD (a%16) 0:Nat):Int)=(Qi a:Nat):=by
 rw[show(a:Int)/16=((a/16:Nat):Int)by omega,u32_xor_nat _ _ O (Afu _)];rfl
def oI(b:Nat)(A:Option Addr)(n c:Nat)(l:List UInt8)(w:World)(o:b<4294967296)(N:n<=1000000)(f:Bs w A n l)(m:Ajq w):
 Calls prog 161 #[.int .u32 (b:Int),.slice A n c] w λu y=>u=.returned (.int .u32 (ML b l:Nat))/\w=y:=by
 have x:=f.len;have H:bits .xor .u32 IntKind.u32.max (b:Int)=((PG b l 0:Nat):Int):=by
  rw[show IntKind.u32.max=((4294967295:Nat):Int)from rfl,u32_xor_nat _ _ U o,YL,Ap9]
 have s:=Aa f;clear f;go_enter func161,ntmps161
 go_wp2_with fail
 go_loop [5,12](λd j=>∃a:Nat,a<=n/\j=.int .i64 a/\d=.int .u32 ((PG b l a:Nat):Int))(λ_ j=>n-(intOf j).toNat)
 case atStart=>exact⟨0,Nat.zero_le _,rfl,rfl⟩
 case round=>
  obtain⟨a,M,rfl,rfl⟩:=hrel;have h:=YN b l o a O;by_cases g:a<n
  ·obtain⟨v,e,P,rfl,J,K⟩:=s.out.at g;have L:l[a].toNat<256:=UInt8.toNat_lt _;have t:=Aa (YM b l a v);generalize PG b l a=d at*;generalize l[a].toNat=e at*;have i:d^^^e<4294967296:=Nat.xor_lt_two_pow (n:=32) h O;have z:bits .xor .u32 (d:Int) (e:Int)=((d^^^e:Nat):Int):=u32_xor_nat _ _ h O;have B:=zX _ i;have C:=zY _ i;have F:=m ((d^^^e)%16) (Tv _ U);have r:Hid (SE d e=Qi (Qi (d^^^e))):=Aa rfl;generalize d^^^e=k at*;have p:=Uc k i;generalize Qi k=q at*;have D:=zX _ p;have E:=zY _ p;have G:=m (q%16) (Tv _ U);generalize LG.getD (k%16) 0=f1 at*;generalize LG.getD (q%16) 0=f2 at*;go_wp2
   trace_state
   go_round
   case rel=>exact⟨a+1,O,by go_num,by rw[t.out,r.out]⟩
   case measure=>simp[intOf];omega
  ·have g:a=n:=O;subst g;have I:bits .xor .u32 IntKind.u32.max ((PG b l a:Nat):Int)=(ML b l:Nat):=by
    rw[show IntKind.u32.max=((4294967295:Nat):Int)from rfl,u32_xor_nat _ _ U h,Ap9,<-x,Abr]
   go_wp2;go_ret;exact⟨rfl,rfl⟩
def vV(A:Option Addr)(n c:Nat)(l:List UInt8)(w:World)(g:n<=1000000)(e:Bs w A n l)(f:Ajq w):
 Calls prog 127 #[.slice A n c] w λa b=>a=.returned (.int .u32 (ML 0 l:Nat))/\w=b:=by
 have d:=Aa (oI 0 A n c l w U g e f);go_enter func127,ntmps127
 go_wp2_with fail
 refine d.out.mono ?_;rintro a b⟨rfl,rfl⟩
 go_wp2_with fail
 go_ret;exact⟨rfl,rfl⟩
def NK{P:Program}{C:Array Oper}{o:Oper}{a:Act}{w:World}{K:Act->World->Prop}{E:Exit->Act->World->Prop}{D:Prop}(L:o.guard=none)(s x:Operand)(r:TypeId)
 (R:o.op=.call {callee:=.builtin .append,args:= #[s,x],argTypes:= #[r,r]}){e:TypeId}{ac:Value}{k bytes:Nat}(F:JE P r e ac k bytes)
 (wr:World)(h:Nat)(v:Value)(n:Nat)(xs i:List Value)(X:a.eval s=v)(A:wr.ownsRow h e k v n xs)(q:w.heap=wr.heap.push (.cells i.toArray e))
 (S:w.os=wr.os)(Y:w.tape=wr.tape)(T:w.output=wr.output)(t c:Nat)(aa:a.eval x=.slice (some (Φ t)) 1 c)(M:wr.heap.size=t)
 (z:i.length=k)(N:0<k)(h1:∀ab∈i,ab.oneCell'=true)(Q:n<=1000000)(J:bytes<=1000)(u:h<=wr.heap.size)
 (m:∀b f g,g.ownsRow h e k (.slice (some (Φ b)) (n+1) f) (n+1) (xs++i)->Below h wr g->Kept wr g v.ownBlock->(v.ownBlock=some b\/wr.heap.size<=b)->K (a.put o.dst (.slice (some (Φ b)) (n+1) f)) g):
 if Region.wanted o (yielded C a.tmps)=true then Oper.wp P o a w K E else D:=by
 have Z:Region.wanted o (yielded C a.tmps)=true:=by simp[Region.wanted,L]
 rw[if_pos Z];subst M;have d:η wr w:=⟨S,Y,T,by rw[q];simp,λk z=>by rw[q,Gw,if_neg O]⟩;have U:w.ownsRow h e k v n xs:=by
  refine⟨A.1,?_⟩;rcases A.2 with m|⟨b,f,G,h1,p,j,l⟩
  ·exact .inl m
  ·exact .inr ⟨b,f,G,h1,p,by rw[d.block b (AA.1 j).1];exact j,l⟩
 have I:CQ w wr.heap.size e i:=by unfold CQ;rw[q,Gw,if_pos rfl]
 obtain⟨b,f,g,W,p,j,l,H⟩:=Zb F o.type U wr.heap.size I z N h1 Q J (Bi u d.size) c;unfold Oper.wp execOp;simp only[R,resolve,invoke,builtin,Sem.run_bind,Sem.run_pure,Result.andThen_ok,Nu,Ci,Gv,X,aa,W];exact m b f g p ((d.mono u).trans j) ⟨Bi d.size l.1,λB y V=>(l.2 B (BI y d.size) V).trans (d.block B y)⟩ (H.imp id (λe=>by rw[e];exact d.size))
def zZ(w w':World)(e:TypeId)(A b:Option Addr)(m:Nat):Prop:=(b=A/\m=0)\/∃a c,b=some (Φ a)/\w.heap.size<=a/\w'.heap[a]?=some (.cells c e (0,0))
def vW{P:Program}{y e:TypeId}{L:Value}{bytes:Nat}(i:MS P y e L bytes)(C:TypeId){w:World}{A:Option Addr}{n:Nat}{xs q:List Value}(s:Rd w A n xs)(S:∀t,A=some t->∃k,t=Φ k)(J:A=none->n=0)
 {B:Option Addr}{m:Nat}(p:Rd w B m q)(h1:∀d∈q,d.oneCell'=true)(W:n+m<=1000000)(I:bytes<=64)(c:Nat):
 ∃h r g,(Builtin.append_ #[y,y] C #[.slice A n n,.slice B m c]).run P w=.ok (.slice h (n+m) r) g/\n+m<=r/\Rd g h (n+m) (xs++q)/\η w g/\zZ w g e A h m:=by
 obtain⟨K,z,Z,aa,ab⟩:=info_parts i.hi;rcases B with _|D
 ·have f:m=0:=by
   rcases Js m with f|f
   ·exact f
   ·obtain⟨_,_,e,_⟩:=p.2 f;cases e
  subst f;have o:q=[]:=Dk p.1;subst o;refine⟨A,n,w,?_,Ad _,by simpa using s,Below.refl _ _,.inl ⟨rfl,rfl⟩⟩;rcases A with _|t
  ·have o:=J rfl;subst o;simp[Builtin.append_,run_underlying i.ht,sizeOf,typeInfo,z,Builtin.lenOf,Builtin.firstCells]
  ·simp[Builtin.append_,run_underlying i.ht,sizeOf,typeInfo,z,Builtin.lenOf,Builtin.firstCells,storeCells]
 ·have T:∀b d,q[b]?=some d->w.cell? (D.add b)=some d:=by
   intro b d x;have G:b<m:=by
    have:=(C9.1 x).1;have:=p.1;omega
   obtain⟨M,ac,e,_,l⟩:=p.2 O;injection e with e
   subst e;rw[Addr.add_lit,l b G,x]
  rcases A with _|t
  ·have o:=J rfl;subst o;have Y:xs=[]:=Dk s.1;subst Y;obtain⟨ad,g,v,u,F,af⟩:=Uj i C (World.ownsRow_nil w w.heap.size e 1) p h1 O I (Ad _) c;obtain⟨h,r,rfl,l,H⟩:=CS u;refine⟨h,r,g,v,l,H,F,?_⟩;rcases u.2 with⟨a,j⟩|⟨k,N,Q,a,j,E,_⟩
   ·simp only[Value.slice.injEq]at a;exact .inl ⟨a.1,O⟩
   ·simp only[Value.slice.injEq]at a;exact .inr ⟨k,_,a.1,j,E⟩
  ·obtain⟨k,rfl⟩:=S t rfl;rcases Js m with f|f
   ·subst f;have o:q=[]:=Dk p.1;subst o;have v:=run_append_room_cells (P:=P) w y C e K i.ht z k 0 n n D 0 c [] Θ Θ Θ O Θ Θ;exact⟨_,n,w,v,Ad _,by simpa using s,Below.refl _ _,.inl ⟨rfl,rfl⟩⟩
   ·have X:∀b d,xs[b]?=some d->w.cell? (((Φ k):Addr).add b)=some d:=by
     intro b d x;have G:b<n:=by
      have:=(C9.1 x).1;have:=s.1;omega
     obtain⟨M,ac,e,_,l⟩:=s.2 O;injection e with e
     injection e with a j
     subst a j;rw[Addr.add_lit,l b G,x]
    have ah:(n+m)*bytes<=1000000*64:=IE W I;obtain⟨ad,g,v,u,F⟩:=run_append_arg_grows (P:=P) w y C e K L 1 bytes i.ht z Z aa ab i.hz U (Φ k) n n xs (Ω s.1) X D m c q (Ω p.1) T O (by unfold maxLen;omega) O;obtain⟨h,r,rfl,l,H⟩:=CS u;refine⟨h,r,g,v,l,H,(Below.refl _ _).grown F (Ad _) (λal V=>nomatch V),?_⟩;rcases u.2 with⟨a,j⟩|⟨R,N,Q,a,j,E,_⟩
    ·omega
    ·simp only[Value.slice.injEq]at a;exact .inr ⟨R,_,a.1,j,E⟩
def KQ{P:Program}{i:Array Oper}{o:Oper}{a:Act}{w:World}{K:Act->World->Prop}{k:Exit->Act->World->Prop}{j:Prop}(D:o.guard=none)(s x:Operand)(h:TypeId)
 (G:o.op=.call {callee:=.builtin .append,args:= #[s,x],argTypes:= #[h,h]}){e:TypeId}{O:Value}{bytes:Nat}(l:MS P h e O bytes)
 (A:Option Addr)(n:Nat)(xs:List Value)(J:a.eval s=.slice A n n)(y:Rd w A n xs)(z:∀a,A=some a->∃p,a=Φ p)(F:A=none->n=0)
 (B:Option Addr)(m c:Nat)(g:List Value)(M:a.eval x=.slice B m c)(H:Rd w B m g)(h1:∀N∈g,N.oneCell'=true)(E:n+m<=1000000)(C:bytes<=64)
 (q:∀d f b,n+m<=f->Rd b d (n+m) (xs++g)->η w b->zZ w b e A d m->K (a.put o.dst (.slice d (n+m) f)) b):
 if Region.wanted o (yielded i a.tmps)=true then Oper.wp P o a w K k else j:=by
 have L:Region.wanted o (yielded i a.tmps)=true:=by simp[Region.wanted,D]
 rw[if_pos L];obtain⟨d,f,b,I,r,t,u,v⟩:=vW l o.type y z F H h1 E C c;unfold Oper.wp execOp;simp only[G,resolve,invoke,builtin,Sem.run_bind,Sem.run_pure,Result.andThen_ok,Nu,Ci,Gv,J,M,I];exact q d f b r t u v
def TL{P:Program}{S:Array Oper}{o:Oper}{a:Act}{w:World}{K:Act->World->Prop}{q:Exit->Act->World->Prop}{p:Prop}(F:o.guard=none)(s x:Operand)(g:TypeId)
 (J:o.op=.call {callee:=.builtin .append,args:= #[s,x],argTypes:= #[g,g]}){e:TypeId}{X:Value}{bytes:Nat}(r:MS P g e X bytes)
 (wr:World)(A:Option Addr)(n:Nat)(xs:List Value)(N:a.eval s=.slice A n n)(B:Rd wr A n xs)(C:∀a,A=some a->∃h,a=Φ h)(I:A=none->n=0)
 (u:Value)(k:w.heap=wr.heap.push (.cells #[u] e))(L:w.os=wr.os)(Q:w.tape=wr.tape)(M:w.output=wr.output)(l c:Nat)(R:a.eval x=.slice (some (Φ l)) 1 c)(G:wr.heap.size=l)
 (h1:u.oneCell'=true)(H:n+1<=1000000)(E:bytes<=64)
 (v:∀d f b,n+1<=f->Rd b d (n+1) (xs++[u])->η wr b->zZ wr b e A d 1->K (a.put o.dst (.slice d (n+1) f)) b):
 if Region.wanted o (yielded S a.tmps)=true then Oper.wp P o a w K q else p:=by
 subst G;have j:η wr w:=⟨L,Q,M,by rw[k];simp,λZ Y=>by rw[k,Gw,if_neg O]⟩;have D:CQ w wr.heap.size e [u]:=by unfold CQ;rw[k,Gw,if_pos rfl]
 refine KQ F s x g J r A n xs N (Rd.below B j) C I (some (Φ wr.heap.size)) 1 c [u] R D.rd (λaa m=>by rw[List.mem_singleton]at m;exact m▸h1) H E ?_;intro d f b T U V W;refine v d f b T U (τ j V) ?_;rcases W with i|⟨h,t,i,y,z⟩
 ·exact .inl i
 ·exact .inr ⟨h,t,i,Bi j.size y,z⟩
def vX{P:Program}{o e:TypeId}{B:Value}{k bytes:Nat}(d:JE P o e B k bytes)(x:0<k)(z:TypeId){w:World}{f:Nat}{v:Value}{n:Nat}{xs a:List Value}
 (l:w.ownsRow f e k v n xs){A:Option Addr}{m:Nat}(h:Rd w A (m*k) a)
 (h1:∀j∈a,j.oneCell'=true)(I:n+m<=1000000)(E:bytes<=1000)(u:f<=w.heap.size)(c:Nat):
 ∃p b,(Builtin.append_ #[o,o] z #[v,.slice A m c]).run P w=.ok p b/\b.ownsRow f e k p (n+m) (xs++a)/\Below f w b/\Kept w b v.ownBlock:=by
 obtain⟨S,r,N,Q,R⟩:=info_parts d.hi;rcases A with _|t
 ·have g:m=0:=by
   rcases Js m with g|g
   ·exact g
   ·obtain⟨_,_,e,_⟩:=h.2 (Nat.mul_pos g x);cases e
  subst g;have J:a=[]:=Dk (Ω h.1);subst J;refine⟨v,w,?_,by simpa using l,Below.refl _ _,Kept.refl _ _⟩;rcases l.2 with⟨rfl,rfl⟩|⟨W,U,V,rfl,_,_,K,_⟩
  ·simp[Builtin.append_,run_underlying d.ht,sizeOf,typeInfo,r,Builtin.lenOf,Builtin.firstCells]
  ·simp[Builtin.append_,run_underlying d.ht,sizeOf,typeInfo,r,Builtin.lenOf,Builtin.firstCells,K,storeCells]
 ·have G:∀i j,a[i]?=some j->w.cell? (t.add i)=some j:=by
   intro i j y;have H:i<m*k:=by
    have:=(C9.1 y).1;have:=h.1;omega
   obtain⟨T,Y,e,_,F⟩:=h.2 O;injection e with e
   subst e;rw[Addr.add_lit,F i H,y]
  have X:(n+m)*bytes<=1000000*1000:=IE I E;obtain⟨p,b,M,D,q,_⟩:=run_append_own (P:=P) w f o z e S B k bytes d.ht r N Q R d.hz x v n xs l t m c a h.1 G h1
   (by unfold maxLen;omega) O u
  exact⟨p,b,M,D,(Below.refl _ _).grown q u (λk s=>(l.lt k s).1),q.size,λk s L=>q.block k s (λC=>L C)⟩
def IJ{P:Program}{j:Array Oper}{rest:List Oper}{o:Oper}{a:Act}{w:World}{i:Exit->Act->World->Prop}(B:o.guard=none)(s x:Operand)(h:TypeId)
 (E:o.op=.call {callee:=.builtin .append,args:= #[s,x],argTypes:= #[h,h]}){e:TypeId}{L:Value}{k bytes:Nat}(l:JE P h e L k bytes)(C:0<k)
 (d:Nat)(v:Value)(n:Nat)(xs:List Value)(I:a.eval s=v)(F:w.ownsRow d e k v n xs)(A:Option Addr)(m c:Nat)(g:List Value)(J:a.eval x=.slice A m c)(G:Rd w A (m*k) g)
 (h1:∀K∈g,K.oneCell'=true)(D:n+m<=1000000)(z:bytes<=1000)(y:d<=w.heap.size)
 (p:∀f b,b.ownsRow d e k f (n+m) (xs++g)->Below d w b->Kept w b v.ownBlock->wpList P j i rest (a.put o.dst f) b):wpList P j i (o::rest) a w:=by
 refine wpList_plain B λM u=>?_
 obtain⟨f,b,H,q,r,t⟩:=vX l C o.type F G h1 D z y c;unfold Oper.wp execOp;simp only[E,resolve,invoke,builtin,Sem.run_bind,Sem.run_pure,Result.andThen_ok,Nu,Ci,Gv,I,J,H];exact u _ _ (p f b q r t)
