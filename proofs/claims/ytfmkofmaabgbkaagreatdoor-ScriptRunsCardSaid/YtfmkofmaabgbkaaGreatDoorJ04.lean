import Derived.Test.YtfmkofmaabgbkaaGreatDoorJ03
set_option linter.defProp false
set_option maxHeartbeats 32000000
set_option maxRecDepth 100000
open List renaming length_nil->Dx,length_cons->Bv,getElem?_append_left->DK,getElem?_take->Di,getElem?_append_right->ED,length_take->Ed,getElem?_drop->D7,ext_getElem?->J4,getElem?_eq_none->FQ,eq_nil_of_length_eq_zero->Ce,getElem?_eq_some_iff->Cb,ext_getElem->Fz,map_toArray->JX,map_cons->BM,map_nil->FP
open Go.World renaming setCell->D9,setCells->Pn
open Array renaming getElem?_modify->SN,getElem?_setIfInBounds->AZ,getElem?_eq_some_iff->AA,getElem?_push->GH
open Nat renaming min_eq_left->NW,zero_add->DI,le_refl->Ae,eq_zero_or_pos->Jz,mul_le_mul->IB,le_trans->Bq,lt_of_lt_of_le->Be,pow_le_pow_right->Fv,mod_lt->U4,pow_pos->UE,lt_of_le_of_lt->J5,and_le_right->Ala,and_le_left->Ali,xor_comm->Ar3
open Int renaming natCast_pow->Jc,natCast_mul->GI,natCast_ediv->Ak9
open Go.Lib renaming hid->Ac
open Go.Value renaming slice->fD,int->fP
open Go.Ending renaming returned->gY
open Go.IntKind renaming i64->gZ,u64->ig
open Go.Obj renaming cells->iy
open Option renaming some->iC,none->iD
open Bool renaming true->jm,false->jw
open Go renaming World->jD,Value->jL
namespace Go.Proofs.YtfmkofmaabgbkaaGreatDoor
open Go.RowKit
open Go.Proofs.Tryz
def EW(g:Nat)(e:TypeId)(c:Nat×Nat):∀(vs:List jL)(o:Nat)(w:jD)(cur:Array jL),w.heap[g]?=iC (iy cur e c)->o+vs.length<=cur.size->
 ∃b:Array jL,(w.setCells g o vs).heap[g]?=iC (iy b e c)/\b.size=cur.size/\∀a:Nat,b[a]?=if o<=a/\a<o+vs.length then vs[a-o]? else cur[a]?
 |[],o,w,cur,h,_=>⟨cur,h,rfl,λa=>by rw[ku (by simp only[Dx];omega)]⟩
 |d::j,o,w,cur,h,i=>by
  have k:(w.setCell (Δ g o) d).heap[g]?=iC (iy (cur.setIfInBounds o d) e c):=by
   simp[D9,SN,h]
  obtain⟨b,l,m,n⟩:=EW g e c j (o+1) (w.setCell (Δ g o) d) (cur.setIfInBounds o d) k (by simp at i⊢;omega);refine⟨b,l,by rw[m];simp,λa=>?_⟩;rw[n a];simp only[Bv]at i⊢;by_cases p:a=o
  ·subst p;rw[ku O,jM O,AZ,jM rfl,jM O];simp
  ·by_cases f:o+1<=a/\a<o+1+j.length
   ·rw[jM f,jM O];rw[show a-o=(a-(o+1))+1 by omega];simp
   ·rw[ku f,ku O,AZ,ku O]
def setCells_size(w:jD)(g o:Nat)(vs:List jL):(w.setCells g o vs).heap.size=w.heap.size:=by
 induction vs generalizing w o with
 |nil=>rfl
 |cons c b a=>rw[Pn,a];simp[D9]
def Ec(w:jD)(g o:Nat)(vs:List jL):(w.setCells g o vs).tape=w.tape:=by
 induction vs generalizing w o with
 |nil=>rfl
 |cons c b a=>rw[Pn,a];rfl
def EX(w:jD)(g o:Nat)(vs:List jL):(w.setCells g o vs).os=w.os:=by
 induction vs generalizing w o with
 |nil=>rfl
 |cons c b a=>rw[Pn,a];rfl
def DC(w:jD)(g o:Nat)(vs:List jL):(w.setCells g o vs).output=w.output:=by
 induction vs generalizing w o with
 |nil=>rfl
 |cons c b a=>rw[Pn,a];rfl
def Jr(w:jD)(g o:Nat)(vs:List jL){k:Nat}(a:k≠g):(w.setCells g o vs).heap[k]?=w.heap[k]?:=by
 induction vs generalizing w o with
 |nil=>rfl
 |cons c d b=>rw[Pn,b];exact Below.heap_setCell w (Δ g o) c k (λh=>a h)
def VV(xs:List jL)(i:Nat)(u:jL):List jL:=xs.take i++u::xs.drop i
def qR(xs:List jL)(i:Nat)(u:jL)(hi:i<=xs.length)(j:Nat):(VV xs i u)[j]?=if j<i then xs[j]? else if j=i then iC u else xs[j-1]?:=by
 unfold VV;by_cases a:j<i
 ·rw[jM a,DK (by simp;omega),Di,jM a]
 ·rw[ku a,ED (by simp;omega)];simp only[Ed,NW hi];by_cases b:j=i
  ·subst b;simp
  ·rw[ku b,show j-i=(j-1-i)+1 by omega,List.getElem?_cons_succ,D7];congr 1;omega
def Yl(xs:List jL)(i:Nat)(u:jL)(hi:i<=xs.length):(VV xs i u).length=xs.length+1:=by
 unfold VV;simp;omega
def iQ{w:jD}{j g n c i:Nat}{e:TypeId}{xs:List jL}{u:jL}(h:w.ownsRow j e 1 (fD (iC (Φ g)) n c) n xs)(hi:i<=n)(y:n+1<=c):
 ((w.setCells g (i+1) (xs.drop i)).setCells g i [u]).ownsRow j e 1 (fD (iC (Φ g)) (n+1) c) (n+1) (VV xs i u):=by
 obtain⟨H,d⟩:=h;rcases d with⟨d,_⟩|⟨G,F,k,o,x,A,J,z,I,B⟩
 ·cases d
 simp only[Value.slice.injEq,Option.some.injEq,Addr.mk.injEq,and_true,true_and]at o;obtain⟨rfl,rfl⟩:=o;obtain⟨C,q,D,r⟩:=EW g e (0,0) (xs.drop i) (i+1) w k A (by simp;omega);obtain⟨b,s,E,t⟩:=EW g e (0,0) [u] i _ C q (by simp;omega);refine⟨by rw[Yl xs i u O];omega,.inr ⟨g,c,b,rfl,x,s,y,z,O,?_⟩⟩;apply J4;intro a;rw[qR xs i u O a,Di];have p:∀a,a<n->k[a]?=xs[a]?:=λa f=>by rw[<-B,Di,jM O];simp
 by_cases f:a<(n+1)*1
 ·rw[jM f];have v:b.toList[a]?=b[a]?:=by simp
  rw[v,t a];simp only[Bv,Dx,DI];by_cases l:a=i
  ·subst l;rw[jM O,ku O,jM rfl];simp
  ·rw[ku O,r a];by_cases m:a<i
   ·rw[ku O,jM m,p a O]
   ·rw[jM (by simp;omega),ku m,ku l,D7];congr 1;omega
 ·rw[ku f,ku O,ku O,FQ O]
def iR{w:jD}{f G:Nat}{e:TypeId}{xs zs:List jL}{i:Nat}{u:jL}(b:Array jL)(t:f<=w.heap.size)(hi:i<=xs.length)(r:xs.length+1<=G)(s:G<=maxLen)(B:b.size=G)(x:∀a,a<i->b[a]?=xs[a]?)(y:zs=xs.drop i):
 ((((w.alloc (iy b e)).drew.setCells w.heap.size i [u]).drew).setCells w.heap.size (i+1) zs).ownsRow f e 1 (fD (iC (Φ w.heap.size)) (xs.length+1) G) (xs.length+1) (VV xs i u):=by
 subst y;have v:((w.alloc (iy b e)).drew).heap[w.heap.size]?=iC (iy b e (0,0)):=by
  show(w.heap.push _)[w.heap.size]?=_;simp
 obtain⟨k,l,z,n⟩:=EW w.heap.size e (0,0) [u] i _ b v (by simp;omega);have m:(((w.alloc (iy b e)).drew.setCells w.heap.size i [u]).drew).heap[w.heap.size]?=iC (iy k e (0,0)):=l;obtain⟨c,o,A,p⟩:=EW w.heap.size e (0,0) (xs.drop i) (i+1) _ k m (by simp;omega);refine⟨by rw[Yl xs i u hi];omega,.inr ⟨w.heap.size,G,c,rfl,t,o,r,s,O,?_⟩⟩;apply J4;intro a;rw[qR xs i u hi a,Di];by_cases g:a<(xs.length+1)*1
 ·rw[jM g];have q:c.toList[a]?=c[a]?:=by simp
  rw[q,p a,n a];simp only[Bv,Dx,DI,List.length_drop];by_cases j:a=i
  ·subst j;rw[ku O,jM O,ku O,jM rfl];simp
  ·by_cases d:a<i
   ·rw[ku O,ku O,jM d,x a d]
   ·rw[jM O,ku d,ku j,D7];congr 1;omega
 ·rw[ku g,ku O,ku O,FQ O]
def lZ(xs:List jL)(i:Nat):List jL:=xs.take i++xs.drop (i+1)
def Ahl(xs:List jL)(i:Nat)(hi:i<xs.length)(j:Nat):(lZ xs i)[j]?=if j<i then xs[j]? else xs[j+1]?:=by
 unfold lZ;by_cases a:j<i
 ·rw[jM a,DK (by simp;omega),Di,jM a]
 ·rw[ku a,ED (by simp;omega)];simp only[Ed,NW (Nat.le_of_lt hi)];rw[D7];congr 1;omega
def qU(xs:List jL)(i:Nat)(hi:i<xs.length):(lZ xs i).length=xs.length-1:=by
 unfold lZ;simp;omega
def Ym{w:jD}{j g n c i:Nat}{e:TypeId}{xs zs:List jL}(h:w.ownsRow j e 1 (fD (iC (Φ g)) n c) n xs)(hi:i<n)(H:zs.length=1):
 ((w.setCells g i (xs.drop (i+1))).setCells g (n-1) zs).ownsRow j e 1 (fD (iC (Φ g)) (n-1) c) (n-1) (lZ xs i):=by
 obtain⟨E,d⟩:=h;rcases d with⟨d,_⟩|⟨D,C,k,m,u,x,G,v,F,y⟩
 ·cases d
 simp only[Value.slice.injEq,Option.some.injEq,Addr.mk.injEq,and_true,true_and]at m;obtain⟨rfl,rfl⟩:=m;obtain⟨z,p,A,q⟩:=EW g e (0,0) (xs.drop (i+1)) i w k x (by simp;omega);obtain⟨b,r,B,s⟩:=EW g e (0,0) zs (n-1) _ z p O;refine⟨by rw[qU xs i O];omega,.inr ⟨g,c,b,rfl,u,r,O,v,O,?_⟩⟩;apply J4;intro a;rw[Ahl xs i O a,Di];have o:∀a,a<n->k[a]?=xs[a]?:=λa f=>by rw[<-y,Di,jM O];simp
 by_cases f:a<(n-1)*1
 ·rw[jM f];have t:b.toList[a]?=b[a]?:=by simp
  rw[t,s a,ku O,q a];by_cases l:a<i
  ·rw[ku O,jM l,o a O]
  ·rw[jM (by simp;omega),ku l,D7];congr 1;omega
 ·rw[ku f,ku O,FQ O]
def Kept.refl(w:jD)(row:Option Nat):Kept w w row:=⟨Ae _,λ_ _ _=>rfl⟩
def Kept.setCells{w w':jD}{g:Nat}(h:Kept w w' (iC g))(o:Nat)(vs:List jL):Kept w (w'.setCells g o vs) (iC g):=
 ⟨by rw[setCells_size];exact h.1,λd c a=>by rw[Jr _ _ _ _ (λb=>a (by rw[b]))];exact h.2 d c a⟩
def Kept.drew{w w':jD}{row:Option Nat}(h:Kept w w' row):Kept w w'.drew row:=h
def Kept.below{w w':jD}{row:Option Nat}{B:Nat}(h:Kept w w' row)(i:B<=w.heap.size)(d:w'.os=w.os)(g:w'.tape=w.tape)(e:w'.output=w.output)(f:∀a,row=iC a->B<=a):Below B w w':=
 ⟨d,g,e,h.1,λb j=>h.2 b O (λc=>Ω (f b c.symm))⟩
def Vk{P:Program}{t e:TypeId}{B:jL}{bytes:Nat}(d:Nv P t e B bytes)(z:TypeId){w:jD}{f:Nat}{v:jL}{n:Nat}{xs a:List jL}
 (l:w.ownsRow f e 1 v n xs){A:Option Addr}{m:Nat}(i:Rd w A m a)
 (h1:∀k∈a,k.oneCell'=jm)(H:n+m<=1000000000)(D:bytes<=64)(x:f<=w.heap.size)(c:Nat):
 ∃o b,(Builtin.append_ #[t,t] z #[v,fD A m c]).run P w=.ok o b/\b.ownsRow f e 1 o (n+m) (xs++a)/\Below f w b/\Kept w b v.ownBlock:=by
 obtain⟨R,q,M,N,Q⟩:=info_parts d.hi;rcases A with _|u
 ·have g:m=0:=by
   rcases Jz m with g|g
   ·exact g
   ·obtain⟨_,_,e,_⟩:=i.2 g;cases e
  subst g;have I:a=[]:=Ce i.1;subst I;refine⟨v,w,?_,by simpa using l,Below.refl _ _,Kept.refl _ _⟩;rcases l.2 with⟨rfl,rfl⟩|⟨W,T,V,rfl,_,_,J,_⟩
  ·simp[Builtin.append_,run_underlying d.ht,sizeOf,typeInfo,q,Builtin.lenOf,Builtin.firstCells]
  ·simp[Builtin.append_,run_underlying d.ht,sizeOf,typeInfo,q,Builtin.lenOf,Builtin.firstCells,J,storeCells]
 ·have F:∀j k,a[j]?=iC k->w.cell? (u.add j)=iC k:=by
   intro j k y;have G:j<m:=by
    have:=(Cb.1 y).1;have:=i.1;omega
   obtain⟨S,Y,e,_,E⟩:=i.2 O;injection e with e
   subst e;rw[Addr.add_lit,E j G,y]
  have X:(n+m)*bytes<=1000000000*64:=IB H D;obtain⟨o,b,L,C,p,_⟩:=run_append_own (P:=P) w f t z e R B 1 bytes d.ht q M N Q d.hz U v n xs l u m c a (by simp[i.1]) F h1
   (by unfold maxLen;omega) O x
  exact⟨o,b,L,C,(Below.refl _ _).grown p x (λs r=>(l.lt s r).1),p.size,λs r K=>p.block s r (λh=>K h)⟩
structure Touch(F:Nat->Prop)(w w':jD):Prop where
 os:w'.os=w.os
 tape:w'.tape=w.tape
 output:w'.output=w.output
 size:w.heap.size<=w'.heap.size
 block:∀k,k<w.heap.size->¬F k->w'.heap[k]?=w.heap[k]?
def Touch.refl(F:Nat->Prop)(w:jD):Touch F w w:=⟨rfl,rfl,rfl,Ae _,λ_ _ _=>rfl⟩
def Touch.mono{F G:Nat->Prop}{w w':jD}(h:Touch F w w')(b:∀k,F k->G k):Touch G w w':=
 ⟨h.os,h.tape,h.output,h.size,λk c d=>h.block k c (λa=>d (b k a))⟩
def Touch.of_below{F:Nat->Prop}{w w':jD}(h:η w w'):Touch F w w':=
 ⟨h.os,h.tape,h.output,h.size,λk a _=>h.block k a⟩
def Touch.below{F:Nat->Prop}{w w':jD}(h:Touch F w w'){B:Nat}(b:B<=w.heap.size)(hF:∀k,F k->B<=k):Below B w w':=
 ⟨h.os,h.tape,h.output,h.size,λk c=>h.block k O (λa=>Ω (hF k a))⟩
def Touch.trans{F G:Nat->Prop}{w w' d:jD}(h:Touch F w w')(k:Touch G w' d)(e:∀a,G a->F a\/w.heap.size<=a):Touch F w d:=
 ⟨k.os.trans h.os,k.tape.trans h.tape,k.output.trans h.output,Bq h.size k.size,λa b c=>by
  rw[k.block a (Be b h.size) (λf=>(e a f).elim c (λg=>O))];exact h.block a b c⟩
def Touch.setCell{F:Nat->Prop}{w w':jD}(h:Touch F w w'){p:Addr}(f:F p.block\/w.heap.size<=p.block)(u:jL):Touch F w (w'.setCell p u):=
 ⟨h.os,h.tape,h.output,by simpa[D9]using h.size,λa d b=>by
  rw[Below.heap_setCell w' p u a (λc=>f.elim (λe=>b (c▸e)) (λg=>O))];exact h.block a d b⟩
def Touch.alloc{F:Nat->Prop}{w w':jD}(h:Touch F w w')(o:Obj):Touch F w (w'.alloc o):=
 ⟨h.os,h.tape,h.output,by have:=h.size;simp;omega,λa b c=>by
  rw[Below.heap_alloc w' o a (Ω h.size)];exact h.block a b c⟩
def Touch.drew{F:Nat->Prop}{w w':jD}(h:Touch F w w'):Touch F w w'.drew:=⟨h.os,h.tape,h.output,h.size,h.block⟩
def CB.touch{w w':jD}{F:Nat->Prop}{g:Nat}{e:TypeId}{xs:List jL}(h:CB w g e xs)(t:Touch F w w')(a:¬F g):CB w' g e xs:=(t.block g h.lt a).trans h
def Rd.touch{w w':jD}{F:Nat->Prop}{A:Option Addr}{n:Nat}{xs:List jL}(h:Rd w A n xs)(t:Touch F w w')(hF:∀a,A=iC a->¬F a.block):Rd w' A n xs:=
 ⟨h.1,λg=>by
   obtain⟨b,j,c,d,e⟩:=h.2 g;exact⟨b,j,c,Be d t.size,λi f=>(World.cell?_of_block (w:=w) (t.block b d (hF _ c))).trans (e i f)⟩⟩
def Gj{w w':jD}{F:Nat->Prop}{b:Nat}{e:TypeId}{v:jL}{n:Nat}{xs:List jL}{size:Nat}(h:w.ownsRow b e size v n xs)(t:Touch F w w')(hF:∀a,v.ownBlock=iC a->¬F a):w'.ownsRow b e size v n xs:=by
 refine⟨h.1,?_⟩;rcases h.2 with h|⟨a,f,g,c,i,d,j⟩
 ·exact .inl h
 ·exact .inr ⟨a,f,g,c,i,(t.block a (AA.1 d).1 (hF a (by rw[c];rfl))).trans d,j⟩
def P9{w:jD}{b g n c i:Nat}{e:TypeId}{xs:List jL}{u:jL}(h:w.ownsRow b e 1 (fD (iC (Φ g)) n c) n xs)(_:i<n):
 (w.setCell (Δ g i) u).ownsRow b e 1 (fD (iC (Φ g)) n c) n (xs.set i u):=by
 obtain⟨k,a⟩:=h;rcases a with⟨a,_⟩|⟨t,s,j,d,l,p,q,m,o,r⟩
 ·cases a
 simp only[Value.slice.injEq,Option.some.injEq,Addr.mk.injEq,and_true,true_and]at d;obtain⟨rfl,rfl⟩:=d;have f:(w.setCell (Δ g i) u).heap[g]?=iC (iy (j.setIfInBounds i u) e (0,0)):=by
  simp[D9,SN,p]
 refine⟨by simpa using k,.inr ⟨g,c,_,rfl,l,f,q,m,by simpa using o,?_⟩⟩;rw[Array.toList_setIfInBounds,List.take_set,r]
def VW{w:jD}{b g n c i:Nat}{e:TypeId}{xs:List jL}(h:w.ownsRow b e 1 (fD (iC (Φ g)) n c) n xs)(hi:i<n):
 (∃j,w.cell? (Δ g i)=iC j)/\w.frozen? (Δ g i)=jw:=by
 refine⟨Zx h hi,?_⟩;rcases h.2 with⟨d,_⟩|⟨m,k,l,a,o,f,_⟩
 ·cases d
 ·simp only[Value.slice.injEq,Option.some.injEq,Addr.mk.injEq,and_true,true_and]at a;obtain⟨rfl,rfl⟩:=a;simp[World.frozen?,f]
def OE{w:jD}{b n c:Nat}{A:Option Addr}{e:TypeId}{xs:List jL}(h:w.ownsRow b e 1 (fD A n c) n xs)(o:0<n):∃a,A=iC (Φ a)/\b<=a/\a<w.heap.size:=by
 rcases h.2 with⟨m,l⟩|⟨f,j,k,d,g,i,_⟩
 ·omega
 ·simp only[Value.slice.injEq]at d;exact⟨f,d.1,g,(AA.1 i).1⟩
def Abz(A:Option Addr)(n c k:Nat)(w:jD)(f:n<=1000000000)(d:k%8=0)(e:k+8<=n):
 Calls prog 111 #[fD A n c,fP gZ (k:Int)] w λa b=>a=gY (.bool jm)/\w=b:=by
 have t2:((k:Int)%8==0)=jm:=by rw[beq_iff_eq];omega
 have t3:decide ((k:Int)<=(n:Int) -8)=jm:=decide_eq_true O;go_enter func111,ntmps111;go_wp2;go_ret;exact⟨rfl,rfl⟩
def mf(j:Nat):2^(8*j)=256^j:=by rw[Nat.pow_mul]
def Adu(j:Nat)(a:j<8):256^j<=72057594037927936:=by
 have:256^j<=256^7:=Fv U O;exact Bq this U
def Ab0(X b j:Nat)(l:b<256)(i:j<8):bits .or ig ((X:Int)%256^j) (IntKind.u64.wrap (IntKind.u64.wrap (b:Int)*2^(8*j)))=((X%256^j+b*256^j:Nat):Int):=by
 have f:X%256^j<256^j:=U4 _ (UE U);have g:=Adu j i;have k:b*256^j<=255*72057594037927936:=IB O g;have a:((X:Int)%256^j)=((X%256^j:Nat):Int):=by rw[Int.natCast_emod,Jc];rfl
 have c:IntKind.u64.wrap (b:Int)=(b:Int):=by rw[IntKind.wrap_u64];omega
 have d:(b:Int)*2^(8*j)=((b*256^j:Nat):Int):=by rw[<-mf,GI,Jc];rfl
 have e:IntKind.u64.wrap ((b*256^j:Nat):Int)=((b*256^j:Nat):Int):=by rw[IntKind.wrap_u64];omega
 rw[a,c,d,e,u64_or_nat _ _ O O,Nat.or_comm,nat_join (8*j) _ _ (by rw[mf];exact Nat.mul_mod_left _ _) (by rw[mf];exact f)];congr 1;omega
def qV(A:Option Addr)(n c k:Nat)(l:List UInt64)(w:jD)(x:n<=1000000)(h:Bs w A n (leBytes l))(r:k<l.length):
 Calls prog 119 #[fD A n c,fP gZ ((8*k:Nat):Int)] w λf j=>f=gY (.tuple #[fP ig (l[k].toNat:Int),.bool jm])/\w=j:=by
 have s:=h.len;rw[leBytes_length]at s;have g:=Abz A n c (8*k) w O O O;have e:=Ac g;have m:=Ac (Jo l k · r ·);clear g;go_enter func119,ntmps119
 go_wp2_with fail
 refine e.mono ?_;rintro f j⟨rfl,rfl⟩;clear e
 go_wp2_with fail
 go_loop [6,12](λu d=>∃a:Nat,a<=8/\d=fP gZ a/\u=fP ig ((l[k].toNat%256^a:Nat):Int))(λ_ d=>8-(intOf d).toNat)
 case atStart=>exact⟨0,O,rfl,by simp⟩
 case round=>
  obtain⟨a,v,rfl,rfl⟩:=hrel;by_cases i:a<8
  ·obtain⟨t,B,z,rfl,y,p⟩:=h.at (show 8*k+a<n by omega);have b:=m a i;rw[List.getElem?_eq_getElem t]at b;injection b with b
   rw[b]at p;have o:Hid (bits .or ig ((l[k].toNat:Int)%256^a) (IntKind.u64.wrap (IntKind.u64.wrap ((leB l[k] a).toNat:Int)*2^(8*a)))=((l[k].toNat%256^(a+1):Nat):Int)):=Ac (by
    rw[Ab0 _ _ _ (leB l[k] a).toNat_lt i,le_step])
   go_wp2
   go_round
   case rel=>exact⟨a+1,O,by go_num,by rw[o.out]⟩
   case measure=>simp[intOf];omega
  ·have q:a=8:=O;subst q;rw[Apl];go_wp2;go_ret2;exact⟨rfl,rfl⟩
def qW(x:UInt64)(j:Nat):(x.toNat:Int)/2^(8*j)%256=((leB x j).toNat:Int):=by
 have a:(x.toNat:Int)/2^(8*j)=((x.toNat/256^j:Nat):Int):=by
  rw[Ak9,<-mf,Jc];rfl
 rw[Xo,a];rfl
def Yn(A:Option Addr)(n c k:Nat)(l:List UInt64)(x:UInt64)(w:jD)(G:n<=1000000)(h:Bs w A n (leBytes l))(s:k<l.length):
 Calls prog 70 #[fD A n c,fP gZ ((8*k:Nat):Int),fP ig (x.toNat:Int)] w λg j=>∃b q,g=gY (.tuple #[fD (iC (Φ b)) n q,.bool jm])/\j.ownsRow w.heap.size 5 1 (fD (iC (Φ b)) n q) n ((leBytes (l.set k x)).map bv)/\η w j:=by
 have E:=h.len;rw[leBytes_length]at E;have v:=Ac (Adl l k x · s ·);have o:=Ac (Adk l k x);have u:=Ac (qG l k x s);go_enter func70,ntmps70
 go_wp2_with fail
 refine(Vg A n c (leBytes l) w G h).mono ?_;rintro g H⟨Q,rfl,e,B⟩;obtain⟨I,f,rfl,J,_⟩:=Cj e;obtain⟨b,rfl,C,L⟩:=OE e O;have m:=Ac (Abz A n c (8*k) H O O O);rw[<-o.out]at e;clear o
 go_wp2_with fail
 refine m.mono ?_;rintro g j⟨rfl,rfl⟩;clear m
 go_wp2_with fail
 go_loopw [17](λi wr=>∃a:Nat,a<=8/\i=fP gZ a/\wr.ownsRow w.heap.size 5 1 (fD (iC (Φ b)) n f) n ((YN l k x a).map bv)/\η w wr)(λi _=>8-(intOf i).toNat)
 case atStart=>exact⟨0,O,rfl,e,B⟩
 case round=>
  obtain⟨a,M,rfl,d,r⟩:=hrel;by_cases F:a<8
  ·obtain⟨⟨P,N⟩,K⟩:=VW d (show 8*k+a<n by omega);have y:Hid ((wr.setCell (Δ b (8*k+a)) (fP .u8 ((leB x a).toNat:Int))).ownsRow w.heap.size 5 1 (fD (iC (Φ b)) n f) n ((YN l k x (a+1)).map bv)):=Ac (by
    rw[<-v.out a F,List.map_set];exact P9 d O)
   have t:=Ac (r.setCell (p:=Δ b (8*k+a)) C (fP .u8 ((leB x a).toNat:Int)));have z:=Ac (qW x a);clear d;go_wp2;rw[z.out];go_roundw
   case rel=>exact⟨a+1,O,by go_num,y.out,t.out⟩
   case measure=>simp[intOf];omega
  ·have D:a=8:=O;subst D;rw[u.out]at d;go_wp2;go_ret2;exact⟨b,f,rfl,d,r⟩
def II(ws:Nat->UInt64)(i:Nat):List UInt64:=(List.range 8).map λa=>ws (8*i+a)
def Ob(ws:Nat->UInt64)(i:Nat):(II ws i).length=8:=by simp[II]
def Ot(ws:Nat->UInt64)(i k:Nat)(a:k<(II ws i).length):(II ws i)[k]=ws (8*i+k):=by simp[II]
def Adv(ws:Nat->UInt64)(i k:Nat)(x:UInt64)(_:k<8):(II ws i).set k x=II (λb=>if b=8*i+k then x else ws b) i:=by
 apply Fz
 ·simp[II]
 ·intro c d e;rw[List.getElem_set,Ot,Ot];by_cases a:k=c
  ·rw[jM a,jM O]
  ·rw[ku a,ku O]
def qX(ws:Nat->UInt64)(i a k:Nat)(x:UInt64)(f:k<8)(g:a≠i):II (λb=>if b=8*i+k then x else ws b) a=II ws a:=by
 apply Fz
 ·simp[II]
 ·intro d c e;have:d<8:=by simpa[II]using c
  rw[Ot,Ot,ku O]
structure Mode where
 YR:Nat->List (Nat×UInt64)
 lf:Int
def Mode.len(m:Mode)(i:Nat):Nat:=(m.YR i).length
instance:CoeFun Mode (λ_=>Nat->Nat):=⟨Mode.len⟩
abbrev MU(lf:Int):Mode:=⟨λ_=>[],lf⟩
abbrev M0:Mode:=MU (-1)
def Mode.tick(m:Mode):Mode:=⟨m.YR,if 0<m.lf then m.lf-1 else m.lf⟩
def Mode.note(m:Mode)(i:Nat)(c:Nat×UInt64):Mode:=⟨λa=>if a=i then m.YR i++[c]else m.YR a,m.lf⟩
def Mode.wipe(m:Mode)(i:Nat):Mode:=⟨λa=>if a=i then[]else m.YR a,m.lf⟩
def Mode.Ti(m:Mode)(i:Nat)(c:Nat×UInt64)(k:Nat):(m.note i c).len k=if k=i then m.len i+1 else m.len k:=by
 unfold Mode.note Mode.len;simp only;split
 ·simp
 ·rfl
def Mode.ZN(m:Mode)(i k:Nat):(m.wipe i).len k=if k=i then 0 else m.len k:=by
 unfold Mode.wipe Mode.len;simp only;split<;>rfl
def chV:List (Nat×UInt64)->List jL
 |[]=>[]
 |a::b=>fP gZ (a.1:Nat):: fP ig (a.2.toNat:Nat)::chV b
def qY(i:Nat):List (Nat×UInt64)->(Nat->UInt64)->Nat->UInt64
 |[],a=>a
 |b::d,a=>λc=>if c=8*i+b.1/8 then b.2 else qY i d a c
def qZ(m:Mode)(a:Nat->Nat)(ws:Nat->UInt64)(q:Nat):UInt64:=qY (q/8) ((m.YR (q/8)).drop (a (q/8))) ws q
def Ab1:∀(a b:List (Nat×UInt64)),chV (a++b)=chV a++chV b
 |[],_=>rfl
 |c::a,b=>by simp only[List.cons_append,chV,Ab1 a b]
def ZO(w:jD)(A:Option Addr)(a:List (Nat×UInt64))(c:Nat)(b:Option Nat):Prop:=
 (b=iD/\a=[]/\c=0)\/∃h,b=iC h/\A=iC (Φ h)/\w.ownsRow 0 259 2 (fD A a.length c) a.length (chV a)
structure CY(w:jD)(d L:Nat)(ws:Nat->UInt64)(len:Mode)(mark:Nat->Nat)(g:Nat)(hb:Nat->Option Nat):Prop where
 box:∃st:Int,CB w d 83 [fD (iC (Φ g)) L L,.bool (decide (len.lf=0)),fP gZ len.lf,fP gZ st]
 lfr: -1<=len.lf/\len.lf<=1000000000
 gd:g≠d
 blk:∃cur:Array jL,w.heap[g]?=iC (iy cur 208 (0,0))/\cur.size=66*L/\
  (∀i,i<L->∀k,k<64->cur[66*i+k]?=(leBytes (II ws i))[k]?.map bv)/\
  ∀i,i<L->∃A c,cur[66*i+64]?=iC (fD A (len i) c)/\cur[66*i+65]?=iC (fP gZ (mark i:Int))/\ZO w A (len.YR i) c (hb i)
 bd:∀i,i<L->∀h,hb i=iC h->h≠g/\h≠d
 inj:∀i j,i<L->j<L->i≠j->∀h,hb i=iC h->hb j≠iC h
 mrk:∀i,i<L->mark i<=len i+1
def Fe(d L g:Nat)(c:Nat->Option Nat)(b:Nat):Prop:=b=d\/b=g\/∃a,a<L/\c a=iC b
def Dev(w:jD)(d L:Nat)(ws:Nat->UInt64)(len:Mode)(mark:Nat->Nat)(own:Nat->Prop):Prop:=
 ∃b c,CY w d L ws len mark b c/\∀a,own a<->Fe d L b c a
def ZO.keep{w w':jD}{A:Option Addr}{i:List (Nat×UInt64)}{c:Nat}{f:Option Nat}(h:ZO w A i c f)(r:∀a,f=iC a->a<w.heap.size->w'.heap[a]?=w.heap[a]?):ZO w' A i c f:=by
 rcases h with h|⟨l,j,k,⟨q,e⟩⟩
 ·exact .inl h
 ·refine .inr ⟨l,j,k,⟨q,?_⟩⟩;rcases e with e|⟨d,o,p,b,m,g,n⟩
  ·exact .inl e
  ·refine .inr ⟨d,o,p,b,m,?_,n⟩;have:d=l:=by
    simp only[Value.slice.injEq]at b;have:=b.1.symm.trans k;simpa using this
   subst this;rw[r d j (AA.1 g).1];exact g
def ZO.lt{w:jD}{A:Option Addr}{j:List (Nat×UInt64)}{c:Nat}{g:Option Nat}(h:ZO w A j c g):∀d,g=iC d->d<w.heap.size:=by
 intro d a;rcases h with⟨h,_⟩|⟨n,k,f,⟨s,b⟩⟩
 ·rw[h]at a;cases a
 ·rcases b with⟨b,_⟩|⟨m,q,r,e,o,i,p⟩
  ·simp only[Value.slice.injEq]at b;rw[f]at b;cases b.1
  ·have l:m=n:=by
    simp only[Value.slice.injEq]at e;have:=e.1.symm.trans f;simpa using this
   rw[k]at a;injection a with a
   subst l a;exact(AA.1 i).1
def CY.keep{w w':jD}{d L:Nat}{ws:Nat->UInt64}{len:Mode}{mark:Nat->Nat}{g:Nat}{hb:Nat->Option Nat}(h:CY w d L ws len mark g hb)
 (b:∀a,Fe d L g hb a->a<w.heap.size->w'.heap[a]?=w.heap[a]?):CY w' d L ws len mark g hb:=by
 obtain⟨st,e⟩:=h.box;obtain⟨cur,f,r,m,n⟩:=h.blk;refine⟨⟨st,(b d (.inl rfl) e.lt).trans e⟩,h.lfr,h.gd,⟨cur,(b g (.inr (.inl rfl)) (AA.1 f).1).trans f,r,m,λi j=>?_⟩,h.bd,h.inj,h.mrk⟩;obtain⟨A,c,k,l,p⟩:=n i j;exact⟨A,c,k,l,p.keep (λa o q=>b a (.inr (.inr ⟨i,j,o⟩)) q)⟩
def Dev.touch{w w':jD}{d L:Nat}{ws:Nat->UInt64}{len:Mode}{mark:Nat->Nat}{own F:Nat->Prop}(h:Dev w d L ws len mark own)(t:Touch F w w')(hF:∀a,own a->¬F a):Dev w' d L ws len mark own:=by
 obtain⟨c,e,g,b⟩:=h;exact⟨c,e,g.keep (λa i f=>t.block a f (hF a ((b a).2 i))),b⟩
def Dev.below{w w':jD}{d L:Nat}{ws:Nat->UInt64}{len:Mode}{mark:Nat->Nat}{own:Nat->Prop}(h:Dev w d L ws len mark own)(c:η w w'):Dev w' d L ws len mark own:=by
 obtain⟨b,e,i,g⟩:=h;exact⟨b,e,i.keep (λa _ f=>c.block a f),g⟩
def CY.lt{w:jD}{d L:Nat}{ws:Nat->UInt64}{len:Mode}{mark:Nat->Nat}{g:Nat}{hb:Nat->Option Nat}(h:CY w d L ws len mark g hb):∀a,Fe d L g hb a->a<w.heap.size:=by
 intro a e;obtain⟨st,f⟩:=h.box;obtain⟨cur,k,o,n,b⟩:=h.blk;rcases e with rfl|rfl|⟨i,m,l⟩
 ·exact f.lt
 ·exact(AA.1 k).1
 ·obtain⟨A,c,_,_,j⟩:=b i m;exact j.lt a l
def Dev.lt{w:jD}{d L:Nat}{ws:Nat->UInt64}{len:Mode}{mark:Nat->Nat}{own:Nat->Prop}(h:Dev w d L ws len mark own):∀a,own a->a<w.heap.size:=by
 obtain⟨f,g,e,c⟩:=h;exact λa b=>e.lt a ((c a).1 b)
def CY.line{w:jD}{d L:Nat}{ws:Nat->UInt64}{len:Mode}{mark:Nat->Nat}{g:Nat}{hb:Nat->Option Nat}(h:CY w d L ws len mark g hb)(i:Nat)(hi:i<L):Bs w (iC (Δ g (66*i))) 64 (leBytes (II ws i)):=by
 obtain⟨cur,a,f,b,e⟩:=h.blk;refine⟨by rw[List.length_map,leBytes_length,Ob],λ_=>⟨g,66*i,rfl,(AA.1 a).1,λj c=>?_⟩⟩;rw[cell_of_row w g _ cur _ (0,0) a,b i hi j c,List.getElem?_map]
def ZP{P:Program}(w:jD)(b off:Nat)(a:TypeId)(vs:List jL)(d:TypeDesc)(k:P.underlying a=iC d)(n:(match d with| .struct _| .array _ _=>jm|_=>jw)=jm)
 (hi:(P.info? a).map (·.size)=iC vs.length)(h:∀c e,vs[c]?=iC e->w.cell? (Δ b (off+c))=iC e):(loadVar a (Δ b off)).run P w=.ok (.agg vs.toArray) w:=by
 have i:(loadCells (Δ b off) vs.length).run P w=.ok vs.toArray w:=
  run_loadCells_list (P:=P) w (Δ b off) vs (λc e l=>by rw[Addr.add_lit];exact h c e l)
 cases f:P.info? a with
 |none=>simp[f]at hi
 |some m=>
  have j:m.size=vs.length:=by simpa[f]using hi
  have g:(isAgg a).run P w=.ok jm w:=by
   unfold isAgg;rw[Sem.run_bind,run_underlying k w];cases d<;>simp_all
  simp[loadVar,Sem.run_bind,g,sizeOf,typeInfo,f,j,i]
def Tj{P:Program}{g:Array Oper}{rest:List Oper}{o:Oper}{a:Act}{w:jD}{e:Exit->Act->jD->Prop}(m:o.guard=iD)(c:TypeId)(x:Operand)(n:o.op=.load c x)
 (b off:Nat)(q:a.eval x=.pointer (iC (Δ b off)))(vs:List jL)(d:TypeDesc)(p:P.underlying c=iC d)(l:(match d with| .struct _| .array _ _=>jm|_=>jw)=jm)
 (hi:(P.info? c).map (·.size)=iC vs.length)(k:∀f i,vs[f]?=iC i->w.cell? (Δ b (off+f))=iC i)
 (h:wpList P g e rest (a.put o.dst (.agg vs.toArray)) w):wpList P g e (o::rest) a w:=by
 refine wpList_plain m λr j=>?_
 unfold Oper.wp execOp;simp only[n,q,Instr.loadAt,Instr.sureAddr,Sem.run_bind,Sem.run_pure,Result.andThen_ok,ZP w b off c vs d p l hi k];exact j _ _ h
def YS{P:Program}(w:jD)(b off:Nat)(d:TypeId)(vs:List jL)(hi:(P.info? d).map (·.size)=iC vs.length)(f:∀a,a<vs.length->(w.cell? (Δ b (off+a))).isSome=jm)
 (g:∀a,a<vs.length->w.frozen? (Δ b (off+a))=jw)(h1:∀k∈vs,k.oneCell'=jm):(storeVar d (Δ b off) (.agg vs.toArray)).run P w=.ok () (w.setCells b off vs):=by
 have e:=run_storeCells_cells (P:=P) b off vs 0 w (by simpa using f) (by simpa using g) h1;cases c:P.info? d with
 |none=>simp[c]at hi
 |some j=>
  have i:j.size=vs.length:=by simpa[c]using hi
  simp only[Nat.add_zero]at e;simp[storeVar,Sem.run_bind,sizeOf,typeInfo,c,i,Value.cells,e]
def YT{P:Program}{f:Array Oper}{rest:List Oper}{o:Oper}{a:Act}{w:jD}{e:Exit->Act->jD->Prop}(k:o.guard=iD)(d:TypeId)(x y:Operand)(l:o.op=.store d x y)
 (b off:Nat)(m:a.eval x=.pointer (iC (Δ b off)))(vs:List jL)(hy:a.eval y=.agg vs.toArray)(hi:(P.info? d).map (·.size)=iC vs.length)(i:∀c,c<vs.length->(w.cell? (Δ b (off+c))).isSome=jm)
 (j:∀c,c<vs.length->w.frozen? (Δ b (off+c))=jw)(h1:∀n∈vs,n.oneCell'=jm)
 (h:wpList P f e rest (a.put o.dst undef) (w.setCells b off vs)):wpList P f e (o::rest) a w:=by
 refine wpList_plain k λp g=>?_
 unfold Oper.wp execOp;simp only[l,m,hy,Instr.storeAt,Instr.sureAddr,Sem.run_bind,Sem.run_pure,Result.andThen_ok,YS w b off d vs hi i j h1];exact g _ _ h
structure Ig(P:Program)(t e:TypeId)(z:jL)(k bytes:Nat):Prop where
 ht:P.underlying t=iC (.slice e)
 hi:(P.info? e).map (λi=>(i.zero,i.size,i.bytes))=iC (iC z,k,bytes)
 hz:z.cells.size=k
def ZQ{P:Program}{t e:TypeId}{u:jL}{k bytes:Nat}(m:Ig P t e u k bytes)(s:TypeId){w:jD}{g:Nat}{v:jL}{n:Nat}{xs d:List jL}
 (r:w.ownsRow g e k v n xs)(b:Nat)(A:CB w b e d)(p:d.length=k)(E:0<k)(h1:∀j∈d,j.oneCell'=jm)(N:n<=1000000)(B:bytes<=1000)(q:g<=w.heap.size)(c:Nat):
 ∃a l f,(Builtin.append_ #[t,t] s #[v,fD (iC (Φ b)) 1 c]).run P w=.ok (fD (iC (Φ a)) (n+1) l) f/\f.ownsRow g e k (fD (iC (Φ a)) (n+1) l) (n+1) (xs++d)/\Below g w f/\Kept w f v.ownBlock/\(v.ownBlock=iC a\/a=w.heap.size):=by
 obtain⟨L,C,I,J,K⟩:=info_parts m.hi;have F:∀i j,d[i]?=iC j->w.cell? (((Φ b):Addr).add i)=iC j:=λi j H=>by
  rw[Addr.add_lit,DI,A.cell,H]
 have Q:(n+1)*bytes<=1000001*1000:=IB O B;obtain⟨a,l,f,x,y,o,z,M⟩:=run_append_lies (P:=P) w t s g e L u k bytes m.ht C I J K m.hz E v n xs r (Φ b) 1 c d (by rw[p,Nat.one_mul]) F h1 U (by unfold maxLen;omega) O q _ rfl;exact⟨a,l,f,x,y,(Below.refl _ _).grown o q (λk p=>(r.lt k p).1),⟨o.size,λi D G=>o.block i D G⟩,z⟩
def BC{P:Program}{A:Array Oper}{rest:List Oper}{o:Oper}{a:Act}{w:jD}{r:Exit->Act->jD->Prop}(I:o.guard=iD)(s x:Operand)(t:TypeId)
 (M:o.op=.call {callee:=.builtin .append,args:= #[s,x],argTypes:= #[t,t]}){e:TypeId}{V:jL}{k bytes:Nat}(B:Ig P t e V k bytes)
 (wr:jD)(j:Nat)(v:jL)(n:Nat)(xs g:List jL)(R:a.eval s=v)(y:wr.ownsRow j e k v n xs)(S:w=wr.alloc (iy g.toArray e))(b c:Nat)(T:a.eval x=fD (iC (Φ b)) 1 c)(F:b=wr.heap.size)
 (J:g.length=k)(K:0<k)(h1:∀U∈g,U.oneCell'=jm)(L:n<=1000000)(H:bytes<=1000)(G:j<=wr.heap.size)
 (h:∀d f i,i.ownsRow j e k (fD (iC (Φ d)) (n+1) f) (n+1) (xs++g)->Below j wr i->Kept wr i v.ownBlock->(v.ownBlock=iC d\/wr.heap.size<=d)->wpList P A r rest (a.put o.dst (fD (iC (Φ d)) (n+1) f)) i):wpList P A r (o::rest) a w:=by
 refine wpList_plain I λW E=>?_
 subst S F;have l:η wr (wr.alloc (iy g.toArray e)):=(Below.refl _ _).alloc (Ae _) _;have N:(wr.alloc (iy g.toArray e)).ownsRow j e k v n xs:=by
  refine⟨y.1,?_⟩;rcases y.2 with h|⟨d,f,C,h1,q,m,p⟩
  ·exact .inl h
  ·exact .inr ⟨d,f,C,h1,q,by rw[l.block d (AA.1 m).1];exact m,p⟩
 obtain⟨d,f,i,Q,q,m,p,D⟩:=ZQ B o.type N wr.heap.size (heap_alloc_new wr _) J K h1 L H (by simp;omega) c;unfold Oper.wp execOp;simp only[M,resolve,invoke,builtin,Sem.run_bind,Sem.run_pure,Result.andThen_ok,JX,BM,FP,R,T,Q];refine E _ _ (h d f i q ((l.mono G).trans m) ⟨Bq l.size p.1,λz u O=>(p.2 z (Be u l.size) O).trans (l.block z u)⟩ (D.imp id (λe=>by rw[e];simp)))
def mg(size:Nat)(h:size<=32):2^size-1<4294967296:=by
 have:2^size<=2^32:=Fv U h;omega
def yw(low:Nat)(h:low<=31):2^low<=2147483648:=Fv U h
def Ahm(x low size:Nat)(c:x<18446744073709551616)(b:size<=32):bits .and ig ((x:Int)/2^low) ((2^size-1:Nat):Int)=(fieldN x low size:Nat):=by
 have a:(x:Int)/2^low=((x/2^low:Nat):Int):=by rw[Ak9,Jc];rfl
 have:=mg size b;rw[a,u64_and_nat _ _ (J5 (Nat.div_le_self _ _) c) O,Nat.and_two_pow_sub_one_eq_mod];rfl
def Al2(x low size v:Nat)(j:x<18446744073709551616)(i:v<18446744073709551616)(g:size<=32)(f:low<=31):
 bits .or ig (bits .andNot ig (x:Int) (IntKind.u64.wrap (((2^size-1:Nat):Int)*2^low))) (IntKind.u64.wrap (bits .and ig (v:Int) ((2^size-1:Nat):Int)*2^low))=(EC x low size v:Nat):=by
 have k:=mg size g;have a:=yw low f;have l:(2^size-1)*2^low<=4294967295*2147483648:=IB O a;have m:v&&&(2^size-1)<=2^size-1:=Ala;have n:(v&&&(2^size-1))*2^low<=4294967295*2147483648:=IB O a;have b:((2^size-1:Nat):Int)*2^low=(((2^size-1)*2^low:Nat):Int):=by rw[GI,Jc];rfl
 have c:IntKind.u64.wrap (((2^size-1)*2^low:Nat):Int)=(((2^size-1)*2^low:Nat):Int):=by rw[IntKind.wrap_u64];omega
 have d:((v&&&(2^size-1):Nat):Int)*2^low=(((v&&&(2^size-1))*2^low:Nat):Int):=by rw[GI,Jc];rfl
 have e:IntKind.u64.wrap (((v&&&(2^size-1))*2^low:Nat):Int)=(((v&&&(2^size-1))*2^low:Nat):Int):=by rw[IntKind.wrap_u64];omega
 have o:x&&&(18446744073709551615-(2^size-1)*2^low)<=x:=Ali;rw[b,c,u64_andNot_nat _ _ j O,u64_and_nat _ _ i O,d,e,u64_or_nat _ _ O O];rfl
def ry(low size:Nat)(w:jD)(g:low+size<=64)(c:size<=32):
 Calls prog 176 #[fP gZ (low:Int),fP gZ (size:Int)] w λa d=>a=gY (.tuple #[fP gZ (low:Int),fP ig ((2^size-1:Nat):Int)])/\Dr w d:=by
 have f:=mg size c;have i:0<2^size:=UE U;have b:((2^size:Nat):Int)=(2:Int)^size:=by rw[Jc];rfl
 have e:IntKind.u64.wrap (IntKind.u64.wrap ((2:Int)^size) -1)=((2^size-1:Nat):Int):=by
  rw[IntKind.wrap_u64,IntKind.wrap_u64,<-b];omega
 go_enter func176,ntmps176
 go_wp2_with fail
 go_quiet(fail)
 go_wp2_with fail
 go_ret2;exact⟨by simp;omega,_,rfl⟩
def Ub(x low size:Nat)(w:jD)(f:x<18446744073709551616)(e:low+size<=64)(b:size<=32):
 Calls prog 148 #[fP ig (x:Int),fP gZ (low:Int),fP gZ (size:Int)] w λa c=>a=gY (fP ig (fieldN x low size:Nat))/\Dr w c:=by
 have d:=Ac (Ahm x low size f b);go_enter func148,ntmps148
 go_wp2_with fail
 refine(ry low size w e b).mono ?_;rintro a c⟨rfl,g,rfl⟩
 go_wp2_with fail
 rw[d.out];go_ret;exact⟨rfl,_,rfl⟩
def Tm(x low size v:Nat)(w:jD)(e:x<18446744073709551616)(d:v<18446744073709551616)(f:low+size<=31):
 Calls prog 149 #[fP ig (x:Int),fP gZ (low:Int),fP gZ (size:Int),fP ig (v:Int)] w λa b=>a=gY (fP ig (EC x low size v:Nat))/\Dr w b:=by
 have c:=Ac (Al2 x low size v e d O O);go_enter func149,ntmps149
 go_wp2_with fail
 refine(ry low size w O O).mono ?_;rintro a b⟨rfl,g,rfl⟩
 go_wp2_with fail
 go_quiet(fail)
 go_wp2_with fail
 rw[c.out];go_ret;exact⟨rfl,Dr.two _ _ _⟩
def iT(x low size:Nat):fieldN x low size<2^size:=U4 _ (UE U)
def ZR(x:Nat):Eb x<4:=iT x 16 2
def Adw(x:Nat):KA x<65536:=iT x 0 16
def Js(c:Nat):Bi c<=16:=by unfold Bi;split<;>omega
def iU(c:Nat):Bd c<=4:=by unfold Bd;split<;>omega
def Qs(x low size v:Nat)(d:x<18446744073709551616)(g:low+size<=64):EC x low size v<18446744073709551616:=by
 unfold EC;have b:x&&&(lN-(2^size-1)*2^low)<2^64:=J5 Ali d;have c:(v&&&(2^size-1))*2^low<2^64:=by
  have e:v&&&(2^size-1)<=2^size-1:=Ala;have f:0<2^size:=UE U;have a:(v&&&(2^size-1))*2^low<2^size*2^low:=Nat.mul_lt_mul_of_pos_right O (UE U);rw[<-Nat.pow_add]at a;exact Be a (Fv U O)
 exact Nat.or_lt_two_pow b c
def GU(c:Nat)(w:jD)(f:c<1000000):Calls prog 98 #[fP gZ (c:Int)] w λa e=>a=gY (fP gZ (Bi c:Nat))/\w=e:=by
 by_cases b:c=1
 ·subst b;go_enter func98,ntmps98;go_wp2;go_ret;exact⟨rfl,rfl⟩
 ·by_cases d:c=2
  ·subst d;go_enter func98,ntmps98;go_wp2;go_ret;exact⟨rfl,rfl⟩
  ·have t1:((c:Int)==1)=jw:=ζ O;have t2:((c:Int)==2)=jw:=ζ O;have a:Bi c=0:=by unfold Bi;split<;>first|omega|rfl
   rw[a];go_enter func98,ntmps98;go_wp2;go_ret;exact⟨rfl,rfl⟩
def PV(c:Nat)(w:jD)(f:c<1000000):Calls prog 100 #[fP gZ (c:Int)] w λa e=>a=gY (fP gZ (Bd c:Nat))/\w=e:=by
 by_cases b:c=1
 ·subst b;go_enter func100,ntmps100;go_wp2;go_ret;exact⟨rfl,rfl⟩
 ·by_cases d:c=2
  ·subst d;go_enter func100,ntmps100;go_wp2;go_ret;exact⟨rfl,rfl⟩
  ·have t1:((c:Int)==1)=jw:=ζ O;have t2:((c:Int)==2)=jw:=ζ O;have a:Bd c=0:=by unfold Bd;split<;>first|omega|rfl
   rw[a];go_enter func100,ntmps100;go_wp2;go_ret;exact⟨rfl,rfl⟩
def VX(x:Nat)(w:jD)(e:x<18446744073709551616):Calls prog 102 #[fP ig (x:Int)] w λb c=>b=gY (fP gZ (Eb x:Nat))/\Dr w c:=by
 have a:=Dr.refl w;have g:=ZR x;have f:IntKind.i64.wrap (Eb x:Int)=(Eb x:Int):=by rw[IntKind.wrap_i64];omega
 go_enter func102,ntmps102
 go_wp2_with fail
 refine(Ub x 16 2 _ e U U).mono ?_;rintro b c⟨rfl,d⟩;replace a:=a.trans d;rw[show fieldN x 16 2=Eb x from rfl]
 go_wp2_with fail
 go_ret;exact⟨rfl,a⟩
def iV(x:Nat)(w:jD)(e:x<18446744073709551616):Calls prog 175 #[fP ig (x:Int)] w λb c=>b=gY (fP ig (KA x:Nat))/\Dr w c:=by
 have a:=Dr.refl w;go_enter func175,ntmps175
 go_wp2_with fail
 refine(Ub x 0 16 _ e U U).mono ?_;rintro b c⟨rfl,d⟩;replace a:=a.trans d;rw[show fieldN x 0 16=KA x from rfl]
 go_wp2_with fail
 go_ret;exact⟨rfl,a⟩
def Vl(x:Nat)(w:jD)(g:x<18446744073709551616):Calls prog 101 #[fP ig (x:Int)] w λc d=>c=gY (.bool (Gx x))/\Dr w d:=by
 have a:=Dr.refl w;have t:=ZR x;have s:=Js (Eb x);by_cases k:x=0
 ·subst k;rw[show Gx 0=jm from rfl];go_enter func101,ntmps101;go_wp2;go_ret;exact⟨rfl,a⟩
 ·have t0:((x:Int)==0)=jw:=ζ O;have i:=Ac (λe=>Ub x 0 (Bi (Eb x)) e g O O);have r:=Qs x 0 (Bi (Eb x)) 0 g O;have m:=Ac (λe=>Tm x 0 (Bi (Eb x)) 0 e g U O);have n:=Ac (λe=>Tm (EC x 0 (Bi (Eb x)) 0) 16 2 0 e r U U);by_cases f:fieldN x 0 (Bi (Eb x))=0
  ·have j:Hid (Gx x=jw):=Ac (by simp[Gx,k,f]);have t1:(((fieldN x 0 (Bi (Eb x)):Nat):Int)!=0)=jw:=by rw[f];rfl
   generalize fieldN x 0 (Bi (Eb x))=q at i t1;clear f;go_enter func101,ntmps101
   go_wp2_with fail
   refine(VX x _ g).mono ?_;rintro c d⟨rfl,b⟩;replace a:=a.trans b
   go_wp2_with fail
   refine(GU (Eb x) _ O).mono ?_;rintro c d⟨rfl,rfl⟩
   go_wp2_with fail
   refine(i _).mono ?_;rintro c d⟨rfl,b⟩;replace a:=a.trans b
   go_wp2_with fail
   rw[j.out];go_ret;exact⟨rfl,a⟩
  ·have j:Hid (Gx x=(EC (EC x 0 (Bi (Eb x)) 0) 16 2 0==0)):=Ac (by
    have o:(x==0)=jw:=ζ k;have p:(fieldN x 0 (Bi (Eb x))!=0)=jm:=by rw[bne_iff_ne];exact f
    rw[Gx,o,p];rfl)
   have t1:(((fieldN x 0 (Bi (Eb x)):Nat):Int)!=0)=jm:=by rw[bne_iff_ne];omega
   have l:Hid ((((EC (EC x 0 (Bi (Eb x)) 0) 16 2 0:Nat):Int)==0)=(EC (EC x 0 (Bi (Eb x)) 0) 16 2 0==0)):=Ac (by
    rw[Bool.eq_iff_iff,beq_iff_eq,beq_iff_eq];omega)
   generalize fieldN x 0 (Bi (Eb x))=q at i t1;clear f;go_enter func101,ntmps101
   go_wp2_with fail
   refine(VX x _ g).mono ?_;rintro c d⟨rfl,b⟩;replace a:=a.trans b
   go_wp2_with fail
   refine(GU (Eb x) _ O).mono ?_;rintro c d⟨rfl,rfl⟩
   go_wp2_with fail
   refine(i _).mono ?_;rintro c d⟨rfl,b⟩;replace a:=a.trans b
   go_wp2_with fail
   refine(m _).mono ?_;rintro c d⟨rfl,b⟩;replace a:=a.trans b
   go_wp2_with fail
   refine(n _).mono ?_;rintro c d⟨rfl,b⟩;replace a:=a.trans b
   go_wp2_with fail
   rw[j.out,l.out];go_ret;exact⟨rfl,a⟩
def Ou(x:Nat):Ba x<4:=by unfold Ba;split;exact ZR x;decide
def H7(x:Nat)(w:jD)(g:x<18446744073709551616):Calls prog 62 #[fP ig (x:Int)] w λe f=>e=gY (fP gZ (Ba x:Nat))/\Dr w f:=by
 have a:=Dr.refl w;have d:=Ac (λi=>Vl x i g);cases b:Gx x
 ·rw[show Ba x=0 by simp[Ba,b]];rw[b]at d;clear b;go_enter func62,ntmps62
  go_wp2_with fail
  refine(d _).mono ?_;rintro e f⟨rfl,c⟩;replace a:=a.trans c
  go_wp2_with fail
  go_ret;exact⟨rfl,a⟩
 ·rw[show Ba x=Eb x by simp[Ba,b]];rw[b]at d;clear b;go_enter func62,ntmps62
  go_wp2_with fail
  refine(d _).mono ?_;rintro e f⟨rfl,c⟩;replace a:=a.trans c
  go_wp2_with fail
  refine(VX x _ g).mono ?_;rintro e f⟨rfl,c⟩;replace a:=a.trans c
  go_wp2_with fail
  go_ret;exact⟨rfl,a⟩
def Tn(x a:Nat)(w:jD)(f:x<18446744073709551616)(l:a<1000000):Calls prog 99 #[fP ig (x:Int),fP gZ (a:Int)] w λc d=>c=gY (.bool (EM x a))/\Dr w d:=by
 have b:=Dr.refl w;have n:=Ou x;have m:=Js (Ba x);by_cases g:a<Bi (Ba x)
 ·have i:=Ac (λk=>Ub x a 1 k f O O);have t1:decide ((a:Int)<((Bi (Ba x):Nat):Int))=jm:=decide_eq_true O;have j:Hid ((((fieldN x a 1:Nat):Int)==1)=EM x a):=Ac (by
   rw[Bool.eq_iff_iff,beq_iff_eq];simp[EM,g];omega)
  go_enter func99,ntmps99
  go_wp2_with fail
  refine(H7 x _ f).mono ?_;rintro c d⟨rfl,e⟩;replace b:=b.trans e
  go_wp2_with fail
  refine(GU (Ba x) _ O).mono ?_;rintro c d⟨rfl,rfl⟩
  go_wp2_with fail
  refine(i _).mono ?_;rintro c d⟨rfl,e⟩;replace b:=b.trans e
  go_wp2_with fail
  rw[j.out];go_ret;exact⟨rfl,b⟩
 ·have t1:decide ((a:Int)<((Bi (Ba x):Nat):Int))=jw:=decide_eq_false O;rw[show EM x a=jw by simp[EM,g]];go_enter func99,ntmps99
  go_wp2_with fail
  refine(H7 x _ f).mono ?_;rintro c d⟨rfl,e⟩;replace b:=b.trans e
  go_wp2_with fail
  refine(GU (Ba x) _ O).mono ?_;rintro c d⟨rfl,rfl⟩
  go_wp2_with fail
  go_ret;exact⟨rfl,b⟩
def Eu(a:jD)(r:Nat)(b:Array MapEntry)(c:Nat):jD:={a with heap:=a.heap.setIfInBounds r (.map b c)}
def Yo(a:jD)(r:Nat)(b:Array MapEntry)(c:Nat):(Eu a r b c).heap.size=a.heap.size:=by simp[Eu]
def Ov(a:jD)(r:Nat)(b:Array MapEntry)(c:Nat)(h:r<a.heap.size):(Eu a r b c).heap[r]?=iC (.map b c):=by simp[Eu,h]
def JC(a:jD)(r:Nat)(e:Array MapEntry)(c:Nat):Touch (λb=>b=r) a (Eu a r e c):=
 ⟨rfl,rfl,rfl,by simp[Eu],λi g f=>by
  simp only[Eu];rw[AZ,ku (λd=>f d.symm)]⟩
def ML{P:Program}{w:jD}{r:Nat}{a:Array MapEntry}{c:Nat}(b:w.heap[r]?=iC (.map a c)):(getObj r).run P w=.ok (.map a c) w:=by simp[getObj,Sem.run,b]
def Vm{P:Program}{w:jD}{r:Nat}{a:Array MapEntry}{c:Nat}(o:Obj)(b:w.heap[r]?=iC (.map a c)):(setObj r o).run P w=.ok () {w with heap:=w.heap.setIfInBounds r o}:=by simp[setObj,Sem.run,b]
def run_makeMap{P:Program}(t:TypeId)(w:jD):(Instr.makeMap t iD).run P w=.ok (.map (iC w.heap.size)) (w.alloc (.map #[] 0)):=by
 simp[Instr.makeMap,Result.andThen]
def JD{P:Program}{a:TypeId}{d:IntKind}(c:P.underlying a=iC (.int d))(b:Bool)(n:Nat)(q:IntKind)(k:Int)(w:jD):(Instr.checkKey b (n+1) a (.int q k)).run P w=.ok () w:=by
 simp[Instr.checkKey,run_underlying c,Result.andThen]
def Zi{P:Program}{t f g:TypeId}{d:IntKind}(p:P.underlying t=iC (.map f g))(e:P.underlying f=iC (.int d))(a:jD)(r:Nat)(b:Array MapEntry)(c:Nat)(k:Int)(v:jL)
 (h:a.heap[r]?=iC (.map b c))(o:Instr.findNow (.int d) (.int d k) b.toList 0=iC iD):
 (Instr.mapUpdate t (.map (iC r)) (.int d k) v).run P a=.ok () (Eu a r (b.push {key:=.int d k,val:=v,born:=c}) (c+1)):=by
 have i:=run_underlying (P:=P) p;have j:=run_underlying (P:=P) e;have l:=λs=>JD (P:=P) e jw 9999 d k s
 have m:=ML (P:=P) h;have n:=λq=>Vm (P:=P) q h
 simp[Instr.mapUpdate,i,j,l,m,n,Instr.findKey,o,Eu,Result.andThen]
def OG{P:Program}{t f j:TypeId}{d:IntKind}(q:P.underlying t=iC (.map f j))(e:P.underlying f=iC (.int d))(a:jD)(r:Nat)(b:Array MapEntry)(c:Nat)(k:Int)(i:Nat)(v:jL)
 (h:a.heap[r]?=iC (.map b c))(p:Instr.findNow (.int d) (.int d k) b.toList 0=iC (iC (i,v))):
 (Instr.lookup t (.map (iC r)) (.int d k) jw).run P a=.ok v a:=by
 have l:=run_underlying (P:=P) q;have m:=run_underlying (P:=P) e;have n:=λg s=>JD (P:=P) e g 9999 d k s
 have o:=ML (P:=P) h;simp[Instr.lookup,l,m,n,o,Instr.findKey,p,Result.andThen]
def Al3(w:jD):Prop:=∀a,a<16->w.cell? (Δ 0 a)=iC (fP .u32 (MB.getD a 0:Nat))
def Ahn(j:Nat):MB.getD j 0<4294967296:=by
 rcases Nat.lt_or_ge j 16 with h|h
 ·have b:∀a:Fin 16,MB.getD a.val 0<4294967296:=by decide
  exact b ⟨j,h⟩
 ·rw[List.getD_eq_getElem?_getD,FQ (by simpa[MB]using h)];decide
def Ab2(y:Nat)(hy:y<4294967296):bits .and .u32 (y:Int) 15=((y%16:Nat):Int):=by
 rw[show(15:Int)=((15:Nat):Int)from rfl,u32_and_nat _ _ hy U,nat_mask4]
def Ab3(y:Nat)(hy:y<4294967296):bits .xor .u32 ((y:Int)/16) ((MB.getD (y%16) 0:Nat):Int)=(QX y:Nat):=by
 rw[show(y:Int)/16=((y/16:Nat):Int)by omega,u32_xor_nat _ _ O (Ahn _)];rfl
def rC(b:Nat)(A:Option Addr)(n c:Nat)(l:List UInt8)(w:jD)(o:b<4294967296)(N:n<=1000000)(h:Bs w A n l)(m:Al3 w):
 Calls prog 112 #[fP .u32 (b:Int),fD A n c] w λu y=>u=gY (fP .u32 (Nj b l:Nat))/\w=y:=by
 have x:=h.len;have H:bits .xor .u32 IntKind.u32.max (b:Int)=((Qq b l 0:Nat):Int):=by
  rw[show IntKind.u32.max=((4294967295:Nat):Int)from rfl,u32_xor_nat _ _ U o,ZE,Ar3]
 have s:=Ac h;clear h;go_enter func112,ntmps112
 go_wp2_with fail
 go_loop [5,12](λd j=>∃a:Nat,a<=n/\j=fP gZ a/\d=fP .u32 ((Qq b l a:Nat):Int))(λ_ j=>n-(intOf j).toNat)
 case atStart=>exact⟨0,Nat.zero_le _,rfl,rfl⟩
 case round=>
  obtain⟨a,M,rfl,rfl⟩:=hrel;have g:=ZG b l o a O;by_cases f:a<n
  ·obtain⟨v,e,P,rfl,J,K⟩:=s.at f;have L:l[a].toNat<256:=UInt8.toNat_lt _;have t:=Ac (ZF b l a v);generalize Qq b l a=d at*;generalize l[a].toNat=e at*;have i:d^^^e<4294967296:=Nat.xor_lt_two_pow (n:=32) g O;have z:bits .xor .u32 (d:Int) (e:Int)=((d^^^e:Nat):Int):=u32_xor_nat _ _ g O;have B:=Ab2 _ i;have C:=Ab3 _ i;have F:=m ((d^^^e)%16) (U4 _ U);have r:Hid (TY d e=QX (QX (d^^^e))):=Ac rfl;generalize d^^^e=k at*;have p:=Ve k i;generalize QX k=q at*;have D:=Ab2 _ p;have E:=Ab3 _ p;have G:=m (q%16) (U4 _ U);generalize MB.getD (k%16) 0=f1 at*;generalize MB.getD (q%16) 0=f2 at*;go_wp2
   trace_state
   go_round
   case rel=>exact⟨a+1,O,by go_num,by rw[t.out,r.out]⟩
   case measure=>simp[intOf];omega
  ·have f:a=n:=O;subst f;have I:bits .xor .u32 IntKind.u32.max ((Qq b l a:Nat):Int)=(Nj b l:Nat):=by
    rw[show IntKind.u32.max=((4294967295:Nat):Int)from rfl,u32_xor_nat _ _ U g,Ar3,<-x,Adp]
   go_wp2;go_ret;exact⟨rfl,rfl⟩
def yz(A:Option Addr)(n c:Nat)(l:List UInt8)(w:jD)(f:n<=1000000)(h:Bs w A n l)(e:Al3 w):
 Calls prog 71 #[fD A n c] w λa b=>a=gY (fP .u32 (Nj 0 l:Nat))/\w=b:=by
 have d:=Ac (rC 0 A n c l w U f h e);go_enter func71,ntmps71
 go_wp2_with fail
 refine d.mono ?_;rintro a b⟨rfl,rfl⟩
 go_wp2_with fail
 go_ret;exact⟨rfl,rfl⟩
def Oc{P:Program}{C:Array Oper}{o:Oper}{a:Act}{w:jD}{K:Act->jD->Prop}{D:Exit->Act->jD->Prop}{E:Prop}(L:o.guard=iD)(s x:Operand)(t:TypeId)
 (R:o.op=.call {callee:=.builtin .append,args:= #[s,x],argTypes:= #[t,t]}){e:TypeId}{ac:jL}{k bytes:Nat}(F:Ig P t e ac k bytes)
 (wr:jD)(i:Nat)(v:jL)(n:Nat)(xs j:List jL)(X:a.eval s=v)(A:wr.ownsRow i e k v n xs)(q:w.heap=wr.heap.push (iy j.toArray e))
 (S:w.os=wr.os)(Y:w.tape=wr.tape)(T:w.output=wr.output)(r c:Nat)(aa:a.eval x=fD (iC (Φ r)) 1 c)(M:wr.heap.size=r)
 (z:j.length=k)(N:0<k)(h1:∀ab∈j,ab.oneCell'=jm)(Q:n<=1000000)(J:bytes<=1000)(u:i<=wr.heap.size)
 (h:∀b f g,g.ownsRow i e k (fD (iC (Φ b)) (n+1) f) (n+1) (xs++j)->Below i wr g->Kept wr g v.ownBlock->(v.ownBlock=iC b\/wr.heap.size<=b)->K (a.put o.dst (fD (iC (Φ b)) (n+1) f)) g):
 if Region.wanted o (yielded C a.tmps)=jm then Oper.wp P o a w K D else E:=by
 have Z:Region.wanted o (yielded C a.tmps)=jm:=by simp[Region.wanted,L]
 rw[jM Z];subst M;have d:η wr w:=⟨S,Y,T,by rw[q];simp,λk z=>by rw[q,GH,ku O]⟩;have U:w.ownsRow i e k v n xs:=by
  refine⟨A.1,?_⟩;rcases A.2 with h|⟨b,f,G,h1,p,l,m⟩
  ·exact .inl h
  ·exact .inr ⟨b,f,G,h1,p,by rw[d.block b (AA.1 l).1];exact l,m⟩
 have I:CB w wr.heap.size e j:=by unfold CB;rw[q,GH,jM rfl]
 obtain⟨b,f,g,W,p,l,m,H⟩:=ZQ F o.type U wr.heap.size I z N h1 Q J (Bq u d.size) c;unfold Oper.wp execOp;simp only[R,resolve,invoke,builtin,Sem.run_bind,Sem.run_pure,Result.andThen_ok,JX,BM,FP,X,aa,W];exact h b f g p ((d.mono u).trans l) ⟨Bq d.size m.1,λB y V=>(m.2 B (Be y d.size) V).trans (d.block B y)⟩ (H.imp id (λe=>by rw[e];exact d.size))
def Ab4(w w':jD)(e:TypeId)(A b:Option Addr)(m:Nat):Prop:=(b=A/\m=0)\/∃a c,b=iC (Φ a)/\w.heap.size<=a/\w'.heap[a]?=iC (iy c e (0,0))
def y8{P:Program}{t e:TypeId}{M:jL}{bytes:Nat}(j:Nv P t e M bytes)(D:TypeId){w:jD}{A:Option Addr}{n:Nat}{xs r:List jL}(u:Rd w A n xs)(T:∀v,A=iC v->∃l,v=Φ l)(K:A=iD->n=0)
 {B:Option Addr}{m:Nat}(q:Rd w B m r)(h1:∀d∈r,d.oneCell'=jm)(X:n+m<=1000000)(J:bytes<=64)(c:Nat):
 ∃i s g,(Builtin.append_ #[t,t] D #[fD A n n,fD B m c]).run P w=.ok (fD i (n+m) s) g/\n+m<=s/\Rd g i (n+m) (xs++r)/\η w g/\Ab4 w g e A i m:=by
 obtain⟨L,C,aa,ab,ac⟩:=info_parts j.hi;rcases B with _|E
 ·have f:m=0:=by
   rcases Jz m with f|f
   ·exact f
   ·obtain⟨_,_,e,_⟩:=q.2 f;cases e
  subst f;have p:r=[]:=Ce q.1;subst p;refine⟨A,n,w,?_,Ae _,by simpa using u,Below.refl _ _,.inl ⟨rfl,rfl⟩⟩;rcases A with _|v
  ·have p:=K rfl;subst p;simp[Builtin.append_,run_underlying j.ht,sizeOf,typeInfo,C,Builtin.lenOf,Builtin.firstCells]
  ·simp[Builtin.append_,run_underlying j.ht,sizeOf,typeInfo,C,Builtin.lenOf,Builtin.firstCells,storeCells]
 ·have V:∀b d,r[b]?=iC d->w.cell? (E.add b)=iC d:=by
   intro b d z;have H:b<m:=by
    have:=(Cb.1 z).1;have:=q.1;omega
   obtain⟨N,ad,e,_,o⟩:=q.2 O;injection e with e
   subst e;rw[Addr.add_lit,o b H,z]
  rcases A with _|v
  ·have p:=K rfl;subst p;have Z:xs=[]:=Ce u.1;subst Z;obtain⟨ae,g,y,x,G,ah⟩:=Vk j D (World.ownsRow_nil w w.heap.size e 1) q h1 O J (Ae _) c;obtain⟨i,s,rfl,o,I⟩:=Cj x;refine⟨i,s,g,y,o,I,G,?_⟩;rcases x.2 with⟨a,k⟩|⟨l,Q,R,a,k,F,_⟩
   ·simp only[Value.slice.injEq]at a;exact .inl ⟨a.1,O⟩
   ·simp only[Value.slice.injEq]at a;exact .inr ⟨l,_,a.1,k,F⟩
  ·obtain⟨l,rfl⟩:=T v rfl;rcases Jz m with f|f
   ·subst f;have p:r=[]:=Ce q.1;subst p;have y:=run_append_room_cells (P:=P) w t D e L j.ht C l 0 n n E 0 c [] Θ Θ Θ O Θ Θ;exact⟨_,n,w,y,Ae _,by simpa using u,Below.refl _ _,.inl ⟨rfl,rfl⟩⟩
   ·have Y:∀b d,xs[b]?=iC d->w.cell? (((Φ l):Addr).add b)=iC d:=by
     intro b d z;have H:b<n:=by
      have:=(Cb.1 z).1;have:=u.1;omega
     obtain⟨N,ad,e,_,o⟩:=u.2 O;injection e with e
     injection e with a k
     subst a k;rw[Addr.add_lit,o b H,z]
    have al:(n+m)*bytes<=1000000*64:=IB X J;obtain⟨ae,g,y,x,G⟩:=run_append_arg_grows (P:=P) w t D e L M 1 bytes j.ht C aa ab ac j.hz U (Φ l) n n xs (Ω u.1) Y E m c r (Ω q.1) V O (by unfold maxLen;omega) O;obtain⟨i,s,rfl,o,I⟩:=Cj x;refine⟨i,s,g,y,o,I,(Below.refl _ _).grown G (Ae _) (λam W=>nomatch W),?_⟩;rcases x.2 with⟨a,k⟩|⟨S,Q,R,a,k,F,_⟩
    ·omega
    ·simp only[Value.slice.injEq]at a;exact .inr ⟨S,_,a.1,k,F⟩
def Lm{P:Program}{i:Array Oper}{o:Oper}{a:Act}{w:jD}{K:Act->jD->Prop}{j:Exit->Act->jD->Prop}{E:Prop}(C:o.guard=iD)(s x:Operand)(t:TypeId)
 (G:o.op=.call {callee:=.builtin .append,args:= #[s,x],argTypes:= #[t,t]}){e:TypeId}{O:jL}{bytes:Nat}(k:Nv P t e O bytes)
 (A:Option Addr)(n:Nat)(xs:List jL)(J:a.eval s=fD A n n)(v:Rd w A n xs)(y:∀a,A=iC a->∃l,a=Φ l)(F:A=iD->n=0)
 (B:Option Addr)(m c:Nat)(g:List jL)(M:a.eval x=fD B m c)(H:Rd w B m g)(h1:∀N∈g,N.oneCell'=jm)(D:n+m<=1000000)(z:bytes<=64)
 (h:∀d f b,n+m<=f->Rd b d (n+m) (xs++g)->η w b->Ab4 w b e A d m->K (a.put o.dst (fD d (n+m) f)) b):
 if Region.wanted o (yielded i a.tmps)=jm then Oper.wp P o a w K j else E:=by
 have L:Region.wanted o (yielded i a.tmps)=jm:=by simp[Region.wanted,C]
 rw[jM L];obtain⟨d,f,b,I,p,q,r,u⟩:=y8 k o.type v y F H h1 D z c;unfold Oper.wp execOp;simp only[G,resolve,invoke,builtin,Sem.run_bind,Sem.run_pure,Result.andThen_ok,JX,BM,FP,J,M,I];exact h d f b p q r u
def UL{P:Program}{S:Array Oper}{o:Oper}{a:Act}{w:jD}{K:Act->jD->Prop}{p:Exit->Act->jD->Prop}{E:Prop}(F:o.guard=iD)(s x:Operand)(t:TypeId)
 (J:o.op=.call {callee:=.builtin .append,args:= #[s,x],argTypes:= #[t,t]}){e:TypeId}{X:jL}{bytes:Nat}(q:Nv P t e X bytes)
 (wr:jD)(A:Option Addr)(n:Nat)(xs:List jL)(N:a.eval s=fD A n n)(z:Rd wr A n xs)(B:∀a,A=iC a->∃g,a=Φ g)(I:A=iD->n=0)
 (u:jL)(k:w.heap=wr.heap.push (iy #[u] e))(L:w.os=wr.os)(Q:w.tape=wr.tape)(M:w.output=wr.output)(l c:Nat)(R:a.eval x=fD (iC (Φ l)) 1 c)(G:wr.heap.size=l)
 (h1:u.oneCell'=jm)(H:n+1<=1000000)(D:bytes<=64)
 (h:∀d f b,n+1<=f->Rd b d (n+1) (xs++[u])->η wr b->Ab4 wr b e A d 1->K (a.put o.dst (fD d (n+1) f)) b):
 if Region.wanted o (yielded S a.tmps)=jm then Oper.wp P o a w K p else E:=by
 subst G;have j:η wr w:=⟨L,Q,M,by rw[k];simp,λZ Y=>by rw[k,GH,ku O]⟩;have C:CB w wr.heap.size e [u]:=by unfold CB;rw[k,GH,jM rfl]
 refine Lm F s x t J q A n xs N (Rd.below z j) B I (iC (Φ wr.heap.size)) 1 c [u] R C.rd (λaa m=>by rw[List.mem_singleton]at m;exact m▸h1) H D ?_;intro d f b T U V W;refine h d f b T U (τ j V) ?_;rcases W with i|⟨g,r,i,v,y⟩
 ·exact .inl i
 ·exact .inr ⟨g,r,i,Bq j.size v,y⟩
def ZT{P:Program}{t e:TypeId}{C:jL}{k bytes:Nat}(d:Ig P t e C k bytes)(y:0<k)(B:TypeId){w:jD}{f:Nat}{v:jL}{n:Nat}{xs a:List jL}
 (o:w.ownsRow f e k v n xs){A:Option Addr}{m:Nat}(i:Rd w A (m*k) a)
 (h1:∀l∈a,l.oneCell'=jm)(I:n+m<=1000000)(E:bytes<=1000)(x:f<=w.heap.size)(c:Nat):
 ∃p b,(Builtin.append_ #[t,t] B #[v,fD A m c]).run P w=.ok p b/\b.ownsRow f e k p (n+m) (xs++a)/\Below f w b/\Kept w b v.ownBlock:=by
 obtain⟨S,r,N,Q,R⟩:=info_parts d.hi;rcases A with _|u
 ·have g:m=0:=by
   rcases Jz m with g|g
   ·exact g
   ·obtain⟨_,_,e,_⟩:=i.2 (Nat.mul_pos g y);cases e
  subst g;have J:a=[]:=Ce (Ω i.1);subst J;refine⟨v,w,?_,by simpa using o,Below.refl _ _,Kept.refl _ _⟩;rcases o.2 with⟨rfl,rfl⟩|⟨W,U,V,rfl,_,_,K,_⟩
  ·simp[Builtin.append_,run_underlying d.ht,sizeOf,typeInfo,r,Builtin.lenOf,Builtin.firstCells]
  ·simp[Builtin.append_,run_underlying d.ht,sizeOf,typeInfo,r,Builtin.lenOf,Builtin.firstCells,K,storeCells]
 ·have G:∀j l,a[j]?=iC l->w.cell? (u.add j)=iC l:=by
   intro j l z;have H:j<m*k:=by
    have:=(Cb.1 z).1;have:=i.1;omega
   obtain⟨T,Y,e,_,F⟩:=i.2 O;injection e with e
   subst e;rw[Addr.add_lit,F j H,z]
  have X:(n+m)*bytes<=1000000*1000:=IB I E;obtain⟨p,b,M,D,q,_⟩:=run_append_own (P:=P) w f t B e S C k bytes d.ht r N Q R d.hz y v n xs o u m c a i.1 G h1
   (by unfold maxLen;omega) O x
  exact⟨p,b,M,D,(Below.refl _ _).grown q x (λk s=>(o.lt k s).1),q.size,λk s L=>q.block k s (λh=>L h)⟩
def Gm{P:Program}{j:Array Oper}{rest:List Oper}{o:Oper}{a:Act}{w:jD}{i:Exit->Act->jD->Prop}(B:o.guard=iD)(s x:Operand)(t:TypeId)
 (E:o.op=.call {callee:=.builtin .append,args:= #[s,x],argTypes:= #[t,t]}){e:TypeId}{L:jL}{k bytes:Nat}(l:Ig P t e L k bytes)(C:0<k)
 (d:Nat)(v:jL)(n:Nat)(xs:List jL)(I:a.eval s=v)(F:w.ownsRow d e k v n xs)(A:Option Addr)(m c:Nat)(g:List jL)(J:a.eval x=fD A m c)(G:Rd w A (m*k) g)
 (h1:∀K∈g,K.oneCell'=jm)(D:n+m<=1000000)(z:bytes<=1000)(y:d<=w.heap.size)
 (h:∀f b,b.ownsRow d e k f (n+m) (xs++g)->Below d w b->Kept w b v.ownBlock->wpList P j i rest (a.put o.dst f) b):wpList P j i (o::rest) a w:=by
 refine wpList_plain B λM u=>?_
 obtain⟨f,b,H,p,q,r⟩:=ZT l C o.type F G h1 D z y c;unfold Oper.wp execOp;simp only[E,resolve,invoke,builtin,Sem.run_bind,Sem.run_pure,Result.andThen_ok,JX,BM,FP,I,J,H];exact u _ _ (h f b p q r)
def rD{P:Program}{o:Oper}{a:Act}{w:jD}{K:Act->jD->Prop}{i:Exit->Act->jD->Prop}(s x:Operand)(t:TypeId)
 (B:o.op=.call {callee:=.builtin .append,args:= #[s,x],argTypes:= #[t,t]}){e:TypeId}{I:jL}{k bytes:Nat}(j:Ig P t e I k bytes)(y:0<k)
 (d:Nat)(v:jL)(n:Nat)(xs:List jL)(F:a.eval s=v)(C:w.ownsRow d e k v n xs)(A:Option Addr)(m c:Nat)(g:List jL)(G:a.eval x=fD A m c)(D:Rd w A (m*k) g)
 (h1:∀H∈g,H.oneCell'=jm)(z:n+m<=1000000)(u:bytes<=1000)(r:d<=w.heap.size)
 (h:∀f b,b.ownsRow d e k f (n+m) (xs++g)->Below d w b->Kept w b v.ownBlock->K (a.put o.dst f) b):
 Oper.wp P o a w K i:=by
 obtain⟨f,b,E,l,p,q⟩:=ZT j y o.type C D h1 z u r c;unfold Oper.wp execOp;simp only[B,resolve,invoke,builtin,Sem.run_bind,Sem.run_pure,Result.andThen_ok,JX,BM,FP,F,G,E];exact h f b l p q
