import Derived.Test.YtfmkofmaabgbkaaGreatDoorJ14
import Derived.Test.YtfmkofmaabgbkaaGreatDoorJ32
set_option linter.defProp false
set_option maxHeartbeats 32000000
set_option maxRecDepth 100000
open Go.Lib renaming hid->Ac
open Go.World renaming ownsRow_nil->CP
open Go.Value renaming slice->Ad
open Go.Value renaming slice->fD,int->fP,string->fQ,bool->fU
open Go.Ending renaming returned->gY
open Go.IntKind renaming i64->gZ
open Go.Obj renaming cells->iy
open Option renaming some->iC,none->iD
open Bool renaming false->jw
open Go renaming World->jD,Value->jL
namespace Go.Proofs.YtfmkofmaabgbkaaGreatDoor
open Go.RowKit
open Go.Proofs.Tryz
def spV(x:Sp):jL:=.agg #[fP gZ (x.what:Int),fP gZ (x.id:Int),fQ x.key,fQ x.text]
def qj(t:ByteArray)(a:jL)(n:Int)(d:Bool)(e:Int):jL:=.agg #[fQ t,a,fP gZ n,fU d,fP gZ e]
def DoN(B k:Nat):Prop:=B<=k/\k<B+3
def Aa7(w:jD)(R:jD->jD->Prop)(w':jD):Prop:=∃a b,η w a/\a.heap.size=w.heap.size+3/\R a b/\Touch (DoN w.heap.size) b w'
def kT(w:jD)(i:Int)(id:Nat)(key text:ByteArray)(a:jD)(b:a=((w.alloc (iy #[fP gZ i,fP gZ (id:Int),fQ key,fQ text] 33)).alloc (iy #[fQ ⟨#[]⟩,fD iD 0 0,fP gZ 0,fU jw,fP gZ 0] 38)).alloc (iy #[fQ ⟨#[]⟩,fD iD 0 0,fP gZ 0,fU jw,fP gZ 0] 38)):
 CB a w.heap.size 33 [fP gZ i,fP gZ (id:Int),fQ key,fQ text]/\CB a (w.heap.size+1) 38 [fQ ⟨#[]⟩,fD iD 0 0,fP gZ 0,fU jw,fP gZ 0]/\
  CB a (w.heap.size+2) 38 [fQ ⟨#[]⟩,fD iD 0 0,fP gZ 0,fU jw,fP gZ 0]/\η w a/\a.heap.size=w.heap.size+3:=by
 obtain⟨d,f,-,o⟩:=newB w 33 [fP gZ i,fP gZ (id:Int),fQ key,fQ text];obtain⟨e,l,m,j⟩:=newB d 38 [fQ ⟨#[]⟩,fD iD 0 0,fP gZ 0,fU jw,fP gZ 0];have n:d.heap.size=w.heap.size+1:=by rw[f];simp
 have c:e.heap.size=w.heap.size+2:=by rw[l];simp[n]
 rw[<-f,<-l]at b;have k:CB a e.heap.size 38 [fQ ⟨#[]⟩,fD iD 0 0,fP gZ 0,fU jw,fP gZ 0]:=b▸heap_alloc_new _ _;have g:η e a:=b▸(Below.refl _ _).alloc (Nat.le_refl _) _;have p:η w d:=f▸(Below.refl _ _).alloc (Nat.le_refl _) _;rw[n]at j;rw[c]at k;refine⟨(o.ξ m).below g (by rw[c];omega),j.below g (by rw[c];omega),k,τ p (τ m g),?_⟩;rw[b];simp[c]
def CB.q5{w:jD}{g:Nat}{e:TypeId}{a b c d f:jL}(h:CB w g e [a,b,c,d,f]):(w.cell? (Φ g)=iC a/\w.cell? (Δ g 1)=iC b/\w.cell? (Δ g 2)=iC c/\w.cell? (Δ g 3)=iC d/\w.cell? (Δ g 4)=iC f)/\
 w.frozen? (Φ g)=jw/\w.frozen? (Δ g 1)=jw/\w.frozen? (Δ g 2)=jw/\w.frozen? (Δ g 3)=jw/\w.frozen? (Δ g 4)=false:=⟨h.p5,h.frozen 0,h.frozen 1,h.frozen 2,h.frozen 3,h.frozen 4⟩
def DoF(f:Nat):Prop:=f=13\/f=9
def Ac4:Tryz.f9.results= #[.cell 4 38]:=results9
structure Rz where
 n:Int
 er:Int
 tx:ByteArray
 dn:Bool
 P:Option Addr
 m:Nat
 c:Nat
inductive DoK(g id:Nat)(key text:ByteArray):Int->Nat->Array jL->(Rz->jL)->(Rz->jL)->Prop
 |b:DoK g id key text 0 21 #[ptr0 g] (λr=>.tuple #[fP gZ r.n,fP gZ r.er]) (λr=>qj ⟨#[]⟩ (fD iD 0 0) r.n jw r.er)
 |p:DoK g id key text 1 22 #[ptr0 g,.int .i64 (id:Int),.string key,.string text] (λr=>fP gZ r.er) (λr=>qj ⟨#[]⟩ (fD iD 0 0) 0 jw r.er)
 |d:DoK g id key text 2 23 #[ptr0 g,.int .i64 (id:Int),.string key] (λr=>fP gZ r.er) (λr=>qj ⟨#[]⟩ (fD iD 0 0) 0 jw r.er)
 |t:DoK g id key text 3 24 #[ptr0 g,.int .i64 (id:Int),.string key] (λr=>.tuple #[fQ r.tx,fP gZ r.er]) (λr=>qj r.tx (fD iD 0 0) 0 jw r.er)
 |s:DoK g id key text 4 25 #[ptr0 g,.int .i64 (id:Int),.string key,.string text] (λr=>.tuple #[fD r.P r.m r.c,fP gZ r.er]) (λr=>qj ⟨#[]⟩ (fD r.P r.m r.c) 0 jw r.er)
 |c:DoK g id key text 5 26 #[ptr0 g,.int .i64 (id:Int)] (λr=>fP gZ r.er) (λr=>qj ⟨#[]⟩ (fD iD 0 0) 0 jw r.er)
 |w:DoK g id key text 6 27 #[ptr0 g] (λr=>.tuple #[fP gZ r.n,fU r.dn,fP gZ r.er]) (λr=>qj ⟨#[]⟩ (fD iD 0 0) r.n r.dn r.er)
 |a:DoK g id key text 7 28 #[ptr0 g,.int .i64 (id:Int)] (λr=>fP gZ r.er) (λr=>qj ⟨#[]⟩ (fD iD 0 0) 0 jw r.er)
 |v:DoK g id key text 8 29 #[ptr0 g] (λr=>.tuple #[fP gZ r.n,fP gZ r.er]) (λr=>qj ⟨#[]⟩ (fD iD 0 0) r.n jw r.er)
def Akp{l:Func}{j X:jD}{B:Nat}{o q r s t c d e f g v:jL}{n:Array jL}{k:Ending->jD->Prop}(y:l.results= #[.cell 4 38])(z:n[4]?=iC (ptr0 (B+1)))(x:CB j (B+1) 38 [o,q,r,s,t])(m:Touch (λa=>a=B+1+1) j X)(A:v=.agg #[c,d,e,f,g])
 (h:∀b,Touch (DoN B) j b->k (gY v) b):bodyPost prog l k .ret ⟨n,[]⟩ (((((X.setCell (Φ (B+1)) c).setCell (Δ (B+1) 1) d).setCell (Δ (B+1) 2) e).setCell (Δ (B+1) 3) f).setCell (Δ (B+1) 4) g):=by
 obtain⟨b,i⟩:=ε ((((((X.setCell (Φ (B+1)) c).setCell (Δ (B+1) 1) d).setCell (Δ (B+1) 2) e).setCell (Δ (B+1) 3) f).setCell (Δ (B+1) 4) g));have u:CB b (B+1) 38 [c,d,e,f,g]:=by rw[i];exact(((((x.touch m O1).AX 0 _).AX 1 _).AX 2 _).AX 3 _).AX 4 _
 have C:Touch (λa=>a=B+1) X b:=by rw[i];exact(((((Touch.refl (λa=>a=B+1) X).setCell (p:=Φ (B+1)) (.inl rfl) _).setCell (p:=Δ (B+1) 1) (.inl rfl) _).setCell (p:=Δ (B+1) 2) (.inl rfl) _).setCell (p:=Δ (B+1) 3) (.inl rfl) _).setCell (p:=Δ (B+1) 4) (.inl rfl) _
 rw[<-i];obtain⟨u0,u1,u2,u3,u4⟩:=u.p5;subst A;refine bodyPost_ret (v:=.agg #[c,d,e,f,g]) (by simp[results,y,z,go_sem,u0,u1,u2,u3,u4]) rfl ?_;exact h b ((m.mono (λa w=>⟨O1,O1⟩)).trans (C.mono (λa w=>(⟨O1,O1⟩:DoN B a))) (λa h=>.inl h))
def Ac5{f:Nat}(O1:DoF f){g id:Nat}{key text:ByteArray}{e:Int}{F:Nat}{args:Array jL}{r A:Rz->jL}(P:DoK g id key text e F args r A){w:jD}{R:Rz->jD->jD->Prop}{G:Nat->Prop}(j:∀u,u<3->¬G (w.heap.size+u))
 (t:∀a,η w a->w.heap.size+3=a.heap.size->Calls prog F args a λc d=>∃b,c=gY (r b)/\R b a d/\Touch G a d):
 Calls prog f #[ptr0 g,.agg #[fP gZ e,fP gZ (id:Int),fQ key,fQ text]] w λc d=>∃b,c=gY (A b)/\Aa7 w (R b) d:=by
 obtain⟨a,k⟩:=ε (((w.alloc (iy #[fP gZ e,fP gZ (id:Int),fQ key,fQ text] 33)).alloc (iy #[fQ ⟨#[]⟩,fD iD 0 0,fP gZ 0,fU jw,fP gZ 0] 38)).alloc (iy #[fQ ⟨#[]⟩,fD iD 0 0,fP gZ 0,fU jw,fP gZ 0] 38));obtain⟨o,p,q,l,m⟩:=kT w e id key text a k;have B:=Ac k;have y:=Ac (t a l m.symm);obtain⟨W,X,Y,Z⟩:=o.p4;have v:=Ac p;have x:=Ac q;have D:=Ac l;have E:=Ac m;have H:=Ac (j 1 U);have I:=Ac (j 2 U);clear k t l o p q j m;rcases O1 with rfl|rfl<;>cases P
 all_goals(first|go_enter func13,ntmps13|skip)
 all_goals(first|go_enter func9,ntmps9|skip)
 all_goals(go_wp2_with(rw[<-B.out]))
 all_goals(go_wp2_with fail)
 all_goals(refine y.mono ?_)
 all_goals(rintro c V⟨⟨S,M,T,L,J,Q,K⟩,rfl,s,n⟩)
 all_goals(have i:=v.touch n H.out)
 all_goals(obtain⟨⟨aD,aE,aF,aJ,aL⟩,ab,ac,ad,ae,ah⟩:=(x.touch n I.out).q5)
 all_goals(obtain⟨⟨aq,ar,av,aw,az⟩,al,am,an,ao,ap⟩:=i.q5)
 all_goals(have z:=Ac s)
 all_goals(have C:=Ac i)
 all_goals(clear s n i W X Y Z)
 all_goals(try simp only)
 all_goals(go_wp2_with fail)
 all_goals(refine Akp (by first|exact results13|exact Ac4) rfl C.out ?_ rfl (λaa N=>⟨⟨S,M,T,L,J,Q,K⟩,rfl,a,V,D.out,E.out,z.out,N⟩))
 all_goals(repeat'(first|exact Touch.refl _ _|exact .inl rfl|refine Touch.setCell ?_ ?_ _))
def MZ{f:Nat}(u:DoF f){g id:Nat}{key text:ByteArray}{j:Int}{F:Nat}{args:Array jL}{d A:Rz->jL}(vv:DoK g id key text j F args d A)(r:Rz){w:jD}{R:jD->jD->Prop}{G:Nat->Prop}(q:∀e,e<3->¬G (w.heap.size+e))
 (s:∀a,η w a->w.heap.size+3=a.heap.size->Calls prog F args a λc b=>c=gY (d r)/\R a b/\Touch G a b):
 Calls prog f #[ptr0 g,.agg #[fP gZ j,fP gZ (id:Int),fQ key,fQ text]] w λc b=>c=gY (A r)/\Aa7 w R b:=by
 refine(Ac5 u vv (R:=λi a b=>i=r/\R a b) q (λa k l=>(s a k l).mono λc b h=>⟨r,h.1,⟨rfl,h.2.1⟩,h.2.2⟩)).mono ?_;rintro c b⟨i,t,a,x,m,n,⟨rfl,o⟩,p⟩;exact⟨t,a,x,m,n,o,p⟩
def Ao8{f:Nat}(p:DoF f)(g:Nat)(a:Int)(q:a<0\/8<a)(id:Nat)(key text:ByteArray)(w:jD):
 Calls prog f #[ptr0 g,.agg #[fP gZ a,fP gZ (id:Int),fQ key,fQ text]] w λn s=>n=gY (qj ⟨#[]⟩ (fD iD 0 0) 0 jw 13)/\η w s:=by
 obtain⟨m,c⟩:=ε (((w.alloc (iy #[fP gZ a,fP gZ (id:Int),fQ key,fQ text] 33)).alloc (iy #[fQ ⟨#[]⟩,fD iD 0 0,fP gZ 0,fU jw,fP gZ 0] 38)).alloc (iy #[fQ ⟨#[]⟩,fD iD 0 0,fP gZ 0,fU jw,fP gZ 0] 38));obtain⟨d,b,e,j,r⟩:=kT w a id key text m c;have k:=Ac c;have R:=d.p1;have t0:(a==0)=false:=ζ O1;have t1:(a==1)=false:=ζ O1;have t2:(a==2)=false:=ζ O1;have t3:(a==3)=false:=ζ O1;have t4:(a==4)=false:=ζ O1;have t5:(a==5)=false:=ζ O1;have t6:(a==6)=false:=ζ O1;have t7:(a==7)=false:=ζ O1;have t8:(a==8)=false:=ζ O1;obtain⟨⟨L,M,N,P,Q⟩,v,x,y,z,A⟩:=e.q5;obtain⟨⟨G,H,I,J,K⟩,B,C,D,E,F⟩:=b.q5;have l:=Ac b;have i:=Ac j;clear c j d b e r q;rcases p with rfl|rfl
 all_goals(first|go_enter func13,ntmps13|skip)
 all_goals(first|go_enter func9,ntmps9|skip)
 all_goals(go_wp2_with(rw[<-k.out]))
 all_goals(go_wp2_with fail)
 all_goals(refine Akp (by first|exact results13|exact Ac4) rfl l.out ?_ rfl (λt o=>⟨rfl,i.trans (o.below i.size (λu h=>h.1))⟩))
 all_goals(repeat'(first|exact Touch.refl _ _|exact .inl rfl|refine Touch.setCell ?_ ?_ _))
structure Av where
 t:ByteArray
 ps:jL
 n:Int
 d:Bool
 e:Int
def avV(x:Av):jL:=qj x.t x.ps x.n x.d x.e
def avC(x:Av):List jL:=[fQ x.t,x.ps,fP gZ x.n,fU x.d,fP gZ x.e]
def Zb(l:List Av):List jL:=(l.map avC).flatten
def wH(l:List Av)(a:Av):Zb (l++[a])=Zb l++avC a:=by simp[Zb]
def Tryz.Akq:Ig prog 30 38 (.agg #[fQ ⟨#[]⟩,fD iD 0 0,fP gZ 0,fU jw,fP gZ 0]) 5 64:=⟨underlying30,by kernel_rfl,rfl⟩
def SpR(w:jD)(A:Option Addr)(l:List Sp):Prop:=Rd w A (l.length*4) (cO l)
def SpR.at{w:jD}{A:Option Addr}{l:List Sp}(h:SpR w A l)(k:Nat)(j:k<l.length):∃a b,A=iC (Δ a b)/\a<w.heap.size/\w.cell? (Δ a (b+k*4))=iC (fP gZ (l[k].what:Int))/\w.cell? (Δ a (b+k*4+1))=iC (fP gZ (l[k].id:Int))/\
 w.cell? (Δ a (b+k*4+2))=iC (fQ l[k].key)/\w.cell? (Δ a (b+k*4+3))=iC (fQ l[k].text):=by
 obtain⟨a,b,e,f,g⟩:=h.2 O1;have d:∀c,c<4->w.cell? (Δ a (b+k*4+c))=(spC l[k])[c]?:=λc i=>by
  rw[Nat.add_assoc,g (k*4+c) O1];exact flat_get spC 4 (λ_=>rfl) l k c j i
 exact⟨a,b,e,f,d 0 U,d 1 U,d 2 U,d 3 U⟩
def Kept.touch{B:Nat}{w w':jD}{r:Option Nat}(h:Kept w w' r)(k:Below B w w'):Touch (λa=>r=iC a) w w':=⟨k.os,k.tape,k.output,h.1,λa d c=>h.2 a d (λb=>c b.symm)⟩
def Outs(X:Nat->Prop)(q:Nat):Prop:=¬(X q\/q=0\/q=1)
def Arf(g:Nat)(l:List Sp)(A:Option Addr)(c:Nat)(w:jD)(bi:l.length<=400)(h:SpR w A l)(e:List Av)(has:e.length=l.length)(ar:∀b(h:b<e.length),∃B n c,e[b].ps=fD B n c)
 (S:Nat->jD->(Nat->Prop)->Prop)(av:∀b m D d W,S b m d->Touch d m D->(∀a,W a->d a\/(m.heap.size<=a/\a<D.heap.size))->S b D W)
 (aw:∀b m d(bg:b<l.length)(bA:b<e.length),S b m d->Calls prog 13 #[ptr0 g,spV l[b]] m λj o=>j=gY (avV e[b])/\S (b+1) o d/\Touch (Outs d) m o)
 {X0:Nat->Prop}(u:S 0 w X0)(Y:∀t,A=iC t->X0 t.block):
 Calls prog 7 #[ptr0 g,fD A l.length c] w λj o=>∃M d,j=gY M/\o.ownsRow w.heap.size 38 5 M e.length (Zb e)/\S l.length o d/\(∀a,X0 a->d a)/\(∀a,d a->X0 a\/w.heap.size<=a)/\(∀a,M.ownBlock=iC a->d a)/\Touch (Outs X0) w o:=by
 have a0:=Ac h;have aM:=Ac u;have aR:=Ac Y;have aZ:=Ac ar;have R:=Ac av;have a3:=Ac aw;have t1:decide ((400:Int)<(l.length:Int))=false:=decide_eq_false O1;have t2:decide (400<l.length)=false:=decide_eq_false O1;obtain⟨n,I⟩:=ε l.length;have aX:=Ac I;rw[<-I]at t1 t2 bi has⊢;clear h u Y ar av aw I;go_enter func7,ntmps7
 go_wp2_with fail
 go_loopw [5,15](λq L wr=>∃(b:Nat)(d:Nat->Prop),b<=n/\L=fP gZ (b:Int)/\S b wr d/\((∀a,X0 a->d a)/\(∀a,d a->X0 a\/w.heap.size<=a)/\Touch (Outs X0) w wr)/\wr.ownsRow w.heap.size 38 5 q b (Zb (e.take b))/\∀a,q.ownBlock=iC a->d a)(λ_ L _=>n-(intOf L).toNat)
 case atStart=>exact⟨0,X0,Nat.zero_le _,rfl,aM.out,⟨λ_ h=>h,λ_ h=>.inl h,Touch.refl _ _⟩,CP _ _ _ _,λa f=>nomatch f⟩
 case round=>
  obtain⟨b,d,bg,rfl,ac,aa,aq,az⟩:=hrel;obtain⟨aF,bl⟩:∃bs,bs=wr:=⟨_,rfl⟩;subst bl;have Q:=Ac ac;have i:=Ac aa;have P:=Ac aq;have s:=Ac az;clear ac aa aq az;by_cases bj:b<n
  ·have ao:b<l.length:=Ω aX.out;have H:b<e.length:=O1;have ab:SpR aF A l:=by
    refine Rd.touch a0.out i.2.2 (λt be h=>h (.inl (aR t be)))
   obtain⟨bw,bD,rfl,bx,bE,bG,bH,bJ⟩:=ab.at b ao;obtain⟨bC,bm,bo⟩:=ltT bj;have bB:=wk1 b O1;obtain⟨bL,aD,v,-⟩:=newB aF 33 [fP gZ (l[b].what:Int),fP gZ (l[b].id:Int),fQ l[b].key,fQ l[b].text];have ad:=R _ _ _ _ _ Q.out (Touch.of_below v) (λa h=>.inl h);have E:=a3 _ _ _ ao H ad;have aV:=Ac v;have a7:=Ac (Ew P.out v);have am:e.take (b+1)=e.take b++[e[b]]:=List.take_succ_eq_append_getElem H;obtain⟨B,br,bq,x⟩:=aZ b H;have X:Hid (Zb (e.take (b+1))=Zb (e.take b)++avC e[b]):=Ac (by rw[am,wH]);have ap:∀q∈avC e[b],q.oneCell'=true:=by
    intro q y;unfold avC at y;rw[x]at y;simp at y;rcases y with rfl|rfl|rfl|rfl|rfl<;>rfl
   have N:=Ac ap;unfold spV avV qj at E;have r:=Ac E;have bp:=Ac aD;clear am ad E aD v ab ap;generalize l[b].what=bN at*;generalize l[b].id=bO at*;generalize l[b].key=bR at*;generalize l[b].text=bS at*;obtain⟨bc,an⟩:=ε (e[b]);rw[<-an]at r X N x;obtain⟨bb,bt,ba,a8,a9⟩:=bc
   dsimp only at r x
   subst x;clear an
   go_wp2_with fail
   rw[<-bp.out];refine r.mono ?_;rintro j aJ⟨rfl,ae,G⟩;have aE:=Gj a7.out G (λa f h=>h (.inl (s a f)));have z:Touch (Outs X0) w aJ:=(i.2.2.trans (Touch.of_below (F:=Outs X0) aV.out) (λ_ h=>.inl h)).trans G (λa h=>.inl (λu=>h (u.imp (i.1 a) id)));have k:=Ac aE;have a4:=Ac z;have a1:=Ac ae;have bk:=z.size;clear ae G aE z r
   go_wp2_with(at_builtin;refine BC rfl (.tmp 19) (.tmp 23) 30 rfl Tryz.Akq aJ w.heap.size u5 b (Zb (e.take b)) (avC ⟨bb,fD B br bq,ba,a8,a9⟩) rfl (by exact k.out) rfl _ 1 rfl rfl rfl U (by exact N.out) O1 U (by exact bk) ?_;intro p bd aL C T Z V)
   have K:=Z.touch T;have J:=own_blk C;have ah:=R _ _ _ _ (λa=>d a\/a=p) a1.out (K.mono (λa f=>s a f)) (λa f=>f.elim .inl (λj=>by
    subst j;rcases V with h|h
    ·exact .inl (s _ h)
    ·exact .inr ⟨h,(J _ rfl).2⟩))
   have al:Touch (Outs X0) w aL:=a4.trans K (λa f=>.inr (own_blk k.out a f).1);have aW:Hid ((∀a,X0 a->(d a\/a=p))/\(∀a,(d a\/a=p)->X0 a\/w.heap.size<=a)/\Touch (Outs X0) w aL):=Ac ⟨λa f=>.inl (i.1 a f),λa f=>f.elim (i.2.1 a) (λj=>by subst j;exact .inr (J _ rfl).1),al⟩;have a5:Hid (∀a,(Ad (iC (Φ p)) (b+1) bd).ownBlock=iC a->(d a\/a=p)):=Ac (λa f=>by injection f with f;exact .inr f.symm);have a2:=Ac ah;have a6:=Ac C;clear K ah al J C T Z V
   go_wp2_with fail
   go_roundw
   case rel=>exact⟨b+1,_,O1,by go_num,a2.out,aW.out,by rw[X.out];exact a6.out,a5.out⟩
   case measure=>simp[intOf];omega
  ·have bh:b=n:=O1;subst bh;have bm:decide ((b:Int)<(b:Int))=false:=decide_eq_false O1;have bo:decide (b<b)=false:=decide_eq_false O1;have k:=P.out;rw[List.take_of_length_le O1,<-has]at k;have k:=Ac k
   go_wp2_with fail
   go_ret;exact⟨_,d,rfl,k.out,Q.out,i.1,i.2.1,s.out,i.2.2⟩
def Frames(S:jD->(Nat->Prop)->Prop):Prop:=∀b c d e,S b d->Touch d b c->(∀a,e a->d a\/(b.heap.size<=a/\a<c.heap.size))->S c e
def Steps(d e:jD->(Nat->Prop)->Prop)(f:FuncId)(args:Array jL)(g:jL):Prop:=
 ∀a b,d a b->Calls prog f args a λi c=>i=gY g/\e c b/\Touch (Outs b) a c
def Ij{e g:jD->(Nat->Prop)->Prop}(s:Frames e)(h1:Frames g){f:FuncId}{args:Array jL}{n o:jL}(y:Steps e g f args n){w:jD}{X:Nat->Prop}(C:e w X){m:FuncId}{l:Array jL}
 (z:∀{R:jD->jD->Prop}{G:Nat->Prop},(∀k,k<3->¬G (w.heap.size+k))->(∀a,η w a->w.heap.size+3=a.heap.size->Calls prog f args a λd c=>d=gY n/\R a c/\Touch G a c)->
  Calls prog m l w λd c=>d=gY o/\Aa7 w R c):
 Calls prog m l w λd c=>d=gY o/\g c X/\Touch (Outs X) w c:=by
 have v:∀a,η w a->w.heap.size+3=a.heap.size->e a (λb=>X b\/DoN w.heap.size b):=λa j r=>s _ _ _ _ C (Touch.of_below j) (λb B=>B.imp id (λh=>⟨h.1,Ω h.2⟩))
 refine(z (R:=λa i=>g i (λb=>X b\/DoN w.heap.size b)/\Touch (Outs (λb=>X b\/DoN w.heap.size b)) a i) (G:=Outs (λb=>X b\/DoN w.heap.size b)) (λk E h=>h (.inl (.inr ⟨O1,O1⟩))) (λa j r=>(y a _ (v a j r)).mono λd c⟨A,h1,p⟩=>⟨A,⟨h1,p⟩,p⟩)).mono ?_;rintro d c⟨rfl,a,i,x,H,⟨t,u⟩,q⟩;refine⟨rfl,h1 _ _ _ _ t (q.mono (λb h=>.inr h)) (λb h=>.inl (.inl h)),?_⟩;have t1:Touch (Outs X) w i:=(Touch.of_below (F:=Outs X) x).trans u (λb h=>.inl (λD=>h (D.imp .inl id)));exact t1.trans q (λb h=>.inr h.1)
def Aob(g:Nat)(l:List Sp)(A:Option Addr)(c:Nat)(w:jD)(bl:l.length<=400)(h:SpR w A l)
 (S:List Av->jD->(Nat->Prop)->Prop)(aL:∀b j H d ad,S b j d->Touch d j H->(∀a,ad a->d a\/(j.heap.size<=a/\a<H.heap.size))->S b H ad)
 (aM:∀(e:List Av)j d(bj:e.length<l.length),S e j d->Calls prog 13 #[ptr0 g,spV l[e.length]] j λm s=>∃(aX:ByteArray)(o:Option Addr)(r q:Nat)(n:Int)(ae:Bool)(ah:Int),m=gY (qj aX (fD o r q) n ae ah)/\
  ∃k:Nat->Prop,(∀a,d a->k a)/\(∀a,k a->d a\/j.heap.size<=a)/\S (e++[⟨aX,fD o r q,n,ae,ah⟩]) s k/\Touch (Outs d) j s)
 {X0:Nat->Prop}(z:S [] w X0)(al:∀y,A=iC y->X0 y.block):
 Calls prog 7 #[ptr0 g,fD A l.length c] w λm s=>∃(V:jL)(d:Nat->Prop)(e:List Av),m=gY V/\e.length=l.length/\s.ownsRow w.heap.size 38 5 V e.length (Zb e)/\S e s d/\(∀a,X0 a->d a)/\(∀a,d a->X0 a\/w.heap.size<=a)/\(∀a,V.ownBlock=iC a->d a)/\Touch (Outs X0) w s:=by
 have a7:=Ac h;have a3:=Ac z;have a4:=Ac al;have aa:=Ac aL;have ba:=Ac aM;have t1:decide ((400:Int)<(l.length:Int))=false:=decide_eq_false O1;have t2:decide (400<l.length)=false:=decide_eq_false O1;obtain⟨n,N⟩:=ε l.length;have a6:=Ac N;rw[<-N]at t1 t2 bl⊢;clear h z al aL aM N;go_enter func7,ntmps7
 go_wp2_with fail
 go_loopw [5,15](λv T wr=>∃(b:Nat)(d:Nat->Prop)(e:List Av),e.length=b/\b<=n/\T=fP gZ (b:Int)/\S e wr d/\((∀a,X0 a->d a)/\(∀a,d a->X0 a\/w.heap.size<=a)/\Touch (Outs X0) w wr)/\wr.ownsRow w.heap.size 38 5 v b (Zb e)/\∀a,v.ownBlock=iC a->d a)(λ_ T _=>n-(intOf T).toNat)
 case atStart=>exact⟨0,X0,[],rfl,Nat.zero_le _,rfl,a3.out,⟨λ_ h=>h,λ_ h=>.inl h,Touch.refl _ _⟩,CP _ _ _ _,λa f=>nomatch f⟩
 case round=>
  obtain⟨b,d,e,aE,bj,rfl,ap,an,aJ,aR⟩:=hrel;have t:=Ac aE;obtain⟨aZ,bp⟩:∃bt,bt=wr:=⟨_,rfl⟩;subst bp;have Z:=Ac ap;have i:=Ac an;have Y:=Ac aJ;have x:=Ac aR;clear ap an aJ aR aE;by_cases bm:b<n
  ·have aF:b<l.length:=Ω a6.out;have ao:SpR aZ A l:=by
    refine Rd.touch a7.out i.2.2 (λy bi h=>h (.inl (a4 y bi)))
   obtain⟨bw,bG,rfl,bA,bH,bJ,bL,bN⟩:=ao.at b aF;obtain⟨bD,bq,br⟩:=ltT bm;have bC:=wk1 b O1;obtain⟨bO,aV,C,-⟩:=newB aZ 33 [fP gZ (l[b].what:Int),fP gZ (l[b].id:Int),fQ l[b].key,fQ l[b].text];have aq:=aa _ _ _ _ _ Z.out (Touch.of_below C) (λa h=>.inl h);have B:=ba _ _ _ (by rw[t.out];exact aF) aq;simp only[t.out]at B;have W:=Ac C;have bg:=Ac (Ew Y.out C);unfold spV qj at B;have X:=Ac B;have bs:=Ac aV;clear aq B aV C ao;generalize l[b].what=bR at*;generalize l[b].id=bS at*;generalize l[b].key=bV at*;generalize l[b].text=bX at*
   go_wp2_with fail
   rw[<-bs.out];refine X.mono ?_;rintro m a0⟨L,o,r,q,K,I,J,rfl,k,az,aD,ar,M⟩;have E:=Ac az;have bd:=Ac aD;have a2:Hid (∀v∈avC ⟨L,fD o r q,K,I,J⟩,v.oneCell'=true):=Ac (by
    intro v R;unfold avC at R;simp at R;rcases R with rfl|rfl|rfl|rfl|rfl<;>rfl)
   have bE:=W.size;have bB:=i.2.2.size;have aW:=Gj bg.out M (λa f h=>h (.inl (x a f)));have D:Touch (Outs X0) w a0:=(i.2.2.trans (Touch.of_below (F:=Outs X0) W.out) (λ_ h=>.inl h)).trans M (λa h=>.inl (λz=>h (z.imp (i.1 a) id)));have p:=Ac aW;have bb:=Ac D;have a8:=Ac ar;have bo:=D.size;clear ar M aW D X az aD
   go_wp2_with(at_builtin;refine BC rfl (.tmp 19) (.tmp 23) 30 rfl Tryz.Akq a0 w.heap.size u5 b (Zb e) (avC ⟨L,fD o r q,K,I,J⟩) rfl (by exact p.out) rfl _ 1 rfl rfl rfl U (by exact a2.out) O1 U (by exact bo) ?_;intro u bh a1 G ab am ac)
   have Q:=am.touch ab;have P:=own_blk G;have av:=aa _ _ _ _ (λa=>k a\/a=u) a8.out (Q.mono (λa f=>E a (x a f))) (λa f=>f.elim .inl (λm=>by
    subst m;rcases ac with h|h
    ·exact .inl (E _ (x _ h))
    ·exact .inr ⟨h,(P _ rfl).2⟩))
   have aw:Touch (Outs X0) w a1:=bb.trans Q (λa f=>.inr (own_blk p.out a f).1);have a5:Hid ((∀a,X0 a->(k a\/a=u))/\(∀a,(k a\/a=u)->X0 a\/w.heap.size<=a)/\Touch (Outs X0) w a1):=Ac ⟨λa f=>.inl (E a (i.1 a f)),λa f=>f.elim (λh=>(bd a h).elim (i.2.1 a) (λbx=>.inr O1)) (λm=>by subst m;exact .inr (P _ rfl).1),aw⟩;have bc:Hid (∀a,(Ad (iC (Φ u)) (b+1) bh).ownBlock=iC a->(k a\/a=u)):=Ac (λa f=>by injection f with f;exact .inr f.symm);have a9:=Ac av;have be:=Ac G;clear Q av aw P G ab am ac
   go_wp2_with fail
   go_roundw
   case rel=>exact⟨b+1,_,e++[⟨L,fD o r q,K,I,J⟩],by rw[List.length_append,t.out];rfl,O1,by go_num,a9.out,a5.out,by rw[wH];exact be.out,bc.out⟩
   case measure=>simp[intOf];omega
  ·have bk:b=n:=O1;subst bk;have bq:decide ((b:Int)<(b:Int))=false:=decide_eq_false O1;have br:decide (b<b)=false:=decide_eq_false O1;have p:=Y.out;have p:=Ac p
   go_wp2_with fail
   go_ret;exact⟨_,d,e,rfl,t.out,by rw[t.out];exact p.out,Z.out,i.1,i.2.1,x.out,i.2.2⟩
