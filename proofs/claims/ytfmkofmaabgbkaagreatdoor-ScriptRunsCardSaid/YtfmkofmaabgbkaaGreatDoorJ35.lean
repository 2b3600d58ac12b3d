import Derived.Test.YtfmkofmaabgbkaaGreatDoorJ33
import Derived.Test.YtfmkofmaabgbkaaGreatDoorJ34
set_option linter.defProp false
set_option maxHeartbeats 32000000
set_option maxRecDepth 100000
open Go.Lib renaming hid->Ac
open Nat renaming le_trans->Bq,lt_of_lt_of_le->Be
open List renaming getElem?_cons_zero->Ag,getElem?_cons_succ->Am,length_pos_iff->VH
open Go.Value renaming slice->fD,int->fP,bool->fU,tuple->gJ
open Go.Ending renaming returned->gY
open Go.IntKind renaming i64->gZ,u64->ig
open Option renaming some->iC,none->iD
open Bool renaming true->jm,false->jw
open Go renaming World->jD,Value->jL
namespace Go.Proofs.YtfmkofmaabgbkaaGreatDoor
open Go.RowKit
open Go.Proofs.Tryz
structure On where
 id:Nat
 set:List Wr
 ps:List (UInt64×UInt64)
structure Eg where
 q:Ms
 t:Tb
 slot:UInt64
 on:Option On
def Eg.dn(E:Eg):Bool:=match E.q.pw with| .up _=>jw| .down _=>jm
def Na(E:Eg):Eg×Int×Int:=match PH E.t.wt with
 |none=>(E,0,6)
 |some a=>({E with t:=nS E.t a E.slot},a,0)
def PR(E:Eg)(id:Int):Int:=if EY E.t.wt id=jm then(match E.on with|some o=>if(o.id:Int)=id then 11 else 0|none=>0)else 2
def Jy(E:Eg)(id:Int)(y:Wr):Eg×Int:=
 if PR E id≠0 then(E,PR E id)else({E with t:=wrT E.t id.toNat y},(Ip (E.t.sets id.toNat) y).2)
def Qg(E:Eg)(id:Int):Eg×Int:=if PR E id≠0 then(E,PR E id)else({E with t:=Oh E.t id.toNat},0)
def LH(E:Eg)(id:Int):Eg×Int:=
 if EY E.t.wt id=jw then(E,2)else if E.on.isSome then(E,11)else
 if E.t.sets id.toNat=[]then({E with t:=Oh E.t id.toNat},0)else
 if KJ E.t.FZ (E.t.sets id.toNat) (E.t.wt.ats id.toNat)then({E with t:=Oh E.t id.toNat},9)else
 if 60000<=E.slot.toNat then({E with t:=Oh E.t id.toNat},10)else
 if E.dn then(E,12)else({E with on:=iC ⟨id.toNat,E.t.sets id.toNat,[]⟩},0)
def On.done(o:On):List Past:=List.zipWith (λ(a:Wr)q=>(a.key,q)) o.set o.ps
def NV(q:Ms)(stamp:UInt64)(o:On):Ms×List (UInt64×UInt64)×Bool×Int:=match o.set[o.ps.length]? with
 |some a=>if(writeM q stamp a).2.2.2=0 then((writeM q stamp a).1,o.ps++[((writeM q stamp a).2.1,(writeM q stamp a).2.2.1)],jw,0)
  else(PQ (writeM q stamp a).1 o.done.reverse,o.ps,jm,(writeM q stamp a).2.2.2)
 |none=>if(JE q 3 (Dt q.s.ws 8 stamp)).2=0 then((JE q 3 (Dt q.s.ws 8 stamp)).1,o.ps,jm,0)
  else(PQ (JE q 3 (Dt q.s.ws 8 stamp)).1 o.done.reverse,o.ps,jm,(JE q 3 (Dt q.s.ws 8 stamp)).2)
def LJ(E:Eg):Eg×Int×Bool×Int:=match E.on with
 |none=>(E,0,jm,7)
 |some o=>match NV E.q (E.slot+1) o with
  |(q,ps,jw,_)=>({E with q:=q,on:=iC {o with ps:=ps}},o.id,jw,0)
  |(q,_,jm,a)=>({q:=q,t:=if a=0 then df (Oh E.t o.id) o.set (E.slot+1)else Oh E.t o.id,slot:=if a=0 then E.slot+1 else E.slot,on:=iD},o.id,jm,a)
section
variable{w w':jD}{d L:Nat}{s:St}
def Arh{own:Nat->Prop}{slot:UInt64}(G:Tabs w)
 (E:Calls prog 38 #[ptr0 d] w λi w'=>∃p x F,i=gY (gJ #[.agg #[ptr0 p,ptr0 x,fP ig (slot.toNat:Int)],fP gZ 0])/\
  Ix w' x d p L s F/\η w w'/\(∀b,F b->own b\/w.heap.size<=b)/\w.heap.size<=x):
 Calls prog 18 #[ptr0 d] w λi w'=>∃g p x tt bk nt F,i=gY (gJ #[ptr0 g,fP gZ 0])/\
  uS w' g d p x tt bk L s (bk0 nt) tb0 F (λc=>c=g) slot .nilIface 0 (fD iD 0 0) 0/\η w w'/\(∀b,F b->own b\/w.heap.size<=b)/\w.heap.size<=x/\w.heap.size<=g/\w.heap.size<=tt/\w.heap.size<=bk/\w.heap.size<=nt:=by
 have Z:=G.lt;have B:=Ac E;clear E G;go_enter func18,ntmps18
 go_wp2_with fail
 refine B.mono ?_;rintro i j⟨p,x,F,rfl,z,H,C,M⟩;have N:=Ac C;have R:=Ac M;obtain⟨a,y,n,k⟩:=newB j 92 [ptr0 p,ptr0 x,fP ig (slot.toNat:Int)];have Y:a.heap.size=j.heap.size+1:=by rw[y];simp
 have t:=Ac (z.below n);have A:=Ac (τ H n);have P:=Ac (Aqq F a.drew (λc v=>(z.below n).sys.lt c v));have r:Hid (∀f,η a f->f.cell? (Φ j.heap.size)=iC (ptr0 p)/\f.cell? (Δ j.heap.size 1)=iC (ptr0 x)/\f.cell? (Δ j.heap.size 2)=iC (fP ig (slot.toNat:Int))):=Ac (λf c=>⟨(k.ξ c).cell 0,(k.ξ c).cell 1,(k.ξ c).cell 2⟩);obtain⟨V,W,X⟩:=r a (Below.refl _ _);have Q:=Ac y;clear z H C M y n k B
 go_wp2_with fail
 rw[<-Q.out]
 go_region_held3(λw'=>w'.cell? (Φ j.heap.size)=iC (ptr0 p)/\w'.cell? (Δ j.heap.size 1)=iC (ptr0 x)/\w'.cell? (Δ j.heap.size 2)=iC (fP ig (slot.toNat:Int)))
  (first|exact⟨V,W,X⟩|exact r _ (((Dr.drew a).below _).trans o)|exact r _ ((((Dr.drew a).below _).trans o).alloc (((Dr.drew a).below _).trans o).size _))
  ((first|(go_at_call 39;refine P.mono ?_;rintro i e⟨tt,bk,nt,rfl,K,I,J,l,o⟩)))
 all_goals(go_wp2_with fail)
 all_goals(go_ret2)
 all_goals(
  obtain⟨f,m⟩:=ε (e.alloc (.cells (Cc d p x tt slot .nilIface 0 (fD iD 0 0) 0).toArray 77));have u:η e f:=m▸(Below.refl _ _).alloc (Nat.le_refl _) _;have D:CB f e.heap.size 77 (Cc d p x tt slot .nilIface 0 (fD iD 0 0) 0):=m▸heap_alloc_new _ _;have K:a.heap.size<=tt:=K;have I:a.heap.size<=bk:=I;have J:a.heap.size<=nt:=J;have q:η a e:=((Dr.drew a).below _).trans o;have aa:=t.box.lt;have U:=t.sys.lt;have ab:=l.box.lt;have ac:=l.book.lt;have ad:nt<e.heap.size:=l.map.lt;have s2:=A.size;have ae:=q.size;have T:=D.lt;refine⟨e.heap.size,p,x,tt,bk,nt,F,rfl,?_,?_,N.out,R.out,O1,O1,O1,O1⟩
  ·show uS (e.alloc (.cells (Cc d p x tt slot .nilIface 0 (fD iD 0 0) 0).toArray 77)) _ _ _ _ _ _ _ _ _ _ _ _ _ _ _ _ _;rw[<-m];refine⟨(t.below q).below u,l.moved ⟨Touch.of_below u,λc v=>v.imp id (λi=>O1)⟩,rfl,λc i=>by rw[i];exact T,D,λS=>Ω (U _ S),O1,O1,by show e.heap.size≠nt;omega,O1,O1,by show x≠nt;omega,⟨O1,O1⟩,⟨by show nt≠_;omega,by show nt≠_;omega⟩,⟨O1,O1⟩⟩
  ·show η w (e.alloc (.cells (Cc d p x tt slot .nilIface 0 (fD iD 0 0) 0).toArray 77));rw[<-m];exact τ A.out (τ q u))
end
def Aod(sh:Sh)(i:Nat):GZ (st0 sh) i=0:=by
 unfold GZ st0;simp only[List.getD_eq_getElem?_getD,List.getElem?_replicate];split<;>rfl
def Akt(sh:Sh):allP (st0 sh)=[]:=by
 unfold allP;rw[List.flatMap_eq_nil_iff];intro a _;rw[Aod,show UJ 0=[]from by decide];rfl
def fA(sh:Sh):DW (st0 sh)=iC ([],[]):=by
 unfold DW;rw[jM (show(st0 sh).ws 9=0 from Lt sh 9 U)]
def Apb:IW (ET [])=true:=by unfold ET;simp[IW]
def Apc{s:St}:Hq s [] (ET [])=iC []:=by unfold ET;simp[Hq]
structure Apd(B g x tt bk nt:Nat)(F:Nat->Prop):Prop where
 f:∀b,F b->B<=b
 g:B<=g
 x:B<=x
 tt:B<=tt
 bk:B<=bk
 nt:B<=nt
def egBegun{w:jD}{L:Nat}{sh:Sh}(r:0<L)(q:L<=1024)(v:shapeOf L=iC sh)(e:Tabs w):
 Calls prog 6 #[fP gZ (L:Int)] w λc w'=>∃d g p x tt bk nt F,c=gY (gJ #[ptr0 d,ptr0 g])/\
  uS w' g d p x tt bk L (st0 sh) (bk0 nt) tb0 F (λR=>R=g) 0 .nilIface 0 (fD iD 0 0) 0/\η w w'/\Apd w.heap.size g x tt bk nt F:=by
 have aw:=e.lt;obtain⟨y,z,v2,A,P⟩:∃y z v2 A:Nat,yQ sh=.agg #[fP gZ (y:Int),fP gZ (z:Int),fP gZ (v2:Int),fP gZ (A:Int)]:=⟨_,_,_,_,rfl⟩;have W:=Ac P;have E:=Ac (IK v).table;clear P;go_enter func6,ntmps6
 go_wp2_with fail
 refine(Al6 L w r q).mono ?_;rintro c ae⟨d,n,rfl,M,aq,ar,f⟩;have G:Dev ae d L (λ_=>0) M0 (λ_=>0) (Fe d L n (λ_=>iD)):=⟨n,_,M,λ_=>Iff.rfl⟩;have j:∀b,Fe d L n (λ_=>iD) b->w.heap.size<=b:=λb h=>by
  rcases h with h|h|⟨_,_,h⟩
  ·omega
  ·omega
  ·cases h
 have a:=yS r q v G (e.below f) (λh=>Ω (j _ h)) (λh=>Ω (j _ h));rw[zh,show BX (λ_=>0) 0 (wordsOf sh)=Ll sh from rfl,W.out]at a;have a:=Ac a;clear M G
 go_wp2_with fail
 refine a.out.mono ?_;rintro c S⟨rfl,B,H,t⟩;have J:η w S:=f.trans (t.touch.below f.size j);have u:∀b,B b->w.heap.size<=b:=λb h=>(t.own b h).elim (j b) (λh=>Bq f.size h)
 obtain⟨aD,Q,k,-⟩:=newB S 48 [fP gZ (y:Int),fP gZ (z:Int),fP gZ (v2:Int),fP gZ (A:Int)];have i:=τ J k;have N:st0 sh={sh:=sh,ws:=Ll sh,tk:=wordsAt (Ll sh) (sh.table/8) sh.BO,hd:=List.replicate sh.BO 0}:=by rw[nM sh E.out];rfl
 have o:Ll sh 8=0:=Lt sh 8 U;have D:=Ako r q v (H.below k) (e.below i) (λh=>Ω (u _ h)) (λh=>Ω (u _ h)) (sH sh) (λaz av=>by rw[Lt sh _ (by rw[E.out];omega)];rfl) N
  (fA sh) (l:=[]) Apc U Apb (by rw[o];decide) (λR ab=>absurd ab (Nat.not_lt_zero _)) (λah p x F ad=>Agh ad (fA sh) (l:=[]) Apc U Apb (Akt sh))
 have m:=Ac (Arh (s:=st0 sh) (L:=L) (slot:=Ll sh 8) (own:=B) (e.below i) D);rw[o]at m;have C:=Ac i;have Y:=Ac u;have X:=Ac Q;clear J k H t a i D N o Q
 go_wp2_with fail
 rw[<-X.out];refine m.mono ?_;rintro c aE⟨g,p,x,tt,bk,nt,F,rfl,I,K,Z,al,am,an,ao,ap⟩;have V:=Ac I;have T:=Ac (τ C.out K);have ac:=C.size;clear I K m
 go_wp2_with fail
 go_ret2;exact⟨d,g,p,x,tt,bk,nt,F,rfl,V.out,T.out,⟨λb aa=>(Z b aa).elim (Y b) (λh=>Bq ac h),O1,O1,O1,O1,O1⟩⟩
structure Apart(X F:Nat->Prop)(g x:Nat):Prop where
 ng:¬X g
 nx:¬X x
 nf:∀q,F q->¬X q
 c1:¬X 0
 c2:¬X 1
section
variable{m0:Dq}{w w':jD}{g d p x tt bk L:Nat}{s s2:St}{b:Bk}{t:Tb}{F F2 J X X':Nat->Prop}{slot:UInt64}{jv:jL}{id:Int}{sv:jL}{st:UInt64}{jb:Nat}
def BK.Abb(h:BK m0 w g d p x tt bk L s b t F J slot jv id sv st){J':Nat->Prop}(e:∀q,J q<->J' q):BK m0 w g d p x tt bk L s b t F J' slot jv id sv st:=by
 have:J=J':=funext λq=>propext (e q)
 exact this▸h
def Apart.more(h:Apart X F g x)(f:BK m0 w g d p x tt bk L s b t F J slot jv id sv st)(c:∀q,X' q->X q\/(w.heap.size<=q/\q<w'.heap.size)):Apart X' F g x:=by
 have k:=f.box.lt;have l:=f.ix.box.lt;have j:=f.ix.sys.lt;have m:=f.ix.sys.tabs.lt;exact⟨λa=>(c _ a).elim h.ng (λe=>O1),λa=>(c _ a).elim h.nx (λe=>O1),λq i a=>(c _ a).elim (h.nf q i) (λe=>Ω (j q i)),λa=>(c _ a).elim h.c1 (λe=>O1),λa=>(c _ a).elim h.c2 (λe=>O1)⟩
def BK.frame(h:BK m0 w g d p x tt bk L s b t F (λq=>J q\/X q) slot jv id sv st)(a:Apart X F g x)(k:Touch X w w')(i:∀q,X' q->X q\/(w.heap.size<=q/\q<w'.heap.size)):BK m0 w' g d p x tt bk L s b t F (λq=>J q\/X' q) slot jv id sv st:=by
 have m:AL (λq=>F q\/(J q\/X q)) (λq=>F q\/(J q\/X' q)) w w':=⟨k.mono (λq c=>.inr (.inr c)),λq c=>by
  rcases c with c|c|c
  ·exact .inl (.inl c)
  ·exact .inl (.inr (.inl c))
  ·exact(i q c).imp (λh=>.inr (.inr h)) (λh=>h.1)⟩
 refine⟨⟨h.ix.sys.keep k (λj l=>a.nf j l) a.c1 a.c2,h.ix.box.touch k a.nx,h.ix.out⟩,h.tb.moved m,?_,λq c=>?_,h.box.touch k a.ng,h.fg,h.g1,h.g2,h.g3,h.g4,h.x1,h.x2,h.c1,h.c2,h.c3⟩
 ·rcases h.jg with f|f
  ·exact .inl f
  ·exact absurd f a.ng
 ·rcases c with c|c
  ·exact Be (h.jl q (.inl c)) k.size
  ·rcases i q c with e|e
   ·exact Be (h.jl q (.inr e)) k.size
   ·exact e.2
end
section
variable{g d p x tt bk L:Nat}{s s2:St}{t:Tb}{slot:UInt64}
def BK.apart{m0:Dq}{c:jD}{b:Bk}{F J X:Nat->Prop}{jv sv:jL}{id:Int}{st:UInt64}(h:BK m0 c g d p x tt bk L s b t F (λq=>J q\/X q) slot jv id sv st):¬X bk/\¬X b.nt/\¬X tt:=
 ⟨λa=>h.tb.fb (.inr (.inr a)),λa=>h.tb.fn (.inr (.inr a)),λa=>h.tb.ft (.inr (.inr a))⟩
def J6.kU{m0:Dq}{c:jD}{F:Nat->Prop}(h:J6 m0 c x d p L s F):¬F 0/\¬F 1:=by
 obtain⟨j,g,i,f,e,own,b,hF⟩:=h.sys;exact⟨λa=>b.g1 ((hF _).1 a),λa=>b.g2 ((hF _).1 a)⟩
def JK{X:Nat->Prop}{q:Nat}(h1:¬X q)(h2:q≠0)(h3:q≠1):Outs X q:=λh=>h.elim h1 (λh=>h.elim h2 h3)
end
section
variable{m0:Dq}{w w':jD}{base jb x d p L:Nat}{s:St}{stamp:UInt64}{vs:jL}{l:List Wr}{ps:List (UInt64×UInt64)}{over:Bool}{en:Int}{F:Nat->Prop}{v:jL}
def EZ.keep(h:EZ m0 w base jb x d p L s stamp vs l ps over en F v){K:Nat->Prop}(k:Touch K w w')(hF:∀a,F a->¬K a)(c:¬K jb)(f:∀q,v.ownBlock=iC q->¬K q)(g:¬K x)
 (h1:¬K 0)(h2:¬K 1)(e:FI w' (λb=>F b\/b=jb\/v.ownBlock=iC b) vs l):EZ m0 w' base jb x d p L s stamp vs l ps over en F v:=
 ⟨⟨h.ix.sys.keep k hF h1 h2,h.ix.box.touch k g,h.ix.out⟩,h.box.touch k c,Gj h.row k f,e,h.fj,h.bj,h.bx,h.bt,h.mj,h.mF⟩
end
structure Aoe(m:Dq)(w:jD)(g bk nt x d p L:Nat)(s:St)(slot:UInt64)(o:On)(F J X:Nat->Prop)(jb:Nat)(sv vs v:jL)(base:Nat):Prop where
 cj:EZ m w base jb x d p L s (slot+1) vs o.set o.ps jw 0 F v
 jj:J jb
 jv:∀q,v.ownBlock=iC q->J q
 xj:¬X jb
 xv:∀q,v.ownBlock=iC q->¬X q
 gj:jb≠g
 gv:v.ownBlock≠iC g
 vs:FI w (EF F (λq=>J q\/X q) bk nt jb) vs o.set
 sv:FI w (EF F (λq=>J q\/X q) bk nt jb) sv o.set
def OnM(on:Option On)(m:Dq)(w:jD)(g bk nt x d p L:Nat)(s:St)(slot:UInt64)(F J X:Nat->Prop)(jv:jL)(id:Int)(sv:jL)(st:UInt64):Prop:=match on with
 |none=>jv=.nilIface/\id=0/\sv=fD iD 0 0/\st=0
 |some o=>id=(o.id:Int)/\st=slot+1/\∃jb vs v base,jv=.iface 118 (ptr0 jb)/\Aoe m w g bk nt x d p L s slot o F J X jb sv vs v base
def EgM(g d p x tt bk L:Nat)(E:Eg)(w:jD)(X:Nat->Prop):Prop:=
 ∃(b:Bk)(F J:Nat->Prop)(jv:jL)(id:Int)(sv:jL)(st:UInt64),
  BK E.q.pw.mode w g d p x tt bk L E.q.s b E.t F (λq=>J q\/X q) E.slot jv id sv st/\Apart X F g x/\OnM E.on E.q.pw.mode w g bk b.nt x d p L E.q.s E.slot F J X jv id sv st
section
variable{m0:Dq}{w w':jD}{g d p x tt bk nt L:Nat}{s:St}{b:Bk}{t:Tb}{F J X X':Nat->Prop}{slot:UInt64}{jv:jL}{id:Int}{sv vs v:jL}{st:UInt64}{jb base:Nat}{o:On}{on:Option On}{E:Eg}
def EF.moved{J':Nat->Prop}(k:Touch (EF F J bk nt jb) w w')(b:∀q,J' q->J q\/w.heap.size<=q):AL (EF F J bk nt jb) (EF F J' bk nt jb) w w':=⟨k,λq a=>by
 rcases a with a|a|a
 ·exact .inl (.inl a)
 ·exact(b q a).imp (λh=>.inr (.inl h)) (λh=>h)
 ·exact .inl (.inr (.inr a))⟩
def FI.jobs{c:jD}{vs:jL}{l:List Wr}(h:FI c (EF F J bk nt jb) vs l)(d:∀q,v.ownBlock=iC q->J q):FI c (λb=>F b\/b=jb\/v.ownBlock=iC b) vs l:=
 h.mono (λq _ a=>by
  rcases a with a|a|a
  ·exact .inl a
  ·exact .inr (.inr (.inr (.inr a)))
  ·exact .inr (.inl (d q a)))
def OnM.keep(h:OnM on m0 w g bk nt x d p L s slot F J X jv id sv st){K:Nat->Prop}(k:Touch K w w')(l:∀q,K q->q=g\/X q\/q=bk\/q=nt)(A:J g\/X g)(e:¬K x)(hF:∀i,F i->¬K i)(h1:¬K 0)(h2:¬K 1)
 (j:∀q,J q->q≠bk/\q≠nt)(c:∀q,X' q->X q\/(w.heap.size<=q/\q<w'.heap.size)):OnM on m0 w' g bk nt x d p L s slot F J X' jv id sv st:=by
 cases on with
 |none=>exact h
 |some o=>
  obtain⟨u,y,jb,vs,v,base,z,h⟩:=h;have E:=h.cj.box.lt;have r:AL (EF F (λq=>J q\/X q) bk nt jb) (EF F (λq=>J q\/X' q) bk nt jb) w w':=EF.moved (k.mono (λq a=>by
   rcases l q a with rfl|a|a|a
   ·exact .inr (.inl A)
   ·exact .inr (.inl (.inr a))
   ·exact .inr (.inr (.inl a))
   ·exact .inr (.inr (.inr (.inl a))))) (λq a=>by
   rcases a with a|a
   ·exact .inl (.inl a)
   ·exact(c q a).imp .inr (·.1))
  have t:∀q,J q->¬X q->q≠g->¬K q:=λq m e B C=>by
   rcases l q C with b|b|b|b
   ·exact B b
   ·exact e b
   ·exact(j q m).1 b
   ·exact(j q m).2 b
  have n:=h.vs.moved r;have D:∀q,v.ownBlock=iC q->¬X' q:=λq a f=>(c q f).elim (h.xv q a) (λb=>Ω ((h.cj.mlt q a).2))
  exact⟨u,y,jb,vs,v,base,z,⟨h.cj.keep k hF (t jb h.jj h.xj h.gj) (λq a=>t q (h.jv q a) (h.xv q a) (λb=>h.gv (b▸a))) e h1 h2 (n.jobs (λq a=>.inl (h.jv q a))),
   h.jj,h.jv,λf=>(c _ f).elim h.xj (λb=>O1),D,h.gj,h.gv,n,h.sv.moved r⟩⟩
def BK.Avj(h:BK m0 w g d p x tt bk L s b t F (λq=>J q\/X q) slot jv id sv st):∀q,J q->q≠bk/\q≠b.nt:=λ_ c=>⟨λa=>h.tb.fb (.inr (.inl (a▸c))),λa=>h.tb.fn (.inr (.inl (a▸c)))⟩
def EgM.frames:Frames (EgM g d p x tt bk L E):=by
 rintro m n X X'⟨b,F,J,jv,id,sv,st,h,a,k⟩e c;exact⟨b,F,J,jv,id,sv,st,h.frame a e c,a.more h c,k.keep e (λq l=>.inr (.inl l)) h.jg a.nx (λf i j=>a.nf f i j) a.c1 a.c2 h.Avj c⟩
def OnM.onv(h:OnM on m0 w g bk nt x d p L s slot F J X jv id sv st):OnV jv id (on.map (·.id)):=by
 cases on with
 |none=>exact h.1
 |some o=>
  obtain⟨a,c,jb,vs,v,base,b,h⟩:=h;exact⟨a,jb,b⟩
def EgM.book{b:Bk}{F J:Nat->Prop}{jv:jL}{id:Int}{sv:jL}{st:UInt64}(h:BK E.q.pw.mode w g d p x tt bk L E.q.s b E.t F (λq=>J q\/X q) E.slot jv id sv st)(a:Apart X F g x)(n:OnM E.on E.q.pw.mode w g bk b.nt x d p L E.q.s E.slot F J X jv id sv st)
 {e:Bk}{i:Tb}(j:BK E.q.pw.mode w' g d p x tt bk L E.q.s e i F (λq=>J q\/X q) E.slot jv id sv st)(m:e.nt=b.nt)(k:Touch (λk=>k=bk) w w'):EgM g d p x tt bk L {E with t:=i} w' X/\Touch (Outs X) w w':=
 ⟨⟨e,F,J,jv,id,sv,st,j,a,by
   rw[m];exact n.keep k (λq f=>.inr (.inr (.inl f))) h.jg h.x1 (λo l c=>h.tb.fb (c▸.inl l)) (λc=>h.c1.1 c.symm) (λc=>h.c1.2 c.symm) h.Avj (λq f=>.inl f)⟩,k.mono (λq c=>c▸JK h.apart.1 h.c1.1 h.c1.2)⟩
def EgM.below(h:EgM g d p x tt bk L E w X)(k:η w w'):EgM g d p x tt bk L E w' X:=EgM.frames w w' X X h (Touch.of_below k) (λ_ a=>.inl a)
def QO(E:Eg)(i:Int):PR E i=SA E.t.wt (E.on.map (·.id)) i:=by
 unfold PR SA;cases E.on<;>rfl
end
def Abc{y:Wr}(h:Du y=jm):y.key.size<=16/\y.text.size<=40:=by
 unfold Du at h;simp only[Bool.and_eq_true,decide_eq_true_eq]at h;exact⟨h.1.1,h.1.2⟩
def NR(t:Tb):Prop:=∀a,a<8->(t.sets a).length<=16/\WA (t.sets a)/\∀b∈t.sets a,Du b=jm
section
variable{g d p x tt bk L:Nat}{E:Eg}
def Ac6:Steps (EgM g d p x tt bk L E) (EgM g d p x tt bk L (Na E).1) 21 #[ptr0 g] (gJ #[fP gZ (Na E).2.1,fP gZ (Na E).2.2]):=by
 rintro n X⟨b,F,J,jv,id,sv,st,h,e,i⟩;cases c:PH E.t.wt with
 |none=>
  have a:Na E=(E,0,6):=by unfold Na;rw[c]
  rw[a];refine(o5 h c).mono ?_;rintro a w'⟨rfl,f⟩;exact⟨rfl,EgM.below ⟨b,F,J,jv,id,sv,st,h,e,i⟩ f,Touch.of_below f⟩
 |some j=>
  have a:Na E=({E with t:=nS E.t j E.slot},(j:Int),0):=by unfold Na;rw[c]
  rw[a];refine(Anj h c).mono ?_;rintro a w'⟨rfl,o,q,k,r,l,m⟩;exact⟨rfl,EgM.book h e i l k m⟩
def kV{id:Int}(h:PR E id=0):∃a:Nat,id=(a:Int)/\a<8/\E.t.wt.ops a=true:=by
 refine Oe (t:=E.t.wt) ?_;unfold PR at h;split at h
 ·assumption
 ·cases h
def wK(l:NR E.t)(id:Int)(y:Wr)(u:y.key.size<=4294967296)(w:y.text.size<=4294967296){f:jD}{X:Nat->Prop}(k:EgM g d p x tt bk L E f X):
 Calls prog 41 #[ptr0 g,fP gZ id,OU y] f λa w'=>a=gY (fP gZ (Jy E id y).2)/\(EgM g d p x tt bk L (Jy E id y).1 w' X/\Touch (Outs X) f w'):=by
 have s:=k;obtain⟨b,F,J,jv,B,sv,st,h,n,j⟩:=k;by_cases c:PR E id=0
 ·obtain⟨e,rfl,i,v⟩:=kV c;have a:Jy E (e:Int) y=({E with t:=wrT E.t e y},(Ip (E.t.sets e) y).2):=by unfold Jy;rw[ku (by rw[c];simp)];rfl
  rw[a];refine(wJ h j.onv (by rw[<-QO];exact c) i v (l e i).1 (l e i).2.1 y u w).mono ?_;rintro a w'⟨rfl,z,A,o,q,r⟩;exact⟨rfl,EgM.book h n j q o r⟩
 ·have a:Jy E id y=(E,PR E id):=by unfold Jy;rw[jM c]
  rw[a,QO];rw[QO]at c;refine(Aa9 h j.onv c y).mono ?_;rintro a w'⟨rfl,m⟩;exact⟨rfl,s.below m,Touch.of_below m⟩
def Ape(c:NR E.t)(id:Int)(a b:ByteArray)(e:a.size<=4294967296)(f:b.size<=4294967296):Steps (EgM g d p x tt bk L E) (EgM g d p x tt bk L (Jy E id ⟨a,b,jw⟩).1) 22 #[ptr0 g,fP gZ id,.string a,.string b] (fP gZ (Jy E id ⟨a,b,jw⟩).2):=
 λ_ _ h=>Akr (wK c id ⟨a,b,jw⟩ e f h)
def Avk(b:NR E.t)(id:Int)(a:ByteArray)(c:a.size<=4294967296):Steps (EgM g d p x tt bk L E) (EgM g d p x tt bk L (Jy E id ⟨a,⟨#[]⟩,jm⟩).1) 23 #[ptr0 g,fP gZ id,.string a] (fP gZ (Jy E id ⟨a,⟨#[]⟩,jm⟩).2):=
 λ_ _ h=>Aks (wK b id ⟨a,⟨#[]⟩,jm⟩ c (by show(0:Nat)<=_;omega) h)
def Aof(id:Int):Steps (EgM g d p x tt bk L E) (EgM g d p x tt bk L (Qg E id).1) 28 #[ptr0 g,fP gZ id] (fP gZ (Qg E id).2):=by
 intro r X f;have n:=f;obtain⟨b,F,J,jv,v,sv,st,h,j,e⟩:=f;by_cases a:PR E id=0
 ·obtain⟨i,rfl,o,q⟩:=kV a;have c:Qg E (i:Int)=({E with t:=Oh E.t i},0):=by unfold Qg;rw[ku (by rw[a];simp)];rfl
  rw[c];refine(Aoc h e.onv (by rw[<-QO];exact a) o q).mono ?_;rintro c w'⟨rfl,s,u,k,l,m⟩;exact⟨rfl,EgM.book h j e l k m⟩
 ·have c:Qg E id=(E,PR E id):=by unfold Qg;rw[jM a]
  rw[c,QO];rw[QO]at a;refine(Aba h e.onv a).mono ?_;rintro c w'⟨rfl,rfl⟩;exact⟨rfl,n,Touch.refl _ _⟩
end
def ESv(F:Nat->Prop)(jb:Nat)(v:jL)(g bk nt:Nat)(k:Nat):Prop:=JG F jb v k\/k=g\/k=bk\/k=nt
section
variable{m0 m1:Dq}{w w':jD}{g d p x tt bk L:Nat}{s s2:St}{b:Bk}{t:Tb}{F F2 J:Nat->Prop}{slot:UInt64}{jv:jL}{id:Int}{sv v v2:jL}{st:UInt64}{jb:Nat}
def BK.job(h:BK m0 w g d p x tt bk L s b t F J slot jv id sv st)(f:J jb)(j:∀q,v.ownBlock=iC q->J q)(o:jb≠g)(y:v.ownBlock≠iC g)(z:J6 m1 w' x d p L s2 F2)(m:AL (JG F jb v) (JG F2 jb v2) w w')(r:∀q,v2.ownBlock=iC q->q<w'.heap.size):
 BK m1 w' g d p x tt bk L s2 b t F2 (λq=>J q\/v2.ownBlock=iC q) slot jv id sv st:=by
 have i:¬JG F jb v g:=λe=>e.elim h.fg (λe=>e.elim (λe=>o e.symm) y)
 have u:AL (λk=>F k\/J k) (λk=>F2 k\/(J k\/v2.ownBlock=iC k)) w w':=⟨m.touch.mono (λk a=>a.imp (λh=>h) (λe=>e.elim (λe=>by rw[e];exact f) (j k))),λk a=>by
  have l:JG F2 jb v2 k->(F k\/J k)\/w.heap.size<=k:=λa=>by
   rcases m.own k a with(c|c|c)|c
   ·exact .inl (.inl c)
   ·exact .inl (.inr (c▸f))
   ·exact .inl (.inr (j k c))
   ·exact .inr c
  rcases a with a|a|a
  ·exact l (.inl a)
  ·exact .inl (.inr a)
  ·exact l (.inr (.inr a))⟩
 refine⟨z,h.tb.moved u,.inl h.jg,λk a=>a.elim (λa=>Be (h.jl k a) m.touch.size) (r k),h.box.touch m.touch i,λn=>?_,h.g1,h.g2,h.g3,h.g4,h.x1,h.x2,h.c1,h.c2,h.c3⟩;rcases m.own g (.inl n)with c|c
 ·exact i c
 ·have:=h.box.lt;omega
def Abd{er:Int}{i:Nat}{A:Option Addr}{n c:Nat}(h:BK m0 w g d p x tt bk L s b t F J slot (.iface 118 (ptr0 jb)) (i:Int) (fD A n c) st)(a9:J jb)(E:∀q,v.ownBlock=iC q->J q)(bG:jb≠g)(bJ:v.ownBlock≠iC g)(hi:i<8)(bH:t.wt.ops i=jm)
 {y:List Wr}(bi:FI w (EF F J bk b.nt jb) (fD A n c) y)(hy:y.length<=100000)
 (bg:∀m,η w m->Calls prog 256 #[ptr0 jb] m λf w'=>f=gY (gJ #[fU jm,fP gZ er])/\∃F2,J6 m1 w' x d p L s2 F2/\AL (JG F jb v) (JG F2 jb v) m w'):
 Calls prog 27 #[ptr0 g] w λf w'=>f=gY (gJ #[fP gZ (i:Int),fU jm,fP gZ er])/\
  ∃a5 F2,a5.nt=b.nt/\BK m1 w' g d p x tt bk L s2 a5 (if er=0 then df (Oh t i) y st else Oh t i) F2 J (if er=0 then st else slot) .nilIface 0 (fD iD 0 0) 0/\(∀q,F2 q->F q\/w.heap.size<=q\/q=jb\/v.ownBlock=iC q)/\Touch (ESv F jb v g bk b.nt) w w':=by
 have b0:=λbD m=>dK bD (Φ jb) m
 have a0:=Ac (Qb h);have aM:=Ac (Ajs h);have ac:=h.box.cell 5;have ad:=h.box.cell 6;have ae:=h.box.cell 7;have ah:=h.box.cell 8;unfold Cc at ac ad ae ah;simp only[Ag,Am]at ac ad ae ah;obtain⟨m,bb,M,a6⟩:=newB w 75 [.iface 118 (ptr0 jb),fP gZ (i:Int),fD A n c,fP ig (st.toNat:Int)];have a7:=h.below M;have bS:=h.box.lt;have bV:=h.jl jb a9;have bj:∀q,v.ownBlock=iC q->q<w.heap.size:=λq P=>h.jl q (E q P)
 have bp:=h.ix.sys.lt;have bR:=h.tb.book.lt;have bX:=h.tb.map.lt;have bm:=Ac a6;have aR:=Ac M;have aa:=Ac a7;have bA:=Ac (bi.below M);have bC:=Ac bb;have bx:Hid (¬JG F jb v w.heap.size):=Ac (λbE=>bE.elim (λh=>absurd (bp _ h) O1) (λh=>h.elim (λh=>O1) (λh=>absurd (bj _ h) O1)));have bh:=bg m M;have aW:=Ac bh;clear h bg bb a6 M a7 bp bh bi bj;go_enter func27,ntmps27
 go_wp2_with fail
 refine a0.mono ?_;rintro f bN⟨rfl,rfl⟩
 go_wp2_with fail
 refine aM.mono ?_;rintro f bN⟨rfl,rfl⟩
 go_wp2_with fail
 rw[<-bC.out];refine aW.mono ?_;rintro f B⟨rfl,F2,bl,N⟩;have U:=(aa.job a9 E bG bJ bl N (λq P=>Be (aa.jl q (E q P)) N.touch.size)).Abb (λq=>⟨λh=>h.elim (λh=>h) (E q),.inl⟩);have bY:=aR.size;have aq:=bm.touch N.touch bx.out;have ab:=Ac aq;have T:=Ac N;have S:=Ac U;have d3:=U.box.cell 3;unfold Cc at d3;have az:=aq.cell 1;simp only[Ag,Am]at az d3;have bo:=Ac (λX(a:η B X)=>zX (U.tb.below a) hi bH);have aE:¬w.heap.size=bk:=O1;have aX:Hid (∀X,Touch (λa=>a=bk) B X->X.cell? (Δ g 3)=iC (ptr0 tt)/\X.cell? (Δ w.heap.size 1)=iC (fP gZ (i:Int))):=Ac (λX a=>⟨(S.box.touch a S.g2).cell 3,(ab.touch a aE).cell 1⟩);clear bl N U aq aW ac ad ae ah a0 aM aa bm
 go_wp2_with fail
 go_region_held3(λw'=>w'.cell? (Δ g 3)=iC (ptr0 tt)/\w'.cell? (Δ w.heap.size 1)=iC (fP gZ (i:Int)))
  (first|exact⟨d3,az⟩|exact aX _ ((Touch.of_below ((Dr.drew B).below _)).trans av (λ_ f=>.inl f)))
  ((first|(go_at_call 52;refine(bo _ ((Dr.drew B).below _)).mono ?_;rintro f l⟨rfl,C,bL,ar,bc,av⟩)))
 all_goals(
  have V:Touch (λa=>a=bk) B l:=(Touch.of_below ((Dr.drew B).below _)).trans av (λ_ f=>.inl f);have j:=S.book bc ar V;have K:=ab.touch V aE;have u:=j.box.cell 3;have al:=j.box.cell 4;have am:=j.box.cell 5;have an:=j.box.cell 6;have ao:=j.box.cell 7;have ap:=j.box.cell 8;have f4:=j.box.frozen 4;have f5:=j.box.frozen 5;have f6:=j.box.frozen 6;have f7:=j.box.frozen 7;have f8:=j.box.frozen 8;unfold Cc at u al am an ao ap;have Q:=K.cell 1;have W:=K.cell 2;have Y:=K.cell 3;simp only[Ag,Am]at u al am an ao ap Q W Y;have bq:w.heap.size≠g:=O1;have G:=Ac j;have a3:=Ac K;have aF:=Ac V;have H:=Ac ar;have aJ:AL (EF F J bk b.nt jb) (EF F2 J bk b.nt jb) m l:=by
   have m1:AL (EF F J bk b.nt jb) (EF F2 J bk b.nt jb) m B:=⟨T.out.touch.mono (λa e=>e.imp (λh=>h) (λh=>h.elim (λh=>.inr (.inr (.inr h))) (λh=>.inl (E a h)))),λa e=>by
    rcases e with e|e
    ·rcases T.out.own a (.inl e)with(h|h|h)|h
     ·exact .inl (.inl h)
     ·exact .inl (.inr (.inr (.inr (.inr h))))
     ·exact .inl (.inr (.inl (E a h)))
     ·exact .inr h
    ·exact .inl (.inr e)⟩
   exact m1.trans ⟨aF.mono (λa e=>.inr (.inr (.inl e))),λ_ e=>.inl e⟩
  have a8:∀q,F2 q->F q\/w.heap.size<=q\/q=jb\/v.ownBlock=iC q:=λq P=>by
   rcases T.out.own q (.inl P)with(h|h|h)|h
   ·exact .inl h
   ·exact .inr (.inr (.inl h))
   ·exact .inr (.inr (.inr h))
   ·exact .inr (.inl O1)
  have a4:Touch (ESv F jb v g bk b.nt) w l:=((Touch.of_below aR.out).trans (T.out.touch.mono (λ_ h=>.inl h)) (λ_ h=>.inl h)).trans (aF.mono (λ_ h=>.inr (.inr (.inl h)))) (λ_ h=>.inl h);have bw:=Ac aJ;have aV:=Ac a8;have a2:=Ac a4;clear bc av V j K bL ar d3 az S ab bo aX aJ a8 a4;by_cases be:er=0
  ·subst be
   go_wp2_with fail
   obtain⟨k,o⟩:=ε (((((l.setCell (Δ g 5) .nilIface).setCell (Δ g 6) (fP gZ 0)).setCell (Δ g 7) (fD iD 0 0)).setCell (Δ g 8) (fP ig 0)).setCell (Δ g 4) (fP ig (st.toNat:Int)));rw[<-o];have r:Touch (λa=>a=g) l k:=by rw[o];exact(((((Touch.refl (λa=>a=g) l).setCell (p:=Δ g 5) (.inl rfl) _).setCell (p:=Δ g 6) (.inl rfl) _).setCell (p:=Δ g 7) (.inl rfl) _).setCell (p:=Δ g 8) (.inl rfl) _).setCell (p:=Δ g 4) (.inl rfl) _
   have D:CB k g 77 (Cc d p x tt st .nilIface 0 (fD iD 0 0) 0):=by rw[o];exact((((G.box.AX 5 _).AX 6 _).AX 7 _).AX 8 _).AX 4 _
   have I:=G.set r D;have z:=a3.touch r bq;have ba:=bw.trans (⟨r.mono (λa e=>.inr (.inl (by rw[e];exact I.jg))),λ_ e=>.inl e⟩:AL (EF F2 J bk b.nt jb) (EF F2 J bk b.nt jb) l k);have aL:=bA.moved ba;have aD:=λX(a:η k X)=>Anf (I.tb.below a) st ((aL.mono (F:=λa=>a=C.nt) (λa _ f=>by rw[H.out]at f;exact .inr (.inr (.inr (.inl f))))).below a) hy
   have Q:=z.cell 1;have W:=z.cell 2;have Y:=z.cell 3;have u:=D.cell 3;unfold Cc at u;simp only[Ag,Am]at Q W Y u;have Z:¬w.heap.size=C.nt:=by rw[H.out];omega
   have aZ:Hid (∀X,Touch (λa=>a=C.nt) k X->X.cell? (Δ g 3)=iC (ptr0 tt)/\X.cell? (Δ w.heap.size 1)=iC (fP gZ (i:Int))/\X.cell? (Δ w.heap.size 2)=iC (fD A n c)/\X.cell? (Δ w.heap.size 3)=iC (fP ig (st.toNat:Int))):=Ac (λX a=>⟨(D.touch a I.g3).cell 3,(z.touch a Z).cell 1,(z.touch a Z).cell 2,(z.touch a Z).cell 3⟩);have bs:=Ac I;have a1:=Ac aD;have bB:=Ac r;clear o r D I z ba aL aD al am an ao ap f4 f5 f6 f7 f8 G a3
   go_region_held3(λw'=>w'.cell? (Δ g 3)=iC (ptr0 tt)/\w'.cell? (Δ w.heap.size 1)=iC (fP gZ (i:Int))/\w'.cell? (Δ w.heap.size 2)=iC (fD A n c)/\w'.cell? (Δ w.heap.size 3)=iC (fP ig (st.toNat:Int)))
   (first|exact⟨u,Q,W,Y⟩|exact aZ _ ((Touch.of_below ((Dr.drew k).below _)).trans aw (λ_ f=>.inl f)))
   ((first|(go_at_call 55;refine(a1 _ ((Dr.drew k).below _)).mono ?_;rintro f bO⟨rfl,bd,aw⟩)))
   all_goals(
    have R:Touch (λa=>a=C.nt) k bO:=(Touch.of_below ((Dr.drew k).below _)).trans aw (λ_ f=>.inl f);obtain⟨_,Q,_,_⟩:=aZ _ R;have bt:=Ac (bs.FZ bd R);have br:=Ac R;clear bd aw R u a1)
   all_goals(go_wp2_with fail)
   all_goals(refine bodyPost_ret (v:=gJ #[fP gZ (i:Int),fU jm,fP gZ 0]) (by simp[results,results27,go_sem]) rfl ?_)
   all_goals(
    refine⟨rfl,C,H.out,F2,?_,aV.out,(a2.trans (bB.mono (λa e=>.inr (.inl e))) (λ_ h=>.inl h)).trans (br.mono (λa e=>.inr (.inr (.inr (by rw[e,H.out]))))) (λ_ h=>.inl h)⟩;exact bt.out)
  ·have t1:(er==0)=false:=beq_eq_false_iff_ne.2 be
   go_wp2_with fail
   obtain⟨k,o⟩:=ε ((((l.setCell (Δ g 5) .nilIface).setCell (Δ g 6) (fP gZ 0)).setCell (Δ g 7) (fD iD 0 0)).setCell (Δ g 8) (fP ig 0));rw[<-o];have r:Touch (λa=>a=g) l k:=by rw[o];exact((((Touch.refl (λa=>a=g) l).setCell (p:=Δ g 5) (.inl rfl) _).setCell (p:=Δ g 6) (.inl rfl) _).setCell (p:=Δ g 7) (.inl rfl) _).setCell (p:=Δ g 8) (.inl rfl) _
   have D:CB k g 77 (Cc d p x tt slot .nilIface 0 (fD iD 0 0) 0):=by rw[o];exact(((G.box.AX 5 _).AX 6 _).AX 7 _).AX 8 _
   refine bodyPost_ret (v:=gJ #[fP gZ (i:Int),fU jm,fP gZ er]) (by simp[results,results27,go_sem]) rfl ?_;refine⟨rfl,C,H.out,F2,?_,aV.out,a2.trans (r.mono (λa e=>.inr (.inl e))) (λ_ h=>.inl h)⟩;exact G.set r D)
end
structure Arj(L:Nat)(q:Ms)(t:Tb)(o:On):Prop where
 id:o.id<8
 op:t.wt.ops o.id=jm
 len:o.ps.length<=o.set.length
 few:o.set.length<=16
 right:∀y∈o.set,Du y=jm
 ix:∀lf,q.pw=.up lf->∃X items,Jj X L q.s items
section
variable{w:jD}{base jb x d p L:Nat}{q:Ms}{t:Tb}{stamp:UInt64}{vs:jL}{F:Nat->Prop}{v:jL}{o:On}
def On.fB(h:o.ps.length<=o.set.length):o.ps=o.done.map Prod.snd:=by
 refine List.ext_getElem ?_ (λc a b=>?_)
 ·simp[On.done];omega
 ·simp[On.done]
def On.fC:∀a(h:a<o.done.length)(h2:a<o.set.length),o.done[a].1=o.set[a].key:=by
 intro a h h2;simp[On.done]
def Aku(q:Ms)(stamp:UInt64)(o:On)(h:(NV q stamp o).2.2.1=jw):(NV q stamp o).2.2.2=0:=by
 unfold NV at h⊢;split
 ·split
  ·rfl
  ·rename_i a b;rw[a]at h;simp only[ku b]at h;cases h
 ·rename_i a;rw[a]at h;simp only at h;split at h<;>cases h
def Akv(h:EZ q.pw.mode w base jb x d p L q.s stamp vs o.set o.ps jw 0 F v)(k:Arj L q t o):
 Calls prog 256 #[ptr0 jb] w λa w'=>a=gY (gJ #[fU (NV q stamp o).2.2.1,fP gZ (NV q stamp o).2.2.2])/\
  ∃f j,jy w' x d p L (NV q stamp o).1 f/\((NV q stamp o).2.2.1=jw->EZ (NV q stamp o).1.pw.mode w' base jb x d p L (NV q stamp o).1.s stamp vs o.set (NV q stamp o).2.1 jw 0 f j)/\((NV q stamp o).2.2.1=jm->j=v)/\AL (JG F jb v) (JG f jb j) w w':=by
 have u:∀r∈o.set,r.key.size<=16:=λr B=>(Abc (k.right r B)).1
 have m:o.set.length<=100000:=Ω k.few;by_cases l:o.ps.length<o.set.length
 ·have n:o.set[o.ps.length]?=iC o.set[o.ps.length]:=List.getElem?_eq_getElem l;have g:=λz(g:η w z)=>Agc (h.below g).ix k.ix (h.below g).b o.set[o.ps.length] (k.right _ (List.getElem_mem l))
  unfold NV;rw[n];simp only;by_cases e:(writeM q stamp o.set[o.ps.length]).2.2.2=0
  ·rw[jM e];rw[e]at g;refine(Ajr h l m g).mono ?_;rintro a w'⟨rfl,f,j,c,i⟩;exact⟨rfl,f,j,c.ix,λ_=>c,(λa=>by cases a),i⟩
  ·rw[ku e];have y:=Aa4 q stamp o.set[o.ps.length] e;rw[y.1,y.2]at g;refine(Akf e h k.len l m u g).mono ?_;rw[RZ (On.fB k.len) On.fC];rintro a w'⟨rfl,f,c,i⟩;exact⟨rfl,f,v,c.ix,λa=>by(simp only at a;cases a),λ_=>rfl,i⟩
 ·have A:o.ps.length=o.set.length:=Ω k.len;have n:o.set[o.ps.length]?=none:=List.getElem?_eq_none O1;unfold NV;rw[n];simp only;refine(wF h A m u).mono ?_;rintro a w'⟨rfl,f,c,i⟩;unfold iE at c;by_cases e:(JE q 3 (Dt q.s.ws 8 stamp)).2=0
  ·rw[jM e]at c;rw[jM e,e];exact⟨rfl,f,v,c,λa=>by(simp only at a;cases a),λ_=>rfl,i⟩
  ·rw[ku e]at c;rw[ku e];rw[RZ (On.fB k.len) On.fC]at c;exact⟨rfl,f,v,c,λa=>by(simp only at a;cases a),λ_=>rfl,i⟩
end
section
variable{m0:Dq}{w w':jD}{g d p x tt bk nt L:Nat}{s:St}{b:Bk}{t:Tb}{F J X:Nat->Prop}{slot:UInt64}{jv:jL}{id:Int}{sv vs v:jL}{st:UInt64}{jb base:Nat}{o:On}{E:Eg}
def wM(h:BK m0 w g d p x tt bk L s b t F J slot jv id sv st)(c:OnV jv id iD):
 Calls prog 27 #[ptr0 g] w λa w'=>a=gY (gJ #[fP gZ 0,fU jm,fP gZ 7])/\w=w':=by
 have f:=Ac (Qb h);have e:=Ac (Un h c);clear h c;go_enter func27,ntmps27
 go_wp2_with fail
 refine f.mono ?_;rintro a i⟨rfl,rfl⟩
 go_wp2_with fail
 refine e.mono ?_;rintro a i⟨rfl,rfl⟩
 go_wp2_with fail
 refine bodyPost_ret (v:=gJ #[fP gZ 0,fU jm,fP gZ 7]) (by simp[results,results27,go_sem]) rfl ?_;exact⟨rfl,rfl⟩
def Aoe.below(h:Aoe m0 w g bk nt x d p L s slot o F J X jb sv vs v base)(k:η w w'):Aoe m0 w' g bk nt x d p L s slot o F J X jb sv vs v base:=
 ⟨h.cj.below k,h.jj,h.jv,h.xj,h.xv,h.gj,h.gv,h.vs.below k,h.sv.below k⟩
def Abe(k:∀o,E.on=iC o->Arj L E.q E.t o):Steps (EgM g d p x tt bk L E) (EgM g d p x tt bk L (LJ E).1) 27 #[ptr0 g] (gJ #[fP gZ (LJ E).2.1,fU (LJ E).2.2.1,fP gZ (LJ E).2.2.2]):=by
 intro H X N;have V:=N;obtain⟨b,F,J,jv,ao,sv,st,h,n,D⟩:=N;cases w:E.on with
 |none=>
  have c:LJ E=(E,0,jm,7):=by unfold LJ;rw[w]
  rw[c];rw[w]at D;refine(wM h D.1).mono ?_;rintro c w'⟨rfl,rfl⟩;exact⟨rfl,V,Touch.refl _ _⟩
 |some o=>
  have C:=k o w;rw[w]at D;obtain⟨rfl,rfl,jb,vs,v,base,rfl,e⟩:=D;obtain⟨al,am,rfl⟩:=e.sv.slice;obtain⟨⟨z,S,ad,y⟩,a⟩:∃ae,NV E.q (E.slot+1) o=ae:=⟨_,rfl⟩;have A:=λm(r:η H m)=>Akv (e.below r).cj C
  rw[a]at A;simp only at A;have ah:∀{m w':jD}{l:Nat->Prop}{u:jL},AL (JG F jb v) (JG l jb u) m w'->Touch (Outs X) m w':=λj=>j.touch.mono (λq a=>by
   rcases a with a|a|a
   ·exact JK (n.nf q a) (λc=>h.ix.kU.1 (c▸a)) (λc=>h.ix.kU.2 (c▸a))
   ·exact JK (a▸e.xj) (λc=>e.cj.gj.1 (c.symm.trans a)) (λc=>e.cj.gj.2 (c.symm.trans a))
   ·have:=(e.cj.mlt q a).1;have:=e.cj.bt;exact JK (e.xv q a) O1 O1)
  have M:∀{w':jD}{l:Nat->Prop},(∀q,l q->F q\/H.heap.size<=q\/q=jb\/v.ownBlock=iC q)->Apart X l g x:=λY=>⟨n.ng,n.nx,λq a i=>by
   rcases Y q a with f|f|f|f
   ·exact n.nf q f i
   ·have:=h.jl q (.inr i);omega
   ·exact e.xj (f▸i)
   ·exact e.xv q f i,n.c1,n.c2⟩
  cases ad with
  |false=>
   have ac:y=0:=by have:=Aku E.q (E.slot+1) o (by rw[a]);rw[a]at this;exact this
   subst ac;have c:LJ E=({E with q:=z,on:=iC {o with ps:=S}},(o.id:Int),jw,0):=by unfold LJ;rw[w];simp only[a]
   rw[c];refine(Aqv h (λw'=>EgM g d p x tt bk L {E with q:=z,on:=iC {o with ps:=S}} w' X/\Touch (Outs X) H w') (G:=λq=>JG F jb v q) (λq a=>?_) (λm r=>(A m r).mono ?_) ⟨_,_,_,rfl⟩).mono ?_
   ·rcases a with a|a|a
    ·exact h.ix.sys.lt q a
    ·exact a▸e.cj.box.lt
    ·exact(e.cj.mlt q a).2
   ·rintro c w'⟨rfl,l,u,i,B,-,j⟩;have B:=B rfl;have I:=h.below r;have P:=e.below r;have U:=(I.job (.inl e.jj) (λq a=>.inl (e.jv q a)) e.gj e.gv i j (λq a=>(B.mlt q a).2)).Abb (J':=λq=>(J q\/u.ownBlock=iC q)\/X q) (λq=>by constructor<;>(intro h;rcases h with(h|h)|h<;>simp[h]));have K:∀q,u.ownBlock=iC q->¬X q:=λq a i=>by
     rcases j.own q (.inr (.inr a))with(f|f|f)|f
     ·exact n.nf q f i
     ·exact e.xj (f▸i)
     ·exact e.xv q f i
     ·have:=I.jl q (.inr i);omega
    have R:AL (EF F (λq=>J q\/X q) bk b.nt jb) (EF l (λq=>(J q\/u.ownBlock=iC q)\/X q) bk b.nt jb) m w':=⟨j.touch.mono (λq a=>by
     rcases a with a|a|a
     ·exact .inl a
     ·exact .inr (.inr (.inr (.inr a)))
     ·exact .inr (.inl (.inl (e.jv q a)))),λq a=>by
     have Q:JG l jb u q->EF F (λq=>J q\/X q) bk b.nt jb q\/m.heap.size<=q:=λa=>by
      rcases j.own q a with(f|f|f)|f
      ·exact .inl (.inl f)
      ·exact .inl (.inr (.inr (.inr (.inr f))))
      ·exact .inl (.inr (.inl (.inl (e.jv q f))))
      ·exact .inr f
     rcases a with a|((a|a)|a)|a
     ·exact Q (.inl a)
     ·exact .inl (.inr (.inl (.inl a)))
     ·exact Q (.inr (.inr a))
     ·exact .inl (.inr (.inl (.inr a)))
     ·exact .inl (.inr (.inr a))⟩
    refine⟨rfl,⟨⟨b,l,λq=>J q\/u.ownBlock=iC q,_,_,_,_,U,M (w':=w') (λq a=>?_),rfl,rfl,jb,vs,u,base,rfl,⟨B,.inl e.jj,λq a=>.inr a,e.xj,K,e.gj,λc=>?_,P.vs.moved R,P.sv.moved R⟩⟩,?_⟩,j.touch⟩
    ·rcases j.own q (.inl a)with(f|f|f)|f
     ·exact .inl f
     ·exact .inr (.inr (.inl f))
     ·exact .inr (.inr (.inr f))
     ·exact .inr (.inl (Bq r.size f))
    ·rcases j.own g (.inr (.inr c))with(f|f|f)|f
     ·exact h.fg f
     ·exact e.gj f.symm
     ·exact e.gv f
     ·have:=I.box.lt;omega
    ·exact(Touch.of_below r).trans (ah j) (λ_ h=>.inl h)
   ·rintro c w'⟨rfl,aa⟩;exact⟨rfl,aa⟩
  |true=>
   have c:LJ E=({q:=z,t:=if y=0 then df (Oh E.t o.id) o.set (E.slot+1)else Oh E.t o.id,slot:=if y=0 then E.slot+1 else E.slot,on:=iD},(o.id:Int),jm,y):=by unfold LJ;rw[w];simp only[a]
   rw[c];refine(Abd (m1:=z.pw.mode) (s2:=z.s) (er:=y) h (.inl e.jj) (λq a=>.inl (e.jv q a)) e.gj e.gv C.id C.op e.sv (Ω C.few) (λm r=>(A m r).mono ?_)).mono ?_
   ·rintro c w'⟨rfl,l,u,i,-,K,j⟩;rw[K rfl]at j;exact⟨rfl,l,i,j⟩
   ·rintro c w'⟨rfl,T,F2,an,W,Z,ab⟩;refine⟨rfl,⟨T,F2,J,_,_,_,_,W,M (w':=w') Z,rfl,rfl,rfl,rfl⟩,ab.mono (λq a=>?_)⟩;rcases a with(a|a|a)|a|a|a
    ·exact JK (n.nf q a) (λc=>h.ix.kU.1 (c▸a)) (λc=>h.ix.kU.2 (c▸a))
    ·exact JK (a▸e.xj) (λc=>e.cj.gj.1 (c.symm.trans a)) (λc=>e.cj.gj.2 (c.symm.trans a))
    ·have:=(e.cj.mlt q a).1;have:=e.cj.bt;exact JK (e.xv q a) O1 O1
    ·exact JK (a▸n.ng) (λc=>h.c3.1 (a.symm.trans c)) (λc=>h.c3.2 (a.symm.trans c))
    ·exact JK (a▸h.apart.1) (λc=>h.c1.1 (a.symm.trans c)) (λc=>h.c1.2 (a.symm.trans c))
    ·exact JK (a▸h.apart.2.1) (λc=>h.c2.1 (a.symm.trans c)) (λc=>h.c2.2 (a.symm.trans c))
end
section
variable{m0:Dq}{w w':jD}{g d p x tt bk L:Nat}{s:St}{b:Bk}{t:Tb}{F J:Nat->Prop}{slot:UInt64}{jv:jL}{id:Int}{sv:jL}{st:UInt64}
def wO(h:BK m0 w g d p x tt bk L s b t F J slot jv id sv st){o:Option Nat}(k:OnV jv id o){i:Int}(j:EY t.wt i=jw\/o.isSome=jm):
 Calls prog 26 #[ptr0 g,fP gZ i] w λc w'=>c=gY (fP gZ (if EY t.wt i=jw then 2 else 11))/\w=w':=by
 have a:=Ac (Y3 h i);have f:=Ac (Un h k);clear h k;cases e:EY t.wt i with
 |false=>
  rw[e,ku Bool.false_ne_true]at a;go_enter func26,ntmps26
  go_wp2_with fail
  refine a.mono ?_;rintro c l⟨rfl,rfl⟩
  go_wp2_with fail
  go_ret;exact⟨rfl,rfl⟩
 |true=>
  rw[e,jM rfl]at a;rw[j.resolve_left (by rw[e];simp)]at f;clear j;go_enter func26,ntmps26
  go_wp2_with fail
  refine a.mono ?_;rintro c l⟨rfl,rfl⟩
  go_wp2_with fail
  refine f.mono ?_;rintro c l⟨rfl,rfl⟩
  go_wp2_with fail
  go_ret;exact⟨rfl,rfl⟩
def wP(h:BK m0 w g d p x tt bk L s b t F J slot .nilIface id sv st){i:Nat}(hi:i<8)(M:t.wt.ops i=jm)(R:(t.sets i).length<=16){er:Int}
 (W:(t.sets i=[]/\er=0)\/(t.sets i≠[]/\KJ t.FZ (t.sets i) (t.wt.ats i)=jm/\er=9)\/(t.sets i≠[]/\KJ t.FZ (t.sets i) (t.wt.ats i)=jw/\60000<=slot.toNat/\er=10)):
 Calls prog 26 #[ptr0 g,fP gZ (i:Int)] w λc w'=>c=gY (fP gZ er)/\
  ∃C,C.nt=b.nt/\BK m0 w' g d p x tt bk L s C (Oh t i) F J slot .nilIface id sv st/\Touch (λe=>e=bk) w w':=by
 have B:=Ac (Y3 h (i:Int));rw[jM (VC hi M)]at B;have D:=Ac (Un h (o:=iD) rfl);have u:=Ac (nT h.tb hi M O1);have r:=Ac (λf(e:η w f)=>uq (h.tb.below e) hi M O1);have P:=Ac (λf(e:η w f)=>zX (h.tb.below e) hi M);have m:Hid (∀f,η w f->CB f g 77 (Cc d p x tt slot .nilIface id sv st)):=Ac (λf e=>h.box.ξ e);have N:Hid (∀f E,η w f->∀C,C.nt=b.nt->Ht E (λe=>F e\/J e) tt bk C (Oh t i)->Touch (λe=>e=bk) f E->BK m0 E g d p x tt bk L s C (Oh t i) F J slot .nilIface id sv st/\Touch (λe=>e=bk) w E):=Ac (λf E e C ad ac Y=>⟨(h.below e).book ac ad Y,(Touch.of_below e).trans Y (λ_ c=>.inl c)⟩);obtain⟨l,S⟩:=ε (t.sets i);rw[<-S]at u r W R;have ah:=Ac R;have al:=Ac S;clear h S R;rcases W with⟨rfl,rfl⟩|⟨H,G,rfl⟩|⟨H,G,ab,rfl⟩
 ·simp only[List.length_nil]at u;clear r;go_enter func26,ntmps26
  go_wp2_with fail
  refine B.mono ?_;rintro c A⟨rfl,rfl⟩
  go_wp2_with fail
  refine D.mono ?_;rintro c A⟨rfl,rfl⟩;have a:=(m _ (Below.refl _ _)).cell 3;unfold Cc at a;simp only[Ag,Am]at a
  go_wp2_with fail
  refine u.mono ?_;rintro c A⟨Z,rfl,y,j⟩;obtain⟨T,U,K,_,_⟩:=own_rowk y;subst K;have n:=Ac j;replace a:=(m _ j).cell 3;unfold Cc at a;simp only[Ag,Am]at a;clear y j u B D
  go_wp2_with fail
  refine(P _ n.out).mono ?_;rintro c aa⟨rfl,v,X,z,k,I⟩
  go_wp2_with fail
  go_ret;exact⟨rfl,v,z,N _ _ n.out v z k I⟩
 ·have Q:0<l.length:=VH.2 H;have t5:((l.length:Int)==0)=false:=beq_eq_false_iff_ne.2 O1;rw[G]at r;clear H Q G;go_enter func26,ntmps26
  go_wp2_with fail
  refine B.mono ?_;rintro c A⟨rfl,rfl⟩
  go_wp2_with fail
  refine D.mono ?_;rintro c A⟨rfl,rfl⟩;have a:=(m _ (Below.refl _ _)).cell 3;unfold Cc at a;simp only[Ag,Am]at a
  go_wp2_with fail
  refine u.mono ?_;rintro c A⟨Z,rfl,y,j⟩;obtain⟨T,U,K,_,_⟩:=own_rowk y;subst K;have n:=Ac j;replace a:=(m _ j).cell 3;unfold Cc at a;simp only[Ag,Am]at a;clear y j u B D
  go_wp2_with fail
  refine(r _ n.out).mono ?_;rintro c aa⟨rfl,k⟩;have q:=Ac (τ n.out k);replace a:=(m _ q.out).cell 3;unfold Cc at a;simp only[Ag,Am]at a;clear k r
  go_wp2_with fail
  refine(P _ q.out).mono ?_;rintro c ae⟨rfl,v,X,z,k,I⟩
  go_wp2_with fail
  go_ret;exact⟨rfl,v,z,N _ _ q.out v z k I⟩
 ·have Q:0<l.length:=VH.2 H;have t5:((l.length:Int)==0)=false:=beq_eq_false_iff_ne.2 O1;have t1:decide ((60000:Int)<=(slot.toNat:Int))=true:=decide_eq_true O1;rw[G]at r;clear H Q G ab;go_enter func26,ntmps26
  go_wp2_with fail
  refine B.mono ?_;rintro c A⟨rfl,rfl⟩
  go_wp2_with fail
  refine D.mono ?_;rintro c A⟨rfl,rfl⟩;have a:=(m _ (Below.refl _ _)).cell 3;unfold Cc at a;simp only[Ag,Am]at a
  go_wp2_with fail
  refine u.mono ?_;rintro c A⟨Z,rfl,y,j⟩;obtain⟨T,U,K,_,_⟩:=own_rowk y;subst K;have n:=Ac j;replace a:=(m _ j).cell 3;unfold Cc at a;simp only[Ag,Am]at a;clear y j u B D
  go_wp2_with fail
  refine(r _ n.out).mono ?_;rintro c aa⟨rfl,k⟩;have q:=Ac (τ n.out k);replace a:=(m _ q.out).cell 3;have V:=(m _ q.out).cell 4;unfold Cc at a V;simp only[Ag,Am]at a V;clear k r
  go_wp2_with fail
  refine(P _ q.out).mono ?_;rintro c ae⟨rfl,v,X,z,k,I⟩
  go_wp2_with fail
  go_ret;exact⟨rfl,v,z,N _ _ q.out v z k I⟩
def wQ{lm:Mode}(h:BK (.up lm) w g d p x tt bk L s b t F J slot .nilIface id sv st){i:Nat}(hi:i<8)(Z:t.wt.ops i=jm){l:List Wr}(B:t.sets i=l)(a0:0<l.length)(aD:∀bb∈l,Du bb=jm)(aE:WA l)(az:l.length<=16)(ar:KJ t.FZ l (t.wt.ats i)=jw)
 (h1:slot.toNat<60000)(a1:(s.ws 8).toNat<=slot.toNat):
 Calls prog 26 #[ptr0 g,fP gZ (i:Int)] w λe w'=>e=gY (fP gZ 0)/\
  ∃jb vs aF,w.heap.size<=jb/\BK (.up lm) w' g d p x tt bk L s b t F (λa=>J a\/a=jb) slot (.iface 118 (ptr0 jb)) (i:Int) aF (slot+1)/\UA w' jb x d p (slot+1) vs (fD iD 0 0) jw 0 F/\
   FI w' (EF F J bk b.nt jb) vs l/\FI w' (EF F J bk b.nt jb) aF l/\Touch (λa=>a=g) w w':=by
 have C:(slot+1).toNat=slot.toNat+1:=by rw[UInt64.toNat_add];show(slot.toNat+1)%18446744073709551616=_;omega
 have bi:IntKind.u64.wrap ((slot.toNat:Int)+1)=((slot+1).toNat:Int):=by rw[C,IntKind.wrap_u64];omega
 have aR:Hid (((slot.toNat:Int)+1)%18446744073709551616=((slot+1).toNat:Int)):=Ac (by rw[C];omega);have av:EY t.wt (i:Int)=true:=by
  unfold EY;simp only[Bool.and_eq_true,decide_eq_true_eq];exact⟨O1,O1,Z⟩
 have P:=Ac (Y3 h (i:Int));rw[jM av]at P;have ab:=Ac (Aqu h);have Q:=Ac (nT h.tb hi Z (by rw[B];omega));rw[B]at Q;have N:=Ac (λk(a:η w k)=>uq (h.tb.below a) hi Z (by rw[B];omega));rw[B,ar]at N;have ac:=Ac (λk(a:η w k){v:jL}(a9:FI k (λ_=>False) v l)=>pq (x:=x) (h.ix.below a).sys a9 aD aE az (stamp:=slot+1) (by rw[C];omega) (by rw[C];omega));have f:=Ac h;have S:Hid (∀k,η w k->CB k g 77 (Cc d p x tt slot .nilIface id sv st)):=Ac (λk a=>h.box.ξ a);have A:=h.box.cell 3;unfold Cc at A;simp only[Ag,Am]at A;have t1:decide ((60000:Int)<=(slot.toNat:Int))=false:=decide_eq_false O1;have n:Hid (∀a,F a\/J a\/a=bk\/a=b.nt->a<w.heap.size):=Ac (λa c=>by
  rcases c with c|c|rfl|rfl
  ·exact h.ix.sys.lt a c
  ·exact h.jl a c
  ·exact h.tb.book.lt
  ·exact h.tb.map.lt)
 have t5:((l.length:Int)==0)=false:=beq_eq_false_iff_ne.2 O1;clear h B aD aE ar h1 a1 av C a0 az;go_enter func26,ntmps26
 go_wp2_with fail
 refine P.mono ?_;rintro e D⟨rfl,rfl⟩
 go_wp2_with fail
 refine ab.mono ?_;rintro e D⟨rfl,rfl⟩
 go_wp2_with fail
 refine Q.mono ?_;rintro e D⟨bm,rfl,T,V⟩;obtain⟨y,z,a8,_,_⟩:=own_rowk T;subst a8;have ad:=Ac T;have I:=Ac V;replace A:=(S _ V).cell 3;unfold Cc at A;simp only[Ag,Am]at A;clear T V Q P ab
 go_wp2_with fail
 refine(N _ I.out).mono ?_;rintro e q⟨rfl,W⟩;have E:=Ac W;have K:=Ac (τ I.out W);have o:=S _ K.out;have d0:=o.cell 0;have d1:=o.cell 1;have d2:=o.cell 2;have d4:=o.cell 4;unfold Cc at d0 d1 d2 d4;simp only[Ag,Am]at d0 d1 d2 d4;have aM:Hid (∀k,η q k->k.cell? (Φ g)=iC (ptr0 d)/\k.cell? (Δ g 1)=iC (ptr0 p)/\k.cell? (Δ g 2)=iC (ptr0 x)/\k.cell? (Δ g 4)=iC (fP ig (slot.toNat:Int))):=Ac (λk a=>
  ⟨(o.ξ a).cell 0,(o.ξ a).cell 1,(o.ξ a).cell 2,(o.ξ a).cell 4⟩)
 have aV:=Ac (ac _ (τ K.out ((Dr.drew q).below _)) (v:=fD y l.length z) (((WH ad.out rfl (λ_ _ _ Y=>Y):FI D (λ_=>False) (fD y l.length z) l).below E.out).below ((Dr.drew q).below _)));clear W o A N ac
 go_wp2_with fail
 go_region_held3(λw'=>w'.cell? (Φ g)=iC (ptr0 d)/\w'.cell? (Δ g 1)=iC (ptr0 p)/\w'.cell? (Δ g 2)=iC (ptr0 x)/\w'.cell? (Δ g 4)=iC (fP ig (slot.toNat:Int)))
  (first|exact⟨d0,d1,d2,d4⟩|exact aM _ (((Dr.drew q).below _).trans X))
  ((first|(go_at_call 54;refine aV.mono ?_;rintro e u⟨X,jb,vs,rfl,aw,ao,aq⟩)))
 all_goals(
  have H:η q u:=((Dr.drew q).below _).trans X;have R:η w u:=τ K.out H;have aa:q.heap.size<=jb:=aw;have m:=S _ R;have ae:=m.cell 5;have ah:=m.cell 6;have al:=m.cell 7;have am:=m.cell 8;have f5:=m.frozen 5;have f6:=m.frozen 6;have f7:=m.frozen 7;have f8:=m.frozen 8;unfold Cc at ae ah al am;simp only[Ag,Am]at ae ah al am;have M:=Ac R;have aJ:=Ac H;have an:=Ac ao;have aW:=Ac aq;have aL:=Ac aa;have aX:=Ac m;clear X H R ao aq aw aa m d0 d1 d2 d4
  go_wp2_with fail
  go_ret)
 all_goals(
  have bl:=E.size;have bj:=I.size;have aa:=aL.out;have bd:=f.box.lt;obtain⟨k,U⟩:=ε ((((u.setCell (Δ g 5) (.iface 118 (ptr0 jb))).setCell (Δ g 6) (fP gZ (i:Int))).setCell (Δ g 7) (fD y l.length z)).setCell (Δ g 8) (fP ig ((slot+1).toNat:Int)));have r:Touch (λa=>a=g) u k:=by rw[U];exact((((Touch.refl (λa=>a=g) u).setCell (p:=Δ g 5) (.inl rfl) _).setCell (p:=Δ g 6) (.inl rfl) _).setCell (p:=Δ g 7) (.inl rfl) _).setCell (p:=Δ g 8) (.inl rfl) _
  have aZ:CB k g 77 (Cc d p x tt slot (.iface 118 (ptr0 jb)) (i:Int) (fD y l.length z) (slot+1)):=by rw[U];exact(((aX.AX 5 _).AX 6 _).AX 7 _).AX 8 _
  have G:=f.below M.out;have ap:AL (EF F J bk b.nt jb) (EF F J bk b.nt jb) u k:=⟨r.mono (λa e=>.inr (.inl (by rw[e];exact f.jg))),λ_ c=>.inl c⟩;have a7:FI D (EF F J bk b.nt jb) (fD y l.length z) l:=WH ad.out rfl (λa c a6 j=>by
   rcases j with j|j|j|j|j
   ·exact absurd (n a (.inl j)) O1
   ·exact absurd (n a (.inr (.inl j))) O1
   ·exact absurd (n a (.inr (.inr (.inl j)))) O1
   ·exact absurd (n a (.inr (.inr (.inr j)))) O1
   ·omega)
  have ba:FI u (EF F J bk b.nt jb) vs l:=aW _ (λa c a6 j=>by
   have be:q.heap.size<=a:=c;rcases j with j|j|j|j|j
   ·exact absurd (n a (.inl j)) O1
   ·exact absurd (n a (.inr (.inl j))) O1
   ·exact absurd (n a (.inr (.inr (.inl j)))) O1
   ·exact absurd (n a (.inr (.inr (.inr j)))) O1
   ·omega)
  have a4:¬F jb:=λY=>absurd (n jb (.inl Y)) O1
  have a2:AL (λa=>F a\/J a) (λa=>F a\/(J a\/a=jb)) w k:=⟨(Touch.of_below M.out).trans (r.mono (λa e=>Or.inr (by rw[e];exact f.jg))) (λ_ e=>.inl e),λa c=>by
   rcases c with c|c|c
   ·exact .inl (.inl c)
   ·exact .inl (.inr c)
   ·exact .inr (by rw[c];omega)⟩
  have a5:jb≠g:=O1;rw[aR.out,<-U];refine⟨rfl,jb,vs,fD y l.length z,O1,⟨⟨G.ix.sys.keep r (λbc a3 e=>f.fg (e▸a3)) (λe=>f.c3.1 e.symm) (λe=>f.c3.2 e.symm),G.ix.box.touch r (λe=>f.g4 e.symm),G.ix.out⟩,f.tb.moved a2,.inl f.jg,?_,aZ,f.fg,f.g1,f.g2,f.g3,f.g4,f.x1,f.x2,f.c1,f.c2,f.c3⟩,⟨an.touch r a5,a4⟩,ba.moved ap,((a7.below E.out).below aJ.out).moved ap,(Touch.of_below M.out).trans r (λ_ e=>.inl e)⟩;intro a c;have bh:=r.size;have bg:=an.lt;rcases c with c|c
  ·have:=f.jl a c;omega
  ·rw[c];omega)
end
