import Derived.Test.YtfmkofmaabgbkaaGreatDoorJ04
set_option linter.defProp false
set_option maxHeartbeats 32000000
set_option maxRecDepth 100000
open Nat renaming le_refl->Ae,le_trans->Bq,le_of_lt->LP,le_of_not_lt->Alb,zero_add->DI
open List renaming getElem?_eq_getElem->Ah,getElem?_set->Ic,set_set_perm->Agv,getElem?_eq_none->FQ,getElem?_map->DJ,map_set->SK,getElem?_cons_zero->Ag,length_append->AP,length_singleton->Nb
open Go.Lib renaming hid->Ac
open Option renaming map_some->Ez
open Go.Value renaming ownBlock->AV
open Go.Value renaming slice->fD,int->fP,tuple->gJ,pointer->gV
open Go.Ending renaming returned->gY
open Go.IntKind renaming i64->gZ
open Option renaming some->iC
open Go renaming World->jD
namespace Go.Proofs.YtfmkofmaabgbkaaGreatDoor
open Go.Proofs.Tryz
def Sr(f:Nat->Nat)(i j k:Nat):Nat:=if k=i then f j else if k=j then f i else f k
def FX(f:Nat->Nat)(n:Nat):Prop:=∀a,0<a->a<n->f ((a-1)/2)<=f a
def Np(f:Nat->Nat)(i n:Nat):Prop:=
 (∀a,0<a->a<n->(a-1)/2≠i->f ((a-1)/2)<=f a)/\(0<i->∀a,0<a->a<n->(a-1)/2=i->f ((i-1)/2)<=f a)
def Rq(f:Nat->Nat)(i n:Nat):Prop:=
 (∀a,0<a->a<n->a≠i->f ((a-1)/2)<=f a)/\(0<i->∀a,0<a->a<n->(a-1)/2=i->f ((i-1)/2)<=f a)
def aS{f:Nat->Nat}{n:Nat}(h:FX f n):∀a,a<n->f 0<=f a:=by
 intro a;induction a using Nat.strongRecOn with
 |ind a d=>
  intro c;by_cases b:a=0
  ·subst b;exact Ae _
  ·exact Bq (d ((a-1)/2) O O) (h a O c)
def UO{f:Nat->Nat}{n:Nat}(h:FX f (n+1)):Np (Sr f 0 n) 0 n:=by
 refine⟨λc a d b=>?_,λh=>absurd h O⟩;have:=h c a O;unfold Sr;rw[ku b,ku O,ku O,ku O];exact this
def JI{f:Nat->Nat}{i j n:Nat}(h:Np f i n)(p:0<j)(q:j<n)(k:(j-1)/2=i)(s:∀a,0<a->a<n->(a-1)/2=i->f j<=f a)(r:f j<f i):Np (Sr f i j) j n:=by
 obtain⟨m,o⟩:=h;have t:i<j:=O;refine⟨λa b d l=>?_,λ_ a b d l=>?_⟩
 ·unfold Sr;by_cases e:a=i
  ·subst e;rw[ku O,ku O,jM rfl];exact o b j p q k
  ·by_cases g:a=j
   ·subst g;rw[jM k,ku O,jM rfl];exact LP r
   ·by_cases c:(a-1)/2=i
    ·rw[jM c,ku e,ku g];exact s a b d c
    ·rw[ku c,ku l,ku e,ku g];exact m a b d c
 ·unfold Sr;rw[k,jM rfl,ku O,ku O];have:=m a b d O;rw[l]at this;exact this
def Ir{f:Nat->Nat}{i n:Nat}(h:Np f i n)(e:∀a,0<a->a<n->(a-1)/2=i->f i<=f a):FX f n:=by
 intro a b d;by_cases c:(a-1)/2=i
 ·rw[c];exact e a b d c
 ·exact h.1 a b d c
def Yu{f:Nat->Nat}{i j n:Nat}(h:Rq f j n)(r:0<j)(u:j<n)(m:(j-1)/2=i)(s:f j<f i):Rq (Sr f i j) i n:=by
 obtain⟨k,p⟩:=h;have t:i<j:=O;refine⟨λb c d e=>?_,λq b c d e=>?_⟩
 ·unfold Sr;by_cases a:b=j
  ·subst a;rw[jM m,ku O,jM rfl];exact LP s
  ·by_cases g:(b-1)/2=i
   ·rw[jM g,ku e,ku a];have:=k b c d a;rw[g]at this;omega
   ·by_cases l:(b-1)/2=j
    ·rw[ku g,jM l,ku e,ku a];have:=p r b c d l;rw[m]at this;exact this
    ·rw[ku g,ku l,ku e,ku a];exact k b c d a
 ·unfold Sr;have o:=k i q O O;by_cases a:b=j
  ·subst a;rw[ku O,ku O,ku O,jM rfl];exact o
  ·rw[ku O,ku O,ku O,ku a];have:=k b c d a;rw[e]at this;exact Bq o this
def Rt{f:Nat->Nat}{j n:Nat}(h:Rq f j n)(d:0<j->f ((j-1)/2)<=f j):FX f n:=by
 intro b a e;by_cases c:b=j
 ·subst c;exact d a
 ·exact h.1 b a e c
section
variable{α:Type}
def Fq(key:α->Nat)(l:List α)(k:Nat):Nat:=(l[k]?.map key).getD 0
def KR(l:List α)(i j:Nat):List α:=match l[i]?,l[j]? with
 |some a,some b=>(l.set i b).set j a
 |_,_=>l
def Wp(l:List α)(i j:Nat)(hi:i<l.length)(a:j<l.length):KR l i j=(l.set i l[j]).set j l[i]:=by
 simp[KR,Ah hi,Ah a]
def Ru(l:List α)(i j:Nat):(KR l i j).length=l.length:=by
 unfold KR;split<;>simp
def Qx(l:List α)(i j:Nat)(hi:i<l.length)(c:j<l.length)(k:Nat):(KR l i j)[k]?=if k=i then l[j]? else if k=j then l[i]? else l[k]?:=by
 rw[Wp l i j hi c,Ic,Ic];simp only[List.length_set];by_cases b:k=i
 ·subst b;by_cases a:j=k
  ·subst a;simp[c]
  ·rw[ku a];simp[hi,c]
 ·by_cases a:k=j
  ·subst a;simp[hi,c,b]
  ·rw[ku (λd=>a d.symm),ku (λd=>b d.symm),ku b,ku a]
def Qy(key:α->Nat)(l:List α)(i j:Nat)(hi:i<l.length)(c:j<l.length):Fq key (KR l i j)=Sr (Fq key l) i j:=by
 funext k;unfold Fq Sr;rw[Qx l i j hi c];by_cases a:k=i
 ·rw[jM a,jM a]
 ·rw[ku a,ku a];by_cases b:k=j
  ·rw[jM b,jM b]
  ·rw[ku b,ku b]
def OM(l:List α)(i j:Nat):(KR l i j).Perm l:=by
 by_cases a:i<l.length
 ·by_cases b:j<l.length
  ·rw[Wp l i j a b];rcases Nat.lt_trichotomy i j with h|h|h
   ·exact Agv a b
   ·subst h;simp
   ·exact Agv a b
  ·simp[KR,FQ (Alb b)]
 ·simp[KR,FQ (Alb a)]
end
open Go.RowKit
def iv(k:Nat):Value:=fP gZ (k:Int)
def yX(A:Option Addr)(n c:Nat)(w:jD)(_:n<=1000000):Calls prog 229 #[fD A n c] w λa b=>a=gY (fP gZ (n:Int))/\w=b:=by
 go_enter func229,ntmps229;go_wp2;go_ret;exact⟨rfl,rfl⟩
def Ab7(g n c i j:Nat)(l:List Nat)(w:jD)(hi:i<n)(o:j<n)(t:n<=1000000)(h:Rd w (iC (Φ g)) n (l.map iv)):
 Calls prog 271 #[fD (iC (Φ g)) n c,fP gZ (i:Int),fP gZ (j:Int)] w λa p=>a=gY (.bool (decide (Fq id l i<Fq id l j)))/\Dr w p:=by
 have s:l.length=n:=by simpa using h.1
 obtain⟨q,u,a,r,b⟩:=h.2 O;injection a with a
 injection a with k m
 subst k m;have e:=b i hi;have f:=b j o;rw[DI,DJ,Ah (show i<l.length by omega)]at e;rw[DI,DJ,Ah (show j<l.length by omega)]at f;have d:Hid (decide (Fq id l i<Fq id l j)=decide (l[i]<l[j])):=Ac (by
  simp only[Fq,Ah (show i<l.length by omega),Ah (show j<l.length by omega),Ez,id,Option.getD_some])
 rw[d.out];simp only[Ez,iv]at e f;generalize l[i]=v at*;generalize l[j]=x at*;clear h b d;go_enter func271,ntmps271
 go_wp2_with fail
 go_quiet(fail)
 go_wp2_with fail
 go_ret;exact⟨rfl,_,rfl⟩
def Ab8(g n c i j k:Nat)(l:List Nat)(w:jD)(hi:i<n)(e:j<n)(G:n<=1000000)(h:w.ownsRow k 3 1 (fD (iC (Φ g)) n c) n (l.map iv)):
 Calls prog 274 #[fD (iC (Φ g)) n c,fP gZ (i:Int),fP gZ (j:Int)] w λb v=>b=gY (gJ #[])/\
  v.ownsRow k 3 1 (fD (iC (Φ g)) n c) n ((KR l i j).map iv)/\Touch (λa=>a=g) w v:=by
 have E:l.length=n:=by simpa using h.1
 obtain⟨_,t⟩:=CQ h;obtain⟨a,H,b,D,m⟩:=t.2 O;injection b with b
 injection b with x y
 subst x y;have r:=m i hi;have s:=m j e;rw[DI,DJ,Ah (show i<l.length by omega)]at r;rw[DI,DJ,Ah (show j<l.length by omega)]at s;simp only[Ez,iv]at r s;have f1:=(VW h hi).2;have o:Hid (∀d,Dr w d->((d.setCell (Δ g i) (iv l[j])).setCell (Δ g j) (iv l[i])).ownsRow k 3 1 (fD (iC (Φ g)) n c) n ((KR l i j).map iv)/\Touch (λa=>a=g) w ((d.setCell (Δ g i) (iv l[j])).setCell (Δ g j) (iv l[i]))):=Ac (λd f=>by
  refine⟨?_,(((Touch.of_below (F:=λa=>a=g) (f.below _)).setCell (p:=Δ g i) (.inl rfl) _).setCell (p:=Δ g j) (.inl rfl) _)⟩;rw[Wp l i j O O,SK,SK];exact P9 (P9 (own_below h (f.below _)) hi) e)
 have q:Hid (∀d,Dr w d->((d.setCell (Δ g j) (iv l[i])).setCell (Δ g i) (iv l[j])).ownsRow k 3 1 (fD (iC (Φ g)) n c) n ((KR l i j).map iv)/\Touch (λa=>a=g) w ((d.setCell (Δ g j) (iv l[i])).setCell (Δ g i) (iv l[j]))):=Ac (λd f=>by
  refine⟨?_,(((Touch.of_below (F:=λa=>a=g) (f.below _)).setCell (p:=Δ g j) (.inl rfl) _).setCell (p:=Δ g i) (.inl rfl) _)⟩;have b:(l.set i l[j]).set j l[i]=(l.set j l[i]).set i l[j]:=by
   by_cases b:i=j
   ·subst b;rfl
   ·exact List.set_comm _ _ b
  rw[Wp l i j O O,b,SK,SK];exact P9 (P9 (own_below h (f.below _)) e) hi)
 obtain⟨⟨I,z⟩,B⟩:=VW (P9 (u:=iv l[j]) h hi) e;obtain⟨⟨J,A⟩,C⟩:=VW (P9 (u:=iv l[i]) h e) hi;simp only[iv]at o q z A B C;generalize l[i]=K at*;generalize l[j]=L at*;clear h m t;go_enter func274,ntmps274
 go_wp2_with fail
 go_region
 all_goals trace_state
 all_goals(go_wp2_with fail)
 all_goals(go_end0)
 all_goals(first
  |exact⟨rfl,o _ (show Dr w w.drew from⟨1,rfl⟩)⟩
  |exact⟨rfl,q _ (show Dr w w.drew from⟨1,rfl⟩)⟩)
def Tryz.Atj:Ig prog 345 3 (fP gZ 0) 1 8:=⟨underlying345,by kernel_rfl,rfl⟩
structure EH(w:jD)(B o g c:Nat)(l:List Nat):Prop where
 box:CB w o 345 [fD (iC (Φ g)) l.length c]
 row:w.ownsRow B 3 1 (fD (iC (Φ g)) l.length c) l.length (l.map iv)
 ne:o≠g
 hB:B<=o
 len:l.length<=1000
def EH.glt{w:jD}{B o g c:Nat}{l:List Nat}(h:EH w B o g c l):B<=g/\g<w.heap.size:=by
 rcases h.row.2 with⟨b,_⟩|⟨i,e,f,a,hB,d,_⟩
 ·cases b
 ·simp only[Value.slice.injEq,Option.some.injEq,Addr.mk.injEq,and_true,true_and]at a;obtain⟨rfl,rfl⟩:=a;exact⟨hB,(Array.getElem?_eq_some_iff.1 d).1⟩
def EH.touch{w w':jD}{B o g c:Nat}{l:List Nat}{G:Nat->Prop}(h:EH w B o g c l)(t:Touch G w w')(h1:¬G o)(h2:¬G g):EH w' B o g c l:=by
 refine⟨h.box.touch t h1,Gj h.row t (λa b=>?_),h.ne,h.hB,h.len⟩;have:g=a:=by simpa[AV]using b
 subst this;exact h2
def EH.below{w w':jD}{B o g c:Nat}{l:List Nat}(h:EH w B o g c l)(t:η w w'):EH w' B o g c l:=
 h.touch (Touch.of_below (F:=λ_=>False) t) id id
def assert_int(x:Int)(w:jD):(Instr.typeAssert (.iface 3 (fP gZ x)) 20 3 true).run prog w=.ok (gJ #[fP gZ x,.bool true]) w:=by kernel_rfl
def Ame{w:jD}{B o g c:Nat}{l:List Nat}(s:Nat)(h:EH w B o g c l)(L:l.length<1000):
 Calls prog 273 #[ptr0 o,.iface 3 (fP gZ (s:Int))] w λb C=>b=gY (gJ #[])/\
  ∃q D,EH C B o q D (l++[s])/\(q=g\/w.heap.size<=q)/\Touch (λd=>d=o\/d=g) w C:=by
 have u:=h.box.cell 0;have f0:=h.box.frozen 0;have t:=h.box.lt;have z:=h.row;have E:=h.hB;have F:B<=w.heap.size:=O;have i:=Ac h;simp only[Ag]at u;obtain⟨f,k⟩:∃f,l.length=f:=⟨_,rfl⟩;rw[k]at z u L;clear h;have N:=assert_int (s:Int);go_enter func273,ntmps273
 go_wp2_with(at_builtin;go_loud(refine BC rfl (.tmp 15) (.tmp 17) 345 rfl Tryz.Atj w B (fD (iC (Φ g)) f c) f (l.map iv) [iv s] rfl z rfl w.heap.size 1 rfl rfl rfl U (by intro P A;simp at A;subst A;rfl) O U F ?_;intro e n m G r j x;have Q:=(World.cell?_of_block (w:=w) (a:=Φ o) (j.2 o t (λb=>i.ne (by simpa[AV]using b)))).trans u;have f2:=(World.frozen?_of_block (w:=w) (a:=Φ o) (j.2 o t (λb=>i.ne (by simpa[AV]using b)))).trans f0))
 go_end0;have y:¬o=e:=λb=>by
  rcases x with h|h
  ·exact i.ne (by rw[b];simpa[AV]using h.symm)
  ·omega
 have H:Touch (λd=>d=o\/d=g) w (m.setCell (Φ o) (fD (iC (Φ e)) (f+1) n)):=by
  refine Touch.setCell (w:=w) (w':=m) ⟨r.os,r.tape,r.output,j.1,λM K k=>j.2 M K (λb=>k (.inr (by simpa[AV]using b)))⟩ (p:=Φ o) (.inl (.inl rfl)) _
 have J:CB m o 345 [fD (iC (Φ g)) l.length c]:=(j.2 o t (λb=>i.ne (by simpa[AV]using b))).trans i.box;refine⟨rfl,e,n,⟨?_,?_,y,E,by simp;omega⟩,?_,H⟩
 ·have:=J.AX 0 (fD (iC (Φ e)) (f+1) n);rw[AP,k];exact this
 ·have v:=G;rw[show l.map iv++[iv s]=(l++[s]).map iv by simp]at v;rw[AP,k];refine Gj v ((Touch.refl (λd=>d=o) m).setCell (p:=Φ o) (.inl rfl) _) (λd I b=>?_);have:e=d:=by simpa[AV]using I
  exact y (by rw[this,b])
 ·rcases x with h|h
  ·left;have:g=e:=by simpa[AV]using h
   exact this.symm
  ·exact .inr h
def Apt{w:jD}{B o g c:Nat}{l:List Nat}(s:Nat)(h:EH w B o g c (l++[s])):
 Calls prog 272 #[ptr0 o] w λb x=>b=gY (.iface 3 (fP gZ (s:Int)))/\EH x B o g c l/\Touch (λa=>a=o\/a=g) w x:=by
 have u:=h.len;rw[AP,Nb]at u;have y:=h.box.cell 0;have f0:=h.box.frozen 0;have j:=h.row;have z:=(CQ j).2.2 Θ;have t:=(CQ j).1;rw[AP,Nb]at t;obtain⟨a,N,b,q,r⟩:=z;injection b with b
 injection b with C D
 subst C D;have i:=r l.length Θ;rw[DI,DJ,List.getElem?_append_right (Ae _),Nat.sub_self]at i;simp only[Ag,Ez,iv]at i;simp only[Ag,AP,Nb]at y;obtain⟨m,e⟩:∃m,l.length=m:=⟨_,rfl⟩;rw[e]at y i t;have d:=Ac h;have f:=Ac e;rw[e]at u;clear h r j e;go_enter func272,ntmps272;go_wp2;go_ret;refine⟨rfl,⟨?_,?_,d.ne,d.hB,by rw[f.out];omega⟩,((Touch.refl (λa=>a=o\/a=g) w).setCell (p:=Φ o) (.inl (.inl rfl)) _)⟩
 ·have:=d.box.AX 0 (fD (iC (Φ g)) m c);rw[f.out];exact this
 ·have F:=d.row;have n:w.ownsRow B 3 1 (fD (iC (Φ g)) l.length c) l.length (l.map iv):=by
   refine⟨by simp,?_⟩;rcases F.2 with⟨E,_⟩|⟨M,L,A,k,G,J,K,H,I,v⟩
   ·cases E
   ·simp only[AP,Nb]at k K v;simp only[Value.slice.injEq,Option.some.injEq,Addr.mk.injEq,and_true,true_and]at k;obtain⟨rfl,rfl⟩:=k;refine .inr ⟨g,c,A,rfl,G,J,O,H,I,?_⟩;have:=congrArg (List.take l.length) v;rw[List.take_take,Nat.min_eq_left O]at this;simpa using this
  rw[f.out]at n⊢;refine Gj n ((Touch.refl (λa=>a=o) w).setCell (p:=Φ o) (.inl rfl) _) (λa q b=>?_);have:g=a:=by simpa[AV]using q
  exact d.ne (by rw[this,b])
def Aeg(f:Nat)(a:Addr)(w:jD):(method (f+1) 335 (gV (iC a)) "Push").run prog w=.ok (273,gV (iC a)) w:=by kernel_rfl
def Aib(f:Nat)(a:Addr)(w:jD):(method (f+1) 335 (gV (iC a)) "Pop").run prog w=.ok (272,gV (iC a)) w:=by kernel_rfl
def yY{P:Program}(t:TypeId)(a:Addr)(x y:String)(w:jD):(Builtin.ssaWrapNilChk_ #[t] t #[gV (iC a),strVal x,strVal y]).run P w=.ok (gV (iC a)) w:=rfl
def aT{P:Program}{t e:TypeId}{k:String}{F:FuncId}{d:TypeDesc}(p:P.underlying t=iC (.pointer e))(_hd:P.underlying e=iC d)
 (b:(P.info? t).map (λi=>(i.methods.find? (·.name==k)).map (λj=>(j.path,j.func)))=iC (iC (#[],iC (F,false))))(f:Nat)(a:Addr)(w:jD)(v:Value)(n:(loadVar e a).run P w=.ok v w):
 (method (f+1) t (gV (iC a)) k).run P w=.ok (F,v) w:=by
 cases g:P.info? t with
 |none=>simp[g]at b
 |some i=>
  rw[g]at b;simp only[Ez,Option.some.injEq]at b;cases c:i.methods.find? (·.name==k)with
  |none=>simp[c]at b
  |some j=>
   rw[c]at b;simp only[Ez,Option.some.injEq,Prod.mk.injEq]at b;obtain⟨l,m⟩:=b;have o:=run_underlying (P:=P) p;simp[method,typeInfo,g,c,l,m,follow,receiverAt,o,Place.get,yY,asAddr,Sem.run_bind,n]
def aU(o:Nat)(v:Value)(w:jD)(h:w.cell? (Φ o)=iC v):(loadVar 345 (Φ o)).run prog w=.ok v w:=by
 have a:=run_underlying (P:=prog) underlying345;simp[loadVar,isAgg,a,Sem.run_bind,h]
def ji(f o:Nat)(v:Value)(w:jD)(h:w.cell? (Φ o)=iC v):(method (f+1) 335 (ptr0 o) "Less").run prog w=.ok (271,v) w:=
 aT underlying335 underlying345 Γ f _ w v (aU o v w h)
def Aic(f o:Nat)(v:Value)(w:jD)(h:w.cell? (Φ o)=iC v):(method (f+1) 335 (ptr0 o) "Len").run prog w=.ok (229,v) w:=
 aT underlying335 underlying345 Γ f _ w v (aU o v w h)
def jk(f o:Nat)(v:Value)(w:jD)(h:w.cell? (Φ o)=iC v):(method (f+1) 335 (ptr0 o) "Swap").run prog w=.ok (274,v) w:=
 aT underlying335 underlying345 Γ f _ w v (aU o v w h)
def EH.swapped{w w':jD}{B o g c n i j:Nat}{l:List Nat}(h:EH w B o g c l)(e:l.length=n)(f:w'.ownsRow B 3 1 (fD (iC (Φ g)) n c) n ((KR l i j).map iv))(t:Touch (λb=>b=g) w w'):EH w' B o g c (KR l i j):=by
 have a:=Ru l i j;have d:=h.box.touch t h.ne;refine⟨by rw[a];exact d,by rw[a,e];exact f,h.ne,h.hB,by rw[a];exact h.len⟩
def Apu{w:jD}{B o g c:Nat}{l:List Nat}(j:Nat)(h:EH w B o g c l)(A:j<l.length)(y:Rq (Fq id l) j l.length):
 Calls prog 162 #[.iface 335 (ptr0 o),fP gZ (j:Int)] w λq S=>q=gY (gJ #[])/\
  ∃a,a.Perm l/\FX (Fq id a) l.length/\EH S B o g c a/\Touch (λb=>b=o\/b=g) w S:=by
 obtain⟨i,C⟩:∃i,l.length=i:=⟨_,rfl⟩;have Y:=h.len;rw[C]at A y Y⊢;go_enter func162,ntmps162
 go_wp2_with fail
 go_loopw [1](λd wr=>∃e a,e<i/\d=fP gZ (e:Nat)/\a.Perm l/\Rq (Fq id a) e i/\EH wr B o g c a/\Touch (λb=>b=o\/b=g) w wr)(λd _=>(intOf d).toNat)
 case atStart=>exact⟨j,l,A,rfl,List.Perm.refl _,y,h,Touch.refl _ _⟩
 case round=>
  obtain⟨e,a,r,rfl,t,z,D,H⟩:=hrel;clear h A y;have R:a.length=i:=by rw[t.length_eq];exact C
  by_cases X:e=0
  ·subst X
   go_wp2_with fail
   go_end0;exact⟨rfl,a,t,Rt z (λh=>absurd h O),D,H⟩
  ·have N:=Ac z;have p:=Ac D;have M:=Ac t;have L:=Ac H;have f:=Ac R;clear z D t H R C;obtain⟨d,Q⟩:∃d,(e-1)/2=d:=⟨_,rfl⟩;have ac:d<e:=O;have ab:((e:Int) -1)/2=(d:Int):=O;have t1:((d:Int)==(e:Int))=false:=ζ O;have J:=p.box.cell 0;simp only[Ag,f.out]at J;have E:=(CQ p.row).2;rw[f.out]at E;have m:=Ac (Ab7 g i c e d a wr r O O E);have Z:=λx=>ji x o _ wr J
   clear E;by_cases k:Fq id a e<Fq id a d
   ·rw[decide_eq_true k]at m;have u:=Ac k;clear k
    go_wp2_with fail
    refine m.mono ?_;rintro q I⟨rfl,n⟩;have s:=p.below (n.below _);have K:=s.box.cell 0;simp only[Ag,f.out]at K;have aa:=λx=>jk x o _ I K
    have G:=s.row;rw[f.out]at G;have W:=Ac (Ab8 g i c d e B a I O r O G);have U:=Ac s;clear Z J s G m
    go_wp2_with fail
    refine W.mono ?_;rintro q ad⟨rfl,P,v⟩;have V:=Ac (U.swapped f.out P v);have T:=Ac ((L.trans (Touch.of_below (F:=λb=>b=o\/b=g) (n.below _)) (λb h=>.inl h)).trans (v.mono (λb h=>.inr h)) (λb h=>.inl h));clear aa K P v
    go_wp2_with fail
    go_roundw
    case rel=>
     refine⟨d,KR a d e,O,rfl,(OM _ _ _).trans M.out,?_,V.out,T.out⟩;rw[Qy id a d e (by rw[f.out];omega) (by rw[f.out];exact r)];exact Yu N.out O r Q u.out
    case measure=>simp[intOf];omega
   ·rw[decide_eq_false k]at m;have u:=Ac k;clear k
    go_wp2_with fail
    refine m.mono ?_;rintro q I⟨rfl,n⟩
    go_wp2_with fail
    go_end0;exact⟨rfl,a,M.out,Rt N.out (λ_=>by have:=u.out;rw[<-Q]at this;omega),p.below (n.below _),L.trans (Touch.of_below (F:=λb=>b=o\/b=g) (n.below _)) (λb h=>.inl h)⟩
section
variable{w:jD}{B o g c N:Nat}{l:List Nat}
def EH.rU(h:EH w B o g c l)(b:l.length=N):∀a,(method (a+1) 335 (ptr0 o) "Less").run prog w=.ok (271,fD (iC (Φ g)) N c) w:=λa=>
 ji a o _ w (by have:=h.box.cell 0;simpa only[Ag,b]using this)
def EH.Atk(h:EH w B o g c l)(b:l.length=N):∀a,(method (a+1) 335 (ptr0 o) "Len").run prog w=.ok (229,fD (iC (Φ g)) N c) w:=λa=>
 Aic a o _ w (by have:=h.box.cell 0;simpa only[Ag,b]using this)
def EH.Ab9(h:EH w B o g c l)(b:l.length=N):∀a,(method (a+1) 335 (ptr0 o) "Swap").run prog w=.ok (274,fD (iC (Φ g)) N c) w:=λa=>
 jk a o _ w (by have:=h.box.cell 0;simpa only[Ag,b]using this)
def EH.less(h:EH w B o g c l)(f:l.length=N)(i j:Nat)(hi:i<N)(e:j<N)(b:Bool)(d:decide (Fq id l i<Fq id l j)=b):
 Calls prog 271 #[fD (iC (Φ g)) N c,fP gZ (i:Int),fP gZ (j:Int)] w λa k=>a=gY (.bool b)/\Dr w k:=by
 subst f d;have:=h.len;exact Ab7 g l.length c i j l w hi e O (CQ h.row).2
def EH.swap(h:EH w B o g c l)(m:l.length=N)(i j:Nat)(hi:i<N)(k:j<N):
 Calls prog 274 #[fD (iC (Φ g)) N c,fP gZ (i:Int),fP gZ (j:Int)] w λd b=>d=gY (gJ #[])/\EH b B o g c (KR l i j)/\Touch (λa=>a=o\/a=g) w b:=by
 subst m;have:=h.len;refine(Ab8 g l.length c i j B l w hi k O h.row).mono ?_;rintro d b⟨rfl,f,e⟩;exact⟨rfl,h.swapped rfl f e,e.mono (λa h=>.inr h)⟩
def Aid(n:Nat)(h:EH w B o g c l)(ad:l.length=N)(aF:n<N)(ae:Np (Fq id l) 0 n):
 Calls prog 200 #[.iface 335 (ptr0 o),fP gZ 0,fP gZ (n:Int)] w λv ao=>(∃b,v=gY (.bool b))/\
  ∃e,e.Perm l/\FX (Fq id e) n/\(∀a,n<=a->e[a]?=l[a]?)/\EH ao B o g c e/\Touch (λb=>b=o\/b=g) w ao:=by
 have aq:=h.len;rw[ad]at aq;go_enter func200,ntmps200
 go_wp2_with fail
 go_loopw [7](λd wr=>∃a e,(a=0\/a<n)/\d=fP gZ (a:Nat)/\e.Perm l/\Np (Fq id e) a n/\(∀a,n<=a->e[a]?=l[a]?)/\EH wr B o g c e/\Touch (λb=>b=o\/b=g) w wr)(λd _=>n-(intOf d).toNat)
 case atStart=>exact⟨0,l,.inl rfl,rfl,List.Perm.refl _,ae,λ_ _=>rfl,h,Touch.refl _ _⟩
 case round=>
  obtain⟨d,e,aE,rfl,u,ah,k,am,an⟩:=hrel;have al:e.length=N:=by rw[u.length_eq];exact ad
  have L:=Ac ah;have A:=Ac am;have K:=Ac u;have ab:=Ac an;have J:=Ac k;have i:=Ac al;have aJ:d<=n:=O;clear h ae ah am u an k al ad;by_cases az:n<=2*d+1
  ·have t1:decide ((n:Int)<=2*(d:Int)+1)=true:=decide_eq_true O
   go_wp2_with fail
   go_ret;exact⟨⟨_,rfl⟩,e,K.out,Ir L.out (λa y k u=>O),J.out,A.out,ab.out⟩
  ·have t1:decide ((n:Int)<=2*(d:Int)+1)=false:=decide_eq_false O;obtain⟨f,x⟩:∃f,2*d+1=f:=⟨_,rfl⟩;obtain⟨j,M⟩:∃j,f+1=j:=⟨_,rfl⟩;have av:2*(d:Int)+1=(f:Int):=O;have aw:(f:Int)+1=(j:Int):=O;have t4:decide ((n:Int)<=(f:Int))=false:=decide_eq_false O;have t5:decide ((f:Int)<0)=false:=decide_eq_false O;have P:Hid (2*d+1=f):=Ac x;have Q:Hid (2*d+2=j):=Ac O;have aL:f<n:=O;clear t1 x M;by_cases aD:j<n
   ·have t2:decide ((j:Int)<(n:Int))=true:=decide_eq_true O;by_cases ac:Fq id e j<Fq id e f
    ·have R:=Ac ac;clear ac;have Y:=A.rU i.out
     go_wp2_with fail
     refine(A.less i.out j f O O true (decide_eq_true R.out)).mono ?_;rintro v ar⟨rfl,W⟩;have E:=A.below (W.below _);have G:=ab.trans (Touch.of_below (F:=λb=>b=o\/b=g) (W.below _)) (λb h=>.inl h);have p:=Ac E;have C:=Ac G;clear E G;have H:=p.rU i.out;have x:j<n:=O;have M:(j-1)/2=d:=Ψ P.out Q.out;have z:Hid (∀a,0<a->a<n->(a-1)/2=d->Fq id e j<=Fq id e a):=Ac (λa y k u=>by
      have X:a=f\/a=j:=Ψ P.out Q.out;rcases X with rfl|rfl
      ·have:=R.out;omega
      ·exact Ae _)
     by_cases s:Fq id e j<Fq id e d
     ·have m:=Ac s;clear s;clear Y
      go_wp2_with fail
      refine(p.less i.out j d O O true (decide_eq_true m.out)).mono ?_;rintro v aa⟨rfl,q⟩;have r:=p.below (q.below _);have t:=C.trans (Touch.of_below (F:=λb=>b=o\/b=g) (q.below _)) (λb h=>.inl h);have Z:=r.Ab9 i.out;have V:=Ac r;have S:=Ac t;clear H r t
      go_wp2_with fail
      refine(V.swap i.out d j O O).mono ?_;rintro v ap⟨rfl,D,I⟩;have U:=Ac D;have T:=Ac (S.trans I (λb h=>.inl h));clear Z D I
      go_wp2_with fail
      go_roundw
      case rel=>
       refine⟨j,KR e d j,.inr x,rfl,(OM _ _ _).trans K.out,?_,λa k=>?_,U.out,T.out⟩
       ·rw[Qy id e d j (by rw[i.out];omega) (by rw[i.out];omega)];exact JI L.out O x M z.out m.out
       ·rw[Qx e d j (by rw[i.out];omega) (by rw[i.out];omega),ku O,ku O];exact J a k
      case measure=>simp[intOf];omega
     ·have m:=Ac s;clear s;clear Y
      go_wp2_with fail
      refine(p.less i.out j d O O false (decide_eq_false m.out)).mono ?_;rintro v aa⟨rfl,q⟩;have r:=p.below (q.below _);have t:=C.trans (Touch.of_below (F:=λb=>b=o\/b=g) (q.below _)) (λb h=>.inl h);clear H
      go_wp2_with fail
      go_ret;exact⟨⟨_,rfl⟩,e,K.out,Ir L.out (λa y k u=>Ψ (z a y k u) m.out),J.out,r,t⟩
    ·have R:=Ac ac;clear ac;have Y:=A.rU i.out
     go_wp2_with fail
     refine(A.less i.out j f O O false (decide_eq_false R.out)).mono ?_;rintro v ar⟨rfl,W⟩;have E:=A.below (W.below _);have G:=ab.trans (Touch.of_below (F:=λb=>b=o\/b=g) (W.below _)) (λb h=>.inl h);have p:=Ac E;have C:=Ac G;clear E G;have H:=p.rU i.out;have x:f<n:=O;have M:(f-1)/2=d:=Ψ P.out Q.out;have z:Hid (∀a,0<a->a<n->(a-1)/2=d->Fq id e f<=Fq id e a):=Ac (λa y k u=>by
      have X:a=f\/a=j:=Ψ P.out Q.out;rcases X with rfl|rfl
      ·exact Ae _
      ·have:=R.out;omega)
     by_cases s:Fq id e f<Fq id e d
     ·have m:=Ac s;clear s;clear Y
      go_wp2_with fail
      refine(p.less i.out f d O O true (decide_eq_true m.out)).mono ?_;rintro v aa⟨rfl,q⟩;have r:=p.below (q.below _);have t:=C.trans (Touch.of_below (F:=λb=>b=o\/b=g) (q.below _)) (λb h=>.inl h);have Z:=r.Ab9 i.out;have V:=Ac r;have S:=Ac t;clear H r t
      go_wp2_with fail
      refine(V.swap i.out d f O O).mono ?_;rintro v ap⟨rfl,D,I⟩;have U:=Ac D;have T:=Ac (S.trans I (λb h=>.inl h));clear Z D I
      go_wp2_with fail
      go_roundw
      case rel=>
       refine⟨f,KR e d f,.inr x,rfl,(OM _ _ _).trans K.out,?_,λa k=>?_,U.out,T.out⟩
       ·rw[Qy id e d f (by rw[i.out];omega) (by rw[i.out];omega)];exact JI L.out O x M z.out m.out
       ·rw[Qx e d f (by rw[i.out];omega) (by rw[i.out];omega),ku O,ku O];exact J a k
      case measure=>simp[intOf];omega
     ·have m:=Ac s;clear s;clear Y
      go_wp2_with fail
      refine(p.less i.out f d O O false (decide_eq_false m.out)).mono ?_;rintro v aa⟨rfl,q⟩;have r:=p.below (q.below _);have t:=C.trans (Touch.of_below (F:=λb=>b=o\/b=g) (q.below _)) (λb h=>.inl h);clear H
      go_wp2_with fail
      go_ret;exact⟨⟨_,rfl⟩,e,K.out,Ir L.out (λa y k u=>Ψ (z a y k u) m.out),J.out,r,t⟩
   ·have t2:decide ((j:Int)<(n:Int))=false:=decide_eq_false O;have E:=A.out;have G:=ab.out;have p:=Ac E;have C:=Ac G;clear E G;have H:=p.rU i.out;have x:f<n:=O;have M:(f-1)/2=d:=Ψ P.out Q.out;have z:Hid (∀a,0<a->a<n->(a-1)/2=d->Fq id e f<=Fq id e a):=Ac (λa y k u=>by
     have X:a=f\/a=j:=Ψ P.out Q.out;rcases X with rfl|rfl
     ·exact Ae _
     ·omega)
    by_cases s:Fq id e f<Fq id e d
    ·have m:=Ac s;clear s
     go_wp2_with fail
     refine(p.less i.out f d O O true (decide_eq_true m.out)).mono ?_;rintro v aa⟨rfl,q⟩;have r:=p.below (q.below _);have t:=C.trans (Touch.of_below (F:=λb=>b=o\/b=g) (q.below _)) (λb h=>.inl h);have Z:=r.Ab9 i.out;have V:=Ac r;have S:=Ac t;clear H r t
     go_wp2_with fail
     refine(V.swap i.out d f O O).mono ?_;rintro v ap⟨rfl,D,I⟩;have U:=Ac D;have T:=Ac (S.trans I (λb h=>.inl h));clear Z D I
     go_wp2_with fail
     go_roundw
     case rel=>
      refine⟨f,KR e d f,.inr x,rfl,(OM _ _ _).trans K.out,?_,λa k=>?_,U.out,T.out⟩
      ·rw[Qy id e d f (by rw[i.out];omega) (by rw[i.out];omega)];exact JI L.out O x M z.out m.out
      ·rw[Qx e d f (by rw[i.out];omega) (by rw[i.out];omega),ku O,ku O];exact J a k
     case measure=>simp[intOf];omega
    ·have m:=Ac s;clear s
     go_wp2_with fail
     refine(p.less i.out f d O O false (decide_eq_false m.out)).mono ?_;rintro v aa⟨rfl,q⟩;have r:=p.below (q.below _);have t:=C.trans (Touch.of_below (F:=λb=>b=o\/b=g) (q.below _)) (λb h=>.inl h);clear H
     go_wp2_with fail
     go_ret;exact⟨⟨_,rfl⟩,e,K.out,Ir L.out (λa y k u=>Ψ (z a y k u) m.out),J.out,r,t⟩
end
def rW(l:List Nat)(s:Nat)(h:FX (Fq id l) l.length):Rq (Fq id (l++[s])) l.length (l.length+1):=by
 have d:∀a,a<l.length->Fq id (l++[s]) a=Fq id l a:=λa b=>by simp only[Fq,List.getElem?_append_left b]
 refine⟨λa c b f=>?_,λc a e b g=>O⟩;rw[d a O,d _ O];exact h a c O
def Aie{w:jD}{B o g c:Nat}{l:List Nat}(s:Nat)(h:EH w B o g c l)(F:l.length<1000)(q:FX (Fq id l) l.length):
 Calls prog 124 #[.iface 335 (ptr0 o),.iface 3 (fP gZ (s:Int))] w λa j=>a=gY (gJ #[])/\
  ∃f A b,b.Perm (l++[s])/\FX (Fq id b) b.length/\EH j B o f A b/\(f=g\/w.heap.size<=f)/\Touch (λe=>e=o\/e=g) w j:=by
 have I:=λC=>Aeg C (Φ o) w
 have m:=Ac (Ame s h F);have y:=Ac (rW l s q);clear h q;go_enter func124,ntmps124
 go_wp2_with fail
 refine m.mono ?_;rintro a J⟨rfl,p,n,d,r,u⟩;have i:(l++[s]).length=l.length+1:=by simp
 have L:=d.Atk i;have v:=Ac (yX (iC (Φ p)) (l.length+1) n J O);have z:=Ac (Apu l.length d O (by rw[i];exact y.out));have K:=Ac d;have x:=Ac u;have k:=Ac r;clear d u r I m i;generalize l.length=M at*
 go_wp2_with fail
 refine v.mono ?_;rintro a j⟨rfl,rfl⟩
 go_wp2_with fail
 refine z.mono ?_;rintro a N⟨rfl,b,t,E,G,H⟩
 go_wp2_with fail
 go_end0;refine⟨rfl,p,n,b,t,by rw[t.length_eq];exact E,G,k.out,x.trans H (λe D=>?_)⟩;rcases D with rfl|rfl
 ·exact .inl (.inl rfl)
 ·rcases k.out with a|a
  ·exact .inl (.inr a)
  ·exact .inr a
def heapPop{w:jD}{B o g c n:Nat}{l:List Nat}(h:EH w B o g c l)(f:l.length=n+1)(s:FX (Fq id l) (n+1)):
 Calls prog 171 #[.iface 335 (ptr0 o)] w λb y=>∃(d:Nat)(x:List Nat),b=gY (.iface 3 (fP gZ (d:Int)))/\
  (d::x).Perm l/\(∀p∈l,d<=p)/\FX (Fq id x) n/\EH y B o g c x/\Touch (λi=>i=o\/i=g) w y:=by
 have Y:=h.len;have ac:=h.Atk f;have ad:=h.Ab9 f;have A:=Ac (yX (iC (Φ g)) (n+1) c w O);have C:=Ac (h.swap f 0 n O O);have P:Hid (∀p∈l,Fq id l 0<=p):=Ac (λp k=>by
  obtain⟨v,j,rfl⟩:=List.getElem_of_mem k;have:=aS s v O;rw[Fq,Fq,Ah j]at this;exact this)
 have F:Np (Fq id (KR l 0 n)) 0 n:=by
  rw[Qy id l 0 n O O];exact UO s
 have R:=Ac F;have q:=Ac f;rw[f]at Y;clear h s F f;go_enter func171,ntmps171
 go_wp2_with fail
 refine A.mono ?_;rintro b y⟨rfl,rfl⟩
 go_wp2_with fail
 refine C.mono ?_;rintro b am⟨rfl,I,K⟩;have z:=Ac (Aid (N:=n+1) n I (by rw[Ru];exact q.out) O R.out);have U:=Ac K;clear ac ad A C I K
 go_wp2_with fail
 refine z.mono ?_;rintro b M⟨⟨i,rfl⟩,a,t,E,G,J,L⟩;have X:a.length=n+1:=by rw[t.length_eq,Ru];exact q.out
 have e:a[n]?=iC (Fq id l 0):=by
  have ae:=q.out;have H:0<l.length:=O;rw[G n (Ae _),Qx l 0 n H O];have k:l[0]?=iC (Fq id l 0):=by rw[Fq,Ah H];rfl
  by_cases b:n=0
  ·subst b;rw[jM rfl];exact k
  ·rw[ku b,jM rfl];exact k
 have u:a=a.take n++[Fq id l 0]:=by
  have:=List.take_append_drop n a;rw[List.drop_eq_getElem_cons O,List.drop_eq_nil_of_le O]at this;rw[Ah O]at e;injection e with e
  rw[e]at this;exact this.symm
 have r:=Apt (w:=M) (B:=B) (o:=o) (g:=g) (c:=c) (l:=a.take n) (Fq id l 0) (u▸J);have r:=Ac r;have al:=λW=>Aib W (Φ o) M
 have T:=Ac u;have Q:=Ac E;have S:=Ac t;have V:=Ac (U.trans L (λi h=>.inl h));clear J L G e u E t X z;generalize ah:Fq id l 0=d at*
 go_wp2_with fail
 refine r.out.mono ?_;rintro b an⟨rfl,Z,ab⟩
 go_wp2_with fail
 go_ret;refine⟨d,a.take n,rfl,?_,P.out,?_,Z,V.trans ab (λi h=>.inl h)⟩
 ·have D:(d::a.take n).Perm (a.take n++[d]):=(List.perm_append_singleton d (a.take n)).symm;rw[<-T.out]at D;exact D.trans (S.trans (OM _ _ _))
 ·intro v e j;have:=Q v e j;have b:∀m,m<n->Fq id (a.take n) m=Fq id a m:=λm aa=>by simp only[Fq,List.getElem?_take,jM aa]
  rw[b _ O,b _ j];exact this
