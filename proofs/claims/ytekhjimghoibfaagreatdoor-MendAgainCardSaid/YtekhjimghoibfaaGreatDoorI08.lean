import Derived.Test.YtekhjimghoibfaaGreatDoorI04
set_option linter.defProp false
set_option maxHeartbeats 32000000
set_option maxRecDepth 100000
open Nat renaming le_refl->Ad,le_trans->Bi,le_of_lt->Il,le_of_not_lt->Ai2,zero_add->DX
open List renaming getElem?_eq_getElem->Ae,getElem?_set->L9,set_set_perm->Ae6,getElem?_eq_none->FU,getElem?_map->CB,map_set->Rj,getElem?_cons_zero->Ag,length_append->AY,length_singleton->MI
open Go.Lib renaming hid->Aa
open Option renaming map_some->DJ
open Go.Value renaming ownBlock->Ba
namespace Go.Proofs.YtekhjimghoibfaaGreatDoor
open Go.Proofs.Tryz
def TP(f:Nat->Nat)(i a k:Nat):Nat:=if k=i then f a else if k=a then f i else f k
def Ku(f:Nat->Nat)(n:Nat):Prop:=∀a,0<a->a<n->f ((a-1)/2)<=f a
def Qw(f:Nat->Nat)(i n:Nat):Prop:=
 (∀a,0<a->a<n->(a-1)/2≠i->f ((a-1)/2)<=f a)/\(0<i->∀a,0<a->a<n->(a-1)/2=i->f ((i-1)/2)<=f a)
def Wu(f:Nat->Nat)(i n:Nat):Prop:=
 (∀a,0<a->a<n->a≠i->f ((a-1)/2)<=f a)/\(0<i->∀a,0<a->a<n->(a-1)/2=i->f ((i-1)/2)<=f a)
def xe{f:Nat->Nat}{n:Nat}(b:Ku f n):∀a,a<n->f 0<=f a:=by
 intro a;induction a using Nat.strongRecOn with
 |ind a e=>
  intro d;by_cases c:a=0
  ·subst c;exact Ad _
  ·exact Bi (e ((a-1)/2) O O) (b a O d)
def dJ{f:Nat->Nat}{n:Nat}(a:Ku f (n+1)):Qw (TP f 0 n) 0 n:=by
 refine⟨λd b e c=>?_,λa=>absurd a O⟩;have:=a d b O;unfold TP;rw[if_neg c,if_neg O,if_neg O,if_neg O];exact this
def Qx{f:Nat->Nat}{i b n:Nat}(m:Qw f i n)(p:0<b)(q:b<n)(j:(b-1)/2=i)(s:∀a,0<a->a<n->(a-1)/2=i->f b<=f a)(r:f b<f i):Qw (TP f i b) b n:=by
 obtain⟨l,o⟩:=m;have t:i<b:=O;refine⟨λa c e k=>?_,λ_ a c e k=>?_⟩
 ·unfold TP;by_cases g:a=i
  ·subst g;rw[if_neg O,if_neg O,if_pos rfl];exact o c b p q j
  ·by_cases h:a=b
   ·subst h;rw[if_pos j,if_neg O,if_pos rfl];exact Il r
   ·by_cases d:(a-1)/2=i
    ·rw[if_pos d,if_neg g,if_neg h];exact s a c e d
    ·rw[if_neg d,if_neg k,if_neg g,if_neg h];exact l a c e d
 ·unfold TP;rw[j,if_pos rfl,if_neg O,if_neg O];have:=l a c e O;rw[k]at this;exact this
def OM{f:Nat->Nat}{i n:Nat}(e:Qw f i n)(g:∀a,0<a->a<n->(a-1)/2=i->f i<=f a):Ku f n:=by
 intro a b d;by_cases c:(a-1)/2=i
 ·rw[c];exact g a b d c
 ·exact e.1 a b d c
def pz{f:Nat->Nat}{i b n:Nat}(o:Wu f b n)(r:0<b)(u:b<n)(l:(b-1)/2=i)(s:f b<f i):Wu (TP f i b) i n:=by
 obtain⟨j,p⟩:=o;have t:i<b:=O;refine⟨λc d e g=>?_,λq c d e g=>?_⟩
 ·unfold TP;by_cases a:c=b
  ·subst a;rw[if_pos l,if_neg O,if_pos rfl];exact Il s
  ·by_cases h:(c-1)/2=i
   ·rw[if_pos h,if_neg g,if_neg a];have:=j c d e a;rw[h]at this;omega
   ·by_cases k:(c-1)/2=b
    ·rw[if_neg h,if_pos k,if_neg g,if_neg a];have:=p r c d e k;rw[l]at this;exact this
    ·rw[if_neg h,if_neg k,if_neg g,if_neg a];exact j c d e a
 ·unfold TP;have m:=j i q O O;by_cases a:c=b
  ·subst a;rw[if_neg O,if_neg O,if_neg O,if_pos rfl];exact m
  ·rw[if_neg O,if_neg O,if_neg O,if_neg a];have:=j c d e a;rw[g]at this;exact Bi m this
def Z7{f:Nat->Nat}{a n:Nat}(e:Wu f a n)(g:0<a->f ((a-1)/2)<=f a):Ku f n:=by
 intro d b h;by_cases c:d=a
 ·subst c;exact g b
 ·exact e.1 d b h c
section
variable{α:Type}
def FI(key:α->Nat)(l:List α)(k:Nat):Nat:=(l[k]?.map key).getD 0
def KF(l:List α)(i a:Nat):List α:=match l[i]?,l[a]? with
 |some b,some c=>(l.set i c).set a b
 |_,_=>l
def Vm(l:List α)(i a:Nat)(hi:i<l.length)(b:a<l.length):KF l i a=(l.set i l[a]).set a l[i]:=by
 simp[KF,Ae hi,Ae b]
def Qy(l:List α)(i a:Nat):(KF l i a).length=l.length:=by
 unfold KF;split<;>simp
def PM(l:List α)(i a:Nat)(hi:i<l.length)(d:a<l.length)(k:Nat):(KF l i a)[k]?=if k=i then l[a]? else if k=a then l[i]? else l[k]?:=by
 rw[Vm l i a hi d,L9,L9];simp only[List.length_set];by_cases c:k=i
 ·subst c;by_cases b:a=k
  ·subst b;simp[d]
  ·rw[if_neg b];simp[hi,d]
 ·by_cases b:k=a
  ·subst b;simp[hi,d,c]
  ·rw[if_neg (λe=>b e.symm),if_neg (λe=>c e.symm),if_neg c,if_neg b]
def PN(key:α->Nat)(l:List α)(i a:Nat)(hi:i<l.length)(d:a<l.length):FI key (KF l i a)=TP (FI key l) i a:=by
 funext k;unfold FI TP;rw[PM l i a hi d];by_cases b:k=i
 ·rw[if_pos b,if_pos b]
 ·rw[if_neg b,if_neg b];by_cases c:k=a
  ·rw[if_pos c,if_pos c]
  ·rw[if_neg c,if_neg c]
def Oy(l:List α)(i c:Nat):(KF l i c).Perm l:=by
 by_cases a:i<l.length
 ·by_cases b:c<l.length
  ·rw[Vm l i c a b];rcases Nat.lt_trichotomy i c with d|d|d
   ·exact Ae6 a b
   ·subst d;simp
   ·exact Ae6 a b
  ·simp[KF,FU (Ai2 b)]
 ·simp[KF,FU (Ai2 a)]
end
open Go.RowKit
def iv(k:Nat):Value:=.int .i64 (k:Int)
def xg(A:Option Addr)(n c:Nat)(w:World)(_:n<=1000000):Calls prog 183 #[.slice A n c] w λa b=>a=.returned (.int .i64 (n:Int))/\w=b:=by
 go_enter func183,ntmps183;go_wp2;go_ret;exact⟨rfl,rfl⟩
def Aad(g n c i a:Nat)(l:List Nat)(w:World)(hi:i<n)(o:a<n)(t:n<=1000000)(d:Rd w (some (Φ g)) n (l.map iv)):
 Calls prog 225 #[.slice (some (Φ g)) n c,.int .i64 (i:Int),.int .i64 (a:Int)] w λb p=>b=.returned (.bool (decide (FI id l i<FI id l a)))/\Dr w p:=by
 have s:l.length=n:=by simpa using d.1
 obtain⟨q,u,b,r,e⟩:=d.2 O;injection b with b
 injection b with k m
 subst k m;have h:=e i hi;have j:=e a o;rw[DX,CB,Ae (show i<l.length by omega)]at h;rw[DX,CB,Ae (show a<l.length by omega)]at j;have f:Hid (decide (FI id l i<FI id l a)=decide (l[i]<l[a])):=Aa (by
  simp only[FI,Ae (show i<l.length by omega),Ae (show a<l.length by omega),DJ,id,Option.getD_some])
 rw[f.out];simp only[DJ,iv]at h j;generalize l[i]=v at*;generalize l[a]=x at*;clear d e f;go_enter func225,ntmps225
 go_wp2_with fail
 go_quiet(fail)
 go_wp2_with fail
 go_ret;exact⟨rfl,_,rfl⟩
def kD(g n c i a k:Nat)(l:List Nat)(w:World)(hi:i<n)(h:a<n)(H:n<=1000000)(e:w.ownsRow k 3 1 (.slice (some (Φ g)) n c) n (l.map iv)):
 Calls prog 228 #[.slice (some (Φ g)) n c,.int .i64 (i:Int),.int .i64 (a:Int)] w λd v=>d=.returned (.tuple #[])/\
  v.ownsRow k 3 1 (.slice (some (Φ g)) n c) n ((KF l i a).map iv)/\Touch (λb=>b=g) w v:=by
 have G:l.length=n:=by simpa using e.1
 obtain⟨_,t⟩:=CV e;obtain⟨b,I,d,E,m⟩:=t.2 O;injection d with d
 injection d with x y
 subst x y;have r:=m i hi;have s:=m a h;rw[DX,CB,Ae (show i<l.length by omega)]at r;rw[DX,CB,Ae (show a<l.length by omega)]at s;simp only[DJ,iv]at r s;have f1:=(SK e hi).2;have f2:=(SK e h).2;have D:=Aa e;have o:Hid (∀f,Dr w f->((f.setCell (Δ g i) (iv l[a])).setCell (Δ g a) (iv l[i])).ownsRow k 3 1 (.slice (some (Φ g)) n c) n ((KF l i a).map iv)/\Touch (λb=>b=g) w ((f.setCell (Δ g i) (iv l[a])).setCell (Δ g a) (iv l[i]))):=Aa (λf j=>by
  refine⟨?_,(((Touch.of_below (F:=λb=>b=g) (j.below _)).setCell (p:=Δ g i) (.inl rfl) _).setCell (p:=Δ g a) (.inl rfl) _)⟩;rw[Vm l i a O O,Rj,Rj];exact OI (OI (own_below e (j.below _)) hi) h)
 have q:Hid (∀f,Dr w f->((f.setCell (Δ g a) (iv l[i])).setCell (Δ g i) (iv l[a])).ownsRow k 3 1 (.slice (some (Φ g)) n c) n ((KF l i a).map iv)/\Touch (λb=>b=g) w ((f.setCell (Δ g a) (iv l[i])).setCell (Δ g i) (iv l[a]))):=Aa (λf j=>by
  refine⟨?_,(((Touch.of_below (F:=λb=>b=g) (j.below _)).setCell (p:=Δ g a) (.inl rfl) _).setCell (p:=Δ g i) (.inl rfl) _)⟩;have d:(l.set i l[a]).set a l[i]=(l.set a l[i]).set i l[a]:=by
   by_cases d:i=a
   ·subst d;rfl
   ·exact List.set_comm _ _ d
  rw[Vm l i a O O,d,Rj,Rj];exact OI (OI (own_below e (j.below _)) h) hi)
 obtain⟨⟨J,z⟩,B⟩:=SK (OI (u:=iv l[a]) e hi) h;obtain⟨⟨K,A⟩,C⟩:=SK (OI (u:=iv l[i]) e h) hi;simp only[iv]at o q z A B C;generalize l[i]=L at*;generalize l[a]=M at*;clear e m t;go_enter func228,ntmps228
 go_wp2_with fail
 go_region
 all_goals trace_state
 all_goals(go_wp2_with fail)
 all_goals(go_end0)
 all_goals(first
  |exact⟨rfl,o.out _ (show Dr w w.drew from⟨1,rfl⟩)⟩
  |exact⟨rfl,q.out _ (show Dr w w.drew from⟨1,rfl⟩)⟩)
def Tryz.Arm:JE prog 286 3 (.int .i64 0) 1 8:=⟨underlying286,by kernel_rfl,rfl⟩
structure EJ(w:World)(B o g c:Nat)(l:List Nat):Prop where
 box:CQ w o 286 [.slice (some (Φ g)) l.length c]
 row:w.ownsRow B 3 1 (.slice (some (Φ g)) l.length c) l.length (l.map iv)
 ne:o≠g
 hB:B<=o
 len:l.length<=1000
def EJ.uK{w:World}{B o g c:Nat}{l:List Nat}(b:EJ w B o g c l):B<=g/\g<w.heap.size:=by
 rcases b.row.2 with⟨d,_⟩|⟨i,f,h,a,hB,e,_⟩
 ·cases d
 ·simp only[Value.slice.injEq,Option.some.injEq,Addr.mk.injEq,and_true,true_and]at a;obtain⟨rfl,rfl⟩:=a;exact⟨hB,(Array.getElem?_eq_some_iff.1 e).1⟩
def EJ.touch{w w':World}{B o g c:Nat}{l:List Nat}{G:Nat->Prop}(a:EJ w B o g c l)(b:Touch G w w')(h1:¬G o)(h2:¬G g):EJ w' B o g c l:=by
 refine⟨a.box.touch b h1,Ie a.row b (λd e=>?_),a.ne,a.hB,a.len⟩;have:g=d:=by simpa[Ba]using e
 subst this;exact h2
def EJ.below{w w':World}{B o g c:Nat}{l:List Nat}(a:EJ w B o g c l)(b:η w w'):EJ w' B o g c l:=
 a.touch (Touch.of_below (F:=λ_=>False) b) id id
def assert_int(x:Int)(w:World):(Instr.typeAssert (.iface 3 (.int .i64 x)) 20 3 true).run prog w=.ok (.tuple #[.int .i64 x,.bool true]) w:=by kernel_rfl
def Aj1{w:World}{B o g c:Nat}{l:List Nat}(s:Nat)(b:EJ w B o g c l)(L:l.length<1000):
 Calls prog 227 #[Az o,.iface 3 (.int .i64 (s:Int))] w λd C=>d=.returned (.tuple #[])/\
  ∃q D,EJ C B o q D (l++[s])/\(q=g\/w.heap.size<=q)/\Touch (λe=>e=o\/e=g) w C:=by
 have u:=b.box.cell 0;have f0:=b.box.frozen 0;have t:=b.box.lt;have z:=b.row;have N:=b.uK;have E:=b.hB;have F:B<=w.heap.size:=O;have i:=Aa b;simp only[Ag]at u;obtain⟨h,k⟩:∃h,l.length=h:=⟨_,rfl⟩;rw[k]at z u L;clear b;have P:=assert_int (s:Int);go_enter func227,ntmps227
 go_wp2_with(at_builtin;go_loud(refine E5 rfl (.tmp 15) (.tmp 17) 286 rfl Tryz.Arm w B (.slice (some (Φ g)) h c) h (l.map iv) [iv s] rfl z rfl w.heap.size 1 rfl rfl rfl U (by intro Q A;simp at A;subst A;rfl) O U F ?_;intro f n m G r j x;have R:=(World.cell?_of_block (w:=w) (a:=Φ o) (j.2 o t (λd=>i.out.ne (by simpa[Ba]using d)))).trans u;have f2:=(World.frozen?_of_block (w:=w) (a:=Φ o) (j.2 o t (λd=>i.out.ne (by simpa[Ba]using d)))).trans f0))
 go_end0;have y:¬o=f:=λd=>by
  rcases x with b|b
  ·exact i.out.ne (by rw[d];simpa[Ba]using b.symm)
  ·omega
 have H:Touch (λe=>e=o\/e=g) w (m.setCell (Φ o) (.slice (some (Φ f)) (h+1) n)):=by
  refine Touch.setCell (w:=w) (w':=m) ⟨r.os,r.tape,r.output,j.1,λM K k=>j.2 M K (λd=>k (.inr (by simpa[Ba]using d)))⟩ (p:=Φ o) (.inl (.inl rfl)) _
 have J:CQ m o 286 [.slice (some (Φ g)) l.length c]:=(j.2 o t (λd=>i.out.ne (by simpa[Ba]using d))).trans i.out.box;refine⟨rfl,f,n,⟨?_,?_,y,E,by simp;omega⟩,?_,H⟩
 ·have:=J.AZ 0 (.slice (some (Φ f)) (h+1) n);rw[AY,k];exact this
 ·have v:=G;rw[show l.map iv++[iv s]=(l++[s]).map iv by simp]at v;rw[AY,k];refine Ie v ((Touch.refl (λe=>e=o) m).setCell (p:=Φ o) (.inl rfl) _) (λe I d=>?_);have:f=e:=by simpa[Ba]using I
  exact y (by rw[this,d])
 ·rcases x with b|b
  ·left;have:g=f:=by simpa[Ba]using b
   exact this.symm
  ·exact .inr b
def Ann{w:World}{B o g c:Nat}{l:List Nat}(s:Nat)(d:EJ w B o g c (l++[s])):
 Calls prog 226 #[Az o] w λb x=>b=.returned (.iface 3 (.int .i64 (s:Int)))/\EJ x B o g c l/\Touch (λa=>a=o\/a=g) w x:=by
 have u:=d.len;rw[AY,MI]at u;have y:=d.box.cell 0;have f0:=d.box.frozen 0;have j:=d.row;have z:=(CV j).2.2 Θ;have t:=(CV j).1;rw[AY,MI]at t;obtain⟨a,P,b,q,r⟩:=z;injection b with b
 injection b with C D
 subst C D;have i:=r l.length Θ;rw[DX,CB,List.getElem?_append_right (Ad _),Nat.sub_self]at i;simp only[Ag,DJ,iv]at i;simp only[Ag,AY,MI]at y;obtain⟨m,f⟩:∃m,l.length=m:=⟨_,rfl⟩;rw[f]at y i t;have e:=Aa d;have h:=Aa f;rw[f]at u;have N:o<w.heap.size:=d.box.lt;clear d r j f;go_enter func226,ntmps226;go_wp2;go_ret;refine⟨rfl,⟨?_,?_,e.out.ne,e.out.hB,by rw[h.out];omega⟩,((Touch.refl (λa=>a=o\/a=g) w).setCell (p:=Φ o) (.inl (.inl rfl)) _)⟩
 ·have:=e.out.box.AZ 0 (.slice (some (Φ g)) m c);rw[h.out];exact this
 ·have F:=e.out.row;have n:w.ownsRow B 3 1 (.slice (some (Φ g)) l.length c) l.length (l.map iv):=by
   refine⟨by simp,?_⟩;rcases F.2 with⟨E,_⟩|⟨M,L,A,k,G,J,K,H,I,v⟩
   ·cases E
   ·simp only[AY,MI]at k K v;simp only[Value.slice.injEq,Option.some.injEq,Addr.mk.injEq,and_true,true_and]at k;obtain⟨rfl,rfl⟩:=k;refine .inr ⟨g,c,A,rfl,G,J,O,H,I,?_⟩;have:=congrArg (List.take l.length) v;rw[List.take_take,Nat.min_eq_left O]at this;simpa using this
  rw[h.out]at n⊢;refine Ie n ((Touch.refl (λa=>a=o) w).setCell (p:=Φ o) (.inl rfl) _) (λa q b=>?_);have:g=a:=by simpa[Ba]using q
  exact e.out.ne (by rw[this,b])
def Acj(f:Nat)(a:Addr)(w:World):(method (f+1) 266 (.pointer (some a)) "Push").run prog w=.ok (227,.pointer (some a)) w:=by kernel_rfl
def Agj(f:Nat)(a:Addr)(w:World):(method (f+1) 266 (.pointer (some a)) "Pop").run prog w=.ok (226,.pointer (some a)) w:=by kernel_rfl
def xh{P:Program}(b:TypeId)(a:Addr)(x c:String)(w:World):(Builtin.ssaWrapNilChk_ #[b] b #[.pointer (some a),strVal x,strVal c]).run P w=.ok (.pointer (some a)) w:=rfl
def Z8{P:Program}{c e:TypeId}{j:String}{F:FuncId}{k:TypeDesc}(p:P.underlying c=some (.pointer e))(_hd:P.underlying e=some k)
 (b:(P.info? c).map (λh=>(h.methods.find? (·.name==j)).map (λi=>(i.path,i.func)))=some (some (#[],some (F,false))))(f:Nat)(a:Addr)(w:World)(v:Value)(n:(loadVar e a).run P w=.ok v w):
 (method (f+1) c (.pointer (some a)) j).run P w=.ok (F,v) w:=by
 cases g:P.info? c with
 |none=>simp[g]at b
 |some h=>
  rw[g]at b;simp only[DJ,Option.some.injEq]at b;cases d:h.methods.find? (·.name==j)with
  |none=>simp[d]at b
  |some i=>
   rw[d]at b;simp only[DJ,Option.some.injEq,Prod.mk.injEq]at b;obtain⟨l,m⟩:=b;have o:=run_underlying (P:=P) p;simp[method,typeInfo,g,d,l,m,follow,receiverAt,o,Place.get,xh,asAddr,Sem.run_bind,n]
def Z9(o:Nat)(v:Value)(w:World)(a:w.cell? (Φ o)=some v):(loadVar 286 (Φ o)).run prog w=.ok v w:=by
 have b:=run_underlying (P:=prog) underlying286;simp[loadVar,isAgg,b,Sem.run_bind,a]
def gm(f o:Nat)(v:Value)(w:World)(a:w.cell? (Φ o)=some v):(method (f+1) 266 (Az o) "Less").run prog w=.ok (225,v) w:=
 Z8 underlying266 underlying286 Γ f _ w v (Z9 o v w a)
def Agk(f o:Nat)(v:Value)(w:World)(a:w.cell? (Φ o)=some v):(method (f+1) 266 (Az o) "Len").run prog w=.ok (183,v) w:=
 Z8 underlying266 underlying286 Γ f _ w v (Z9 o v w a)
def gp(f o:Nat)(v:Value)(w:World)(a:w.cell? (Φ o)=some v):(method (f+1) 266 (Az o) "Swap").run prog w=.ok (228,v) w:=
 Z8 underlying266 underlying286 Γ f _ w v (Z9 o v w a)
def EJ.swapped{w w':World}{B o g c n i d:Nat}{l:List Nat}(a:EJ w B o g c l)(h:l.length=n)(j:w'.ownsRow B 3 1 (.slice (some (Φ g)) n c) n ((KF l i d).map iv))(k:Touch (λe=>e=g) w w'):EJ w' B o g c (KF l i d):=by
 have b:=Qy l i d;have f:=a.box.touch k a.ne;refine⟨by rw[b];exact f,by rw[b,h];exact j,a.ne,a.hB,by rw[b];exact a.len⟩
def Ano{w:World}{B o g c:Nat}{l:List Nat}(t:Nat)(f:EJ w B o g c l)(A:t<l.length)(x:Wu (FI id l) t l.length):
 Calls prog 199 #[.iface 266 (Az o),.int .i64 (t:Int)] w λq T=>q=.returned (.tuple #[])/\
  ∃a,a.Perm l/\Ku (FI id a) l.length/\EJ T B o g c a/\Touch (λd=>d=o\/d=g) w T:=by
 obtain⟨i,C⟩:∃i,l.length=i:=⟨_,rfl⟩;have Z:=f.len;rw[C]at A x Z⊢;go_enter func199,ntmps199
 go_wp2_with fail
 go_loopw [1](λb wr=>∃e a,e<i/\b=.int .i64 (e:Nat)/\a.Perm l/\Wu (FI id a) e i/\EJ wr B o g c a/\Touch (λd=>d=o\/d=g) w wr)(λb _=>(intOf b).toNat)
 case atStart=>exact⟨t,l,A,rfl,List.Perm.refl _,x,f,Touch.refl _ _⟩
 case round=>
  obtain⟨e,a,n,rfl,s,y,D,I⟩:=hrel;clear f A x;have S:a.length=i:=by rw[s.length_eq];exact C
  by_cases Y:e=0
  ·subst Y
   go_wp2_with fail
   go_end0;exact⟨rfl,a,s,Z7 y (λf=>absurd f O),D,I⟩
  ·have M:=Aa y;have k:=Aa D;have P:=Aa s;have N:=Aa I;have h:=Aa S;clear y D s I S C;obtain⟨b,R⟩:∃b,(e-1)/2=b:=⟨_,rfl⟩;have af:b<e:=O;have ad:((e:Int) -1)/2=(b:Int):=O;have t1:((b:Int)==(e:Int))=false:=ζ O;have K:=k.out.box.cell 0;simp only[Ag,h.out]at K;have E:=(CV k.out.row).2;rw[h.out]at E;have p:=Aa (Aad g i c e b a wr n O O E);have ab:=λv=>gm v o _ wr K
   have G:=k.out.row;rw[h.out]at G;have ah:=Aa G;clear E G;by_cases j:FI id a e<FI id a b
   ·rw[decide_eq_true j]at p;have U:=Aa (kD g i c b e B a · O n O ·);have u:=Aa j;clear j
    go_wp2_with fail
    refine p.out.mono ?_;rintro q J⟨rfl,m⟩;have r:=k.out.below (m.below _);have L:=r.box.cell 0;simp only[Ag,h.out]at L;have ac:=λv=>gp v o _ J L
    have H:=r.row;rw[h.out]at H;have V:=Aa (kD g i c b e B a J O n O H);have X:=Aa r;clear ab K r H U p
    go_wp2_with fail
    refine V.out.mono ?_;rintro q al⟨rfl,Q,z⟩;have aa:=Aa (X.out.swapped h.out Q z);have W:=Aa ((N.out.trans (Touch.of_below (F:=λd=>d=o\/d=g) (m.below _)) (λd f=>.inl f)).trans (z.mono (λd f=>.inr f)) (λd f=>.inl f));clear ac L Q z
    go_wp2_with fail
    go_roundw
    case rel=>
     refine⟨b,KF a b e,O,rfl,(Oy _ _ _).trans P.out,?_,aa.out,W.out⟩;rw[PN id a b e (by rw[h.out];omega) (by rw[h.out];exact n)];exact pz M.out O n R u.out
    case measure=>simp[intOf];omega
   ·rw[decide_eq_false j]at p;have u:=Aa j;clear j
    go_wp2_with fail
    refine p.out.mono ?_;rintro q J⟨rfl,m⟩
    go_wp2_with fail
    go_end0;exact⟨rfl,a,P.out,Z7 M.out (λ_=>by have:=u.out;rw[<-R]at this;omega),k.out.below (m.below _),N.out.trans (Touch.of_below (F:=λd=>d=o\/d=g) (m.below _)) (λd f=>.inl f)⟩
section
variable{w:World}{B o g c N:Nat}{l:List Nat}
def EJ.pG(b:EJ w B o g c l)(d:l.length=N):∀a,(method (a+1) 266 (Az o) "Less").run prog w=.ok (225,.slice (some (Φ g)) N c) w:=λa=>
 gm a o _ w (by have:=b.box.cell 0;simpa only[Ag,d]using this)
def EJ.Arn(b:EJ w B o g c l)(d:l.length=N):∀a,(method (a+1) 266 (Az o) "Len").run prog w=.ok (183,.slice (some (Φ g)) N c) w:=λa=>
 Agk a o _ w (by have:=b.box.cell 0;simpa only[Ag,d]using this)
def EJ.Aae(b:EJ w B o g c l)(d:l.length=N):∀a,(method (a+1) 266 (Az o) "Swap").run prog w=.ok (228,.slice (some (Φ g)) N c) w:=λa=>
 gp a o _ w (by have:=b.box.cell 0;simpa only[Ag,d]using this)
def EJ.less(d:EJ w B o g c l)(j:l.length=N)(i a:Nat)(hi:i<N)(h:a<N)(b:Bool)(f:decide (FI id l i<FI id l a)=b):
 Calls prog 225 #[.slice (some (Φ g)) N c,.int .i64 (i:Int),.int .i64 (a:Int)] w λe k=>e=.returned (.bool b)/\Dr w k:=by
 subst j f;have:=d.len;exact Aad g l.length c i a l w hi h O (CV d.row).2
def EJ.swap(a:EJ w B o g c l)(m:l.length=N)(i b:Nat)(hi:i<N)(k:b<N):
 Calls prog 228 #[.slice (some (Φ g)) N c,.int .i64 (i:Int),.int .i64 (b:Int)] w λf e=>f=.returned (.tuple #[])/\EJ e B o g c (KF l i b)/\Touch (λd=>d=o\/d=g) w e:=by
 subst m;have:=a.len;refine(kD g l.length c i b B l w hi k O a.row).mono ?_;rintro f e⟨rfl,j,h⟩;exact⟨rfl,a.swapped rfl j h,h.mono (λd a=>.inr a)⟩
def Agl(n:Nat)(i:EJ w B o g c l)(ad:l.length=N)(aE:n<N)(af:Qw (FI id l) 0 n):
 Calls prog 200 #[.iface 266 (Az o),.int .i64 0,.int .i64 (n:Int)] w λv ao=>(∃b,v=.returned (.bool b))/\
  ∃e,e.Perm l/\Ku (FI id e) n/\(∀a,n<=a->e[a]?=l[a]?)/\EJ ao B o g c e/\Touch (λb=>b=o\/b=g) w ao:=by
 have aq:=i.len;rw[ad]at aq;go_enter func200,ntmps200
 go_wp2_with fail
 go_loopw [7](λd wr=>∃a e,(a=0\/a<n)/\d=.int .i64 (a:Nat)/\e.Perm l/\Qw (FI id e) a n/\(∀a,n<=a->e[a]?=l[a]?)/\EJ wr B o g c e/\Touch (λb=>b=o\/b=g) w wr)(λd _=>n-(intOf d).toNat)
 case atStart=>exact⟨0,l,.inl rfl,rfl,List.Perm.refl _,af,λ_ _=>rfl,i,Touch.refl _ _⟩
 case round=>
  obtain⟨d,e,aD,rfl,u,ah,k,am,an⟩:=hrel;have al:e.length=N:=by rw[u.length_eq];exact ad
  have J:=Aa ah;have A:=Aa am;have L:=Aa u;have ab:=Aa an;have K:=Aa k;have h:=Aa al;have aG:d<=n:=O;clear i af ah am u an k al ad;have t3:decide (2*(d:Int)+1<0)=false:=decide_eq_false O;by_cases az:n<=2*d+1
  ·have t1:decide ((n:Int)<=2*(d:Int)+1)=true:=decide_eq_true O
   go_wp2_with fail
   go_ret;exact⟨⟨_,rfl⟩,e,L.out,OM J.out (λa y k u=>O),K.out,A.out,ab.out⟩
  ·have t1:decide ((n:Int)<=2*(d:Int)+1)=false:=decide_eq_false O;obtain⟨f,x⟩:∃f,2*d+1=f:=⟨_,rfl⟩;obtain⟨j,M⟩:∃j,f+1=j:=⟨_,rfl⟩;have av:2*(d:Int)+1=(f:Int):=O;have aw:(f:Int)+1=(j:Int):=O;have t4:decide ((n:Int)<=(f:Int))=false:=decide_eq_false O;have t5:decide ((f:Int)<0)=false:=decide_eq_false O;have P:Hid (2*d+1=f):=Aa x;have Q:Hid (2*d+2=j):=Aa O;have aH:f<n:=O;clear t1 t3 x M;by_cases aB:j<n
   ·have t2:decide ((j:Int)<(n:Int))=true:=decide_eq_true O;by_cases ac:FI id e j<FI id e f
    ·have R:=Aa ac;clear ac;have Y:=A.out.pG h.out
     go_wp2_with fail
     refine(A.out.less h.out j f O O true (decide_eq_true R.out)).mono ?_;rintro v ar⟨rfl,V⟩;have E:=A.out.below (V.below _);have G:=ab.out.trans (Touch.of_below (F:=λb=>b=o\/b=g) (V.below _)) (λb i=>.inl i);have p:=Aa E;have C:=Aa G;clear E G;have I:=p.out.pG h.out;have x:j<n:=O;have M:(j-1)/2=d:=Ψ P.out Q.out;have z:Hid (∀a,0<a->a<n->(a-1)/2=d->FI id e j<=FI id e a):=Aa (λa y k u=>by
      have W:a=f\/a=j:=Ψ P.out Q.out;rcases W with rfl|rfl
      ·have:=R.out;omega
      ·exact Ad _)
     by_cases s:FI id e j<FI id e d
     ·have m:=Aa s;clear s;clear Y
      go_wp2_with fail
      refine(p.out.less h.out j d O O true (decide_eq_true m.out)).mono ?_;rintro v aa⟨rfl,q⟩;have r:=p.out.below (q.below _);have t:=C.out.trans (Touch.of_below (F:=λb=>b=o\/b=g) (q.below _)) (λb i=>.inl i);have Z:=r.Aae h.out;have X:=Aa r;have S:=Aa t;clear I r t
      go_wp2_with fail
      refine(X.out.swap h.out d j O O).mono ?_;rintro v ap⟨rfl,D,H⟩;have U:=Aa D;have T:=Aa (S.out.trans H (λb i=>.inl i));clear Z D H
      go_wp2_with fail
      go_roundw
      case rel=>
       refine⟨j,KF e d j,.inr x,rfl,(Oy _ _ _).trans L.out,?_,λa k=>?_,U.out,T.out⟩
       ·rw[PN id e d j (by rw[h.out];omega) (by rw[h.out];omega)];exact Qx J.out O x M z.out m.out
       ·rw[PM e d j (by rw[h.out];omega) (by rw[h.out];omega),if_neg O,if_neg O];exact K.out a k
      case measure=>simp[intOf];omega
     ·have m:=Aa s;clear s;clear Y
      go_wp2_with fail
      refine(p.out.less h.out j d O O false (decide_eq_false m.out)).mono ?_;rintro v aa⟨rfl,q⟩;have r:=p.out.below (q.below _);have t:=C.out.trans (Touch.of_below (F:=λb=>b=o\/b=g) (q.below _)) (λb i=>.inl i);clear I
      go_wp2_with fail
      go_ret;exact⟨⟨_,rfl⟩,e,L.out,OM J.out (λa y k u=>Ψ (z.out a y k u) m.out),K.out,r,t⟩
    ·have R:=Aa ac;clear ac;have Y:=A.out.pG h.out
     go_wp2_with fail
     refine(A.out.less h.out j f O O false (decide_eq_false R.out)).mono ?_;rintro v ar⟨rfl,V⟩;have E:=A.out.below (V.below _);have G:=ab.out.trans (Touch.of_below (F:=λb=>b=o\/b=g) (V.below _)) (λb i=>.inl i);have p:=Aa E;have C:=Aa G;clear E G;have I:=p.out.pG h.out;have x:f<n:=O;have M:(f-1)/2=d:=Ψ P.out Q.out;have z:Hid (∀a,0<a->a<n->(a-1)/2=d->FI id e f<=FI id e a):=Aa (λa y k u=>by
      have W:a=f\/a=j:=Ψ P.out Q.out;rcases W with rfl|rfl
      ·exact Ad _
      ·have:=R.out;omega)
     by_cases s:FI id e f<FI id e d
     ·have m:=Aa s;clear s;clear Y
      go_wp2_with fail
      refine(p.out.less h.out f d O O true (decide_eq_true m.out)).mono ?_;rintro v aa⟨rfl,q⟩;have r:=p.out.below (q.below _);have t:=C.out.trans (Touch.of_below (F:=λb=>b=o\/b=g) (q.below _)) (λb i=>.inl i);have Z:=r.Aae h.out;have X:=Aa r;have S:=Aa t;clear I r t
      go_wp2_with fail
      refine(X.out.swap h.out d f O O).mono ?_;rintro v ap⟨rfl,D,H⟩;have U:=Aa D;have T:=Aa (S.out.trans H (λb i=>.inl i));clear Z D H
      go_wp2_with fail
      go_roundw
      case rel=>
       refine⟨f,KF e d f,.inr x,rfl,(Oy _ _ _).trans L.out,?_,λa k=>?_,U.out,T.out⟩
       ·rw[PN id e d f (by rw[h.out];omega) (by rw[h.out];omega)];exact Qx J.out O x M z.out m.out
       ·rw[PM e d f (by rw[h.out];omega) (by rw[h.out];omega),if_neg O,if_neg O];exact K.out a k
      case measure=>simp[intOf];omega
     ·have m:=Aa s;clear s;clear Y
      go_wp2_with fail
      refine(p.out.less h.out f d O O false (decide_eq_false m.out)).mono ?_;rintro v aa⟨rfl,q⟩;have r:=p.out.below (q.below _);have t:=C.out.trans (Touch.of_below (F:=λb=>b=o\/b=g) (q.below _)) (λb i=>.inl i);clear I
      go_wp2_with fail
      go_ret;exact⟨⟨_,rfl⟩,e,L.out,OM J.out (λa y k u=>Ψ (z.out a y k u) m.out),K.out,r,t⟩
   ·have t2:decide ((j:Int)<(n:Int))=false:=decide_eq_false O;have E:=A.out;have G:=ab.out;have p:=Aa E;have C:=Aa G;clear E G;have I:=p.out.pG h.out;have x:f<n:=O;have M:(f-1)/2=d:=Ψ P.out Q.out;have z:Hid (∀a,0<a->a<n->(a-1)/2=d->FI id e f<=FI id e a):=Aa (λa y k u=>by
     have W:a=f\/a=j:=Ψ P.out Q.out;rcases W with rfl|rfl
     ·exact Ad _
     ·omega)
    by_cases s:FI id e f<FI id e d
    ·have m:=Aa s;clear s
     go_wp2_with fail
     refine(p.out.less h.out f d O O true (decide_eq_true m.out)).mono ?_;rintro v aa⟨rfl,q⟩;have r:=p.out.below (q.below _);have t:=C.out.trans (Touch.of_below (F:=λb=>b=o\/b=g) (q.below _)) (λb i=>.inl i);have Z:=r.Aae h.out;have X:=Aa r;have S:=Aa t;clear I r t
     go_wp2_with fail
     refine(X.out.swap h.out d f O O).mono ?_;rintro v ap⟨rfl,D,H⟩;have U:=Aa D;have T:=Aa (S.out.trans H (λb i=>.inl i));clear Z D H
     go_wp2_with fail
     go_roundw
     case rel=>
      refine⟨f,KF e d f,.inr x,rfl,(Oy _ _ _).trans L.out,?_,λa k=>?_,U.out,T.out⟩
      ·rw[PN id e d f (by rw[h.out];omega) (by rw[h.out];omega)];exact Qx J.out O x M z.out m.out
      ·rw[PM e d f (by rw[h.out];omega) (by rw[h.out];omega),if_neg O,if_neg O];exact K.out a k
     case measure=>simp[intOf];omega
    ·have m:=Aa s;clear s
     go_wp2_with fail
     refine(p.out.less h.out f d O O false (decide_eq_false m.out)).mono ?_;rintro v aa⟨rfl,q⟩;have r:=p.out.below (q.below _);have t:=C.out.trans (Touch.of_below (F:=λb=>b=o\/b=g) (q.below _)) (λb i=>.inl i);clear I
     go_wp2_with fail
     go_ret;exact⟨⟨_,rfl⟩,e,L.out,OM J.out (λa y k u=>Ψ (z.out a y k u) m.out),K.out,r,t⟩
end
def pI(l:List Nat)(s:Nat)(e:Ku (FI id l) l.length):Wu (FI id (l++[s])) l.length (l.length+1):=by
 have d:∀a,a<l.length->FI id (l++[s]) a=FI id l a:=λa b=>by simp only[FI,List.getElem?_append_left b]
 refine⟨λa c b g=>?_,λc a f b h=>O⟩;rw[d a O,d _ O];exact e a c O
def Agm{w:World}{B o g c:Nat}{l:List Nat}(s:Nat)(h:EJ w B o g c l)(F:l.length<1000)(q:Ku (FI id l) l.length):
 Calls prog 182 #[.iface 266 (Az o),.iface 3 (.int .i64 (s:Int))] w λa j=>a=.returned (.tuple #[])/\
  ∃f A b,b.Perm (l++[s])/\Ku (FI id b) b.length/\EJ j B o f A b/\(f=g\/w.heap.size<=f)/\Touch (λe=>e=o\/e=g) w j:=by
 have I:=λC=>Acj C (Φ o) w
 have m:=Aa (Aj1 s h F);have y:=Aa (pI l s q);have L:=h.uK;clear h q;go_enter func182,ntmps182
 go_wp2_with fail
 refine m.out.mono ?_;rintro a J⟨rfl,p,n,d,r,u⟩;have i:(l++[s]).length=l.length+1:=by simp
 have M:=d.Arn i;have v:=Aa (xg (some (Φ p)) (l.length+1) n J O);have z:=Aa (Ano l.length d O (by rw[i];exact y.out));have K:=Aa d;have x:=Aa u;have k:=Aa r;clear d u r I m i;generalize l.length=N at*
 go_wp2_with fail
 refine v.out.mono ?_;rintro a j⟨rfl,rfl⟩
 go_wp2_with fail
 refine z.out.mono ?_;rintro a P⟨rfl,b,t,E,G,H⟩
 go_wp2_with fail
 go_end0;refine⟨rfl,p,n,b,t,by rw[t.length_eq];exact E,G,k.out,x.out.trans H (λe D=>?_)⟩;rcases D with rfl|rfl
 ·exact .inl (.inl rfl)
 ·rcases k.out with a|a
  ·exact .inl (.inr a)
  ·exact .inr a
def heapPop{w:World}{B o g c n:Nat}{l:List Nat}(d:EJ w B o g c l)(h:l.length=n+1)(s:Ku (FI id l) (n+1)):
 Calls prog 184 #[.iface 266 (Az o)] w λb y=>∃(e:Nat)(x:List Nat),b=.returned (.iface 3 (.int .i64 (e:Int)))/\
  (e::x).Perm l/\(∀p∈l,e<=p)/\Ku (FI id x) n/\EJ y B o g c x/\Touch (λi=>i=o\/i=g) w y:=by
 have Y:=d.len;have ac:=d.Arn h;have ad:=d.Aae h;have A:=Aa (xg (some (Φ g)) (n+1) c w O);have C:=Aa (d.swap h 0 n O O);have Q:Hid (∀p∈l,FI id l 0<=p):=Aa (λp k=>by
  obtain⟨v,j,rfl⟩:=List.getElem_of_mem k;have:=xe s v O;rw[FI,FI,Ae j]at this;exact this)
 have F:Qw (FI id (KF l 0 n)) 0 n:=by
  rw[PN id l 0 n O O];exact dJ s
 have S:=Aa F;have r:=Aa h;rw[h]at Y;clear d s F h;go_enter func184,ntmps184
 go_wp2_with fail
 refine A.out.mono ?_;rintro b y⟨rfl,rfl⟩
 go_wp2_with fail
 refine C.out.mono ?_;rintro b an⟨rfl,J,L⟩;have z:=Aa (Agl (N:=n+1) n J (by rw[Qy];exact r.out) O S.out);have V:=Aa L;clear ac ad A C J L
 go_wp2_with fail
 refine z.out.mono ?_;rintro b P⟨⟨i,rfl⟩,a,t,E,G,K,M⟩;have I:a.length=n+1:=by rw[t.length_eq,Qy];exact r.out
 have f:a[n]?=some (FI id l 0):=by
  have ah:=r.out;have H:0<l.length:=O;rw[G n (Ad _),PM l 0 n H O];have k:l[0]?=some (FI id l 0):=by rw[FI,Ae H];rfl
  by_cases b:n=0
  ·subst b;rw[if_pos rfl];exact k
  ·rw[if_neg b,if_pos rfl];exact k
 have u:a=a.take n++[FI id l 0]:=by
  have:=List.take_append_drop n a;rw[List.drop_eq_getElem_cons O,List.drop_eq_nil_of_le O]at this;rw[Ae O]at f;injection f with f
  rw[f]at this;exact this.symm
 have q:=Ann (w:=P) (B:=B) (o:=o) (g:=g) (c:=c) (l:=a.take n) (FI id l 0) (u▸K);have q:=Aa q;have am:=λX=>Agj X (Φ o) P
 have U:=Aa u;have R:=Aa E;have T:=Aa t;have af:=Aa I;have W:=Aa (V.out.trans M (λi d=>.inl d));clear K M G f u E t I z;generalize al:FI id l 0=e at*
 go_wp2_with fail
 refine q.out.mono ?_;rintro b ao⟨rfl,Z,ab⟩
 go_wp2_with fail
 go_ret;refine⟨e,a.take n,rfl,?_,Q.out,?_,Z,W.out.trans ab (λi d=>.inl d)⟩
 ·have D:(e::a.take n).Perm (a.take n++[e]):=(List.perm_append_singleton e (a.take n)).symm;rw[<-U.out]at D;exact D.trans (T.out.trans (Oy _ _ _))
 ·intro v f j;have:=R.out v f j;have b:∀m,m<n->FI id (a.take n) m=FI id a m:=λm aa=>by simp only[FI,List.getElem?_take,if_pos aa]
  rw[b _ O,b _ j];exact this
