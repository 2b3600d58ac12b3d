import Derived.Test.YtekhjimghoibfaaGreatDoorI07
import Derived.Test.YtekhjimghoibfaaGreatDoorI08
set_option linter.defProp false
set_option maxHeartbeats 32000000
set_option maxRecDepth 100000
open Go.World renaming block_lt_of_cell?->D8
open Nat renaming le_refl->Ad,le_of_lt->Il,le_trans->Bi
open Go.Lib renaming hid->Aa
open List renaming append_nil->bZ,mem_append->AL,range_succ->cu,mem_range->DY,replicate->BC,getElem?_cons_succ->AB,getElem?_cons_zero->Ag,getElem?_replicate->IG,getElem_replicate->nC,getD_eq_getElem?_getD->Bo,ext_getElem->EC,getElem_map->KN,getElem_range->VT
open Array renaming getElem?_eq_some_iff->AA
open Option renaming isSome_iff_exists->cO
open UInt64 renaming ofNat->Aj
open Go.Value renaming ownBlock->Ba,int->Aw,slice->Ac
namespace Go.Proofs.YtekhjimghoibfaaGreatDoor
open Go.RowKit
open Go.Proofs.Tryz
def Vg.below{w w':World}(b:Vg w)(k:η w w'):Vg w':=λa c=>(k.cell (p:=Δ 1 a) (D8 w _ (b a c))).trans (b a c)
section
variable{w:World}{d p L:Nat}{s:St}{tb hb n cT cH:Nat}
def Ig.below{w':World}(b:Ig w d p L s tb hb n cT cH)(k:η w w'):Ig w' d p L s tb hb n cT cH:=by
 have c:∀{a:Addr}{v:Value},w.cell? a=some v->w'.cell? a=some v:=λ{a v}f=>(k.cell (p:=a) (D8 w a f)).trans f
 exact⟨c b.y0,c b.y1,c b.y2,c b.y3,c b.y4,c b.y5,c b.y6,λi e=>c (b.tk i e),λi e=>c (b.hd i e),b.ok,b.L1,b.bV,b.OA⟩
def RH(s:St)(c i:Nat):Bool:=(KP (CE s i) c).isSome
def Acl(f:Ig w d p L s tb hb n cT cH)(h:Vg w)(c i:Nat)(hi:i<n)(q:c<4):
 Calls prog 163 #[.agg #[Az p,.int .i64 (c:Int)],.int .i64 (i:Int)] w λo w'=>o=.returned (.bool (RH s c i))/\η w w':=by
 have b:η w (w.alloc (.cells #[Az p,.int .i64 (c:Int)] 264)):=(Below.refl _ _).alloc (Ad _) _;have g:=f.below b;have j:=h.below b;have k:=Aa (λa(e:Dr _ a)=>LU (g.dr e) i hi);have l:=Aa (λa(e:Dr _ a)=>Wq (CE s i) c a (Ou s i) O (j.dr e));have m:Hid (decide ((0:Int)<=jU (KP (CE s i) c))=RH s c i):=Aa (by
  unfold RH jU;cases KP (CE s i) c<;>simp)
 clear f g h j;go_enter func163,ntmps163
 go_wp2_with fail
 go_quiet(first
  |(go_at_call 150;exact Ajz (k.out _ (Dr.one _ _)))
  |(go_at_call 165;exact Ajz (l.out _ (Dr.one _ _))))
 go_wp2_with fail
 trace_state
 go_ret;exact⟨by rw[<-m.out];rfl,b.trans ((Dr.one _ _).below _)⟩
end
def pJ(F:Nat->Bool)(l:List Nat):Option Nat->Prop
 |some a=>a∈l/\F a=true/\∀x∈l,F x=true->a<=x
 |none=>∀x∈l,F x=false
def Wv:Option Nat->Value
 |some a=>.tuple #[.int .i64 (a:Int),.bool true]
 |none=>.tuple #[.int .i64 0,.bool false]
def X7(w:World)(o:Nat):Nat:=match w.cell? (Φ o)with
 |some (.slice _ n _)=>n
 |_=>0
def EJ.X7{w:World}{B o g c:Nat}{l:List Nat}(a:EJ w B o g c l):X7 w o=l.length:=by
 have:=a.box.cell 0;unfold Go.Proofs.YtekhjimghoibfaaGreatDoor.X7;rw[this];rfl
def Ut{w0 w:World}{d p L:Nat}{s:St}{tb hb n cT cH:Nat}(a:Ig w0 d p L s tb hb n cT cH)(X:Vg w0)(c:Nat)(aR:c<4)(D:η w0 w)
 {o g C:Nat}{l:List Nat}(y:EJ w w0.heap.size o g C l)(ac:∀x∈l,x<n)(V:Ku (FI id l) l.length):
 Calls prog 164 #[Az o,.func (.func 163) #[.agg #[Az p,.int .i64 (c:Int)]] #[]] w λi w'=>∃ao,i=.returned (Wv ao)/\pJ (RH s c) l ao/\Touch (λb=>b=o\/b=g) w w':=by
 have aE:=Aa a;have aH:=Aa X;have az:=Aa ac;have bb:=y.hB;have a9:=y.uK.1;have a2:=D.size;clear a X ac;go_enter func164,ntmps164
 go_wp2_with fail
 go_loopw [](λwr=>∃h m,(m++h).Perm l/\(∀x∈m,RH s c x=false)/\Ku (FI id h) h.length/\EJ wr w0.heap.size o g C h/\Touch (λb=>b=o\/b=g) w wr)(λwr=>X7 wr o)
 case atStart=>exact⟨l,[],List.Perm.refl _,by simp,V,y,Touch.refl _ _⟩
 case round=>
  obtain⟨h,m,ah,W,aa,r,K⟩:=hrel;have Y:η w0 wr:=D.trans (K.below a2 (λa5 G=>by rcases G with rfl|rfl<;>assumption));have v:=Aa ah;have B:=Aa W;have av:=Aa aa;have aD:=Aa r;have T:=Aa K;have Q:=Aa Y;have aq:=r.box.p1;have a0:=r.len;have aB:=Aa r.X7;obtain⟨f,H⟩:∃f,h.length=f:=⟨_,rfl⟩;rw[H]at aq a0;have k:=Aa H;have u:=Aa (xg (some (Φ g)) f C wr O);clear ah W aa r K Y H y V D;rcases f with _|f
  ·go_wp2_with fail
   refine u.out.mono ?_;rintro i w'⟨rfl,rfl⟩
   go_wp2_with fail
   go_ret2;have a1:h=[]:=List.eq_nil_of_length_eq_zero k.out;refine⟨none,rfl,λx a3=>?_,T.out⟩;have:=v.out.mem_iff.2 a3;rw[a1,bZ]at this;exact B.out x this
  ·have t1:decide ((0:Int)<((f+1:Nat):Int))=true:=decide_eq_true O;have P:=Aa (heapPop aD.out k.out (by have:=av.out;rw[k.out]at this;exact this));generalize ba:f+1=bc at aq u t1
   go_wp2_with fail
   refine u.out.mono ?_;rintro i w'⟨rfl,rfl⟩
   go_wp2_with fail
   refine P.out.mono ?_;rintro i a8⟨x,an,rfl,J,al,ab,af,M⟩;have am:x∈l:=v.out.mem_iff.1 (List.mem_append_right _ (J.mem_iff.1 (List.mem_cons_self)));have a4:=az.out x am;have t:=T.out.trans M (λb a=>.inl a);have E:η w0 a8:=Q.out.trans (M.below (Ω Q.out.size) (λa5 G=>by rcases G with rfl|rfl<;>assumption));have e:=Acl (aE.out.below E) (aH.out.below E) c x a4 aR;have S:=Aa J;have aL:=Aa al;have aw:=Aa ab;have aM:=Aa af;have U:=Aa t;have a7:=assert_int (x:Int);clear J al ab af t M E P u;have ad:an.length=f:=by have:=S.out.length_eq;simp only[List.length_cons,k.out]at this;omega
   have R:=Aa ad;clear ad;cases j:RH s c x
   ·rw[j]at e;have e:=Aa e;have A:=Aa j;clear j
    go_wp2_with fail
    refine e.out.mono ?_;rintro i ap⟨rfl,q⟩;have I:=aM.out.below q;have t:=U.out.trans (Touch.of_below (F:=λb=>b=o\/b=g) q) (λb a=>.inl a);have ar:=Aa I.X7;have a6:=Aa I;have aG:=Aa t;clear I t q a7
    go_wp2_with fail
    go_roundw
    case rel=>
     refine⟨an,m++[x],?_,?_,by rw[R.out];exact aw.out,a6.out,aG.out⟩
     ·rw[List.append_assoc];exact(List.Perm.append_left m S.out).trans v.out
     ·intro z N;rcases AL.1 N with a|a
      ·exact B.out z a
      ·rw[List.mem_singleton.1 a];exact A.out
    case measure=>show X7 ap o<X7 wr o;rw[ar.out,aB.out,R.out,k.out];omega
   ·rw[j]at e;have e:=Aa e;have A:=Aa j;clear j
    go_wp2_with fail
    refine e.out.mono ?_;rintro i ap⟨rfl,q⟩
    go_wp2_with fail
    go_ret2;refine⟨some x,rfl,⟨am,A.out,λz N Z=>?_⟩,U.out.trans (Touch.of_below (F:=λb=>b=o\/b=g) q) (λb a=>.inl a)⟩;rcases AL.1 (v.out.mem_iff.2 N)with a|a
    ·rw[B.out z a]at Z;cases Z
    ·exact aL.out z a
def Yg(B:Nat):Array MapEntry:= #[{key:=.int .i64 0,val:=Az (B+2),born:=0},{key:=.int .i64 1,val:=Az (B+4),born:=1},{key:=.int .i64 2,val:=Az (B+6),born:=2}]
structure Tri(w0 W:World)(g cc:Nat->Nat)(Ls:Nat->List Nat):Prop where
 map:W.heap[w0.heap.size]?=some (.map (Yg w0.heap.size) 3)
 ord:∀c,c<3->EJ W w0.heap.size (w0.heap.size+2+2*c) (g c) (cc c) (Ls c)
 heap:∀c,c<3->Ku (FI id (Ls c)) (Ls c).length
 apart:∀c c',c<3->c'<3->c≠c'->g c≠g c'/\g c≠w0.heap.size+2+2*c'
 low:η w0 W
def Tri.keep{w0 W b:World}{g cc:Nat->Nat}{Ls:Nat->List Nat}(a:Tri w0 W g cc Ls)(k:η W b):Tri w0 b g cc Ls:=
 ⟨(k.block _ (AA.1 a.map).1).trans a.map,λc d=>(a.ord c d).below k,a.heap,a.apart,τ a.low k⟩
def Tri.push{w0 W n:World}{g cc:Nat->Nat}{Ls:Nat->List Nat}(b:Tri w0 W g cc Ls)(c:Nat)(k:c<3){g' c':Nat}{m:List Nat}(F:EJ n w0.heap.size (w0.heap.size+2+2*c) g' c' m)(C:Ku (FI id m) m.length)
 (s:g'=g c\/W.heap.size<=g')(q:Touch (λr=>r=w0.heap.size+2+2*c\/r=g c) W n):
 Tri w0 n (λx=>if x=c then g' else g x) (λx=>if x=c then c' else cc x) (λx=>if x=c then m else Ls x):=by
 have B:=(b.ord c k).uK;have E:w0.heap.size≠g c:=λa=>by
  rcases(b.ord c k).row.2 with⟨y,_⟩|⟨J,H,I,u,K,A,_⟩
  ·cases y
  ·simp only[Value.slice.injEq,Option.some.injEq,Addr.mk.injEq,and_true,true_and]at u;obtain⟨rfl,rfl⟩:=u;have:=b.map;rw[a,A]at this;cases this
 have w:=(AA.1 b.map).1;refine⟨(q.block _ w (λa=>by rcases a with a|a;omega;exact E a)).trans b.map,λx e=>?_,λx e=>?_,λx i e l o=>?_,b.low.trans (q.below b.low.size (λL D=>by rcases D with rfl|rfl;omega;exact B.1))⟩
 ·by_cases a:x=c
  ·subst a;simp only[if_true];exact F
  ·simp only[if_neg a];have:=b.apart c x k e (λd=>a d.symm);have z:=b.apart x c e k a;exact(b.ord x e).touch q (λd=>by rcases d with d|d;omega;exact this.2 d.symm) (λd=>by rcases d with d|d;exact z.2 d;exact this.1 d.symm)
 ·by_cases a:x=c
  ·simp only[if_pos a];exact C
  ·simp only[if_neg a];exact b.heap x e
 ·have G:∀f,f<3->w0.heap.size+2+2*f<W.heap.size:=λf p=>(b.ord f p).box.lt
  have t:∀f,f<3->g f<W.heap.size:=λf p=>(b.ord f p).uK.2
  by_cases h:x=c
  ·have j:¬i=c:=λa=>o (by rw[h,a])
   simp only[if_pos h,if_neg j];rcases s with a|a
   ·rw[a,<-h];exact b.apart x i e l o
   ·have:=G i l;have:=t i l;omega
  ·by_cases j:i=c
   ·simp only[if_neg h,if_pos j];have v:=b.apart x c e k h;refine⟨?_,by rw[j];exact v.2⟩;rcases s with a|a
    ·rw[a];exact v.1
    ·have:=t x e;omega
   ·simp only[if_neg h,if_neg j];exact b.apart x i e l o
def kF(a:World)(B:Nat)(c:B<=a.heap.size):EJ ((a.alloc (.cells #[] 3)).alloc (.cells #[.slice (some (Φ a.heap.size)) 0 0] 286)) B (a.heap.size+1) a.heap.size 0 []:=by
 have b:(a.alloc (.cells #[] 3)).heap.size=a.heap.size+1:=by simp
 refine⟨?_,?_,O,O,by simp⟩
 ·rw[<-b];exact heap_alloc_new _ _
 ·exact own_below (World.ownsRow_made a #[] 0 c U rfl) ((Below.refl _ _).alloc (Ad _) _)
def Tryz.Qz:prog.underlying 261=some (.map 3 266):=underlying261
def Wx(w a b e:World)(h1:a=EF (((w.alloc (.map #[] 0)).alloc (.cells #[] 3)).alloc (.cells #[.slice (some (Φ (w.heap.size+1))) 0 0] 286)) w.heap.size #[{key:=.int .i64 0,val:=Az (w.heap.size+1+1),born:=0}] 1)
 (h2:b=EF ((a.alloc (.cells #[] 3)).alloc (.cells #[.slice (some (Φ a.heap.size)) 0 0] 286)) w.heap.size #[{key:=.int .i64 0,val:=Az (w.heap.size+2),born:=0},{key:=.int .i64 1,val:=Az (a.heap.size+1),born:=1}] 2)
 (h3:e=EF ((b.alloc (.cells #[] 3)).alloc (.cells #[.slice (some (Φ b.heap.size)) 0 0] 286)) w.heap.size (Yg w.heap.size) 3):
 a.heap.size=w.heap.size+3/\b.heap.size=w.heap.size+5/\a.heap[w.heap.size]?=some (.map #[{key:=.int .i64 0,val:=Az (w.heap.size+1+1),born:=0}] 1)/\Tri w e (λd=>w.heap.size+1+2*d) (λ_=>0) (λ_=>[]):=by
 have j:a.heap.size=w.heap.size+3:=by rw[h1,Xz];simp
 have o:b.heap.size=w.heap.size+5:=by rw[h2,Xz];simp[j]
 have q:(w.alloc (.map #[] 0)).heap.size=w.heap.size+1:=by simp
 have p:η w (w.alloc (.map #[] 0)):=(Below.refl _ _).alloc (Ad _) _;have l:=kF (w.alloc (.map #[] 0)) w.heap.size O;rw[q]at l;have t1:=J4 (((w.alloc (.map #[] 0)).alloc (.cells #[] 3)).alloc (.cells #[.slice (some (Φ (w.heap.size+1))) 0 0] 286)) w.heap.size #[{key:=.int .i64 0,val:=Az (w.heap.size+1+1),born:=0}] 1;rw[<-h1]at t1;have v:=l.touch t1 O O;have r:η w a:=((p.alloc Θ _).alloc (by simp;omega) _).trans (t1.below (by simp;omega) (λi c=>by rw[c];exact Ad _));have u:a.heap[w.heap.size]?=some (.map #[{key:=.int .i64 0,val:=Az (w.heap.size+1+1),born:=0}] 1):=by rw[h1];exact NU _ _ _ _ (by simp;omega)
 have z:=kF a w.heap.size O;have k:η a ((a.alloc (.cells #[] 3)).alloc (.cells #[.slice (some (Φ a.heap.size)) 0 0] 286)):=((Below.refl _ _).alloc (Ad _) _).alloc Θ _;have t2:Touch (λf=>f=w.heap.size) ((a.alloc (.cells #[] 3)).alloc (.cells #[.slice (some (Φ a.heap.size)) 0 0] 286)) b:=by rw[h2];exact J4 _ _ _ _
 have x:=(v.below k).touch t2 O O;have A:=z.touch t2 O O;have s:η w b:=r.trans ((k.mono O).trans (t2.below (by simp;omega) (λi c=>by rw[c];exact Ad _)));have B:=kF b w.heap.size O;have g:η b ((b.alloc (.cells #[] 3)).alloc (.cells #[.slice (some (Φ b.heap.size)) 0 0] 286)):=((Below.refl _ _).alloc (Ad _) _).alloc Θ _;have t3:Touch (λf=>f=w.heap.size) ((b.alloc (.cells #[] 3)).alloc (.cells #[.slice (some (Φ b.heap.size)) 0 0] 286)) e:=by rw[h3];exact J4 _ _ _ _
 have y:=(x.below g).touch t3 O O;have m:=(A.below g).touch t3 O O;have n:=B.touch t3 O O;have t:η w e:=s.trans ((g.mono O).trans (t3.below (by simp;omega) (λi c=>by rw[c];exact Ad _)));refine⟨j,o,u,⟨by rw[h3];exact NU _ _ _ _ (by simp;omega),λd h=>?_,λd h i D c=>by simp at c,λd C h E F=>by constructor<;>omega,t⟩⟩;rw[j]at m;rw[o]at n
 match d,h with
 |0,_=>exact y
 |1,_=>exact m
 |2,_=>exact n
def OO(s:St)(c k:Nat):List Nat:=(List.range k).filter λa=>decide (Bc (CE s a)=c)
def xk(s:St)(c k:Nat):OO s c (k+1)=OO s c k++if Bc (CE s k)=c then[k]else[]:=by
 unfold OO;rw[cu,List.filter_append];by_cases a:Bc (CE s k)=c<;>simp[a]
def Agn(s:St)(c k:Nat):(OO s c k).length<=k:=by
 have:=List.length_filter_le (λa=>decide (Bc (CE s a)=c)) (List.range k);simpa[OO]using this
def xm(x:Nat):Bc x<3:=by
 have d:=NT x;by_cases a:Bc x=3
 ·exfalso;unfold Bc at a;split at a
  ·rename_i b;unfold FW at b;rw[a]at b;by_cases c:x=0
   ·subst c;revert a;decide
   ·simp[c,Bz,fieldN,Nat.mod_one]at b
  ·cases a
 ·omega
def pK{w:World}{d p L:Nat}{s:St}{tb hb n cT cH:Nat}(g:Ig w d p L s tb hb n cT cH):
 Calls prog 162 #[Az p] w λh w'=>h=.returned (.map (some w.heap.size))/\
  ∃k j f,Tri w w' k j f/\∀a,a<3->(f a).Perm (OO s a n):=by
 have F:=Aa g;have ar:=D8 w _ g.y5;have ap:=g.y5;have aB:n<=64:=Ξ g.ok.fits g.L1 g.bV;have ao:=λaf=>run_makeMap (P:=prog) 261 af
 clear g;go_enter func162,ntmps162
 go_wp2_with fail
 rw[Yv Tryz.Qz underlying3 _ _ #[] 0 _ _ ?h1 ?f1]
 case h1=>exact(χ _ _ (by simp;omega)).trans ((χ _ _ Θ).trans (heap_alloc_new _ _))
 case f1=>rfl
 obtain⟨c,q⟩:∃c,c=EF (((w.alloc (.map #[] 0)).alloc (.cells #[] 3)).alloc (.cells #[.slice (some (Φ (w.heap.size+1))) 0 0] 286)) w.heap.size #[{key:=.int .i64 0,val:=Az (w.heap.size+1+1),born:=0}] 1:=⟨_,rfl⟩;rw[show EF (((w.alloc (.map #[] 0)).alloc (.cells #[] 3)).alloc (.cells #[.slice (some (Φ (w.heap.size+1))) 0 0] 286)) w.heap.size (#[].push {key:=.int .i64 0,val:=Az (w.heap.size+1+1),born:=0}) (0+1)=c from q.symm];have z:=Aa q;obtain⟨Z,-,X,-⟩:=Wx w c _ _ q rfl rfl;clear q
 go_wp2_with fail
 rw[Yv Tryz.Qz underlying3 _ _ _ 1 _ _ ?h2 ?f2]
 case h2=>exact(χ _ _ (by simp;omega)).trans ((χ _ _ O).trans X)
 case f2=>rfl
 obtain⟨e,r⟩:∃e,e=EF ((c.alloc (.cells #[] 3)).alloc (.cells #[.slice (some (Φ (w.heap.size+3))) 0 0] 286)) w.heap.size #[{key:=.int .i64 0,val:=Az (w.heap.size+1+1),born:=0},{key:=.int .i64 1,val:=Az (w.heap.size+3+1),born:=1}] 2:=⟨_,rfl⟩;rw[show EF ((c.alloc (.cells #[] 3)).alloc (.cells #[.slice (some (Φ (w.heap.size+3))) 0 0] 286)) w.heap.size (#[{key:=.int .i64 0,val:=Az (w.heap.size+1+1),born:=0}].push {key:=.int .i64 1,val:=Az (w.heap.size+3+1),born:=1}) (1+1)=e from r.symm];have u:e=EF ((c.alloc (.cells #[] 3)).alloc (.cells #[.slice (some (Φ c.heap.size)) 0 0] 286)) w.heap.size #[{key:=.int .i64 0,val:=Az (w.heap.size+2),born:=0},{key:=.int .i64 1,val:=Az (c.heap.size+1),born:=1}] 2:=by rw[r,Z]
 have Y:e.heap[w.heap.size]?=some (.map #[{key:=.int .i64 0,val:=Az (w.heap.size+1+1),born:=0},{key:=.int .i64 1,val:=Az (w.heap.size+3+1),born:=1}] 2):=by rw[r];exact NU _ _ _ _ (by simp;omega)
 obtain⟨-,aa,-,-⟩:=Wx w c e _ z.out u rfl;have I:=Aa u;clear r u X
 go_wp2_with fail
 rw[Yv Tryz.Qz underlying3 _ _ _ 2 _ _ ?h3 ?f3]
 case h3=>exact(χ _ _ (by simp;omega)).trans ((χ _ _ O).trans Y)
 case f3=>rfl
 obtain⟨m,A⟩:=ε (EF ((e.alloc (.cells #[] 3)).alloc (.cells #[.slice (some (Φ (w.heap.size+5))) 0 0] 286)) w.heap.size (Yg w.heap.size) 3);rw[show EF ((e.alloc (.cells #[] 3)).alloc (.cells #[.slice (some (Φ (w.heap.size+5))) 0 0] 286)) w.heap.size (#[{key:=.int .i64 0,val:=Az (w.heap.size+1+1),born:=0},{key:=.int .i64 1,val:=Az (w.heap.size+3+1),born:=1}].push {key:=.int .i64 2,val:=Az (w.heap.size+5+1),born:=2}) (2+1)=m from A.symm];have C:m=EF ((e.alloc (.cells #[] 3)).alloc (.cells #[.slice (some (Φ e.heap.size)) 0 0] 286)) w.heap.size (Yg w.heap.size) 3:=by rw[A,aa]
 obtain⟨-,-,-,v⟩:=Wx w c e m z.out I.out C;have aq:m.cell? (Δ p 5)=some (.slice (some (Φ tb)) n cT):=(F.out.below v.low).y5;clear A C z I Y Z aa ap ao;have H:=Aa v;clear v
 go_wp2_with fail
 go_loopw [18](λB wr=>∃b k j f,b<=n/\B=.int .i64 (b:Nat)/\Tri w wr k j f/\∀a,a<3->(f a).Perm (OO s a b))(λB _=>n-(intOf B).toNat)
 case atStart=>exact⟨0,_,_,_,Nat.zero_le _,rfl,H.out,λa _=>List.Perm.refl _⟩
 case round=>
  obtain⟨b,k,j,f,az,rfl,J,U⟩:=hrel;have y:=Aa J;have o:=Aa U;clear J U H aq;by_cases am:b<n
  ·have i:=xm (CE s b);obtain⟨a,t⟩:∃a,Bc (CE s b)=a:=⟨_,rfl⟩;rw[t]at i;have E:=Aa (Hu (CE s b) · (Ou s b));rw[t]at E;have ad:=Aa t;clear t
   go_wp2_with fail
   refine(LU (F.out.below y.out.low) b am).mono ?_;rintro h aD⟨rfl,M⟩
   go_wp2_with fail
   refine(E.out _).mono ?_;rintro h aE⟨rfl,N⟩;have K:=M.trans N;have D:=y.out.keep (K.below _);have l:=Aa D;clear D M N K
   go_wp2_with fail
   rw[Oq Tryz.Qz underlying3 _ _ (Yg w.heap.size) 3 _ a (Az (w.heap.size+2+2*a)) ?h4 ?f4]
   case h4=>exact l.out.map
   case f4=>
    match a,i with
    |0,_=>rfl
    |1,_=>rfl
    |2,_=>rfl
   have al:(f a).length<1000:=by
    have:=(o.out a i).length_eq;have:=Agn s a b;omega
   have G:=Aa (Agm b (l.out.ord a i) al (l.out.heap a i))
   go_wp2_with fail
   refine G.out.mono ?_;rintro h aG⟨rfl,aw,av,an,T,R,S,Q,V⟩;have ac:=Aa (l.out.push a i S R Q V);have ab:Hid (∀x,x<3->((λx=>if x=a then an else f x) x).Perm (OO s x (b+1))):=Aa (λx W=>by
    rw[xk,ad.out];by_cases h:x=a
    ·subst h;simp only[if_true];exact T.trans (List.Perm.append_right _ (o.out x W))
    ·rw[if_neg (show¬a=x from λg=>h g.symm),bZ];simp only[if_neg h];exact o.out x W)
   clear T R S Q V G
   go_wp2_with fail
   go_roundw
   case rel=>exact⟨b+1,_,_,_,O,by go_num,ac.out,ab.out⟩
   case measure=>simp[intOf];omega
  ·have ah:b=n:=O;subst ah
   go_wp2_with fail
   go_ret;exact⟨rfl,k,j,f,y.out,o.out⟩
def ZB{s:St}{c k n:Nat}{l:List Nat}{r:Option Nat}(p:s.tk.length=n)(o:l.Perm (OO s k n))(f:pJ (RH s c) l r):LJ s k c=r:=by
 have e:∀x,x∈l<->x<n/\Bc (CE s x)=k:=λx=>by rw[o.mem_iff];simp[OO]
 unfold LJ;rw[p];cases r with
 |none=>
  rw[List.find?_eq_none];intro x q;have t:x<n:=DY.1 q;by_cases a:Bc (CE s x)=k
  ·have:=f x ((e x).2 ⟨t,a⟩);unfold RH at this;simp[a,this]
  ·simp[a]
 |some u=>
  obtain⟨h,g,i⟩:=f;obtain⟨m,j⟩:=(e u).1 h;rw[List.find?_range_eq_some];refine⟨by unfold RH at g;simp[j,g],DY.2 m,λd v=>?_⟩;by_cases a:Bc (CE s d)=k
  ·by_cases b:RH s c d=true
   ·have:=i d ((e d).2 ⟨O,a⟩) b;omega
   ·unfold RH at b;simp only[Bool.not_eq_true]at b;simp[a,b]
  ·simp[a]
def Q5{s:St}{c i:Nat}(a:MM s c=some i):i<s.tk.length/\(KP (CE s i) c).isSome=true:=by
 have f:∀e,LJ s e c=some i->i<s.tk.length/\(KP (CE s i) c).isSome=true:=λe b=>by
  unfold LJ at b;have g:=DY.1 (List.mem_of_find?_eq_some b);have d:=List.find?_some b;simp only[Bool.and_eq_true]at d;exact⟨g,d.2⟩
 unfold MM at a;split at a
 ·rename_i j h;injection a with a
  subst a;exact f c h
 ·exact f 0 a
def pM{x c k:Nat}(a:KP x c=some k):k<16:=by
 unfold KP at a;split at a
 ·have:=jT a;have:=GI c;omega
 ·cases a
def Q7{w:World}{d p L:Nat}{s:St}{tb hb n cT cH:Nat}(q:Ig w d p L s tb hb n cT cH)(A:Vg w)(c:Nat)(K:1<=c)(M:c<=2){l:World}{g o:Nat->Nat}{h:Nat->List Nat}(b:Tri w l g o h)(t:∀x,x<3->(h x).Perm (OO s x n))(k:Nat)(f:k<3):
 Calls prog 164 #[Az (w.heap.size+2+2*k),.func (.func 163) #[.agg #[Az p,.int .i64 (c:Int)]] #[]] l λa w'=>
  a=.returned (Wv (LJ s k c))/\η w w'/\(∀e,e<3->e≠k->EJ w' w.heap.size (w.heap.size+2+2*e) (g e) (o e) (h e))/\w'.heap[w.heap.size]?=some (.map (Yg w.heap.size) 3):=by
 refine(Ut q A c O b.low (b.ord k f) (λx E=>?_) (b.heap k f)).mono ?_
 ·have:=(t k f).mem_iff.1 E;simp[OO]at this;exact this.1
 rintro a w'⟨N,rfl,D,j⟩;have C:=(b.ord k f).uK;have v:=(AA.1 b.map).1;refine⟨by rw[ZB q.OA (t k f) D],b.low.trans (j.below b.low.size (λF hb=>by rcases hb with rfl|rfl;omega;exact C.1)),λe i r=>?_,?_⟩
 ·have y:=b.apart k e f i (λa=>r a.symm);have m:=b.apart e k i f r;exact(b.ord e i).touch j (λa=>by rcases a with a|a;omega;exact y.2 a.symm) (λa=>by rcases a with a|a;exact m.2 a;exact m.1 a)
 ·refine(j.block _ v (λa=>?_)).trans b.map;rcases a with a|a
  ·omega
  ·rcases(b.ord k f).row.2 with⟨z,_⟩|⟨I,G,H,u,J,B,_⟩
   ·cases z
   ·simp only[Value.slice.injEq,Option.some.injEq,Addr.mk.injEq,and_true,true_and]at u;obtain⟨rfl,rfl⟩:=u;have:=b.map;rw[a,B]at this;cases this
def resV(s:St)(c:Nat):Value:=match CP s c with
 |some (a,_)=>.tuple #[.int .i64 (a:Int),.int .i64 0]
 |none=>.tuple #[.int .i64 0,.int .i64 6]
def Uu(s:St)(c:Nat):St:=match CP s c with
 |some (_,a)=>a
 |none=>s
def ET.below{len:Ef}{w w':World}{d p L:Nat}{s:St}{tb hb n cT cH:Nat}{own:Nat->Prop}(a:ET len w d p L s tb hb n cT cH own)(k:η w w'):ET len w' d p L s tb hb n cT cH own:=by
 exact⟨a.dev.below k,a.L0,a.L1,a.shape,(k.block _ a.box.lt).trans a.box,a.tk.keep (k.block _ a.tk.lt),a.hd.keep (k.block _ a.hd.lt),a.OA,a.mX,a.bV,a.cT,a.cH,a.dp,a.dt,a.dh,a.pt,a.ph,a.th,a.tabs.below k,a.g1,a.g2⟩
def Vo{m:Ef}{w:World}{d p L:Nat}{s:St}{F:Nat->Prop}(a3:Ej m w d p L s F)(c:Nat)(az:1<=c)(aB:c<=2):
 Calls prog 128 #[Az p,.int .i64 (c:Int)] w λb w'=>b=.returned (resV s c)/\Ej m w' d p L (Uu s c) F/\AP F F w w':=by
 have a8:=Aa a3;obtain⟨tb,hb,n,cT,cH,own,N,hF⟩:=a3;have q:=Aa N.at;have R:=Aa N;have ao:=Aa hF;have ap:s.tk.length=n:=N.OA;have a4:Vg w:=N.tabs.jR;have D:=Aa a4;have Q:=Aa (Gy N.at);have t0:(((Bz c:Nat):Int)==0)=false:=by
  rw[beq_eq_false_iff_ne];have:Bz c≠0:=by
   rcases(by omega:c=1\/c=2)with rfl|rfl<;>decide
  omega
 have B:=Aa (GK c w O);generalize Bz c=bh at B t0;have S:=Aa (pK N.at);have a5:∀o:Nat,o<3->Instr.findNow (.int .i64) (.int .i64 (o:Int)) (Yg w.heap.size).toList 0=some (some (o,Az (w.heap.size+2+2*o))):=λo I=>by
  match o,I with
  |0,_=>rfl
  |1,_=>rfl
  |2,_=>rfl
 have ar:=Aa a5;clear N hF a4 a5;cases g:LJ s c c with
 |some a=>
  have an:Hid (Wv (LJ s c c)=.tuple #[.int .i64 (a:Int),.bool true]):=Aa (by rw[g];rfl);have P:MM s c=some a:=by rw[MM,g]
  obtain⟨v,af⟩:=Q5 P;rw[ap]at v;obtain⟨f,y⟩:=cO.1 af;have bb:=pM y;obtain⟨x,h⟩:∃x,(FX (hdN s a) c f).1=x:=⟨_,rfl⟩;have aE:x<18446744073709551616:=by rw[<-h];exact Zq _ _ _ (Kr s a) O
  have j:CP s c=some (CY s.sh a c f,{s with hd:=s.hd.set a (Aj x)}):=by unfold CP;rw[P];simp only[y,h]
  have X:Hid (resV s c=.tuple #[.int .i64 ((CY s.sh a c f:Nat):Int),.int .i64 0]):=Aa (by rw[resV,j]);have Y:Hid (Uu s c={s with hd:=s.hd.set a (Aj x)}):=Aa (by rw[Uu,j]);have aw:Hid (jU (KP (CE s a) c)=(f:Int)):=Aa (by rw[y];rfl);have E:=Aa (take_any (hdN s a) c f · (Kr s a) O O);rw[h]at E;generalize(FX (hdN s a) c f).2=ba at*;clear P af y h j;clear g;go_enter func128,ntmps128
  go_wp2_with fail
  refine Q.out.mono ?_;rintro b w'⟨rfl,rfl⟩
  go_wp2_with fail
  refine B.out.mono ?_;rintro b w'⟨rfl,rfl⟩
  go_wp2_with fail
  refine S.out.mono ?_;rintro b a6⟨rfl,a2,a1,a0,z,A⟩;have l:=Aa z;have t:=Aa A;clear z A S B Q
  go_wp2_with fail
  rw[Oq Tryz.Qz underlying3 _ _ (Yg w.heap.size) 3 _ c _ l.out.map (ar.out c O)]
  go_wp2_with fail
  refine(Q7 q.out D.out c az aB l.out t.out c O).mono ?_;rintro b a7⟨rfl,e,M,J⟩;rw[an.out];clear M J;have Z:=Aa e;have V:=q.out.below e;have W:=D.out.below e;clear e
  go_wp2_with fail
  refine(LU V a v).mono ?_;rintro b aH⟨rfl,H⟩
  go_wp2_with fail
  refine(Wq (CE s a) c aH (Ou s a) O (W.dr H)).mono ?_;rintro b k⟨rfl,ab⟩;rw[aw.out];have aa:=H.trans ab;have u:=τ Z.out (aa.below _);have G:=q.out.below u;have aR:=G.y6;have aL:=G.hd a v;have aM:k.frozen? (Δ hb a)=false:=(u.frozen (p:=Δ hb a) R.out.hd.lt).trans (R.out.hd.frozen a);have av:=Aa u;clear H ab aa V W G u Z
  go_wp2_with fail
  go_region_with(go_at_call 166;go_loud(refine(E.out _).mono ?_;rintro b be⟨rfl,bc,rfl⟩))
  all_goals(clear aR aL aM E)
  all_goals(have C:Hid (∀i,Dr k i->ET m (i.setCell (Δ hb a) (.int .u64 (x:Int))) d p L {s with hd:=s.hd.set a (Aj x)} tb hb n cT cH own/\AP F F w (i.setCell (Δ hb a) (.int .u64 (x:Int)))):=Aa (λi o=>by
   have I:η w i:=τ av.out (o.below _);have g:=(R.out.below I).Agf a (Aj x);rw[jX x aE]at g;exact⟨g,(AP.of_below I).set (p:=Δ hb a) (.inl ((ao.out hb).2 (.inr (.inr (.inr rfl))))) _⟩))
  all_goals(go_wp2_with fail)
  all_goals(refine(Un (C.out _ (Dr.one k _)).1.at a c f v O O).mono ?_)
  all_goals(rintro b bg⟨rfl,ac⟩)
  all_goals(go_wp2_with fail)
  all_goals(go_ret2)
  all_goals(refine⟨by rw[X.out];rfl,?_,(C.out _ (Dr.one k _)).2.dr ac⟩)
  all_goals(rw[Y.out])
  all_goals(exact⟨tb,hb,n,cT,cH,own,(C.out _ (Dr.one k _)).1.dr ac,ao.out⟩)
 |none=>
  have an:Hid (Wv (LJ s c c)=.tuple #[.int .i64 0,.bool false]):=Aa (by rw[g];rfl);by_cases bi:c=0
  ·omega
  cases T:LJ s 0 c with
  |some a=>
   have aq:=Aa T;have P:MM s c=some a:=by rw[MM,g];exact T
   obtain⟨v,af⟩:=Q5 P;rw[ap]at v;obtain⟨f,y⟩:=cO.1 af;have bb:=pM y;obtain⟨x,h⟩:∃x,(FX (hdN s a) c f).1=x:=⟨_,rfl⟩;have aE:x<18446744073709551616:=by rw[<-h];exact Zq _ _ _ (Kr s a) O
   have j:CP s c=some (CY s.sh a c f,{s with hd:=s.hd.set a (Aj x)}):=by unfold CP;rw[P];simp only[y,h]
   have X:Hid (resV s c=.tuple #[.int .i64 ((CY s.sh a c f:Nat):Int),.int .i64 0]):=Aa (by rw[resV,j]);have Y:Hid (Uu s c={s with hd:=s.hd.set a (Aj x)}):=Aa (by rw[Uu,j]);have aw:Hid (jU (KP (CE s a) c)=(f:Int)):=Aa (by rw[y];rfl);have E:=Aa (take_any (hdN s a) c f · (Kr s a) O O);rw[h]at E;generalize(FX (hdN s a) c f).2=ba at*;clear P af y h j;clear g T;go_enter func128,ntmps128
   go_wp2_with fail
   refine Q.out.mono ?_;rintro b w'⟨rfl,rfl⟩
   go_wp2_with fail
   refine B.out.mono ?_;rintro b w'⟨rfl,rfl⟩
   go_wp2_with fail
   refine S.out.mono ?_;rintro b a6⟨rfl,a2,a1,a0,z,A⟩;have l:=Aa z;have t:=Aa A;clear z A S B Q
   go_wp2_with fail
   rw[Oq Tryz.Qz underlying3 _ _ (Yg w.heap.size) 3 _ c _ l.out.map (ar.out c O)]
   go_wp2_with fail
   refine(Q7 q.out D.out c az aB l.out t.out c O).mono ?_;rintro b a7⟨rfl,e,M,J⟩;rw[an.out];have K:=M 0 O O;rw[show w.heap.size+2+2*0=w.heap.size+2 from rfl]at K;have U:=Aa J;have r:=Aa K;clear M J K
   go_wp2_with fail
   rw[Oq Tryz.Qz underlying3 _ _ (Yg w.heap.size) 3 0 0 (Az (w.heap.size+2)) U.out rfl]
   go_wp2_with fail
   refine(Ut q.out D.out c O e r.out (λx h=>?_) (l.out.heap 0 O)).mono ?_
   ·have:=(t.out 0 O).mem_iff.1 h;simp[OO]at this;exact this.1
   rintro b bd⟨aG,rfl,al,am⟩;have aD:aG=some a:=by rw[<-ZB ap (t.out 0 O) al];exact aq.out
   subst aD;have ad:=r.out.uK;have ah:=r.out.hB;replace e:=e.trans (am.below e.size (λa9 hb=>by rcases hb with rfl|rfl;exact ah;exact ad.1));clear am al ad ah r U;rw[show Wv (some a)=.tuple #[.int .i64 (a:Int),.bool true]from rfl];have Z:=Aa e;have V:=q.out.below e;have W:=D.out.below e;clear e
   go_wp2_with fail
   refine(LU V a v).mono ?_;rintro b aH⟨rfl,H⟩
   go_wp2_with fail
   refine(Wq (CE s a) c aH (Ou s a) O (W.dr H)).mono ?_;rintro b k⟨rfl,ab⟩;rw[aw.out];have aa:=H.trans ab;have u:=τ Z.out (aa.below _);have G:=q.out.below u;have aR:=G.y6;have aL:=G.hd a v;have aM:k.frozen? (Δ hb a)=false:=(u.frozen (p:=Δ hb a) R.out.hd.lt).trans (R.out.hd.frozen a);have av:=Aa u;clear H ab aa V W G u Z
   go_wp2_with fail
   go_region_with(go_at_call 166;go_loud(refine(E.out _).mono ?_;rintro b be⟨rfl,bc,rfl⟩))
   all_goals(clear aR aL aM E)
   all_goals(have C:Hid (∀i,Dr k i->ET m (i.setCell (Δ hb a) (.int .u64 (x:Int))) d p L {s with hd:=s.hd.set a (Aj x)} tb hb n cT cH own/\AP F F w (i.setCell (Δ hb a) (.int .u64 (x:Int)))):=Aa (λi o=>by
    have I:η w i:=τ av.out (o.below _);have g:=(R.out.below I).Agf a (Aj x);rw[jX x aE]at g;exact⟨g,(AP.of_below I).set (p:=Δ hb a) (.inl ((ao.out hb).2 (.inr (.inr (.inr rfl))))) _⟩))
   all_goals(go_wp2_with fail)
   all_goals(refine(Un (C.out _ (Dr.one k _)).1.at a c f v O O).mono ?_)
   all_goals(rintro b bg⟨rfl,ac⟩)
   all_goals(go_wp2_with fail)
   all_goals(go_ret2)
   all_goals(refine⟨by rw[X.out];rfl,?_,(C.out _ (Dr.one k _)).2.dr ac⟩)
   all_goals(rw[Y.out])
   all_goals(exact⟨tb,hb,n,cT,cH,own,(C.out _ (Dr.one k _)).1.dr ac,ao.out⟩)
  |none=>
   have aq:=Aa T;have j:CP s c=none:=by unfold CP MM;rw[g,T]
   have X:Hid (resV s c=.tuple #[.int .i64 0,.int .i64 6]):=Aa (by rw[resV,j]);have Y:Hid (Uu s c=s):=Aa (by rw[Uu,j]);clear g T j;go_enter func128,ntmps128
   go_wp2_with fail
   refine Q.out.mono ?_;rintro b w'⟨rfl,rfl⟩
   go_wp2_with fail
   refine B.out.mono ?_;rintro b w'⟨rfl,rfl⟩
   go_wp2_with fail
   refine S.out.mono ?_;rintro b a6⟨rfl,a2,a1,a0,z,A⟩;have l:=Aa z;have t:=Aa A;clear z A S B Q
   go_wp2_with fail
   rw[Oq Tryz.Qz underlying3 _ _ (Yg w.heap.size) 3 _ c _ l.out.map (ar.out c O)]
   go_wp2_with fail
   refine(Q7 q.out D.out c az aB l.out t.out c O).mono ?_;rintro b a7⟨rfl,e,M,J⟩;rw[an.out];have K:=M 0 O O;rw[show w.heap.size+2+2*0=w.heap.size+2 from rfl]at K;have U:=Aa J;have r:=Aa K;clear M J K
   go_wp2_with fail
   rw[Oq Tryz.Qz underlying3 _ _ (Yg w.heap.size) 3 0 0 (Az (w.heap.size+2)) U.out rfl]
   go_wp2_with fail
   refine(Ut q.out D.out c O e r.out (λx h=>?_) (l.out.heap 0 O)).mono ?_
   ·have:=(t.out 0 O).mem_iff.1 h;simp[OO]at this;exact this.1
   rintro b bd⟨aG,rfl,al,am⟩;have aD:aG=none:=by rw[<-ZB ap (t.out 0 O) al];exact aq.out
   subst aD;have ad:=r.out.uK;have ah:=r.out.hB;replace e:=e.trans (am.below e.size (λa9 hb=>by rcases hb with rfl|rfl;exact ah;exact ad.1));clear am al ad ah r U;rw[show Wv none=.tuple #[.int .i64 0,.bool false]from rfl]
   go_wp2_with fail
   go_ret2;refine⟨by rw[X.out];rfl,?_,AP.of_below e⟩;rw[Y.out];exact a8.out.below e
def Tryz.Agp:JE prog 109 43 (.int .u64 0) 1 8:=⟨underlying109,by kernel_rfl,rfl⟩
def Acm(p a i:Nat)(w:World)(d:w.cell? (Δ p 3)=some (.int .i64 (a:Int)))(c:a<=100000)(hi:i<=100000):Calls prog 55 #[Az p,.int .i64 (i:Int)] w λb w'=>b=.returned (.int .i64 ((a:Int)+8*(i:Int)))/\w=w':=by
 go_enter func55,ntmps55;go_wp2;go_ret;exact⟨by go_num,rfl⟩
def kG(ws:Nat->UInt64)(a k:Nat):(wordsAt ws a (k+1)).map wv=(wordsAt ws a k).map wv++[.int .u64 ((ws (a+k)).toNat:Int)]:=by
 simp[wordsAt,cu,wv]
def xn{o d c:World}{a k b f l:Nat}{v q r s t u w:Value}{ws:Nat->UInt64}{B:Nat}{x:UInt64}(L:ws (B+k)=x)(_:l<=a)
 (n:CQ d a 111 [q,r,s,t,u,v,w])(A:(k=0/\v=.slice none 0 0)\/∃g m,v=.slice (some (Φ g)) k m/\a<g)(H:Below a o d)(_:o.heap.size<=d.heap.size)
 (E:c.ownsRow l 43 1 (.slice (some (Φ b)) (k+1) f) (k+1) ((wordsAt ws B k).map wv++[.int .u64 (x.toNat:Int)]))(y:Below l d c)(z:Kept d c v.ownBlock)(I:v.ownBlock=some b\/d.heap.size<=b):
 CQ (c.setCell (Δ a 5) (.slice (some (Φ b)) (k+1) f)) a 111 [q,r,s,t,u,.slice (some (Φ b)) (k+1) f,w]/\a<b/\
  (c.setCell (Δ a 5) (.slice (some (Φ b)) (k+1) f)).ownsRow l 43 1 (.slice (some (Φ b)) (k+1) f) (k+1) ((wordsAt ws B (k+1)).map wv)/\Below a o (c.setCell (Δ a 5) (.slice (some (Φ b)) (k+1) f)):=by
 have J:some a≠v.ownBlock:=λi=>by rcases A with⟨_,j⟩|⟨g,m,j,C⟩<;>(subst j;simp[Ba]at i);omega
 have K:a<b:=by
  rcases I with j|j
  ·rcases A with⟨_,h⟩|⟨g,m,h,C⟩<;>(subst h;simp[Ba]at j);omega
  ·have:=n.lt;omega
 have F:CQ c a 111 [q,r,s,t,u,v,w]:=(z.2 a n.lt J).trans n;refine⟨F.AZ 5 _,K,?_,?_⟩
 ·rw[kG,L];refine Ie E ((Touch.refl (λe=>e=a) c).setCell (p:=Δ a 5) (.inl rfl) _) (λe hb i=>?_);have:b=e:=by simpa[Ba]using hb
  omega
 ·have D:=n.lt;have G:Below a d c:=⟨y.os,y.tape,y.output,z.1,λe hb=>z.2 e (Nat.lt_trans hb D) (λi=>by
   rcases A with⟨_,h⟩|⟨g,m,h,C⟩
   ·subst h;simp[Ba]at i
   ·subst h;have:e=g:=by simpa[Ba]using i
    omega)⟩
  exact(H.trans G).setCell (p:=Δ a 5) (Ad _) _
def Anu(len:Mode)(d L:Nat)(ws:Nat->UInt64)(own:Nat->Prop)(sh:Sh)(w:World)(e:Ending)(w':World):Prop:=
 η w w'/\((∀a,a<sh.BQ->FW (ws (sh.table/8+a)).toNat=true)->∃p F,e=.returned (.tuple #[Az p,.int .i64 0])/\
  Ej len w' d p L {sh:=sh,ws:=ws,tk:=wordsAt ws (sh.table/8) sh.BQ,hd:=BC sh.BQ 0} F/\∀b,F b->own b\/w.heap.size<=b)/\
  ((∃a,a<sh.BQ/\¬FW (ws (sh.table/8+a)).toNat=true)->e=.returned (.tuple #[.pointer none,.int .i64 5]))
def dK{len:Mode}{w:World}{d L:Nat}{ws:Nat->UInt64}{own:Nat->Prop}{sh:Sh}(aq:0<L)(ap:L<=1024)(aH:shapeOf L=some sh)(H:len.lf≠0)(b:Dev w d L ws len (λ_=>0) own)(av:Tabs w)(cn:¬own 0)(co:¬own 1)
 (bg:wordsAt ws 0 8=wordsOf sh):
 Calls prog 26 #[Az d] w (Anu len d L ws own sh w):=by
 have ac:=IL aH;have bc:=Aa (fZ aq ap aH H b av);have am:Hid (Vl ws sh=.tuple #[wS sh,.int .i64 0]):=Aa (by rw[Vl,if_pos bg]);obtain⟨n,i⟩:∃x,sh.BQ=x:=⟨_,rfl⟩;obtain⟨tb,ab⟩:∃x,sh.table=x:=⟨_,rfl⟩;obtain⟨m,bm⟩:∃x,sh.data=x:=⟨_,rfl⟩;obtain⟨r,bX⟩:∃x,sh.lines=x:=⟨_,rfl⟩;have bt:wS sh=.agg #[.int .i64 (r:Int),.int .i64 (n:Int),.int .i64 (tb:Int),.int .i64 (m:Int)]:=by rw[wS,i,ab,bm,bX]
 rw[bt]at am;have cR:n<=64:=Ω ac.fits;have a1:tb=128:=by rw[<-ab];exact ac.table
 obtain⟨cG,o,bA,bB,bE⟩:=info_parts Tryz.Jc.hi;have cy:∀k:World,(Instr.makeSlice 109 (.int .i64 (n:Int)) (.int .i64 (n:Int))).run prog k=.ok (.slice (some (Φ k.heap.size)) n n) (k.alloc (.cells (madeCells (Aw .u64 0).cells (n*1)) 43)):=λk=>by
  have:=run_make (P:=prog) (w:=k) 109 43 cG (.int .u64 0) underlying109 o bA .i64 .i64 (n:Int) (n:Int) O O (by rw[bE];omega) O;rw[bB]at this;simpa using this
 obtain⟨v,bL⟩:∃v,madeCells (Aw .u64 0).cells (n*1)=v:=⟨_,rfl⟩;rw[bL]at cy;have bb:=Aa (λk(c:η w k)=>(b.below c:Dev k d L ws len (λ_=>0) own));have ah:=Aa ac;have ca:=Aa b.lt;have ce:=Aa aH;have b5:tb<=100000:=O;have a2:=Aa a1;have al:=Aa ab;clear b ac bt bg o bA bB bE a1 ab;go_enter func26,ntmps26
 go_wp2_with fail
 refine bc.out.mono ?_;rintro h Q⟨rfl,az⟩;rw[am.out]
 go_wp2_with fail
 obtain⟨g,Z⟩:=ε (Q.alloc (.cells #[.int .i64 (r:Int),.int .i64 (n:Int),.int .i64 (tb:Int),.int .i64 (m:Int)] 108));have J:CQ g Q.heap.size 108 [.int .i64 (r:Int),.int .i64 (n:Int),.int .i64 (tb:Int),.int .i64 (m:Int)]:=by rw[Z];exact heap_alloc_new _ _
 have bk:η w g:=by rw[Z];exact az.alloc az.size _
 rw[<-Z];obtain⟨b1,b2,b3,b4,f0,f1,f2,f3⟩:=CO J;have a3:CQ (g.alloc (.cells v 43)) Q.heap.size 108 [.int .i64 (r:Int),.int .i64 (n:Int),.int .i64 (tb:Int),.int .i64 (m:Int)]:=(χ _ _ J.lt).trans J;obtain⟨cK,cL,cM,cN,_,_,_,_⟩:=CO a3;have T:=Aa J;have R:=Aa bk;clear Z J a3 bk az bc;go_region;obtain⟨z,s⟩:=ε (((g.alloc (.cells v 43)).alloc (.cells #[Az d,.int .i64 (r:Int),.int .i64 (n:Int),.int .i64 (tb:Int),.int .i64 (m:Int),.slice none 0 0,.slice (some (Φ g.heap.size)) n n] 111)).drew);have j:(g.alloc (.cells v 43)).heap.size=g.heap.size+1:=by simp
 have X:CQ z (g.heap.size+1) 111 [Az d,.int .i64 (r:Int),.int .i64 (n:Int),.int .i64 (tb:Int),.int .i64 (m:Int),.slice none 0 0,.slice (some (Φ g.heap.size)) n n]:=by
  rw[s,<-j];exact heap_alloc_new _ _
 have aw:z.heap[g.heap.size]?=some (.cells v 43 (0,0)):=by
  rw[s];exact(χ _ _ O).trans (heap_alloc_new _ _)
 have Y:CQ z Q.heap.size 108 [.int .i64 (r:Int),.int .i64 (n:Int),.int .i64 (tb:Int),.int .i64 (m:Int)]:=by
  have:=T.out.lt;rw[s];exact(χ _ _ O).trans ((χ _ _ this).trans T.out)
 have bl:η w z:=by
  have:=R.out.size;rw[s];exact((R.out.alloc this _).alloc O _).trans ((Dr.drew _).below _)
 rw[<-s];have cF:=R.out.size;have bs:=T.out.lt;have cH:z.heap.size=g.heap.size+1+1:=by rw[s];show(Array.size _)=_;simp
 clear s cK cL cM cN b1 b2 b3 b4 f0 f1 f2 f3 j;obtain⟨e,bo⟩:∃e,g.heap.size+1=e:=⟨_,rfl⟩;obtain⟨C,cw⟩:∃C,g.heap.size=C:=⟨_,rfl⟩;obtain⟨bV,cC⟩:∃bV,Q.heap.size=bV:=⟨_,rfl⟩;rw[bo]at X cH⊢;rw[cw]at X aw cF bs bo⊢;rw[cC]at Y bs⊢;obtain⟨b1,b2,b3,b4,f0,f1,f2,f3⟩:=CO Y;have cc:=Aa X;have cg:=Aa aw;have c3:=Aa Y;have b9:=Aa bl;clear X aw Y bl T R am
 go_wp2_with fail
 go_loopw [27](λf wr=>∃c t,c<=n/\f=.int .i64 (c:Nat)/\CQ wr e 111 [Az d,.int .i64 (r:Int),.int .i64 (n:Int),.int .i64 (tb:Int),.int .i64 (m:Int),t,.slice (some (Φ C)) n n]/\
  ((c=0/\t=.slice none 0 0)\/∃B V,t=.slice (some (Φ B)) c V/\e<B)/\wr.ownsRow w.heap.size 43 1 t c ((wordsAt ws (tb/8) c).map wv)/\Below e z wr/\∀f,f<c->FW (ws (tb/8+f)).toNat=true)(λf _=>n-(intOf f).toNat)
 case atStart=>exact⟨0,_,Nat.zero_le _,rfl,cc.out,.inl ⟨rfl,rfl⟩,World.ownsRow_nil _ _ _ _,Below.refl _ _,λf o=>absurd o (Nat.not_lt_zero _)⟩
 case round=>
  obtain⟨c,t,c0,rfl,ar,bx,G,aB,bj⟩:=hrel;have aD:η w wr:=b9.out.trans (aB.mono O);have aM:=ar.cell 3;simp only[AB,Ag]at aM;have af:=Aa (Acm e tb c wr aM b5 O);have S:=Aa ar;have an:=Aa bx;have bO:=Aa G;have ba:=Aa aB;have ad:=Aa aD;have b0:=Aa bj;clear ar bx G aB aM bj;by_cases F:c<n
  ·obtain⟨cq,cs,bq,cB⟩:=bb.out _ aD;have y:=jP d L ws _ _ cq cs (tb/8+c) 1 wr aq ap H bq (Ξ ah.out.fits ah.out.KT a2.out);rw[show((8*(tb/8+c):Nat):Int)=(tb:Int)+8*(c:Int)by have:=a2.out;omega]at y;have y:=Aa y;clear bq cB aD
   go_wp2_with fail
   refine af.out.mono ?_;rintro h w'⟨rfl,rfl⟩
   go_wp2_with fail
   refine y.out.mono ?_;rintro h bW⟨c6,rfl,aa,E⟩;obtain⟨cQ,cT,rfl,cV,aG⟩:=CS aa;obtain⟨ao,rfl,cW,b6⟩:=Om aa O;have M:bW.cell? (Φ ao)=some (.int .u64 ((ws (tb/8+c)).toNat:Int)):=by
    obtain⟨A,c4,h,_,ct⟩:=aG.2 O;injection h with h;injection h with j cm;subst j cm
    rw[ct 0 O];simp[PL,wv]
   have l:=Aa (Uk (ws (tb/8+c)).toNat · (UInt64.toNat_lt _));by_cases D:FW (ws (tb/8+c)).toNat=true
   case neg=>
    have bi:FW (ws (tb/8+c)).toNat=false:=by simpa using D
    rw[bi]at l;have cb:=Aa D;have a9:=Aa (τ ad.out E);obtain⟨x,q⟩:∃x,ws (tb/8+c)=x:=⟨_,rfl⟩;rw[q]at M l;clear aa aG E q D bi y af
    go_wp2_with fail
    refine(l.out _).mono ?_;rintro h u⟨rfl,N⟩;have ch:=Aa (τ a9.out (N.below _));clear N a9 l M
    go_wp2_with fail
    go_ret2;have j:sh.table/8=tb/8:=by rw[al.out]
    exact⟨ch.out,λb=>absurd (by have:=b c (by rw[i];exact F);rw[j]at this;exact this) cb.out,λ_=>rfl⟩
   rw[D]at l;have bh:=S.out.ξ E;have cS:e<ao:=Ω S.out.lt;have br:=own_below bO.out E;have a4:=ba.out.trans (E.mono (Il S.out.lt));have aL:=Aa bh;have a5:=Aa br;have a6:=Aa a4;obtain⟨x,q⟩:∃x,ws (tb/8+c)=x:=⟨_,rfl⟩;rw[q]at M l;have cf:=Aa q;have b8:Hid (∀f,f<c+1->FW (ws (tb/8+f)).toNat=true):=Aa (λf o=>by
    rcases Nat.lt_succ_iff_lt_or_eq.1 o with b|b
    ·exact b0.out f b
    ·subst b;rw[q];rw[<-q];exact D)
   clear aa aG E bh br a4 q D y af
   go_wp2_with fail
   refine(l.out _).mono ?_;rintro h u⟨rfl,N⟩;have K:=N.below bW.heap.size;have I:=aL.out.ξ K;have cv:=(K.cell (p:=Φ ao) b6).trans M;have a0:=own_below a5.out K;have a7:=a6.out.trans (K.mono (Il aL.out.lt));have aR:=I.cell 5;have f5:=I.frozen 5;have bp:=I.lt;simp only[AB,Ag]at aR;have cd:=Aa I;have b7:=Aa a0;have a8:=Aa a7;have cE:w.heap.size<=u.heap.size:=O;clear N K I a0 a7 M aL a5 a6 l;obtain⟨c8,c2⟩:=ε u.drew
   go_wp2_with fail
   go_region_law(refine NK rfl (.tmp 50) (.tmp 54) 109 rfl Tryz.Agp u w.heap.size t c ((wordsAt ws (tb/8) c).map wv) [.int .u64 (x.toNat:Int)] rfl b7.out rfl rfl rfl rfl u.heap.size 1 rfl rfl rfl U (by intro c5 H;simp at H;subst H;rfl) O U cE ?_;intro cp cl c7 be bd W bN;have aE:some e≠t.ownBlock:=(λh=>by rcases an.out with⟨_,b⟩|⟨B,V,b,F⟩<;>(subst b;simp[Ba]at h);omega);have cP:=(World.cell?_of_block (w:=u) (a:=Δ e 5) (W.2 e bp aE)).trans aR;have f6:=(World.frozen?_of_block (w:=u) (a:=Δ e 5) (W.2 e bp aE)).trans f5)
   all_goals(obtain⟨bR,cI,bS,bT⟩:=xn cf.out O cd.out an.out a8.out a8.out.size be bd W bN)
   all_goals(have ci:=Aa bR)
   all_goals(have cj:=Aa bS)
   all_goals(have ck:=Aa bT)
   all_goals(clear bR bS bT be bd W bN aE cP f6 aR f5 cv)
   all_goals(go_wp2_with fail)
   all_goals(go_roundw)
   all_goals(try(case rel=>exact⟨c+1,_,O,by go_num,ci.out,.inr ⟨cp,cl,rfl,cI⟩,cj.out,ck.out,b8.out⟩))
   all_goals(try(simp[intOf];omega))
  ·have cx:c=n:=O;subst cx
   go_wp2_with fail
   go_ret2;have cz:0<c:=by rw[<-i];exact ah.out.BQ
   rcases an.out with⟨cU,_⟩|⟨B,V,rfl,cY⟩
   ·omega
   have F:=ca.out;have G:=bO.out;have cr:=(ba.out.block C O).trans cg.out;have cX:=Om G cz;have c1:=av.lt;have j:sh.table/8=tb/8:=by rw[al.out]
   refine⟨ad.out,λ_=>?_,λ⟨f,o,cA⟩=>absurd (by rw[j];exact b0.out f (by rw[<-i];exact o)) cA⟩;refine⟨e,λA=>own A\/A=e\/A=B\/A=C,rfl,⟨B,C,c,V,c,own,⟨⟨bb.out _ ad.out,H⟩,aq,ap,ce.out,?_,?_,?_,?_,?_,?_,(CV G).1,Ad _,λb=>?_,λb=>?_,λb=>?_,O,O,O,av.below ad.out,?_,?_⟩,λ_=>Iff.rfl⟩,λA hb=>?_⟩
   ·show CQ wr e _ _;rw[bX,i,al.out,bm];exact S.out
   ·rw[i,j];exact RD.KR G
   ·refine⟨v,cr,λcJ bw=>?_⟩;have cD:cJ<c:=by rw[List.length_replicate,i]at bw;exact bw
    rw[<-Array.getElem?_toList,<-bL,LC,List.getElem?_map,IG,if_pos cD,nC];rfl
   ·simp[wordsAt,i]
   ·simp[i]
   ·exact i.symm
   ·have:=F _ b;omega
   ·have:=F _ b;omega
   ·have:=F _ b;omega
   ·rintro(b|b|b|b)
    ·exact cn b
    ·omega
    ·omega
    ·omega
   ·rintro(b|b|b|b)
    ·exact co b
    ·omega
    ·omega
    ·omega
   ·rcases hb with b|b|b|b
    ·exact .inl b
    ·right;omega
    ·right;omega
    ·right;omega
def gy{len:Mode}{w:World}{d L:Nat}{ws:Nat->UInt64}{own:Nat->Prop}{sh:Sh}(k:0<L)(j:L<=1024)(r:shapeOf L=some sh)(s:len.lf≠0)(g:Dev w d L ws len (λ_=>0) own)(m:Tabs w)(e:¬own 0)(f:¬own 1)
 (i:wordsAt ws 0 8=wordsOf sh)(n:∀c,c<sh.BQ->FW (ws (sh.table/8+c)).toNat=true):
 Calls prog 26 #[Az d] w λb w'=>∃p F,b=.returned (.tuple #[Az p,.int .i64 0])/\
  Ej len w' d p L {sh:=sh,ws:=ws,tk:=wordsAt ws (sh.table/8) sh.BQ,hd:=BC sh.BQ 0} F/\η w w'/\∀a,F a->own a\/w.heap.size<=a:=by
 refine(dK k j r s g m e f i).mono ?_;rintro b w'⟨hb,h,_⟩;obtain⟨p,F,o,l,q⟩:=h n;exact⟨p,F,o,l,hb,q⟩
def xu(a n:Nat):BK (λ_=>0) a (BC n 0)=λ_=>0:=by
 funext i;unfold BK;split
 ·rw[Bo,IG];split<;>rfl
 ·rfl
def RI(sh:Sh):(wordsOf sh).length=8:=rfl
def RJ(sh:Sh):wordsAt (MN sh) 0 8=wordsOf sh:=by
 apply EC
 ·rfl
 ·intro a b c;have e:a<8:=by simpa[wordsAt]using b
  have d:=RI sh;simp only[wordsAt,KN,VT];unfold MN BK;rw[if_pos O,Bo,show 0+a-0=a by omega,List.getElem?_eq_getElem c];rfl
def I7(sh:Sh)(i:Nat)(hi:8<=i):MN sh i=0:=by
 unfold MN BK;have a:=RI sh;rw[if_neg O]
def st0(sh:Sh):St:={sh:=sh,ws:=MN sh,tk:=BC sh.BQ 0,hd:=BC sh.BQ 0}
def kH(sh:Sh)(a:sh.table=128):wordsAt (MN sh) (sh.table/8) sh.BQ=BC sh.BQ 0:=by
 apply EC
 ·simp[wordsAt]
 ·intro d b c;simp only[wordsAt,KN,VT,nC];exact I7 sh _ O
def xw{w:World}{L:Nat}{sh:Sh}(l:0<L)(k:L<=1024)(r:shapeOf L=some sh)(n:Tabs w):
 Calls prog 19 #[.int .i64 (L:Int)] w λf w'=>∃d p F,f=.returned (.tuple #[Az d,Az p])/\
  Sys w' d p L (st0 sh) F/\η w w'/\∀b,F b->w.heap.size<=b:=by
 have V:=n.lt;obtain⟨s,t,u,v,H⟩:∃s t u v:Nat,wS sh=.agg #[.int .i64 (s:Int),.int .i64 (t:Int),.int .i64 (u:Int),.int .i64 (v:Int)]:=⟨_,_,_,_,rfl⟩;have K:=Aa H;have z:=Aa (IL r).table;clear H;go_enter func19,ntmps19
 go_wp2_with fail
 refine(Aaa L w l k).mono ?_;rintro f P⟨d,j,rfl,E,R,S,g⟩;have A:Dev P d L (λ_=>0) M0 (λ_=>0) (Dq d L j (λ_=>none)):=⟨j,_,E,λ_=>Iff.rfl⟩;have h:∀b,Dq d L j (λ_=>none) b->w.heap.size<=b:=λb a=>by
  rcases a with a|a|⟨_,_,a⟩
  ·omega
  ·omega
  ·cases a
 have c:=wX l k r A (n.below g) (λa=>Ω (h _ a)) (λa=>Ω (h _ a));rw[xu,show BK (λ_=>0) 0 (wordsOf sh)=MN sh from rfl,K.out]at c;have c:=Aa c;clear E A
 go_wp2_with fail
 refine c.out.mono ?_;rintro f x⟨rfl,I,B,m⟩;have C:η w x:=g.trans (m.touch.below g.size h);have q:∀b,I b->w.heap.size<=b:=λb a=>(m.own b a).elim (h b) (λa=>Bi g.size a)
 have i:η x (x.alloc (.cells #[.int .i64 (s:Int),.int .i64 (t:Int),.int .i64 (u:Int),.int .i64 (v:Int)] 108)):=(Below.refl _ _).alloc (Ad _) _;have o:=τ C i;have e:=gy l k r U (B.below i) (n.below o) (λa=>Ω (q _ a)) (λa=>Ω (q _ a)) (RJ sh) (λW T=>by rw[I7 sh _ (by rw[z.out];omega)];rfl);rw[kH sh z.out]at e;have e:=Aa e;have y:=Aa o;clear C i B m c o
 go_wp2_with fail
 refine e.out.mono ?_;rintro f Q⟨p,F,rfl,G,D,M⟩;have O:Hid (Sys Q d p L (st0 sh) F):=Aa G;have J:=Aa (τ y.out D);clear G D e;have N:=y.out.size
 go_wp2_with fail
 go_ret2;refine⟨d,p,F,rfl,O.out,J.out,λb hb=>(M b hb).elim (q b) (λa=>Bi N a)⟩
structure IU(len:Ef)(w:World)(x d p L:Nat)(s:St)(F:Nat->Prop):Prop where
 sys:Ej len w d p L s F
 box:CQ w x 122 [Az d,Az p]
 out:¬F x
abbrev Ix:=IU (.up M0)
section
variable{len:Ef}{w w':World}{x d p L:Nat}{s:St}{F:Nat->Prop}
def IU.below(a:IU len w x d p L s F)(k:η w w'):IU len w' x d p L s F:=⟨a.sys.below k,a.box.ξ k,a.out⟩
def IU.move{c:Ef}(a:IU len w x d p L s F){s':St}{b:Nat->Prop}(f:Ej c w' d p L s' b)(m:AP F b w w'):IU c w' x d p L s' b:=
 ⟨f,a.box.touch m.touch a.out,λe=>(m.own x e).elim a.out (λg=>Ω a.box.lt)⟩
def IU.L0(b:IU len w x d p L s F):0<L/\L<=1024/\dH L s.sh/\s.tk.length=s.sh.BQ:=by
 obtain⟨_,_,_,_,_,_,a,_⟩:=b.sys;exact⟨a.L0,a.L1,IL a.shape,by rw[a.OA,a.bV]⟩
def Ih(a:IU len w x d p L s F)(key:ByteArray)(e:key.size<=1000000):Calls prog 96 #[Az x,.string key] w λc w'=>c=.returned (.int .i64 (if 16<key.size then 3 else 0))/\w=w':=by
 have f:=a.box.p1;clear a;by_cases b:16<key.size
 ·have t1:decide ((16:Int)<(key.size:Int))=true:=decide_eq_true O;rw[if_pos b];go_enter func96,ntmps96;go_wp2;go_ret;exact⟨rfl,rfl⟩
 ·have t1:decide ((16:Int)<(key.size:Int))=false:=decide_eq_false O;rw[if_neg b];go_enter func96,ntmps96;go_wp2;go_ret;exact⟨rfl,rfl⟩
def ZC{len:Mode}(c:IU len w x d p L s F):Calls prog 109 #[Az x] w λa w'=>a=.returned (.tuple #[.int .u64 ((s.ws 9).toNat:Int),.int .i64 0])/\η w w':=by
 have B:=c.box.p1;obtain⟨v,y,e,_⟩:=c.L0;have b:=jS c.sys 9 1 (Ξ e.fits e.KT e.BQ);rw[show((8*9:Nat):Int)=72 from rfl,show((1:Nat):Int)=1 from rfl]at b;have b:=Aa b;clear c e;go_enter func109,ntmps109
 go_wp2_with fail
 refine b.out.mono ?_;rintro a l⟨A,rfl,f,hb⟩;obtain⟨m,o,rfl,q,g⟩:=CS f;obtain⟨j,rfl,t,u⟩:=Om f O;have r:l.cell? (Φ j)=some (.int .u64 ((s.ws 9).toNat:Int)):=by
  obtain⟨n,z,a,_,k⟩:=g.2 O;injection a with a;injection a with h i;subst h i
  rw[k 0 O];simp[wordsAt,wv]
 clear b f g
 go_wp2_with fail
 go_ret2;exact⟨rfl,hb⟩
end
def Wy{c:Nat}(a:Bf c≠0):c=1\/c=2:=by
 unfold Bf at a;split at a<;>simp_all
def Aaf(a b:Nat):Ed (a|||b)=Ed a|||Ed b:=by
 unfold Ed fieldN;rw[Nat.or_div_two_pow,Nat.or_mod_two_pow]
def Aj3(a:Nat):Ed a<4:=by
 unfold Ed fieldN;exact Nat.mod_lt _ U
def xy{a b:Nat}(h1:Bf (Bc (a|||b))≠0)(h2:Bf (Bc a)≠0):Bc a=Bc (a|||b):=by
 have f:=Wy h1;have c:=Wy h2;have g:Bc (a|||b)=Ed (a|||b):=by
  unfold Bc;split
  ·rfl
  ·rename_i e;unfold Bc at f;simp[e]at f
 have h:Bc a=Ed a:=by
  unfold Bc;split
  ·rfl
  ·rename_i e;unfold Bc at c;simp[e]at c
 rw[g,Aaf]at f;rw[h]at c;rw[g,h,Aaf];have hb:=Aj3 b;generalize Ed a=x at*;generalize Ed b=d at*;have:d=0\/d=1\/d=2\/d=3:=O;rcases c with rfl|rfl<;>rcases this with rfl|rfl|rfl|rfl<;>simp_all
def Vp{s:St}{off:Int}(a:Bf (DC s off)≠0):∃b d,b<s.tk.length/\off=((s.sh.data+1024*b+64*Bf (DC s off)*d:Nat):Int)/\(Bf (DC s off)=1\/Bf (DC s off)=4)/\Bf (DC s off)*d+Bf (DC s off)<=16:=by
 cases e:Hf s off with
 |none=>rw[DC,e]at a;exact absurd rfl a
 |some m=>
  obtain⟨b,d⟩:=m;obtain⟨j,n,l,k,h⟩:=Ov e;rw[DC,e]at a
  dsimp only at a
  split at a
  ·rename_i i;have g:DC s off=Bc (CE s b):=by
    rw[DC,e];dsimp only;rw[if_pos i];exact xy (by rw[CE]at k;omega) a
   rw[g];refine⟨b,d,j,l,?_,h⟩;rcases Wy (c:=Bc (CE s b)) O with f|f<;>rw[f]<;>simp[Bf]
  ·exact absurd rfl a
def Vq(c:Nat):LM (c:Int)=((8*Bf c:Nat):Int):=by
 unfold LM Bf;split
 ·rename_i d;have:c=1:=O;subst this;rfl
 ·rename_i b;split
  ·rename_i a;have:c=2:=O;subst this;rfl
  ·rename_i a;split
   ·simp at b
   ·simp at a
   ·rfl
def Yh(w:World)(a:Nat)(v:Value)(x:Nd):Prop:=
 ∃b e c f d g,v=.agg #[.slice b x.pre.length e,.int .u64 (x.val.toNat:Int),.slice c x.labels.length f,.slice d x.kids.length g]/\
  w.ownsRow a 5 1 (.slice b x.pre.length e) x.pre.length (x.pre.map bv)/\w.ownsRow a 5 1 (.slice c x.labels.length f) x.labels.length (x.labels.map bv)/\w.ownsRow a 43 1 (.slice d x.kids.length g) x.kids.length (x.kids.map wv)
def ZE{h:Ending->World->Prop}{e:World}{f:Array Value}{i:Func}(l:i.results= #[.cell 4 195,.tmp 5])(g:Nat){a b c d:Value}(j:CQ e g 195 [a,b,c,d])(v:Value)(h2:f[4]?=some (Az g))(h3:f[5]?=some v)
 (k:h (.returned (.tuple #[.agg #[a,b,c,d],v])) e):bodyPost prog i h Exit.ret {tmps:=f,defers:=[]} e:=by
 obtain⟨m,n,o,p,f0,f1,f2,f3⟩:=CO j;have q:=run_underlying (P:=prog) underlying195;refine bodyPost_ret (v:=.tuple #[.agg #[a,b,c,d],v]) (by simp[results,l,go_sem,h2,h3,m,n,o,p]) rfl k
section
variable{len:Mode}{w w':World}{x d p L:Nat}{s:St}{F:Nat->Prop}
def Agq(s:St)(b:UInt64)(w:World)(e:Ending)(w':World):Prop:=
 η w w'/\match FN s b with
  |none=>e=.returned (.tuple #[.agg #[.slice none 0 0,.int .u64 0,.slice none 0 0,.slice none 0 0],.int .i64 5])
  |some c=>∃a,e=.returned (.tuple #[a,.int .i64 0])/\Yh w' w.heap.size a c
def LY(T:IU len w x d p L s F)(f:UInt64):Calls prog 141 #[Az x,.int .u64 (f.toNat:Int)] w (Agq s f w):=by
 have H:=Aa T;obtain⟨bq,br,M,am⟩:=T.L0;have bi:IntKind.i64.wrap (f.toNat:Int)=Bg f:=rfl;have a2: -9223372036854775808<=Bg f/\Bg f<=9223372036854775807:=by
  have A:=f.toNat_lt;unfold Bg;simp only[IntKind.wrap,IntKind.bits,IntKind.signed,Bool.true_and,decide_eq_true_eq,show(2:Int)^(64-1)=9223372036854775808 from rfl,show(2:Int)^64=18446744073709551616 from rfl];constructor<;>split<;>omega
 have a6:=T.box.lt;obtain⟨b,K⟩:=ε (Bg f);rw[<-K]at bi a2;clear T;have S:=Aa (λ(ao:World)(ap:η w ao)=>by
  obtain⟨tb,hb,n,cT,cH,own,W,-⟩:=(H.out.below ap).sys;exact Zv W.at b a2)
 obtain⟨aD,a4⟩:=H.out.box.p2;have N:CQ (w.alloc (.cells #[.slice none 0 0,.int .u64 0,.slice none 0 0,.slice none 0 0] 195)) w.heap.size 195 [.slice none 0 0,.int .u64 0,.slice none 0 0,.slice none 0 0]:=heap_alloc_new _ _;have u:η w (w.alloc (.cells #[.slice none 0 0,.int .u64 0,.slice none 0 0,.slice none 0 0] 195)):=(Below.refl _ _).alloc (Ad _) _;by_cases y:Bf (DC s b)=0
 ·have G:Hid (FN s f=none):=Aa (by rw[FN,<-K,if_pos y]);clear K M am;go_enter func141,ntmps141
  go_wp2_with fail
  generalize w.alloc (.cells #[.slice none 0 0,.int .u64 0,.slice none 0 0,.slice none 0 0] 195)=I at*;refine(S.out I u).mono ?_;rintro e aB⟨rfl,q⟩;have o:=τ u (q.below I.heap.size);have m:=N.ξ (q.below _);clear N u q
  go_wp2_with fail
  refine(Jz _ _).mono ?_;rintro e C⟨rfl,rfl⟩;rw[Vq,y];clear S H aD a4 y;obtain⟨Z,aa,ab,ac,f0,f1,f2,f3⟩:=CO m
  go_wp2_with fail
  have E:=(((m.AZ 0 (Ac none 0 0)).AZ 1 (Aw .u64 0)).AZ 2 (Ac none 0 0)).AZ 3 (Ac none 0 0);have L6:=(((o.setCell (p:=Φ w.heap.size) (Ad _) (Ac none 0 0)).setCell (p:=Δ w.heap.size 1) (Ad _) (Aw .u64 0)).setCell (p:=Δ w.heap.size 2) (Ad _) (Ac none 0 0)).setCell (p:=Δ w.heap.size 3) (Ad _) (Ac none 0 0);refine ZE rfl w.heap.size E (.int .i64 5) rfl rfl ⟨L6,?_⟩;rw[G.out]
 ·obtain⟨bp,bl,aL,aG,ar,aH⟩:=Vp y;have t:Hid (FN s f=if Ja (wordsAt s.ws (b.toNat/8) (8*Bf (DC s b)))then some (Fh (wordsAt s.ws (b.toNat/8) (8*Bf (DC s b))))else none):=Aa (by rw[FN,<-K,if_neg y]);have aM:b=((8*(b.toNat/8):Nat):Int)/\b.toNat/8+8*Bf (DC s b)<=8*L:=by
   have:=M.data;have:=M.fits;have:=M.BQ;rw[am]at aL;rcases ar with Y|Y<;>rw[Y]at aG aH⊢<;>omega
  obtain⟨X,a1⟩:=ε (b.toNat/8);rw[<-a1]at aM t;obtain⟨aR,a0⟩:=aM;have Q:=Aa (λ(ao:World)(ap:η w ao)=>jS (H.out.below ap).sys X (8*Bf (DC s b)) a0);rw[<-aR]at Q;have t1:(((8*Bf (DC s b):Nat):Int)==0)=false:=ζ O;have R:Hid (8*Bf (DC s b)<=1000000):=Aa (by rcases ar with Y|Y<;>omega);obtain⟨r,av⟩:∃r,r=8*Bf (DC s b):=⟨_,rfl⟩;have an:Hid (LM (DC s b:Int)=(r:Int)):=Aa (by rw[Vq,av]);rw[<-av]at Q t1 R t;clear K M am ar aH aG aL aR a0 a1 y av;go_enter func141,ntmps141
  go_wp2_with fail
  generalize w.alloc (.cells #[.slice none 0 0,.int .u64 0,.slice none 0 0,.slice none 0 0] 195)=I at*;refine(S.out I u).mono ?_;rintro e aB⟨rfl,q⟩;have o:=τ u (q.below I.heap.size);have m:=N.ξ (q.below _);have bk:aB.cell? (Φ x)=some (Az d):=(o.cell (p:=Φ x) a6).trans aD;clear N u q
  go_wp2_with fail
  refine(Jz _ _).mono ?_;rintro e C⟨rfl,rfl⟩;rw[an.out];clear S H aD a4;obtain⟨Z,aa,ab,ac,f0,f1,f2,f3⟩:=CO m
  go_wp2_with fail
  refine(Q.out aB o).mono ?_;rintro e C⟨v,rfl,a3,J⟩;obtain⟨a5,a9,rfl,bd,W⟩:=CS a3;have U:=τ o J;have bm:w.heap.size<C.heap.size:=Nat.lt_of_lt_of_le m.lt J.size;have al:=m.ξ J;clear Q a3 Z aa ab ac f0 f1 f2 f3 bk m;have aw:=Aa W;clear W
  go_wp2_with fail
  refine(decode_any a5 r a9 _ C R.out bd aw.out).mono ?_;rintro e c⟨V,B⟩;have P:=al.ξ V;have aE:=τ U V;have bo:=U.size;cases z:Ja (wordsAt s.ws X r)
  ·have G:Hid (FN s f=none):=Aa (by rw[t.out,z];rfl);rw[z]at B;replace B:e=.returned (.tuple #[.agg #[.slice none 0 0,.int .u64 0,.slice none 0 0,.slice none 0 0],.bool false]):=B;subst B;clear t R z aw an;have D:CQ (c.alloc (.cells #[Ac none 0 0,Aw .u64 0,Ac none 0 0,Ac none 0 0] 195)) w.heap.size _ _:=P.ξ ((Below.refl c.heap.size c).alloc (Ad _) _);have aq:η w (c.alloc (.cells #[Ac none 0 0,Aw .u64 0,Ac none 0 0,Ac none 0 0] 195)):=τ aE ((Below.refl c.heap.size c).alloc (Ad _) _);clear al P o J U V;obtain⟨Z,aa,ab,ac,f0,f1,f2,f3⟩:=CO D
   go_wp2_with fail
   have E:=(((D.AZ 0 (Ac none 0 0)).AZ 1 (Aw .u64 0)).AZ 2 (Ac none 0 0)).AZ 3 (Ac none 0 0);have L6:=(((aq.setCell (p:=Φ w.heap.size) (Ad _) (Ac none 0 0)).setCell (p:=Δ w.heap.size 1) (Ad _) (Aw .u64 0)).setCell (p:=Δ w.heap.size 2) (Ad _) (Ac none 0 0)).setCell (p:=Δ w.heap.size 3) (Ad _) (Ac none 0 0);refine ZE rfl w.heap.size E (.int .i64 5) rfl rfl ⟨L6,?_⟩;rw[G.out]
  ·have G:Hid (FN s f=some (Fh (wordsAt s.ws X r))):=Aa (by rw[t.out,z];rfl);rw[z]at B;obtain⟨g,j,h,k,i,l,rfl,be,bg,bh,ba,bb,bc,ad,af,ah⟩:=B;have a7:=Aa (And.intro ad (And.intro af ah));clear ba bb bc be bg bh ad af ah t R z aw an;generalize Fh (wordsAt s.ws X r)=a at*;have D:CQ (c.alloc (.cells #[Ac g a.pre.length j,Aw .u64 (a.val.toNat:Int),Ac h a.labels.length k,Ac i a.kids.length l] 195)) w.heap.size _ _:=P.ξ ((Below.refl c.heap.size c).alloc (Ad _) _);have aq:η w (c.alloc (.cells #[Ac g a.pre.length j,Aw .u64 (a.val.toNat:Int),Ac h a.labels.length k,Ac i a.kids.length l] 195)):=τ aE ((Below.refl c.heap.size c).alloc (Ad _) _);clear al P o J U V;obtain⟨Z,aa,ab,ac,f0,f1,f2,f3⟩:=CO D
   go_wp2_with fail
   have E:=(((D.AZ 0 (Ac g a.pre.length j)).AZ 1 (Aw .u64 (a.val.toNat:Int))).AZ 2 (Ac h a.labels.length k)).AZ 3 (Ac i a.kids.length l);have L6:=(((aq.setCell (p:=Φ w.heap.size) (Ad _) (Ac g a.pre.length j)).setCell (p:=Δ w.heap.size 1) (Ad _) (Aw .u64 (a.val.toNat:Int))).setCell (p:=Δ w.heap.size 2) (Ad _) (Ac h a.labels.length k)).setCell (p:=Δ w.heap.size 3) (Ad _) (Ac i a.kids.length l);refine ZE rfl w.heap.size E (.int .i64 0) rfl rfl ⟨L6,?_⟩;rw[G.out];obtain⟨ad,af,ah⟩:=a7.out;have a8:η c (c.alloc (.cells #[Ac g a.pre.length j,Aw .u64 (a.val.toNat:Int),Ac h a.labels.length k,Ac i a.kids.length l] 195)):=(Below.refl _ _).alloc (Ad _) _;have A:w.heap.size<C.heap.size:=O;have az:∀{e:TypeId}{v:Value}{n:Nat}{xs:List Value},c.ownsRow C.heap.size e 1 v n xs->World.ownsRow (((((c.alloc (.cells #[Ac g a.pre.length j,Aw .u64 (a.val.toNat:Int),Ac h a.labels.length k,Ac i a.kids.length l] 195)).setCell (Φ w.heap.size) (Ac g a.pre.length j)).setCell (Δ w.heap.size 1) (Aw .u64 (a.val.toNat:Int))).setCell (Δ w.heap.size 2) (Ac h a.labels.length k)).setCell (Δ w.heap.size 3) (Ac i a.kids.length l)) w.heap.size e 1 v n xs:=λbj=>
    Ui (AQ (AQ (AQ (AQ (own_below bj a8) A _ _) A _ _) A _ _) A _ _) (Il A)
   exact⟨_,rfl,g,j,h,k,i,l,rfl,az ad,az af,az ah⟩
end
