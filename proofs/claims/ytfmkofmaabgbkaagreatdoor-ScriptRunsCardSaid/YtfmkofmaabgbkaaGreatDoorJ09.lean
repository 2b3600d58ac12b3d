import Derived.Test.YtfmkofmaabgbkaaGreatDoorJ07
import Derived.Test.YtfmkofmaabgbkaaGreatDoorJ08
set_option linter.defProp false
set_option maxHeartbeats 32000000
set_option maxRecDepth 100000
open Go.World renaming block_lt_of_cell?->Gu
open Nat renaming le_refl->Ae,le_of_lt->LP
open Go.Lib renaming hid->Ac
open List renaming append_nil->Ib,mem_append->AB,range_succ->UF,mem_range->GK,replicate->BB,getElem?_cons_succ->Am,getElem?_cons_zero->Ag,getElem?_replicate->IC,getElem_replicate->ql,getD_eq_getElem?_getD->Bg,ext_getElem->Fz,getElem_map->SL,getElem_range->Qj
open Array renaming getElem?_eq_some_iff->AA
open Option renaming isSome_iff_exists->fZ
open UInt64 renaming ofNat->Az
open Go.Value renaming ownBlock->AV,int->Aw,slice->Ad
open Go.Value renaming slice->fD,int->fP,bool->fU,tuple->gJ
open Go.Ending renaming returned->gY
open Go.IntKind renaming i64->gZ,u64->ig
open Go.Obj renaming cells->iy
open Option renaming some->iC,none->iD
open Go renaming World->jD,Value->jL
namespace Go.Proofs.YtfmkofmaabgbkaaGreatDoor
open Go.RowKit
open Go.Proofs.Tryz
def Wl.below{w w':jD}(h:Wl w)(k:η w w'):Wl w':=λa b=>(k.cell (p:=Δ 1 a) (Gu w _ (h a b))).trans (h a b)
section
variable{w:jD}{d p L:Nat}{s:St}{tb hb n cT cH:Nat}
def IX.below{w':jD}(h:IX w d p L s tb hb n cT cH)(k:η w w'):IX w' d p L s tb hb n cT cH:=by
 have b:∀{a:Addr}{v:jL},w.cell? a=iC v->w'.cell? a=iC v:=λ{a v}e=>(k.cell (p:=a) (Gu w a e)).trans e
 exact⟨b h.y0,b h.y1,b h.y2,b h.y3,b h.y4,b h.y5,b h.y6,λi c=>b (h.tk i c),λi c=>b (h.hd i c),h.ok,h.L1,h.iZ,h.Rj⟩
def Tv(s:St)(c i:Nat):Bool:=(Lh (C9 s i) c).isSome
def Aeh(h:IX w d p L s tb hb n cT cH)(g:Wl w)(c i:Nat)(hi:i<n)(q:c<4):
 Calls prog 218 #[.agg #[ptr0 p,fP gZ (c:Int)],fP gZ (i:Int)] w λo w'=>o=gY (fU (Tv s c i))/\η w w':=by
 have b:η w (w.alloc (iy #[ptr0 p,fP gZ (c:Int)] 333)):=(Below.refl _ _).alloc (Ae _) _;have f:=h.below b;have j:=g.below b;have k:=Ac (λa(e:Dr _ a)=>MN (f.dr e) i hi);have l:=Ac (λa(e:Dr _ a)=>Xx (C9 s i) c a (OJ s i) O (j.dr e));have m:Hid (decide ((0:Int)<=mZ (Lh (C9 s i) c))=Tv s c i):=Ac (by
  unfold Tv mZ;cases Lh (C9 s i) c<;>simp)
 clear h f g j;go_enter func218,ntmps218
 go_wp2_with fail
 go_quiet(first
  |(go_at_call 174;exact Amc (k _ (Dr.one _ _)))
  |(go_at_call 220;exact Amc (l _ (Dr.one _ _))))
 go_wp2_with fail
 trace_state
 go_ret;exact⟨by rw[<-m.out];rfl,b.trans ((Dr.one _ _).below _)⟩
end
def rX(F:Nat->Bool)(l:List Nat):Option Nat->Prop
 |some a=>a∈l/\F a=true/\∀x∈l,F x=true->a<=x
 |none=>∀x∈l,F x=false
def Xy:Option Nat->jL
 |some a=>gJ #[fP gZ (a:Int),fU true]
 |none=>gJ #[fP gZ 0,fU false]
def Yw(w:jD)(o:Nat):Nat:=match w.cell? (Φ o)with
 |some (.slice _ n _)=>n
 |_=>0
def EH.Yw{w:jD}{B o g c:Nat}{l:List Nat}(h:EH w B o g c l):Yw w o=l.length:=by
 have:=h.box.cell 0;unfold Go.Proofs.YtfmkofmaabgbkaaGreatDoor.Yw;rw[this];rfl
def Vw{w0 w:jD}{d p L:Nat}{s:St}{tb hb n cT cH:Nat}(h:IX w0 d p L s tb hb n cT cH)(X:Wl w0)(c:Nat)(aW:c<4)(D:η w0 w)
 {o g C:Nat}{l:List Nat}(y:EH w w0.heap.size o g C l)(ac:∀x∈l,x<n)(V:FX (Fq id l) l.length):
 Calls prog 219 #[ptr0 o,.func (.func 218) #[.agg #[ptr0 p,fP gZ (c:Int)]] #[]] w λi w'=>∃ao,i=gY (Xy ao)/\rX (Tv s c) l ao/\Touch (λa=>a=o\/a=g) w w':=by
 have aF:=Ac h;have aL:=Ac X;have az:=Ac ac;have a8:=y.hB;have a6:=y.glt.1;have a0:=D.size;clear h X ac;go_enter func219,ntmps219
 go_wp2_with fail
 go_loopw [](λwr=>∃f m,(m++f).Perm l/\(∀x∈m,Tv s c x=false)/\FX (Fq id f) f.length/\EH wr w0.heap.size o g C f/\Touch (λa=>a=o\/a=g) w wr)(λwr=>Yw wr o)
 case atStart=>exact⟨l,[],List.Perm.refl _,by simp,V,y,Touch.refl _ _⟩
 case round=>
  obtain⟨f,m,ah,W,aa,r,K⟩:=hrel;have Y:η w0 wr:=D.trans (K.below a0 (λa3 G=>by rcases G with rfl|rfl<;>assumption));have v:=Ac ah;have B:=Ac W;have av:=Ac aa;have aE:=Ac r;have S:=Ac K;have P:=Ac Y;have aq:=r.box.p1;have aX:=r.len;have aD:=Ac r.Yw;obtain⟨e,H⟩:∃e,f.length=e:=⟨_,rfl⟩;rw[H]at aq aX;have k:=Ac H;have u:=Ac (yX (iC (Φ g)) e C wr O);clear ah W aa r K Y H y V D;rcases e with _|e
  ·go_wp2_with fail
   refine u.mono ?_;rintro i w'⟨rfl,rfl⟩
   go_wp2_with fail
   go_ret2;have aZ:f=[]:=List.eq_nil_of_length_eq_zero k.out;refine⟨iD,rfl,λx a1=>?_,S.out⟩;have:=v.out.mem_iff.2 a1;rw[aZ,Ib]at this;exact B x this
  ·have t1:decide ((0:Int)<((e+1:Nat):Int))=true:=decide_eq_true O;have U:=Ac (heapPop aE.out k.out (by have:=av.out;rw[k.out]at this;exact this));generalize a7:e+1=a9 at aq u t1
   go_wp2_with fail
   refine u.mono ?_;rintro i w'⟨rfl,rfl⟩
   go_wp2_with fail
   refine U.mono ?_;rintro i a5⟨x,an,rfl,J,al,ab,ae,M⟩;have am:x∈l:=v.out.mem_iff.1 (List.mem_append_right _ (J.mem_iff.1 (List.mem_cons_self)));have a2:=az x am;have t:=S.trans M (λa h=>.inl h);have E:η w0 a5:=P.trans (M.below (Ω P.size) (λa3 G=>by rcases G with rfl|rfl<;>assumption));have b:=Aeh (aF.below E) (aL.below E) c x a2 aW;have R:=Ac J;have aM:=Ac al;have aw:=Ac ab;have aR:=Ac ae;have T:=Ac t;have a4:=assert_int (x:Int);clear J al ab ae t M E U u;have ad:an.length=e:=by have:=R.length_eq;simp only[List.length_cons,k.out]at this;omega
   have Q:=Ac ad;clear ad;cases j:Tv s c x
   ·rw[j]at b;have b:=Ac b;have A:=Ac j;clear j
    go_wp2_with fail
    refine b.out.mono ?_;rintro i ap⟨rfl,q⟩;have I:=aR.below q;have t:=T.trans (Touch.of_below (F:=λa=>a=o\/a=g) q) (λa h=>.inl h);have ar:=Ac I.Yw;have aV:=Ac I;have aJ:=Ac t;clear I t q a4
    go_wp2_with fail
    go_roundw
    case rel=>
     refine⟨an,m++[x],?_,?_,by rw[Q.out];exact aw.out,aV.out,aJ.out⟩
     ·rw[List.append_assoc];exact(List.Perm.append_left m R.out).trans v.out
     ·intro z N;rcases AB.1 N with h|h
      ·exact B z h
      ·rw[List.mem_singleton.1 h];exact A.out
    case measure=>show Yw ap o<Yw wr o;rw[ar.out,aD.out,Q.out,k.out];omega
   ·rw[j]at b;have b:=Ac b;have A:=Ac j;clear j
    go_wp2_with fail
    refine b.out.mono ?_;rintro i ap⟨rfl,q⟩
    go_wp2_with fail
    go_ret2;refine⟨iC x,rfl,⟨am,A.out,λz N Z=>?_⟩,T.trans (Touch.of_below (F:=λa=>a=o\/a=g) q) (λa h=>.inl h)⟩;rcases AB.1 (v.out.mem_iff.2 N)with h|h
    ·rw[B z h]at Z;cases Z
    ·exact aM z h
def YV(B:Nat):Array MapEntry:= #[{key:=fP gZ 0,val:=ptr0 (B+2),born:=0},{key:=fP gZ 1,val:=ptr0 (B+4),born:=1},{key:=fP gZ 2,val:=ptr0 (B+6),born:=2}]
structure Tri(w0 W:jD)(g cc:Nat->Nat)(Ls:Nat->List Nat):Prop where
 map:W.heap[w0.heap.size]?=iC (.map (YV w0.heap.size) 3)
 ord:∀c,c<3->EH W w0.heap.size (w0.heap.size+2+2*c) (g c) (cc c) (Ls c)
 heap:∀c,c<3->FX (Fq id (Ls c)) (Ls c).length
 apart:∀c c',c<3->c'<3->c≠c'->g c≠g c'/\g c≠w0.heap.size+2+2*c'
 low:η w0 W
def Tri.keep{w0 W a:jD}{g cc:Nat->Nat}{Ls:Nat->List Nat}(h:Tri w0 W g cc Ls)(k:η W a):Tri w0 a g cc Ls:=
 ⟨(k.block _ (AA.1 h.map).1).trans h.map,λc b=>(h.ord c b).below k,h.heap,h.apart,τ h.low k⟩
def Tri.push{w0 W n:jD}{g cc:Nat->Nat}{Ls:Nat->List Nat}(h:Tri w0 W g cc Ls)(c:Nat)(k:c<3){g' c':Nat}{m:List Nat}(F:EH n w0.heap.size (w0.heap.size+2+2*c) g' c' m)(C:FX (Fq id m) m.length)
 (r:g'=g c\/W.heap.size<=g')(t:Touch (λq=>q=w0.heap.size+2+2*c\/q=g c) W n):
 Tri w0 n (λx=>if x=c then g' else g x) (λx=>if x=c then c' else cc x) (λx=>if x=c then m else Ls x):=by
 have B:=(h.ord c k).glt;have E:w0.heap.size≠g c:=λa=>by
  rcases(h.ord c k).row.2 with⟨y,_⟩|⟨J,H,I,u,K,A,_⟩
  ·cases y
  ·simp only[Value.slice.injEq,Option.some.injEq,Addr.mk.injEq,and_true,true_and]at u;obtain⟨rfl,rfl⟩:=u;have:=h.map;rw[a,A]at this;cases this
 have w:=(AA.1 h.map).1;refine⟨(t.block _ w (λa=>by rcases a with a|a;omega;exact E a)).trans h.map,λx d=>?_,λx d=>?_,λx i d l o=>?_,h.low.trans (t.below h.low.size (λL D=>by rcases D with rfl|rfl;omega;exact B.1))⟩
 ·by_cases a:x=c
  ·subst a;simp only[if_true];exact F
  ·simp only[ku a];have:=h.apart c x k d (λb=>a b.symm);have z:=h.apart x c d k a;exact(h.ord x d).touch t (λb=>by rcases b with b|b;omega;exact this.2 b.symm) (λb=>by rcases b with b|b;exact z.2 b;exact this.1 b.symm)
 ·by_cases a:x=c
  ·simp only[jM a];exact C
  ·simp only[ku a];exact h.heap x d
 ·have G:∀e,e<3->w0.heap.size+2+2*e<W.heap.size:=λe p=>(h.ord e p).box.lt
  have s:∀e,e<3->g e<W.heap.size:=λe p=>(h.ord e p).glt.2
  by_cases f:x=c
  ·have j:¬i=c:=λa=>o (by rw[f,a])
   simp only[jM f,ku j];rcases r with a|a
   ·rw[a,<-f];exact h.apart x i d l o
   ·have:=G i l;have:=s i l;omega
  ·by_cases j:i=c
   ·simp only[ku f,jM j];have v:=h.apart x c d k f;refine⟨?_,by rw[j];exact v.2⟩;rcases r with a|a
    ·rw[a];exact v.1
    ·have:=s x d;omega
   ·simp only[ku f,ku j];exact h.apart x i d l o
def nI(a:jD)(B:Nat)(c:B<=a.heap.size):EH ((a.alloc (iy #[] 3)).alloc (iy #[fD (iC (Φ a.heap.size)) 0 0] 345)) B (a.heap.size+1) a.heap.size 0 []:=by
 have b:(a.alloc (iy #[] 3)).heap.size=a.heap.size+1:=by simp
 refine⟨?_,?_,O,O,by simp⟩
 ·rw[<-b];exact heap_alloc_new _ _
 ·exact own_below (World.ownsRow_made a #[] 0 c U rfl) ((Below.refl _ _).alloc (Ae _) _)
def Tryz.Rw:prog.underlying 330=iC (.map 3 335):=underlying330
def Xz(w a b e:jD)(h1:a=Eu (((w.alloc (.map #[] 0)).alloc (iy #[] 3)).alloc (iy #[fD (iC (Φ (w.heap.size+1))) 0 0] 345)) w.heap.size #[{key:=fP gZ 0,val:=ptr0 (w.heap.size+1+1),born:=0}] 1)
 (h2:b=Eu ((a.alloc (iy #[] 3)).alloc (iy #[fD (iC (Φ a.heap.size)) 0 0] 345)) w.heap.size #[{key:=fP gZ 0,val:=ptr0 (w.heap.size+2),born:=0},{key:=fP gZ 1,val:=ptr0 (a.heap.size+1),born:=1}] 2)
 (h3:e=Eu ((b.alloc (iy #[] 3)).alloc (iy #[fD (iC (Φ b.heap.size)) 0 0] 345)) w.heap.size (YV w.heap.size) 3):
 a.heap.size=w.heap.size+3/\b.heap.size=w.heap.size+5/\a.heap[w.heap.size]?=iC (.map #[{key:=fP gZ 0,val:=ptr0 (w.heap.size+1+1),born:=0}] 1)/\Tri w e (λd=>w.heap.size+1+2*d) (λ_=>0) (λ_=>[]):=by
 have k:a.heap.size=w.heap.size+3:=by rw[h1,Yo];simp
 have p:b.heap.size=w.heap.size+5:=by rw[h2,Yo];simp[k]
 have r:(w.alloc (.map #[] 0)).heap.size=w.heap.size+1:=by simp
 have q:η w (w.alloc (.map #[] 0)):=(Below.refl _ _).alloc (Ae _) _;have m:=nI (w.alloc (.map #[] 0)) w.heap.size O;rw[r]at m;have t1:=JC (((w.alloc (.map #[] 0)).alloc (iy #[] 3)).alloc (iy #[fD (iC (Φ (w.heap.size+1))) 0 0] 345)) w.heap.size #[{key:=fP gZ 0,val:=ptr0 (w.heap.size+1+1),born:=0}] 1;rw[<-h1]at t1;have x:=m.touch t1 O O;have s:η w a:=((q.alloc Θ _).alloc (by simp;omega) _).trans (t1.below (by simp;omega) (λj c=>by rw[c];exact Ae _));have v:a.heap[w.heap.size]?=iC (.map #[{key:=fP gZ 0,val:=ptr0 (w.heap.size+1+1),born:=0}] 1):=by rw[h1];exact Ov _ _ _ _ (by simp;omega)
 have A:=nI a w.heap.size O;have l:η a ((a.alloc (iy #[] 3)).alloc (iy #[fD (iC (Φ a.heap.size)) 0 0] 345)):=((Below.refl _ _).alloc (Ae _) _).alloc Θ _;have t2:Touch (λf=>f=w.heap.size) ((a.alloc (iy #[] 3)).alloc (iy #[fD (iC (Φ a.heap.size)) 0 0] 345)) b:=by rw[h2];exact JC _ _ _ _
 have y:=(x.below l).touch t2 O O;have B:=A.touch t2 O O;have t:η w b:=s.trans ((l.mono O).trans (t2.below (by simp;omega) (λj c=>by rw[c];exact Ae _)));have C:=nI b w.heap.size O;have g:η b ((b.alloc (iy #[] 3)).alloc (iy #[fD (iC (Φ b.heap.size)) 0 0] 345)):=((Below.refl _ _).alloc (Ae _) _).alloc Θ _;have t3:Touch (λf=>f=w.heap.size) ((b.alloc (iy #[] 3)).alloc (iy #[fD (iC (Φ b.heap.size)) 0 0] 345)) e:=by rw[h3];exact JC _ _ _ _
 have z:=(y.below g).touch t3 O O;have n:=(B.below g).touch t3 O O;have o:=C.touch t3 O O;have u:η w e:=t.trans ((g.mono O).trans (t3.below (by simp;omega) (λj c=>by rw[c];exact Ae _)));refine⟨k,p,v,⟨by rw[h3];exact Ov _ _ _ _ (by simp;omega),λd i=>?_,λd i j E c=>by simp at c,λd D i F G=>by constructor<;>omega,u⟩⟩;rw[k]at n;rw[p]at o
 match d,i with
 |0,_=>exact z
 |1,_=>exact n
 |2,_=>exact o
def PG(s:St)(c k:Nat):List Nat:=(List.range k).filter λa=>decide (Ba (C9 s a)=c)
def yZ(s:St)(c k:Nat):PG s c (k+1)=PG s c k++if Ba (C9 s k)=c then[k]else[]:=by
 unfold PG;rw[UF,List.filter_append];by_cases h:Ba (C9 s k)=c<;>simp[h]
def Aif(s:St)(c k:Nat):(PG s c k).length<=k:=by
 have:=List.length_filter_le (λa=>decide (Ba (C9 s a)=c)) (List.range k);simpa[PG]using this
def zf(x:Nat):Ba x<3:=by
 have c:=Ou x;by_cases h:Ba x=3
 ·exfalso;unfold Ba at h;split at h
  ·rename_i a;unfold Gx at a;rw[h]at a;by_cases b:x=0
   ·subst b;revert h;decide
   ·simp[b,Bi,fieldN,Nat.mod_one]at a
  ·cases h
 ·omega
def rY{w:jD}{d p L:Nat}{s:St}{tb hb n cT cH:Nat}(h:IX w d p L s tb hb n cT cH):
 Calls prog 217 #[ptr0 p] w λg w'=>g=gY (.map (iC w.heap.size))/\
  ∃k j f,Tri w w' k j f/\∀a,a<3->(f a).Perm (PG s a n):=by
 have F:=Ac h;have aw:n<=64:=Ξ h.ok.fits h.L1 h.iZ;have ao:=λae=>run_makeMap (P:=prog) 330 ae
 clear h;go_enter func217,ntmps217
 go_wp2_with fail
 rw[Zi Tryz.Rw underlying3 _ _ #[] 0 _ _ ?h1 ?f1]
 case h1=>exact(χ _ _ (by simp;omega)).trans ((χ _ _ Θ).trans (heap_alloc_new _ _))
 case f1=>rfl
 obtain⟨c,q⟩:∃c,c=Eu (((w.alloc (.map #[] 0)).alloc (iy #[] 3)).alloc (iy #[fD (iC (Φ (w.heap.size+1))) 0 0] 345)) w.heap.size #[{key:=fP gZ 0,val:=ptr0 (w.heap.size+1+1),born:=0}] 1:=⟨_,rfl⟩;rw[show Eu (((w.alloc (.map #[] 0)).alloc (iy #[] 3)).alloc (iy #[fD (iC (Φ (w.heap.size+1))) 0 0] 345)) w.heap.size (#[].push {key:=fP gZ 0,val:=ptr0 (w.heap.size+1+1),born:=0}) (0+1)=c from q.symm];have z:=Ac q;obtain⟨Z,-,X,-⟩:=Xz w c _ _ q rfl rfl;clear q
 go_wp2_with fail
 rw[Zi Tryz.Rw underlying3 _ _ _ 1 _ _ ?h2 ?f2]
 case h2=>exact(χ _ _ (by simp;omega)).trans ((χ _ _ O).trans X)
 case f2=>rfl
 obtain⟨e,r⟩:∃e,e=Eu ((c.alloc (iy #[] 3)).alloc (iy #[fD (iC (Φ (w.heap.size+3))) 0 0] 345)) w.heap.size #[{key:=fP gZ 0,val:=ptr0 (w.heap.size+1+1),born:=0},{key:=fP gZ 1,val:=ptr0 (w.heap.size+3+1),born:=1}] 2:=⟨_,rfl⟩;rw[show Eu ((c.alloc (iy #[] 3)).alloc (iy #[fD (iC (Φ (w.heap.size+3))) 0 0] 345)) w.heap.size (#[{key:=fP gZ 0,val:=ptr0 (w.heap.size+1+1),born:=0}].push {key:=fP gZ 1,val:=ptr0 (w.heap.size+3+1),born:=1}) (1+1)=e from r.symm];have u:e=Eu ((c.alloc (iy #[] 3)).alloc (iy #[fD (iC (Φ c.heap.size)) 0 0] 345)) w.heap.size #[{key:=fP gZ 0,val:=ptr0 (w.heap.size+2),born:=0},{key:=fP gZ 1,val:=ptr0 (c.heap.size+1),born:=1}] 2:=by rw[r,Z]
 have Y:e.heap[w.heap.size]?=iC (.map #[{key:=fP gZ 0,val:=ptr0 (w.heap.size+1+1),born:=0},{key:=fP gZ 1,val:=ptr0 (w.heap.size+3+1),born:=1}] 2):=by rw[r];exact Ov _ _ _ _ (by simp;omega)
 obtain⟨-,aa,-,-⟩:=Xz w c e _ z.out u rfl;have H:=Ac u;clear r u X
 go_wp2_with fail
 rw[Zi Tryz.Rw underlying3 _ _ _ 2 _ _ ?h3 ?f3]
 case h3=>exact(χ _ _ (by simp;omega)).trans ((χ _ _ O).trans Y)
 case f3=>rfl
 obtain⟨o,A⟩:=ε (Eu ((e.alloc (iy #[] 3)).alloc (iy #[fD (iC (Φ (w.heap.size+5))) 0 0] 345)) w.heap.size (YV w.heap.size) 3);rw[show Eu ((e.alloc (iy #[] 3)).alloc (iy #[fD (iC (Φ (w.heap.size+5))) 0 0] 345)) w.heap.size (#[{key:=fP gZ 0,val:=ptr0 (w.heap.size+1+1),born:=0},{key:=fP gZ 1,val:=ptr0 (w.heap.size+3+1),born:=1}].push {key:=fP gZ 2,val:=ptr0 (w.heap.size+5+1),born:=2}) (2+1)=o from A.symm];have C:o=Eu ((e.alloc (iy #[] 3)).alloc (iy #[fD (iC (Φ e.heap.size)) 0 0] 345)) w.heap.size (YV w.heap.size) 3:=by rw[A,aa]
 obtain⟨-,-,-,v⟩:=Xz w c e o z.out H.out C;have ap:o.cell? (Δ p 5)=iC (fD (iC (Φ tb)) n cT):=(F.below v.low).y5;clear A C z H Y Z aa ao;have G:=Ac v;clear v
 go_wp2_with fail
 go_loopw [18](λB wr=>∃b k j f,b<=n/\B=fP gZ (b:Nat)/\Tri w wr k j f/\∀a,a<3->(f a).Perm (PG s a b))(λB _=>n-(intOf B).toNat)
 case atStart=>exact⟨0,_,_,_,Nat.zero_le _,rfl,G.out,λa _=>List.Perm.refl _⟩
 case round=>
  obtain⟨b,k,j,f,av,rfl,I,U⟩:=hrel;have y:=Ac I;have m:=Ac U;clear I U G ap;by_cases am:b<n
  ·have i:=zf (C9 s b);obtain⟨a,t⟩:∃a,Ba (C9 s b)=a:=⟨_,rfl⟩;rw[t]at i;have E:=Ac (H7 (C9 s b) · (OJ s b));rw[t]at E;have ad:=Ac t;clear t
   go_wp2_with fail
   refine(MN (F.below y.low) b am).mono ?_;rintro g az⟨rfl,M⟩
   go_wp2_with fail
   refine(E _).mono ?_;rintro g aD⟨rfl,N⟩;have K:=M.trans N;have D:=y.keep (K.below _);have l:=Ac D;clear D M N K
   go_wp2_with fail
   rw[OG Tryz.Rw underlying3 _ _ (YV w.heap.size) 3 _ a (ptr0 (w.heap.size+2+2*a)) ?h4 ?f4]
   case h4=>exact l.map
   case f4=>
    match a,i with
    |0,_=>rfl
    |1,_=>rfl
    |2,_=>rfl
   have al:(f a).length<1000:=by
    have:=(m a i).length_eq;have:=Aif s a b;omega
   have J:=Ac (Aie b (l.ord a i) al (l.heap a i))
   go_wp2_with fail
   refine J.mono ?_;rintro g aE⟨rfl,ar,aq,an,T,R,S,Q,V⟩;have ac:=Ac (l.push a i S R Q V);have ab:Hid (∀x,x<3->((λx=>if x=a then an else f x) x).Perm (PG s x (b+1))):=Ac (λx W=>by
    rw[yZ,ad.out];by_cases g:x=a
    ·subst g;simp only[if_true];exact T.trans (List.Perm.append_right _ (m x W))
    ·rw[ku (show¬a=x from λh=>g h.symm),Ib];simp only[ku g];exact m x W)
   clear T R S Q V J
   go_wp2_with fail
   go_roundw
   case rel=>exact⟨b+1,_,_,_,O,by go_num,ac.out,ab.out⟩
   case measure=>simp[intOf];omega
  ·have ah:b=n:=O;subst ah
   go_wp2_with fail
   go_ret;exact⟨rfl,k,j,f,y.out,m.out⟩
def aY{s:St}{c k n:Nat}{l:List Nat}{r:Option Nat}(p:s.tk.length=n)(o:l.Perm (PG s k n))(h:rX (Tv s c) l r):MF s k c=r:=by
 have e:∀x,x∈l<->x<n/\Ba (C9 s x)=k:=λx=>by rw[o.mem_iff];simp[PG]
 unfold MF;rw[p];cases r with
 |none=>
  rw[List.find?_eq_none];intro x q;have t:x<n:=GK.1 q;by_cases a:Ba (C9 s x)=k
  ·have:=h x ((e x).2 ⟨t,a⟩);unfold Tv at this;simp[a,this]
  ·simp[a]
 |some u=>
  obtain⟨g,f,i⟩:=h;obtain⟨m,j⟩:=(e u).1 g;rw[List.find?_range_eq_some];refine⟨by unfold Tv at f;simp[j,f],GK.2 m,λd v=>?_⟩;by_cases a:Ba (C9 s d)=k
  ·by_cases b:Tv s c d=true
   ·have:=i d ((e d).2 ⟨O,a⟩) b;omega
   ·unfold Tv at b;simp only[Bool.not_eq_true]at b;simp[a,b]
  ·simp[a]
def Rx{s:St}{c i:Nat}(h:Nk s c=iC i):i<s.tk.length/\(Lh (C9 s i) c).isSome=true:=by
 have e:∀d,MF s d c=iC i->i<s.tk.length/\(Lh (C9 s i) c).isSome=true:=λd a=>by
  unfold MF at a;have f:=GK.1 (List.mem_of_find?_eq_some a);have b:=List.find?_some a;simp only[Bool.and_eq_true]at b;exact⟨f,b.2⟩
 unfold Nk at h;split at h
 ·rename_i j g;injection h with h
  subst h;exact e c g
 ·exact e 0 h
def rZ{x c k:Nat}(h:Lh x c=iC k):k<16:=by
 unfold Lh at h;split at h
 ·have:=mY h;have:=Js c;omega
 ·cases h
def Ry{w:jD}{d p L:Nat}{s:St}{tb hb n cT cH:Nat}(h:IX w d p L s tb hb n cT cH)(A:Wl w)(c:Nat)(K:1<=c)(M:c<=2){m:jD}{g q:Nat->Nat}{i:Nat->List Nat}(b:Tri w m g q i)(t:∀x,x<3->(i x).Perm (PG s x n))(k:Nat)(f:k<3):
 Calls prog 219 #[ptr0 (w.heap.size+2+2*k),.func (.func 218) #[.agg #[ptr0 p,fP gZ (c:Int)]] #[]] m λa w'=>
  a=gY (Xy (MF s k c))/\η w w'/\(∀e,e<3->e≠k->EH w' w.heap.size (w.heap.size+2+2*e) (g e) (q e) (i e))/\w'.heap[w.heap.size]?=iC (.map (YV w.heap.size) 3):=by
 refine(Vw h A c O b.low (b.ord k f) (λx E=>?_) (b.heap k f)).mono ?_
 ·have:=(t k f).mem_iff.1 E;simp[PG]at this;exact this.1
 rintro a w'⟨N,rfl,D,l⟩;have C:=(b.ord k f).glt;have v:=(AA.1 b.map).1;refine⟨by rw[aY h.Rj (t k f) D],b.low.trans (l.below b.low.size (λF hb=>by rcases hb with rfl|rfl;omega;exact C.1)),λe j r=>?_,?_⟩
 ·have y:=b.apart k e f j (λa=>r a.symm);have o:=b.apart e k j f r;exact(b.ord e j).touch l (λa=>by rcases a with a|a;omega;exact y.2 a.symm) (λa=>by rcases a with a|a;exact o.2 a;exact o.1 a)
 ·refine(l.block _ v (λa=>?_)).trans b.map;rcases a with a|a
  ·omega
  ·rcases(b.ord k f).row.2 with⟨z,_⟩|⟨I,G,H,u,J,B,_⟩
   ·cases z
   ·simp only[Value.slice.injEq,Option.some.injEq,Addr.mk.injEq,and_true,true_and]at u;obtain⟨rfl,rfl⟩:=u;have:=b.map;rw[a,B]at this;cases this
def resV(s:St)(c:Nat):jL:=match DT s c with
 |some (a,_)=>gJ #[fP gZ (a:Int),fP gZ 0]
 |none=>gJ #[fP gZ 0,fP gZ 6]
def Vx(s:St)(c:Nat):St:=match DT s c with
 |some (_,a)=>a
 |none=>s
def EO.below{len:Dq}{w w':jD}{d p L:Nat}{s:St}{tb hb n cT cH:Nat}{own:Nat->Prop}(h:EO len w d p L s tb hb n cT cH own)(k:η w w'):EO len w' d p L s tb hb n cT cH own:=by
 exact⟨h.dev.below k,h.L0,h.L1,h.shape,(k.block _ h.box.lt).trans h.box,h.tk.keep (k.block _ h.tk.lt),h.hd.keep (k.block _ h.hd.lt),h.Rj,h.xn,h.iZ,h.cT,h.cH,h.dp,h.dt,h.dh,h.pt,h.ph,h.th,h.tabs.below k,h.g1,h.g2⟩
def Wq{m:Dq}{w:jD}{d p L:Nat}{s:St}{F:Nat->Prop}(h:EE m w d p L s F)(c:Nat)(aD:1<=c)(aE:c<=2):
 Calls prog 204 #[ptr0 p,fP gZ (c:Int)] w λb w'=>b=gY (resV s c)/\EE m w' d p L (Vx s c) F/\AL F F w w':=by
 have a5:=Ac h;obtain⟨tb,hb,n,cT,cH,own,P,hF⟩:=h;have r:=Ac P.at;have S:=Ac P;have ap:=Ac hF;have aq:s.tk.length=n:=P.Rj;have a1:Wl w:=P.tabs.mV;have E:=Ac a1;have R:=Ac (Hf P.at);have t0:(((Bi c:Nat):Int)==0)=false:=by
  rw[beq_eq_false_iff_ne];have:Bi c≠0:=by
   rcases(by omega:c=1\/c=2)with rfl|rfl<;>decide
  omega
 have C:=Ac (GU c w O);generalize Bi c=bd at C t0;have T:=Ac (rY P.at);have a2:∀q:Nat,q<3->Instr.findNow (.int gZ) (fP gZ (q:Int)) (YV w.heap.size).toList 0=iC (iC (q,ptr0 (w.heap.size+2+2*q))):=λq J=>by
  match q,J with
  |0,_=>rfl
  |1,_=>rfl
  |2,_=>rfl
 have aw:=Ac a2;clear P hF a1 a2;cases g:MF s c c with
 |some a=>
  have ao:Hid (Xy (MF s c c)=gJ #[fP gZ (a:Int),fU true]):=Ac (by rw[g];rfl);have Q:Nk s c=iC a:=by rw[Nk,g]
  obtain⟨y,ah⟩:=Rx Q;rw[aq]at y;obtain⟨f,z⟩:=fZ.1 ah;have a8:=rZ z;obtain⟨x,i⟩:∃x,(FU (hdN s a) c f).1=x:=⟨_,rfl⟩;have aJ:x<18446744073709551616:=by rw[<-i];exact aC _ _ _ (MM s a) O
  have k:DT s c=iC (Df s.sh a c f,{s with hd:=s.hd.set a (Az x)}):=by unfold DT;rw[Q];simp only[z,i]
  have Y:Hid (resV s c=gJ #[fP gZ ((Df s.sh a c f:Nat):Int),fP gZ 0]):=Ac (by rw[resV,k]);have Z:Hid (Vx s c={s with hd:=s.hd.set a (Az x)}):=Ac (by rw[Vx,k]);have az:Hid (mZ (Lh (C9 s a) c)=(f:Int)):=Ac (by rw[z];rfl);have G:=Ac (take_any (hdN s a) c f · (MM s a) O O);rw[i]at G;generalize(FU (hdN s a) c f).2=a7 at*;clear Q ah z i k;clear g;go_enter func204,ntmps204
  go_wp2_with fail
  refine R.mono ?_;rintro b w'⟨rfl,rfl⟩
  go_wp2_with fail
  refine C.mono ?_;rintro b w'⟨rfl,rfl⟩
  go_wp2_with fail
  refine T.mono ?_;rintro b a3⟨rfl,a0,aZ,aX,A,B⟩;have o:=Ac A;have u:=Ac B;clear A B T C R
  go_wp2_with fail
  rw[OG Tryz.Rw underlying3 _ _ (YV w.heap.size) 3 _ c _ o.map (aw c O)]
  go_wp2_with fail
  refine(Ry r.out E.out c aD aE o.out u.out c O).mono ?_;rintro b a4⟨rfl,e,N,K⟩;rw[ao.out];clear N K;have aa:=Ac e;have W:=r.below e;have X:=E.below e;clear e
  go_wp2_with fail
  refine(MN W a y).mono ?_;rintro b aM⟨rfl,I⟩
  go_wp2_with fail
  refine(Xx (C9 s a) c aM (OJ s a) O (X.dr I)).mono ?_;rintro b l⟨rfl,ac⟩;rw[az.out];have ab:=I.trans ac;have v:=τ aa.out (ab.below _);have H:=r.below v;have aW:=H.y6;have aR:=H.hd a y;have aV:l.frozen? (Δ hb a)=false:=(v.frozen (p:=Δ hb a) S.hd.lt).trans (S.hd.frozen a);have av:=Ac v;clear I ac ab W X H v aa
  go_wp2_with fail
  go_region_with(go_at_call 221;go_loud(refine(G _).mono ?_;rintro b bb⟨rfl,a9,rfl⟩))
  all_goals(clear aW aR aV G)
  all_goals(have D:Hid (∀j,Dr l j->EO m (j.setCell (Δ hb a) (fP ig (x:Int))) d p L {s with hd:=s.hd.set a (Az x)} tb hb n cT cH own/\AL F F w (j.setCell (Δ hb a) (fP ig (x:Int)))):=Ac (λj q=>by
   have J:η w j:=τ av.out (q.below _);have g:=(S.below J).Ah8 a (Az x);rw[ni x aJ]at g;exact⟨g,(AL.of_below J).set (p:=Δ hb a) (.inl ((ap hb).2 (.inr (.inr (.inr rfl))))) _⟩))
  all_goals(go_wp2_with fail)
  all_goals(refine(Vp (D _ (Dr.one l _)).1.at a c f y O O).mono ?_)
  all_goals(rintro b bc⟨rfl,ad⟩)
  all_goals(go_wp2_with fail)
  all_goals(go_ret2)
  all_goals(refine⟨by rw[Y.out];rfl,?_,(D _ (Dr.one l _)).2.dr ad⟩)
  all_goals(rw[Z.out])
  all_goals(exact⟨tb,hb,n,cT,cH,own,(D _ (Dr.one l _)).1.dr ad,ap.out⟩)
 |none=>
  have ao:Hid (Xy (MF s c c)=gJ #[fP gZ 0,fU false]):=Ac (by rw[g];rfl);by_cases be:c=0
  ·omega
  cases U:MF s 0 c with
  |some a=>
   have ar:=Ac U;have Q:Nk s c=iC a:=by rw[Nk,g];exact U
   obtain⟨y,ah⟩:=Rx Q;rw[aq]at y;obtain⟨f,z⟩:=fZ.1 ah;have a8:=rZ z;obtain⟨x,i⟩:∃x,(FU (hdN s a) c f).1=x:=⟨_,rfl⟩;have aJ:x<18446744073709551616:=by rw[<-i];exact aC _ _ _ (MM s a) O
   have k:DT s c=iC (Df s.sh a c f,{s with hd:=s.hd.set a (Az x)}):=by unfold DT;rw[Q];simp only[z,i]
   have Y:Hid (resV s c=gJ #[fP gZ ((Df s.sh a c f:Nat):Int),fP gZ 0]):=Ac (by rw[resV,k]);have Z:Hid (Vx s c={s with hd:=s.hd.set a (Az x)}):=Ac (by rw[Vx,k]);have az:Hid (mZ (Lh (C9 s a) c)=(f:Int)):=Ac (by rw[z];rfl);have G:=Ac (take_any (hdN s a) c f · (MM s a) O O);rw[i]at G;generalize(FU (hdN s a) c f).2=a7 at*;clear Q ah z i k;clear g U;go_enter func204,ntmps204
   go_wp2_with fail
   refine R.mono ?_;rintro b w'⟨rfl,rfl⟩
   go_wp2_with fail
   refine C.mono ?_;rintro b w'⟨rfl,rfl⟩
   go_wp2_with fail
   refine T.mono ?_;rintro b a3⟨rfl,a0,aZ,aX,A,B⟩;have o:=Ac A;have u:=Ac B;clear A B T C R
   go_wp2_with fail
   rw[OG Tryz.Rw underlying3 _ _ (YV w.heap.size) 3 _ c _ o.map (aw c O)]
   go_wp2_with fail
   refine(Ry r.out E.out c aD aE o.out u.out c O).mono ?_;rintro b a4⟨rfl,e,N,K⟩;rw[ao.out];have M:=N 0 O O;rw[show w.heap.size+2+2*0=w.heap.size+2 from rfl]at M;have V:=Ac K;have t:=Ac M;clear N K M
   go_wp2_with fail
   rw[OG Tryz.Rw underlying3 _ _ (YV w.heap.size) 3 0 0 (ptr0 (w.heap.size+2)) V.out rfl]
   go_wp2_with fail
   refine(Vw r.out E.out c O e t.out (λx i=>?_) (o.heap 0 O)).mono ?_
   ·have:=(u 0 O).mem_iff.1 i;simp[PG]at this;exact this.1
   rintro b ba⟨aL,rfl,am,an⟩;have aF:aL=iC a:=by rw[<-aY aq (u 0 O) am];exact ar.out
   subst aF;have ae:=t.glt;have al:=t.hB;replace e:=e.trans (an.below e.size (λa6 hb=>by rcases hb with rfl|rfl;exact al;exact ae.1));clear an am ae al t V;rw[show Xy (iC a)=gJ #[fP gZ (a:Int),fU true]from rfl];have aa:=Ac e;have W:=r.below e;have X:=E.below e;clear e
   go_wp2_with fail
   refine(MN W a y).mono ?_;rintro b aM⟨rfl,I⟩
   go_wp2_with fail
   refine(Xx (C9 s a) c aM (OJ s a) O (X.dr I)).mono ?_;rintro b l⟨rfl,ac⟩;rw[az.out];have ab:=I.trans ac;have v:=τ aa.out (ab.below _);have H:=r.below v;have aW:=H.y6;have aR:=H.hd a y;have aV:l.frozen? (Δ hb a)=false:=(v.frozen (p:=Δ hb a) S.hd.lt).trans (S.hd.frozen a);have av:=Ac v;clear I ac ab W X H v aa
   go_wp2_with fail
   go_region_with(go_at_call 221;go_loud(refine(G _).mono ?_;rintro b bb⟨rfl,a9,rfl⟩))
   all_goals(clear aW aR aV G)
   all_goals(have D:Hid (∀j,Dr l j->EO m (j.setCell (Δ hb a) (fP ig (x:Int))) d p L {s with hd:=s.hd.set a (Az x)} tb hb n cT cH own/\AL F F w (j.setCell (Δ hb a) (fP ig (x:Int)))):=Ac (λj q=>by
    have J:η w j:=τ av.out (q.below _);have g:=(S.below J).Ah8 a (Az x);rw[ni x aJ]at g;exact⟨g,(AL.of_below J).set (p:=Δ hb a) (.inl ((ap hb).2 (.inr (.inr (.inr rfl))))) _⟩))
   all_goals(go_wp2_with fail)
   all_goals(refine(Vp (D _ (Dr.one l _)).1.at a c f y O O).mono ?_)
   all_goals(rintro b bc⟨rfl,ad⟩)
   all_goals(go_wp2_with fail)
   all_goals(go_ret2)
   all_goals(refine⟨by rw[Y.out];rfl,?_,(D _ (Dr.one l _)).2.dr ad⟩)
   all_goals(rw[Z.out])
   all_goals(exact⟨tb,hb,n,cT,cH,own,(D _ (Dr.one l _)).1.dr ad,ap.out⟩)
  |none=>
   have ar:=Ac U;have k:DT s c=iD:=by unfold DT Nk;rw[g,U]
   have Y:Hid (resV s c=gJ #[fP gZ 0,fP gZ 6]):=Ac (by rw[resV,k]);have Z:Hid (Vx s c=s):=Ac (by rw[Vx,k]);clear g U k;go_enter func204,ntmps204
   go_wp2_with fail
   refine R.mono ?_;rintro b w'⟨rfl,rfl⟩
   go_wp2_with fail
   refine C.mono ?_;rintro b w'⟨rfl,rfl⟩
   go_wp2_with fail
   refine T.mono ?_;rintro b a3⟨rfl,a0,aZ,aX,A,B⟩;have o:=Ac A;have u:=Ac B;clear A B T C R
   go_wp2_with fail
   rw[OG Tryz.Rw underlying3 _ _ (YV w.heap.size) 3 _ c _ o.map (aw c O)]
   go_wp2_with fail
   refine(Ry r.out E.out c aD aE o.out u.out c O).mono ?_;rintro b a4⟨rfl,e,N,K⟩;rw[ao.out];have M:=N 0 O O;rw[show w.heap.size+2+2*0=w.heap.size+2 from rfl]at M;have V:=Ac K;have t:=Ac M;clear N K M
   go_wp2_with fail
   rw[OG Tryz.Rw underlying3 _ _ (YV w.heap.size) 3 0 0 (ptr0 (w.heap.size+2)) V.out rfl]
   go_wp2_with fail
   refine(Vw r.out E.out c O e t.out (λx i=>?_) (o.heap 0 O)).mono ?_
   ·have:=(u 0 O).mem_iff.1 i;simp[PG]at this;exact this.1
   rintro b ba⟨aL,rfl,am,an⟩;have aF:aL=iD:=by rw[<-aY aq (u 0 O) am];exact ar.out
   subst aF;have ae:=t.glt;have al:=t.hB;replace e:=e.trans (an.below e.size (λa6 hb=>by rcases hb with rfl|rfl;exact al;exact ae.1));clear an am ae al t V;rw[show Xy iD=gJ #[fP gZ 0,fU false]from rfl]
   go_wp2_with fail
   go_ret2;refine⟨by rw[Y.out];rfl,?_,AL.of_below e⟩;rw[Z.out];exact a5.below e
def Tryz.Aih:Ig prog 89 40 (fP ig 0) 1 8:=⟨underlying89,by kernel_rfl,rfl⟩
def Aei(p t i:Nat)(w:jD)(c:w.cell? (Δ p 3)=iC (fP gZ (t:Int)))(b:t<=100000)(hi:i<=100000):Calls prog 115 #[ptr0 p,fP gZ (i:Int)] w λa w'=>a=gY (fP gZ ((t:Int)+8*(i:Int)))/\w=w':=by
 go_enter func115,ntmps115;go_wp2;go_ret;exact⟨by go_num,rfl⟩
def nJ(ws:Nat->UInt64)(j k:Nat):(wordsAt ws j (k+1)).map wv=(wordsAt ws j k).map wv++[fP ig ((ws (j+k)).toNat:Int)]:=by
 simp[wordsAt,UF,wv]
def zg{q d c:jD}{a k b f m:Nat}{v r s t u w y:jL}{ws:Nat->UInt64}{j:Nat}{x:UInt64}(L:ws (j+k)=x)(_:m<=a)
 (o:CB d a 127 [r,s,t,u,w,v,y])(B:(k=0/\v=fD iD 0 0)\/∃g n,v=fD (iC (Φ g)) k n/\a<g)(H:Below a q d)(_:q.heap.size<=d.heap.size)
 (E:c.ownsRow m 40 1 (fD (iC (Φ b)) (k+1) f) (k+1) ((wordsAt ws j k).map wv++[fP ig (x.toNat:Int)]))(z:Below m d c)(A:Kept d c v.ownBlock)(I:v.ownBlock=iC b\/d.heap.size<=b):
 CB (c.setCell (Δ a 5) (fD (iC (Φ b)) (k+1) f)) a 127 [r,s,t,u,w,fD (iC (Φ b)) (k+1) f,y]/\a<b/\
  (c.setCell (Δ a 5) (fD (iC (Φ b)) (k+1) f)).ownsRow m 40 1 (fD (iC (Φ b)) (k+1) f) (k+1) ((wordsAt ws j (k+1)).map wv)/\Below a q (c.setCell (Δ a 5) (fD (iC (Φ b)) (k+1) f)):=by
 have J:iC a≠v.ownBlock:=λl=>by rcases B with⟨_,h⟩|⟨g,n,h,C⟩<;>(subst h;simp[AV]at l);omega
 have K:a<b:=by
  rcases I with h|h
  ·rcases B with⟨_,i⟩|⟨g,n,i,C⟩<;>(subst i;simp[AV]at h);omega
  ·have:=o.lt;omega
 have F:CB c a 127 [r,s,t,u,w,v,y]:=(A.2 a o.lt J).trans o;refine⟨F.AX 5 _,K,?_,?_⟩
 ·rw[nJ,L];refine Gj E ((Touch.refl (λe=>e=a) c).setCell (p:=Δ a 5) (.inl rfl) _) (λe hb l=>?_);have:b=e:=by simpa[AV]using hb
  omega
 ·have D:=o.lt;have G:Below a d c:=⟨z.os,z.tape,z.output,A.1,λe hb=>A.2 e (Nat.lt_trans hb D) (λl=>by
   rcases B with⟨_,i⟩|⟨g,n,i,C⟩
   ·subst i;simp[AV]at l
   ·subst i;have:e=g:=by simpa[AV]using l
    omega)⟩
  exact(H.trans G).setCell (p:=Δ a 5) (Ae _) _
def Apz(len:Mode)(d L:Nat)(ws:Nat->UInt64)(own:Nat->Prop)(sh:Sh)(w:jD)(e:Ending)(w':jD):Prop:=
 η w w'/\((∀a,a<sh.BO->Gx (ws (sh.table/8+a)).toNat=true)->∃p F,e=gY (gJ #[ptr0 p,fP gZ 0])/\
  EE len w' d p L {sh:=sh,ws:=ws,tk:=wordsAt ws (sh.table/8) sh.BO,hd:=BB sh.BO 0} F/\∀b,F b->own b\/w.heap.size<=b)/\
  ((∃a,a<sh.BO/\¬Gx (ws (sh.table/8+a)).toNat=true)->e=gY (gJ #[.pointer iD,fP gZ 5]))
def gQ{len:Mode}{w:jD}{d L:Nat}{ws:Nat->UInt64}{own:Nat->Prop}{sh:Sh}(ap:0<L)(ao:L<=1024)(aJ:shapeOf L=iC sh)(H:len.lf≠0)(h:Dev w d L ws len (λ_=>0) own)(ar:Tabs w)(cg:¬own 0)(ch:¬own 1)
 (bd:wordsAt ws 0 8=wordsOf sh):
 Calls prog 72 #[ptr0 d] w (Apz len d L ws own sh w):=by
 have ab:=IK aJ;have a8:=Ac (Aee ap ao aJ H h ar);have am:Hid (aK ws sh=gJ #[yQ sh,fP gZ 0]):=Ac (by rw[aK,jM bd]);obtain⟨n,i⟩:∃x,sh.BO=x:=⟨_,rfl⟩;obtain⟨tb,aa⟩:∃x,sh.table=x:=⟨_,rfl⟩;obtain⟨l,bk⟩:∃x,sh.data=x:=⟨_,rfl⟩;obtain⟨r,bl⟩:∃x,sh.lines=x:=⟨_,rfl⟩;have bs:yQ sh=.agg #[fP gZ (r:Int),fP gZ (n:Int),fP gZ (tb:Int),fP gZ (l:Int)]:=by rw[yQ,i,aa,bk,bl]
 rw[bs]at am;have cJ:n<=64:=Ω ab.fits;have aW:tb=128:=by rw[<-aa];exact ab.table
 obtain⟨cz,o,bx,bA,bB⟩:=info_parts Tryz.Je.hi;have cq:∀k:jD,(Instr.makeSlice 89 (fP gZ (n:Int)) (fP gZ (n:Int))).run prog k=.ok (fD (iC (Φ k.heap.size)) n n) (k.alloc (iy (madeCells (Aw ig 0).cells (n*1)) 40)):=λk=>by
  have:=run_make (P:=prog) (w:=k) 89 40 cz (fP ig 0) underlying89 o bx gZ gZ (n:Int) (n:Int) O O (by rw[bB];omega) O;rw[bA]at this;simpa using this
 obtain⟨v,bC⟩:∃v,madeCells (Aw ig 0).cells (n*1)=v:=⟨_,rfl⟩;rw[bC]at cq;have a7:=Ac (λk(b:η w k)=>(h.below b:Dev k d L ws len (λ_=>0) own));have ae:=Ac ab;have b3:=Ac h.lt;have b7:=Ac aJ;have bX:tb<=100000:=O;have aX:=Ac aW;have al:=Ac aa;clear h ab bs bd o bx bA bB aW aa;go_enter func72,ntmps72
 go_wp2_with fail
 refine a8.mono ?_;rintro g Q⟨rfl,aw⟩;rw[am.out]
 go_wp2_with fail
 obtain⟨f,Y⟩:=ε (Q.alloc (iy #[fP gZ (r:Int),fP gZ (n:Int),fP gZ (tb:Int),fP gZ (l:Int)] 48));have J:CB f Q.heap.size 48 [fP gZ (r:Int),fP gZ (n:Int),fP gZ (tb:Int),fP gZ (l:Int)]:=by rw[Y];exact heap_alloc_new _ _
 have bi:η w f:=by rw[Y];exact aw.alloc aw.size _
 rw[<-Y];obtain⟨bO,bR,bS,bV,f0,f1,f2,f3⟩:=CS J;have aZ:CB (f.alloc (iy v 40)) Q.heap.size 48 [fP gZ (r:Int),fP gZ (n:Int),fP gZ (tb:Int),fP gZ (l:Int)]:=(χ _ _ J.lt).trans J;obtain⟨cD,cE,cF,cG,_,_,_,_⟩:=CS aZ;have S:=Ac J;have R:=Ac bi;clear Y J aZ bi aw a8;go_region;obtain⟨z,s⟩:=ε (((f.alloc (iy v 40)).alloc (iy #[ptr0 d,fP gZ (r:Int),fP gZ (n:Int),fP gZ (tb:Int),fP gZ (l:Int),fD iD 0 0,fD (iC (Φ f.heap.size)) n n] 127)).drew);have j:(f.alloc (iy v 40)).heap.size=f.heap.size+1:=by simp
 have W:CB z (f.heap.size+1) 127 [ptr0 d,fP gZ (r:Int),fP gZ (n:Int),fP gZ (tb:Int),fP gZ (l:Int),fD iD 0 0,fD (iC (Φ f.heap.size)) n n]:=by
  rw[s,<-j];exact heap_alloc_new _ _
 have av:z.heap[f.heap.size]?=iC (iy v 40 (0,0)):=by
  rw[s];exact(χ _ _ O).trans (heap_alloc_new _ _)
 have X:CB z Q.heap.size 48 [fP gZ (r:Int),fP gZ (n:Int),fP gZ (tb:Int),fP gZ (l:Int)]:=by
  have:=S.lt;rw[s];exact(χ _ _ O).trans ((χ _ _ this).trans S.out)
 have bj:η w z:=by
  have:=R.size;rw[s];exact((R.alloc this _).alloc O _).trans ((Dr.drew _).below _)
 rw[<-s];have cy:=R.size;have br:=S.lt;have cA:z.heap.size=f.heap.size+1+1:=by rw[s];show(Array.size _)=_;simp
 clear s cD cE cF cG bO bR bS bV f0 f1 f2 f3 j;obtain⟨e,bm⟩:∃e,f.heap.size+1=e:=⟨_,rfl⟩;obtain⟨C,co⟩:∃C,f.heap.size=C:=⟨_,rfl⟩;obtain⟨bJ,cv⟩:∃bJ,Q.heap.size=bJ:=⟨_,rfl⟩;rw[bm]at W cA⊢;rw[co]at W av cy br bm⊢;rw[cv]at X br⊢;obtain⟨bO,bR,bS,bV,f0,f1,f2,f3⟩:=CS X;have b5:=Ac W;have b9:=Ac av;have cK:=Ac X;have b2:=Ac bj;clear W av X bj S R am
 go_wp2_with fail
 go_loopw [27](λc wr=>∃b t,b<=n/\c=fP gZ (b:Nat)/\CB wr e 127 [ptr0 d,fP gZ (r:Int),fP gZ (n:Int),fP gZ (tb:Int),fP gZ (l:Int),t,fD (iC (Φ C)) n n]/\
  ((b=0/\t=fD iD 0 0)\/∃B T,t=fD (iC (Φ B)) b T/\e<B)/\wr.ownsRow w.heap.size 40 1 t b ((wordsAt ws (tb/8) b).map wv)/\Below e z wr/\∀c,c<b->Gx (ws (tb/8+c)).toNat=true)(λc _=>n-(intOf c).toNat)
 case atStart=>exact⟨0,_,Nat.zero_le _,rfl,b5.out,.inl ⟨rfl,rfl⟩,World.ownsRow_nil _ _ _ _,Below.refl _ _,λc o=>absurd o (Nat.not_lt_zero _)⟩
 case round=>
  obtain⟨b,t,cS,rfl,aq,bw,G,az,bh⟩:=hrel;have aD:η w wr:=b2.trans (az.mono O);have aM:=aq.cell 3;simp only[Am,Ag]at aM;have ad:=Ac (Aei e tb b wr aM bX O);have ah:=Ac aq;have an:=Ac bw;have bL:=Ac G;have bH:=Ac az;have ac:=Ac aD;have a5:=Ac bh;clear aq bw G az aM bh;by_cases F:b<n
  ·obtain⟨cj,cl,bp,ct⟩:=a7 _ aD;have y:=mO d L ws _ _ cj cl (tb/8+b) 1 wr ap ao H bp (Ξ ae.fits ae.OI aX.out);rw[show((8*(tb/8+b):Nat):Int)=(tb:Int)+8*(b:Int)by have:=aX.out;omega]at y;have y:=Ac y;clear bp ct aD
   go_wp2_with fail
   refine ad.mono ?_;rintro g w'⟨rfl,rfl⟩
   go_wp2_with fail
   refine y.out.mono ?_;rintro g bN⟨cX,rfl,Z,E⟩;obtain⟨cI,cL,rfl,cN,aF⟩:=Cj Z;obtain⟨bb,rfl,cP,bY⟩:=OE Z O;have M:bN.cell? (Φ bb)=iC (fP ig ((ws (tb/8+b)).toNat:Int)):=by
    obtain⟨A,cV,g,_,cm⟩:=aF.2 O;injection g with g;injection g with j cf;subst j cf
    rw[cm 0 O];simp[Qv,wv]
   have m:=Ac (Vl (ws (tb/8+b)).toNat · (UInt64.toNat_lt _));by_cases D:Gx (ws (tb/8+b)).toNat=true
   case neg=>
    have bg:Gx (ws (tb/8+b)).toNat=false:=by simpa using D
    rw[bg]at m;have b4:=Ac D;have a6:=Ac (τ ac.out E);obtain⟨x,q⟩:∃x,ws (tb/8+b)=x:=⟨_,rfl⟩;rw[q]at M m;clear Z aF E q D bg y ad
    go_wp2_with fail
    refine(m _).mono ?_;rintro g u⟨rfl,N⟩;have ca:=Ac (τ a6.out (N.below _));clear N a6 m M
    go_wp2_with fail
    go_ret2;have j:sh.table/8=tb/8:=by rw[al.out]
    exact⟨ca.out,λh=>absurd (by have:=h b (by rw[i];exact F);rw[j]at this;exact this) b4.out,λ_=>rfl⟩
   rw[D]at m;have be:=ah.out.ξ E;have bq:=own_below bL.out E;have a0:=bH.trans (E.mono (LP ah.lt));have aL:=Ac be;have a1:=Ac bq;have a2:=Ac a0;obtain⟨x,q⟩:∃x,ws (tb/8+b)=x:=⟨_,rfl⟩;rw[q]at M m;have b8:=Ac q;have b1:Hid (∀c,c<b+1->Gx (ws (tb/8+c)).toNat=true):=Ac (λc o=>by
    rcases Nat.lt_succ_iff_lt_or_eq.1 o with h|h
    ·exact a5 c h
    ·subst h;rw[q];rw[<-q];exact D)
   clear Z aF E be bq a0 q D y ad
   go_wp2_with fail
   refine(m _).mono ?_;rintro g u⟨rfl,N⟩;have K:=N.below bN.heap.size;have I:=aL.out.ξ K;have cn:=(K.cell (p:=Φ bb) bY).trans M;have aV:=own_below a1.out K;have a3:=a2.trans (K.mono (LP aL.lt));have aR:=I.cell 5;have f5:=I.frozen 5;have bo:=I.lt;simp only[Am,Ag]at aR;have b6:=Ac I;have b0:=Ac aV;have a4:=Ac a3;have cx:w.heap.size<=u.heap.size:=O;clear N K I aV a3 M aL a1 a2 m;obtain⟨c0,cU⟩:=ε u.drew
   go_wp2_with fail
   go_region_law(refine Oc rfl (.tmp 50) (.tmp 54) 89 rfl Tryz.Aih u w.heap.size t b ((wordsAt ws (tb/8) b).map wv) [fP ig (x.toNat:Int)] rfl b0.out rfl rfl rfl rfl u.heap.size 1 rfl rfl rfl U (by intro cW H;simp at H;subst H;rfl) O U cx ?_;intro ci ce cY ba a9 V bc;have aE:iC e≠t.ownBlock:=(λg=>by rcases an.out with⟨_,h⟩|⟨B,T,h,F⟩<;>(subst h;simp[AV]at g);omega);have cH:=(World.cell?_of_block (w:=u) (a:=Δ e 5) (V.2 e bo aE)).trans aR;have f6:=(World.frozen?_of_block (w:=u) (a:=Δ e 5) (V.2 e bo aE)).trans f5)
   all_goals(obtain⟨bD,cB,bE,bG⟩:=zg b8.out O b6.out an.out a4.out a4.size ba a9 V bc)
   all_goals(have cb:=Ac bD)
   all_goals(have cc:=Ac bE)
   all_goals(have cd:=Ac bG)
   all_goals(clear bD bE bG ba a9 V bc aE cH f6 aR f5 cn)
   all_goals(go_wp2_with fail)
   all_goals(go_roundw)
   all_goals(try(case rel=>exact⟨b+1,_,O,by go_num,cb.out,.inr ⟨ci,ce,rfl,cB⟩,cc.out,cd.out,b1.out⟩))
   all_goals(try(simp[intOf];omega))
  ·have cp:b=n:=O;subst cp
   go_wp2_with fail
   go_ret2;have cr:0<b:=by rw[<-i];exact ae.BO
   rcases an.out with⟨cM,_⟩|⟨B,T,rfl,cR⟩
   ·omega
   have F:=b3.out;have G:=bL.out;have ck:=(bH.block C O).trans b9.out;have cQ:=OE G cr;have cT:=ar.lt;have j:sh.table/8=tb/8:=by rw[al.out]
   refine⟨ac.out,λ_=>?_,λ⟨c,o,cs⟩=>absurd (by rw[j];exact a5 c (by rw[<-i];exact o)) cs⟩;refine⟨e,λA=>own A\/A=e\/A=B\/A=C,rfl,⟨B,C,b,T,b,own,⟨⟨a7 _ ac.out,H⟩,ap,ao,b7.out,?_,?_,?_,?_,?_,?_,(CQ G).1,Ae _,λh=>?_,λh=>?_,λh=>?_,O,O,O,ar.below ac.out,?_,?_⟩,λ_=>Iff.rfl⟩,λA hb=>?_⟩
   ·show CB wr e _ _;rw[bl,i,al.out,bk];exact ah.out
   ·rw[i,j];exact Tt.OH G
   ·refine⟨v,ck,λcC bt=>?_⟩;have cw:cC<b:=by rw[List.length_replicate,i]at bt;exact bt
    rw[<-Array.getElem?_toList,<-bC,Me,List.getElem?_map,IC,jM cw,ql];rfl
   ·simp[wordsAt,i]
   ·simp[i]
   ·exact i.symm
   ·have:=F _ h;omega
   ·have:=F _ h;omega
   ·have:=F _ h;omega
   ·rintro(h|h|h|h)
    ·exact cg h
    ·omega
    ·omega
    ·omega
   ·rintro(h|h|h|h)
    ·exact ch h
    ·omega
    ·omega
    ·omega
   ·rcases hb with h|h|h|h
    ·exact .inl h
    ·right;omega
    ·right;omega
    ·right;omega
def Aej{len:Mode}{w:jD}{d L:Nat}{ws:Nat->UInt64}{own:Nat->Prop}{sh:Sh}(k:0<L)(j:L<=1024)(r:shapeOf L=iC sh)(s:len.lf≠0)(h:Dev w d L ws len (λ_=>0) own)(m:Tabs w)(e:¬own 0)(f:¬own 1)
 (i:wordsAt ws 0 8=wordsOf sh)(n:∀c,c<sh.BO->Gx (ws (sh.table/8+c)).toNat=true):
 Calls prog 72 #[ptr0 d] w λb w'=>∃p F,b=gY (gJ #[ptr0 p,fP gZ 0])/\
  EE len w' d p L {sh:=sh,ws:=ws,tk:=wordsAt ws (sh.table/8) sh.BO,hd:=BB sh.BO 0} F/\η w w'/\∀a,F a->own a\/w.heap.size<=a:=by
 refine(gQ k j r s h m e f i).mono ?_;rintro b w'⟨hb,g,_⟩;obtain⟨p,F,o,l,q⟩:=g n;exact⟨p,F,o,l,hb,q⟩
def zh(j n:Nat):BX (λ_=>0) j (BB n 0)=λ_=>0:=by
 funext i;unfold BX;split
 ·rw[Bg,IC];split<;>rfl
 ·rfl
def Tz(sh:Sh):(wordsOf sh).length=8:=rfl
def sH(sh:Sh):wordsAt (Ll sh) 0 8=wordsOf sh:=by
 apply Fz
 ·rfl
 ·intro a b c;have e:a<8:=by simpa[wordsAt]using b
  have d:=Tz sh;simp only[wordsAt,SL,Qj];unfold Ll BX;rw[jM O,Bg,show 0+a-0=a by omega,List.getElem?_eq_getElem c];rfl
def Lt(sh:Sh)(i:Nat)(hi:8<=i):Ll sh i=0:=by
 unfold Ll BX;have a:=Tz sh;rw[ku O]
def st0(sh:Sh):St:={sh:=sh,ws:=Ll sh,tk:=BB sh.BO 0,hd:=BB sh.BO 0}
def nM(sh:Sh)(h:sh.table=128):wordsAt (Ll sh) (sh.table/8) sh.BO=BB sh.BO 0:=by
 apply Fz
 ·simp[wordsAt]
 ·intro c a b;simp only[wordsAt,SL,Qj,ql];exact Lt sh _ O
structure J6(len:Dq)(w:jD)(x d p L:Nat)(s:St)(F:Nat->Prop):Prop where
 sys:EE len w d p L s F
 box:CB w x 215 [ptr0 d,ptr0 p]
 out:¬F x
abbrev Ix:=J6 (.up M0)
section
variable{len:Dq}{w w':jD}{x d p L:Nat}{s:St}{F:Nat->Prop}
def J6.below(h:J6 len w x d p L s F)(k:η w w'):J6 len w' x d p L s F:=⟨h.sys.below k,h.box.ξ k,h.out⟩
def J6.move{b:Dq}(h:J6 len w x d p L s F){s':St}{a:Nat->Prop}(e:EE b w' d p L s' a)(m:AL F a w w'):J6 b w' x d p L s' a:=
 ⟨e,h.box.touch m.touch h.out,λc=>(m.own x c).elim h.out (λf=>Ω h.box.lt)⟩
def J6.L0(h:J6 len w x d p L s F):0<L/\L<=1024/\gI L s.sh/\s.tk.length=s.sh.BO:=by
 obtain⟨_,_,_,_,_,_,a,_⟩:=h.sys;exact⟨a.L0,a.L1,IK a.shape,by rw[a.Rj,a.iZ]⟩
def Ih(h:J6 len w x d p L s F)(key:ByteArray)(c:key.size<=1000000):Calls prog 83 #[ptr0 x,.string key] w λb w'=>b=gY (fP gZ (if 16<key.size then 3 else 0))/\w=w':=by
 have e:=h.box.p1;clear h;by_cases a:16<key.size
 ·have t1:decide ((16:Int)<(key.size:Int))=true:=decide_eq_true O;rw[jM a];go_enter func83,ntmps83;go_wp2;go_ret;exact⟨rfl,rfl⟩
 ·have t1:decide ((16:Int)<(key.size:Int))=false:=decide_eq_false O;rw[ku a];go_enter func83,ntmps83;go_wp2;go_ret;exact⟨rfl,rfl⟩
def bf{len:Mode}(h:J6 len w x d p L s F):Calls prog 128 #[ptr0 x] w λa w'=>a=gY (gJ #[fP ig ((s.ws 9).toNat:Int),fP gZ 0])/\η w w':=by
 have B:=h.box.p1;obtain⟨v,y,c,_⟩:=h.L0;have b:=mX h.sys 9 1 (Ξ c.fits c.OI c.BO);rw[show((8*9:Nat):Int)=72 from rfl,show((1:Nat):Int)=1 from rfl]at b;have b:=Ac b;clear h c;go_enter func128,ntmps128
 go_wp2_with fail
 refine b.out.mono ?_;rintro a l⟨A,rfl,e,hb⟩;obtain⟨m,o,rfl,q,f⟩:=Cj e;obtain⟨j,rfl,t,u⟩:=OE e O;have r:l.cell? (Φ j)=iC (fP ig ((s.ws 9).toNat:Int)):=by
  obtain⟨n,z,a,_,k⟩:=f.2 O;injection a with a;injection a with g i;subst g i
  rw[k 0 O];simp[wordsAt,wv]
 clear b e f
 go_wp2_with fail
 go_ret2;exact⟨rfl,hb⟩
end
def X3{c:Nat}(h:Bd c≠0):c=1\/c=2:=by
 unfold Bd at h;split at h<;>simp_all
def Aca(a b:Nat):Eb (a|||b)=Eb a|||Eb b:=by
 unfold Eb fieldN;rw[Nat.or_div_two_pow,Nat.or_mod_two_pow]
def Amf(a:Nat):Eb a<4:=by
 unfold Eb fieldN;exact Nat.mod_lt _ U
def zi{a b:Nat}(h1:Bd (Ba (a|||b))≠0)(h2:Bd (Ba a)≠0):Ba a=Ba (a|||b):=by
 have f:=X3 h1;have c:=X3 h2;have g:Ba (a|||b)=Eb (a|||b):=by
  unfold Ba;split
  ·rfl
  ·rename_i e;unfold Ba at f;simp[e]at f
 have i:Ba a=Eb a:=by
  unfold Ba;split
  ·rfl
  ·rename_i e;unfold Ba at c;simp[e]at c
 rw[g,Aca]at f;rw[i]at c;rw[g,i,Aca];have hb:=Amf b;generalize Eb a=x at*;generalize Eb b=d at*;have:d=0\/d=1\/d=2\/d=3:=O;rcases c with rfl|rfl<;>rcases this with rfl|rfl|rfl|rfl<;>simp_all
def Wv{s:St}{off:Int}(h:Bd (DD s off)≠0):∃a b,a<s.tk.length/\off=((s.sh.data+1024*a+64*Bd (DD s off)*b:Nat):Int)/\(Bd (DD s off)=1\/Bd (DD s off)=4)/\Bd (DD s off)*b+Bd (DD s off)<=16:=by
 cases d:Iq s off with
 |none=>rw[DD,d]at h;exact absurd rfl h
 |some m=>
  obtain⟨a,b⟩:=m;obtain⟨j,n,l,k,g⟩:=OL d;rw[DD,d]at h
  dsimp only at h
  split at h
  ·rename_i i;have f:DD s off=Ba (C9 s a):=by
    rw[DD,d];dsimp only;rw[jM i];exact zi (by rw[C9]at k;omega) h
   rw[f];refine⟨a,b,j,l,?_,g⟩;rcases X3 (c:=Ba (C9 s a)) O with e|e<;>rw[e]<;>simp[Bd]
  ·exact absurd rfl h
def Wx(c:Nat):MI (c:Int)=((8*Bd c:Nat):Int):=by
 unfold MI Bd;split
 ·rename_i h;have:c=1:=O;subst this;rfl
 ·rename_i b;split
  ·rename_i a;have:c=2:=O;subst this;rfl
  ·rename_i a;split
   ·simp at b
   ·simp at a
   ·rfl
def YW(w:jD)(a:Nat)(v:jL)(x:Nd):Prop:=
 ∃b e c f d g,v=.agg #[fD b x.pre.length e,fP ig (x.val.toNat:Int),fD c x.labels.length f,fD d x.kids.length g]/\
  w.ownsRow a 5 1 (fD b x.pre.length e) x.pre.length (x.pre.map bv)/\w.ownsRow a 5 1 (fD c x.labels.length f) x.labels.length (x.labels.map bv)/\w.ownsRow a 40 1 (fD d x.kids.length g) x.kids.length (x.kids.map wv)
def bn{i:Ending->jD->Prop}{e:jD}{f:Array jL}{j:Func}(l:j.results= #[.cell 4 174,.tmp 5])(g:Nat){a b c d:jL}(h:CB e g 174 [a,b,c,d])(v:jL)(h2:f[4]?=iC (ptr0 g))(h3:f[5]?=iC v)
 (k:i (gY (gJ #[.agg #[a,b,c,d],v])) e):bodyPost prog j i Exit.ret {tmps:=f,defers:=[]} e:=by
 obtain⟨m,n,o,p,f0,f1,f2,f3⟩:=CS h;refine bodyPost_ret (v:=gJ #[.agg #[a,b,c,d],v]) (by simp[results,l,go_sem,h2,h3,m,n,o,p]) rfl k
section
variable{len:Mode}{w w':jD}{x d p L:Nat}{s:St}{F:Nat->Prop}
def Aii(s:St)(b:UInt64)(w:jD)(e:Ending)(w':jD):Prop:=
 η w w'/\match FC s b with
  |none=>e=gY (gJ #[.agg #[fD iD 0 0,fP ig 0,fD iD 0 0,fD iD 0 0],fP gZ 5])
  |some c=>∃a,e=gY (gJ #[a,fP gZ 0])/\YW w' w.heap.size a c
def MQ(h:J6 len w x d p L s F)(f:UInt64):Calls prog 129 #[ptr0 x,fP ig (f.toNat:Int)] w (Aii s f w):=by
 have I:=Ac h;obtain⟨bl,bm,N,al⟩:=h.L0;have be:IntKind.i64.wrap (f.toNat:Int)=Bf f:=rfl;have aZ: -9223372036854775808<=Bf f/\Bf f<=9223372036854775807:=by
  have B:=f.toNat_lt;unfold Bf;simp only[IntKind.wrap,IntKind.bits,IntKind.signed,Bool.true_and,decide_eq_true_eq,show(2:Int)^(64-1)=9223372036854775808 from rfl,show(2:Int)^64=18446744073709551616 from rfl];constructor<;>split<;>omega
 have a3:=h.box.lt;obtain⟨b,M⟩:=ε (Bf f);rw[<-M]at be aZ;clear h;have T:=Ac (λ(an:jD)(ao:η w an)=>by
  obtain⟨tb,hb,n,cT,cH,own,V,-⟩:=(I.below ao).sys;exact aH V.at b aZ)
 obtain⟨aE,a1⟩:=I.box.p2;have P:CB (w.alloc (iy #[fD iD 0 0,fP ig 0,fD iD 0 0,fD iD 0 0] 174)) w.heap.size 174 [fD iD 0 0,fP ig 0,fD iD 0 0,fD iD 0 0]:=heap_alloc_new _ _;have y:η w (w.alloc (iy #[fD iD 0 0,fP ig 0,fD iD 0 0,fD iD 0 0] 174)):=(Below.refl _ _).alloc (Ae _) _;by_cases z:Bd (DD s b)=0
 ·have H:Hid (FC s f=iD):=Ac (by rw[FC,<-M,jM z]);clear M N al;go_enter func129,ntmps129
  go_wp2_with fail
  generalize w.alloc (iy #[fD iD 0 0,fP ig 0,fD iD 0 0,fD iD 0 0] 174)=J at*;refine(T J y).mono ?_;rintro e aD⟨rfl,r⟩;have q:=τ y (r.below J.heap.size);have o:=P.ξ (r.below _);clear P y r
  go_wp2_with fail
  refine(JB _ _).mono ?_;rintro e D⟨rfl,rfl⟩;rw[Wx,z];clear T I aE a1 z;obtain⟨Y,Z,aa,ab,f0,f1,f2,f3⟩:=CS o
  go_wp2_with fail
  have G:=(((o.AX 0 (Ad iD 0 0)).AX 1 (Aw ig 0)).AX 2 (Ad iD 0 0)).AX 3 (Ad iD 0 0);have LZ:=(((q.setCell (p:=Φ w.heap.size) (Ae _) (Ad iD 0 0)).setCell (p:=Δ w.heap.size 1) (Ae _) (Aw ig 0)).setCell (p:=Δ w.heap.size 2) (Ae _) (Ad iD 0 0)).setCell (p:=Δ w.heap.size 3) (Ae _) (Ad iD 0 0);refine bn rfl w.heap.size G (fP gZ 5) rfl rfl ⟨LZ,?_⟩;rw[H.out]
 ·obtain⟨bk,bi,aM,aJ,ar,aL⟩:=Wv z;have u:Hid (FC s f=if Jd (wordsAt s.ws (b.toNat/8) (8*Bd (DD s b)))then iC (Fb (wordsAt s.ws (b.toNat/8) (8*Bd (DD s b))))else iD):=Ac (by rw[FC,<-M,ku z]);have aR:b=((8*(b.toNat/8):Nat):Int)/\b.toNat/8+8*Bd (DD s b)<=8*L:=by
   have:=N.data;have:=N.fits;have:=N.BO;rw[al]at aM;rcases ar with X|X<;>rw[X]at aJ aL⊢<;>omega
  obtain⟨W,aX⟩:=ε (b.toNat/8);rw[<-aX]at aR u;obtain⟨aV,aW⟩:=aR;have R:=Ac (λ(an:jD)(ao:η w an)=>mX (I.below ao).sys W (8*Bd (DD s b)) aW);rw[<-aV]at R;have t1:(((8*Bd (DD s b):Nat):Int)==0)=false:=ζ O;have S:Hid (8*Bd (DD s b)<=1000000):=Ac (by rcases ar with X|X<;>omega);obtain⟨t,av⟩:∃t,t=8*Bd (DD s b):=⟨_,rfl⟩;have am:Hid (MI (DD s b:Int)=(t:Int)):=Ac (by rw[Wx,av]);rw[<-av]at R t1 S u;clear M N al ar aL aJ aM aV aW aX z av;go_enter func129,ntmps129
  go_wp2_with fail
  generalize w.alloc (iy #[fD iD 0 0,fP ig 0,fD iD 0 0,fD iD 0 0] 174)=J at*;refine(T J y).mono ?_;rintro e aD⟨rfl,r⟩;have q:=τ y (r.below J.heap.size);have o:=P.ξ (r.below _);have bh:aD.cell? (Φ x)=iC (ptr0 d):=(q.cell (p:=Φ x) a3).trans aE;clear P y r
  go_wp2_with fail
  refine(JB _ _).mono ?_;rintro e D⟨rfl,rfl⟩;rw[am.out];clear T I aE a1;obtain⟨Y,Z,aa,ab,f0,f1,f2,f3⟩:=CS o
  go_wp2_with fail
  refine(R aD q).mono ?_;rintro e D⟨v,rfl,a0,K⟩;obtain⟨a2,a6,rfl,ba,V⟩:=Cj a0;have ap:=τ q K;have bj:w.heap.size<D.heap.size:=Nat.lt_of_lt_of_le o.lt K.size;have ah:=o.ξ K;clear R a0 Y Z aa ab f0 f1 f2 f3 bh o;have aw:=Ac V;clear V
  go_wp2_with fail
  refine(decode_any a2 t a6 _ D S.out ba aw.out).mono ?_;rintro e c⟨U,C⟩;have Q:=ah.ξ U;have aF:=τ ap U;cases A:Jd (wordsAt s.ws W t)
  ·have H:Hid (FC s f=iD):=Ac (by rw[u.out,A];rfl);rw[A]at C;replace C:e=gY (gJ #[.agg #[fD iD 0 0,fP ig 0,fD iD 0 0,fD iD 0 0],fU false]):=C;subst C;clear u S A aw am;have E:CB (c.alloc (iy #[Ad iD 0 0,Aw ig 0,Ad iD 0 0,Ad iD 0 0] 174)) w.heap.size _ _:=Q.ξ ((Below.refl c.heap.size c).alloc (Ae _) _);have aq:η w (c.alloc (iy #[Ad iD 0 0,Aw ig 0,Ad iD 0 0,Ad iD 0 0] 174)):=τ aF ((Below.refl c.heap.size c).alloc (Ae _) _);clear ah Q q K ap U;obtain⟨Y,Z,aa,ab,f0,f1,f2,f3⟩:=CS E
   go_wp2_with fail
   have G:=(((E.AX 0 (Ad iD 0 0)).AX 1 (Aw ig 0)).AX 2 (Ad iD 0 0)).AX 3 (Ad iD 0 0);have LZ:=(((aq.setCell (p:=Φ w.heap.size) (Ae _) (Ad iD 0 0)).setCell (p:=Δ w.heap.size 1) (Ae _) (Aw ig 0)).setCell (p:=Δ w.heap.size 2) (Ae _) (Ad iD 0 0)).setCell (p:=Δ w.heap.size 3) (Ae _) (Ad iD 0 0);refine bn rfl w.heap.size G (fP gZ 5) rfl rfl ⟨LZ,?_⟩;rw[H.out]
  ·have H:Hid (FC s f=iC (Fb (wordsAt s.ws W t))):=Ac (by rw[u.out,A];rfl);rw[A]at C;obtain⟨g,k,i,l,j,m,rfl,bb,bc,bd,a7,a8,a9,ac,ad,ae⟩:=C;have a4:=Ac (And.intro ac (And.intro ad ae));clear a7 a8 a9 bb bc bd ac ad ae u S A aw am;generalize Fb (wordsAt s.ws W t)=a at*;have E:CB (c.alloc (iy #[Ad g a.pre.length k,Aw ig (a.val.toNat:Int),Ad i a.labels.length l,Ad j a.kids.length m] 174)) w.heap.size _ _:=Q.ξ ((Below.refl c.heap.size c).alloc (Ae _) _);have aq:η w (c.alloc (iy #[Ad g a.pre.length k,Aw ig (a.val.toNat:Int),Ad i a.labels.length l,Ad j a.kids.length m] 174)):=τ aF ((Below.refl c.heap.size c).alloc (Ae _) _);clear ah Q q K ap U;obtain⟨Y,Z,aa,ab,f0,f1,f2,f3⟩:=CS E
   go_wp2_with fail
   have G:=(((E.AX 0 (Ad g a.pre.length k)).AX 1 (Aw ig (a.val.toNat:Int))).AX 2 (Ad i a.labels.length l)).AX 3 (Ad j a.kids.length m);have LZ:=(((aq.setCell (p:=Φ w.heap.size) (Ae _) (Ad g a.pre.length k)).setCell (p:=Δ w.heap.size 1) (Ae _) (Aw ig (a.val.toNat:Int))).setCell (p:=Δ w.heap.size 2) (Ae _) (Ad i a.labels.length l)).setCell (p:=Δ w.heap.size 3) (Ae _) (Ad j a.kids.length m);refine bn rfl w.heap.size G (fP gZ 0) rfl rfl ⟨LZ,?_⟩;rw[H.out];obtain⟨ac,ad,ae⟩:=a4.out;have a5:η c (c.alloc (iy #[Ad g a.pre.length k,Aw ig (a.val.toNat:Int),Ad i a.labels.length l,Ad j a.kids.length m] 174)):=(Below.refl _ _).alloc (Ae _) _;have B:w.heap.size<D.heap.size:=O;have az:∀{e:TypeId}{v:jL}{n:Nat}{xs:List jL},c.ownsRow D.heap.size e 1 v n xs->World.ownsRow (((((c.alloc (iy #[Ad g a.pre.length k,Aw ig (a.val.toNat:Int),Ad i a.labels.length l,Ad j a.kids.length m] 174)).setCell (Φ w.heap.size) (Ad g a.pre.length k)).setCell (Δ w.heap.size 1) (Aw ig (a.val.toNat:Int))).setCell (Δ w.heap.size 2) (Ad i a.labels.length l)).setCell (Δ w.heap.size 3) (Ad j a.kids.length m)) w.heap.size e 1 v n xs:=λbg=>
    Vj (AO (AO (AO (AO (own_below bg a5) B _ _) B _ _) B _ _) B _ _) (LP B)
   exact⟨_,rfl,g,k,i,l,j,m,rfl,az ac,az ad,az ae⟩
end
