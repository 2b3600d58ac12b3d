import Derived.Deep.RegionHeld3
import Derived.Test.YteejpmddddnmnaaGreatDoorK02
set_option linter.defProp false
set_option maxHeartbeats 32000000
set_option maxRecDepth 100000
open Go.World renaming block_lt_of_cell?->Hq,ownsRow_nil->Ce,cell?_of_block->BQ,setCell->DL
open Nat renaming le_refl->Ae,zero_le->Bd,le_of_lt->Lh,lt_of_lt_of_le->Bc,mod_eq_of_lt->Ho,mul_comm->KD,le_trans->AZ,add_assoc->JD,zero_add->Du,testBit_two_pow->Ahi,succ_mul->Axs,lt_of_le_of_lt->KF
open Go.Lib renaming hid->Ac
open List renaming eq_nil_of_length_eq_zero->Cj,append_nil->EN,mem_cons_self->Bf,length_cons->Bg,mem_append->AP,mem_singleton->BB,range->Ea,range_succ->Qe,find?_eq_none->Rt,mem_range->GH,mem_of_find?_eq_some->nZ,find?_some->dX,replicate->BJ,getElem?_cons_succ->Ai,getElem?_cons_zero->Af,getElem?_map->CP,getElem?_replicate->Jw,getElem_replicate->wY,getD_eq_getElem?_getD->Bv,ext_getElem->ER,getElem_map->UC,getElem_range->RU,getElem?_eq_getElem->Ag,map_set->O9,set_append_right->VV,take_zero->Aqn,set_cons_zero->Aq,set_cons_succ->Aw,cons_append->BM,nil_append->DR,map_cons->Ci,map_nil->FW,getElem?_append_right->Ez,take_of_length_le->Dq,length_map->Df,length_drop->AU,getElem?_drop->DX,findIdx?_eq_some_iff_getElem->NG,length_append->AO,getElem_mem->BO,getElem_of_mem->CW,getElem?_eq_some_iff->Cf,pairwise_iff_getElem->nX,getElem_set->MX,getElem_drop->bF,length_take->Cc,mem_cons->Cb,mem_cons_of_mem->Bi,mem_map->CU,getElem?_take->Dh,flatten_cons->NH,getElem?_append_left->DK,drop_eq_getElem_cons->BX,drop_of_length_le->D9,length_pos_iff->QI,map_append->CJ,nodup_append->DF,nodup_cons->Gz,nodup_nil->WJ
open Array renaming getElem?_eq_some_iff->AL,toArray_toList->A4v,size_modify->RN,getElem?_modify->Ov
open Option renaming isSome_iff_exists->lX
open UInt64 renaming ofNat->Az,toNat_lt->bD,toNat_inj->Eb
open Go.Value renaming ownBlock->AY,int->AA,slice->Ad
open Go.Value renaming slice->fM,int->gz,string->ig,bool->iw,tuple->iJ,agg->iK,pointer->iL
open Go.Ending renaming returned->iO
open Go.IntKind renaming i64->iU,u64->iV
open Go.Obj renaming cells->ji
open Option renaming some->jm,none->jw
open Bool renaming true->jO,false->jS
open Go renaming World->jT,Value->ku
namespace Go.Proofs.YteejpmddddnmnaaGreatDoor
open Go.RowKit
open Go.Proofs.Tryz
def Yf.below{w w':jT}(h:Yf w)(k:η w w'):Yf w':=λj a=>(k.cell (p:=Δ 1 j) (Hq w _ (h j a))).trans (h j a)
section
variable{w:jT}{d p L:Nat}{s:St}{tb hb n cT cH:Nat}
def JF.below{w':jT}(h:JF w d p L s tb hb n cT cH)(k:η w w'):JF w' d p L s tb hb n cT cH:=by
 have b:∀{a:Addr}{v:ku},w.cell? a=jm v->w'.cell? a=jm v:=λ{a v}e=>(k.cell (p:=a) (Hq w a e)).trans e
 exact⟨b h.y0,b h.y1,b h.y2,b h.y3,b h.y4,b h.y5,b h.y6,λi c=>b (h.tk i c),λi c=>b (h.hd i c),h.ok,h.L1,h.oJ,h.TL⟩
def UU(s:St)(c i:Nat):Bool:=(Nl (Dc s i) c).isSome
def Aip(h:JF w d p L s tb hb n cT cH)(g:Yf w)(c i:Nat)(hi:i<n)(q:c<4):
 Calls prog 234 #[iK #[AB p,c],i] w λo w'=>o=iO (iw (UU s c i))/\η w w':=by
 have b:η w (w.alloc (ji #[AB p,c] 360)):=mZ.alloc (Ae _) _;have f:=h.below b;have j:=g.below b;have k:=Ac (λa(e:Dr _ a)=>Oh (f.dr e) i hi);have l:=Ac (λa(e:Dr _ a)=>Zb (Dc s i) c a (Qp s i) O (j.dr e));have m:Hid (decide ((0:Int)<=ug (Nl (Dc s i) c))=UU s c i):=Ac (by
  unfold UU ug;cases Nl (Dc s i) c<;>simp)
 clear h f g j;go_in;go_wp2_with fail;go_quiet(first
  |(go_at_call 194;exact Arc (k _ (Dr.one _ _)))
  |(go_at_call 236;exact Arc (l _ (Dr.one _ _))))
 go_wp2_with fail
 trace_state
 go_ret;exact⟨by rw[<-m.out];rfl,b.trans ((Dr.one _ _).below _)⟩
end
def yE(F:Nat->Bool)(l:List Nat):Option Nat->Prop
 |some a=>a∈l/\F a=jO/\∀x∈l,F x=jO->a<=x
 |none=>∀x∈l,F x=jS
def Zc:Option Nat->ku
 |some a=>iJ #[a,jO]
 |none=>iJ #[gz iU 0,jS]
def aH(w:jT)(o:Nat):Nat:=match w.cell? (Φ o)with
 |some (.slice _ n _)=>n
 |_=>0
def Fe.aH{w:jT}{B o g c:Nat}{l:List Nat}(h:Fe w B o g c l):aH w o=l.length:=by
 have:=h.box.cell 0;unfold Go.Proofs.YteejpmddddnmnaaGreatDoor.aH;rw[this];rfl
def Xl{w0 w:jT}{d p L:Nat}{s:St}{tb hb n cT cH:Nat}(h:JF w0 d p L s tb hb n cT cH)(W:Yf w0)(c:Nat)(aW:c<4)(C:η w0 w)
 {o g B:Nat}{l:List Nat}(v:Fe w w0 o g B l)(ab:∀x∈l,x<n)(U:GU (Gl id l) l.length):
 Calls prog 235 #[AB o,.func (.func 234) #[iK #[AB p,c]] #[]] w λu w'=>∃ao,u=iO (Zc ao)/\yE (UU s c) l ao/\Touch (λb=>b=o\/b=g) w w':=by
 obtain⟨aE,aI,aw⟩:=l9 h W ab;have ba:=v.hB;have a8:=v.glt.1;have a2:=C.size;clear h W ab;go_in;go_wp2_with fail;go_loopw [](λwr=>∃f P,(P++f).Perm l/\(∀x∈P,UU s c x=jS)/\GU (Gl id f) f.length/\Fe wr w0 o g B f/\Touch (λb=>b=o\/b=g) w wr)(λwr=>aH wr o)
 case atStart=>exact⟨l,[],List.Perm.refl _,by simp,U,v,mP⟩
 case round=>
  obtain⟨f,P,ae,V,Z,m,J⟩:=hrel;have X:η w0 wr:=C.trans (J.below a2 (λa5 E=>by rcases E with rfl|rfl<;>assumption));obtain⟨t,A,au,aD,S,N⟩:=lN ae V Z m J X;have aq:=m.box.p1;have a0:=m.len;have az:=Ac m.aH;obtain⟨e,G⟩:∃e,f.length=e:=⟨_,rfl⟩;rw[G]at aq a0;have j:=Ac G;have r:=Ac (Ada (jm (Φ g)) e B wr O);clear ae V Z m J X G v U C;rcases e with _|e
  ·go_wp2_with fail;refine r.out.ro ?_;go_wp2;go_ret2;have a1:f=[]:=Cj j.out;refine⟨jw,rfl,λx a3=>?_,S⟩;have:=t.out.mem_iff.2 a3;rw[a1,EN]at this;exact A x this
  ·have t1:=dT ((0:Int)<((e+1:Nat):Int));have am:=Ac (heapPop aD j (by have:=au.out;rw[j.out]at this;exact this));generalize a9:e+1=bb at aq r t1;go_wp2_with(refine r.out.ro ?_);refine am.mono ?_;rintro u a7⟨x,an,rfl,I,ah,aa,ad,K⟩;have al:x∈l:=t.out.mem_iff.1 (List.mem_append_right _ (I.mem_iff.1 (Bf)));have a4:=aw x al;have q:=S.trans K (λb=>.inl);have D:η w0 a7:=N.trans (K.below (Ω N.size) (λa5 E=>by rcases E with rfl|rfl<;>assumption));have a:=Aip (aE.below D) (aI.below D) c x a4 aW;obtain⟨R,aL,av,aM,T⟩:=lM I ah aa ad q;have a6:=assert_int (x:Int);clear I ah aa ad q K D am r;have ac:an.length=e:=by have:=R.length_eq;simp only[Bg,j.out]at this;omega
   have Q:=Ac ac;clear ac;cases i:UU s c x
   ·rw[i]at a;have a:=Ac a;have z:=Ac i;clear i;go_wp2_with(refine a.out.mono ?_;rintro u ap⟨rfl,k⟩;have H:=aM.below k;have q:=T.trans (mD (F:=λb=>b=o\/b=g) k) (λb=>.inl);obtain⟨ar,aR,aG⟩:=l9 H.aH H q;clear H q k a6);go_roundw
    case rel=>
     refine⟨an,P++[x],?_,?_,by rw[Q.out];exact av,aR,aG⟩
     ·rw[List.append_assoc];exact(List.Perm.append_left P R).trans t
     ·intro y M;rcases AP.1 M with h|h
      ·exact A y h
      ·rw[BB.1 h];exact z
    case measure=>show aH ap o<aH wr o;rw[ar.out,az.out,Q.out,j.out];omega
   ·rw[i]at a;have a:=Ac a;have z:=Ac i;clear i;go_wp2_with(refine a.out.mono ?_;rintro u ap⟨rfl,k⟩);go_ret2;refine⟨jm x,rfl,⟨al,z,λy M Y=>?_⟩,T.trans (mD (F:=λb=>b=o\/b=g) k) (λb=>.inl)⟩;rcases AP.1 (t.out.mem_iff.2 M)with h|h
    ·rw[A y h]at Y;cases Y
    ·exact aL y h
def bZ(B:Nat):Array MapEntry:= #[{key:=gz iU 0,val:=AB (B+2),born:=0},{key:=gz iU 1,val:=AB (B+4),born:=1},{key:=gz iU 2,val:=AB (B+6),born:=2}]
structure Tri(w0 W:jT)(g cc:Nat->Nat)(Ls:Nat->List Nat):Prop where
 map:W.heap[w0.heap.size]?=jm (.map (bZ w0.heap.size) 3)
 ord:∀c,c<3->Fe W w0.heap.size (w0.heap.size+2+2*c) (g c) (cc c) (Ls c)
 heap:∀c,c<3->GU (Gl id (Ls c)) (Ls c).length
 apart:∀c c',c<3->c'<3->c≠c'->g c≠g c'/\g c≠w0.heap.size+2+2*c'
 low:η w0 W
def Tri.keep{w0 W a:jT}{g cc:Nat->Nat}{Ls:Nat->List Nat}(h:Tri w0 W g cc Ls)(k:η W a):Tri w0 a g cc Ls:=
 ⟨(k.block _ (AL.1 h.map).1).trans h.map,λc b=>(h.ord c b).below k,h.heap,h.apart,τ h.low k⟩
def Tri.push{w0 W o:jT}{g cc:Nat->Nat}{Ls:Nat->List Nat}(h:Tri w0 W g cc Ls)(c:Nat)(l:c<3){g' c':Nat}{n:List Nat}(F:Fe o w0.heap.size (w0.heap.size+2+2*c) g' c' n)(C:GU (Gl id n) n.length)
 (r:g'=g c\/W.heap.size<=g')(t:Touch (λb=>b=w0.heap.size+2+2*c\/b=g c) W o):
 Tri w0 o (λx=>if x=c then g' else g x) (λx=>if x=c then c' else cc x) (λx=>if x=c then n else Ls x):=by
 have B:=(h.ord c l).glt;have E:w0.heap.size≠g c:=λa=>by
  rcases(h.ord c l).row.2 with⟨y,_⟩|⟨J,H,I,u,K,A,_⟩
  ·cases y
  ·simp only[Value.slice.injEq,Option.some.injEq,Addr.mk.injEq,and_true,true_and]at u;obtain⟨rfl,rfl⟩:=u;have:=h.map;rw[a,A]at this;cases this
 have w:=(AL.1 h.map).1;refine⟨(t.block _ w (λa=>by rcases a with a|a;omega;exact E a)).trans h.map,λx e=>?_,λx e=>?_,λx j e m p=>?_,h.low.trans (t.below h.low.size (λL D=>by rcases D with rfl|rfl;omega;exact B.1))⟩
 ·by_cases a:x=c
  ·subst a;simp only[if_true];exact F
  ·simp only[lg a];have:=h.apart c x l e (λd=>a d.symm);have z:=h.apart x c e l a;exact(h.ord x e).touch t (λd=>by rcases d with d|d;omega;exact this.2 d.symm) (λd=>by rcases d with d|d;exact z.2 d;exact this.1 d.symm)
 ·by_cases a:x=c
  ·simp only[kX a];exact C
  ·simp only[lg a];exact h.heap x e
 ·have G:∀f,f<3->w0.heap.size+2+2*f<W.heap.size:=λf q=>(h.ord f q).box.lt
  have s:∀f,f<3->g f<W.heap.size:=λf q=>(h.ord f q).glt.2
  by_cases i:x=c
  ·have k:¬j=c:=λa=>p (by rw[i,a])
   simp only[kX i,lg k];rcases r with a|a
   ·rw[a,<-i];exact h.apart x j e m p
   ·have:=G j m;have:=s j m;omega
  ·by_cases k:j=c
   ·simp only[lg i,kX k];have v:=h.apart x c e l i;refine⟨?_,by rw[k];exact v.2⟩;rcases r with a|a
    ·rw[a];exact v.1
    ·have:=s x e;omega
   ·simp only[lg i,lg k];exact h.apart x j e m p
def uu(a:jT)(B:Nat)(c:B<=a):Fe ((a.alloc (ji #[] 3)).alloc (ji #[fM (jm (Φ a)) 0 0] 370)) B (a+1) a 0 []:=by
 have b:(a.alloc (ji #[] 3)).heap.size=a+1:=by simp
 refine⟨?_,?_,O,O,by simp⟩
 ·rw[<-b];exact heap_alloc_new _ _
 ·exact own_below (World.ownsRow_made a #[] 0 c U rfl) (mZ.alloc (Ae _) _)
def Tryz.TU:prog.underlying 357=jm (.map 3 362):=underlying357
def Zd(w a b e:jT)(h1:a=EU (((w.alloc (.map #[] 0)).alloc (ji #[] 3)).alloc (ji #[fM (jm (Φ (w+1))) 0 0] 370)) w.heap.size #[{key:=gz iU 0,val:=AB (w.heap.size+1+1),born:=0}] 1)
 (h2:b=EU ((a.alloc (ji #[] 3)).alloc (ji #[fM (jm (Φ a)) 0 0] 370)) w.heap.size #[{key:=gz iU 0,val:=AB (w.heap.size+2),born:=0},{key:=gz iU 1,val:=AB (a.heap.size+1),born:=1}] 2)
 (h3:e=EU ((b.alloc (ji #[] 3)).alloc (ji #[fM (jm (Φ b)) 0 0] 370)) w.heap.size (bZ w.heap.size) 3):
 a.heap.size=w.heap.size+3/\b.heap.size=w.heap.size+5/\a.heap[w.heap.size]?=jm (.map #[{key:=gz iU 0,val:=AB (w.heap.size+1+1),born:=0}] 1)/\Tri w e (λd=>w.heap.size+1+2*d) (λ_=>0) (λ_=>[]):=by
 have j:a.heap.size=w.heap.size+3:=by rw[h1,ak];simp
 have o:b.heap.size=w.heap.size+5:=by rw[h2,ak];simp[j]
 have q:(w.alloc (.map #[] 0)).heap.size=w.heap.size+1:=by simp
 have p:η w (w.alloc (.map #[] 0)):=mZ.alloc (Ae _) _;have l:=uu (w.alloc (.map #[] 0)) w.heap.size O;rw[q]at l;have t1:=KP (((w.alloc (.map #[] 0)).alloc (ji #[] 3)).alloc (ji #[fM (jm (Φ (w+1))) 0 0] 370)) w.heap.size #[{key:=gz iU 0,val:=AB (w.heap.size+1+1),born:=0}] 1;rw[<-h1]at t1;have v:=l.touch t1 O O;have r:η w a:=((p.alloc Θ _).alloc (by simp;omega) _).trans (t1.below (by simp;omega) (λi c=>by rw[c];exact Ae _));have u:a.heap[w.heap.size]?=jm (.map #[{key:=gz iU 0,val:=AB (w.heap.size+1+1),born:=0}] 1):=by rw[h1];exact PT _ _ _ _ (by simp;omega)
 have z:=uu a w.heap.size O;have k:η a ((a.alloc (ji #[] 3)).alloc (ji #[fM (jm (Φ a)) 0 0] 370)):=(mZ.alloc (Ae _) _).alloc Θ _;have t2:Touch (·=w.heap.size) ((a.alloc (ji #[] 3)).alloc (ji #[fM (jm (Φ a)) 0 0] 370)) b:=by rw[h2];exact KP _ _ _ _
 have x:=(v.below k).touch t2 O O;have A:=z.touch t2 O O;have s:η w b:=r.trans ((k.mono O).trans (t2.below (by simp;omega) (λi c=>by rw[c];exact Ae _)));have B:=uu b w.heap.size O;have f:η b ((b.alloc (ji #[] 3)).alloc (ji #[fM (jm (Φ b)) 0 0] 370)):=(mZ.alloc (Ae _) _).alloc Θ _;have t3:Touch (·=w.heap.size) ((b.alloc (ji #[] 3)).alloc (ji #[fM (jm (Φ b)) 0 0] 370)) e:=by rw[h3];exact KP _ _ _ _
 have y:=(x.below f).touch t3 O O;have m:=(A.below f).touch t3 O O;have n:=B.touch t3 O O;have t:η w e:=s.trans ((f.mono O).trans (t3.below (by simp;omega) (λi c=>by rw[c];exact Ae _)));refine⟨j,o,u,⟨by rw[h3];exact PT _ _ _ _ (by simp;omega),λd g=>?_,λd g i D c=>by simp at c,λd C g E F=>by constructor<;>omega,t⟩⟩;rw[j]at m;rw[o]at n
 match d,g with
 |0,_=>exact y
 |1,_=>exact m
 |2,_=>exact n
def QW(s:St)(c k:Nat):List Nat:=(Ea k).filter λa=>decide (Bj (Dc s a)=c)
def Adc(s:St)(c k:Nat):QW s c (k+1)=QW s c k++if Bj (Dc s k)=c then[k]else[]:=by
 unfold QW;rw[Qe,List.filter_append];by_cases h:Bj (Dc s k)=c<;>simp[h]
def Am1(s:St)(c k:Nat):(QW s c k).length<=k:=by
 have:=List.length_filter_le (λa=>decide (Bj (Dc s a)=c)) (Ea k);simpa[QW]using this
def Ade(x:Nat):Bj x<3:=by
 have c:=PS x;by_cases h:Bj x=3
 ·exfalso;unfold Bj at h;split at h
  ·rename_i a;unfold Hw at a;rw[h]at a;by_cases b:x=0
   ·subst b;revert h;decide
   ·simp[b,BG,fieldN,Nat.mod_one]at a
  ·cases h
 ·omega
def yF{w:jT}{d p L:Nat}{s:St}{tb hb n cT cH:Nat}(h:JF w d p L s tb hb n cT cH):
 Calls prog 233 #[AB p] w λg w'=>g=iO (.map (jm w.heap.size))/\
  ∃k j f,Tri w w' k j f/\∀a,a<3->(f a).Perm (QW s a n):=by
 have F:=Ac h;have av:n<=64:=Ξ h.ok.fits h.L1 h.oJ;have ao:=λae=>run_makeMap (P:=prog) 357 ae
 clear h;go_in;go_wp2_with fail;rw[dH Tryz.TU underlying3 _ _ #[] 0 _ _ ?h1 ?f1]
 case h1=>exact(χ _ _ (by simp;omega)).trans ((χ _ _ Θ).trans (heap_alloc_new _ _))
 case f1=>rfl
 obtain⟨c,q⟩:∃c,c=EU (((w.alloc (.map #[] 0)).alloc (ji #[] 3)).alloc (ji #[fM (jm (Φ (w.heap.size+1))) 0 0] 370)) w.heap.size #[{key:=gz iU 0,val:=AB (w.heap.size+1+1),born:=0}] 1:=⟨_,rfl⟩;rw[show EU (((w.alloc (.map #[] 0)).alloc (ji #[] 3)).alloc (ji #[fM (jm (Φ (w+1))) 0 0] 370)) w.heap.size (#[].push {key:=gz iU 0,val:=AB (w.heap.size+1+1),born:=0}) (0+1)=c from q.symm];have y:=Ac q;obtain⟨Z,-,X,-⟩:=Zd w c _ _ q rfl rfl;clear q;go_wp2_with fail;rw[dH Tryz.TU underlying3 _ _ _ 1 _ _ ?h2 ?f2]
 case h2=>exact(χ _ _ (by simp;omega)).trans ((χ _ _ O).trans X)
 case f2=>rfl
 obtain⟨e,r⟩:∃e,e=EU ((c.alloc (ji #[] 3)).alloc (ji #[fM (jm (Φ (w.heap.size+3))) 0 0] 370)) w.heap.size #[{key:=gz iU 0,val:=AB (w.heap.size+1+1),born:=0},{key:=gz iU 1,val:=AB (w.heap.size+3+1),born:=1}] 2:=⟨_,rfl⟩;rw[show EU ((c.alloc (ji #[] 3)).alloc (ji #[fM (jm (Φ (w+3))) 0 0] 370)) w.heap.size (#[{key:=gz iU 0,val:=AB (w.heap.size+1+1),born:=0}].push {key:=gz iU 1,val:=AB (w.heap.size+3+1),born:=1}) (1+1)=e from r.symm];have u:e=EU ((c.alloc (ji #[] 3)).alloc (ji #[fM (jm (Φ c)) 0 0] 370)) w.heap.size #[{key:=gz iU 0,val:=AB (w.heap.size+2),born:=0},{key:=gz iU 1,val:=AB (c.heap.size+1),born:=1}] 2:=by rw[r,Z]
 have Y:e.heap[w.heap.size]?=jm (.map #[{key:=gz iU 0,val:=AB (w.heap.size+1+1),born:=0},{key:=gz iU 1,val:=AB (w.heap.size+3+1),born:=1}] 2):=by rw[r];exact PT _ _ _ _ (by simp;omega)
 obtain⟨-,aa,-,-⟩:=Zd w c e _ y u rfl;have H:=Ac u;clear r u X;go_wp2_with fail;rw[dH Tryz.TU underlying3 _ _ _ 2 _ _ ?h3 ?f3]
 case h3=>exact(χ _ _ (by simp;omega)).trans ((χ _ _ O).trans Y)
 case f3=>rfl
 obtain⟨m,z⟩:=ε (EU ((e.alloc (ji #[] 3)).alloc (ji #[fM (jm (Φ (w.heap.size+5))) 0 0] 370)) w.heap.size (bZ w.heap.size) 3);rw[show EU ((e.alloc (ji #[] 3)).alloc (ji #[fM (jm (Φ (w+5))) 0 0] 370)) w.heap.size (#[{key:=gz iU 0,val:=AB (w.heap.size+1+1),born:=0},{key:=gz iU 1,val:=AB (w.heap.size+3+1),born:=1}].push {key:=gz iU 2,val:=AB (w.heap.size+5+1),born:=2}) (2+1)=m from z.symm];have C:m=EU ((e.alloc (ji #[] 3)).alloc (ji #[fM (jm (Φ e)) 0 0] 370)) w.heap.size (bZ w.heap.size) 3:=by rw[z,aa]
 obtain⟨-,-,-,v⟩:=Zd w c e m y H C;have ap:m.cell? (Δ p 5)=jm (fM (jm (Φ tb)) n cT):=(F.out.below v.low).y5;clear z C y H Y Z aa ao;have G:=Ac v;clear v;go_wp2_with fail;go_loopw [18](λA wr=>∃b k j f,b<=n/\A=gz iU (b:Nat)/\Tri w wr k j f/\∀a,a<3->(f a).Perm (QW s a b))(λA _=>n-(intOf A).toNat)
 case atStart=>exact⟨0,_,_,_,Bd _,rfl,G,λa _=>List.Perm.refl _⟩
 case round=>
  obtain⟨b,k,j,f,au,rfl,V,S⟩:=hrel;have B:=Ac V;have o:=Ac S;clear V S G ap;by_cases am:b<n
  ·have i:=Ade (Dc s b);obtain⟨a,t⟩:∃a,Bj (Dc s b)=a:=⟨_,rfl⟩;rw[t]at i;have E:=Ac (IL (Dc s b) · (Qp s b));rw[t]at E;have ad:=Ac t;clear t;go_wp2_with(first|(refine(Oh (F.out.below B.out.low) b am).mono ?_;rintro g aw⟨rfl,J⟩)|(refine(E.out _).mono ?_;rintro g az⟨rfl,K⟩;have I:=J.trans K;have D:=B.out.keep (I.below _);have l:=Ac D;clear D J K I));rw[Ql Tryz.TU underlying3 _ _ (bZ w.heap.size) 3 _ a (AB (w.heap.size+2+2*a)) ?h4 ?f4]
   case h4=>exact l.map
   case f4=>
    match a,i with
    |0,_=>rfl
    |1,_=>rfl
    |2,_=>rfl
   have al:(f a).length<1000:=by
    have:=(o a i).length_eq;have:=Am1 s a b;omega
   have W:=Ac (Am0 b (l.ord a i) al (l.heap a i));go_wp2_with fail;refine W.mono ?_;rintro g aD⟨rfl,ar,aq,an,R,N,Q,M,T⟩;have ac:=Ac (l.push a i Q N M T);have ab:Hid (∀x,x<3->((λx=>if x=a then an else f x) x).Perm (QW s x (b+1))):=Ac (λx U=>by
    rw[Adc,ad.out];by_cases g:x=a
    ·subst g;simp only[if_true];exact R.trans (List.Perm.append_right _ (o x U))
    ·rw[lg (show¬a=x from λh=>g h.symm),EN];simp only[lg g];exact o x U)
   clear R N Q M T W;go_wp2;exact⟨⟨b+1,_,_,_,O,by go_num,ac,ab⟩,mz⟩
  ·have ah:b=n:=O;subst ah;go_wp2;go_ret;exact⟨rfl,k,j,f,B,o⟩
def iM{s:St}{c k n:Nat}{l:List Nat}{r:Option Nat}(p:s.tk.length=n)(o:l.Perm (QW s k n))(h:yE (UU s c) l r):NW s k c=r:=by
 have d:∀x,x∈l<->x<n/\Bj (Dc s x)=k:=λx=>by rw[o.mem_iff];simp[QW]
 unfold NW;rw[p];cases r with
 |none=>
  rw[Rt];intro x q;have t:x<n:=GH.1 q;by_cases a:Bj (Dc s x)=k
  ·have:=h x ((d x).2 ⟨t,a⟩);unfold UU at this;simp[a,this]
  ·simp[a]
 |some u=>
  obtain⟨f,e,g⟩:=h;obtain⟨m,i⟩:=(d u).1 f;rw[List.find?_range_eq_some];refine⟨by unfold UU at e;simp[i,e],GH.2 m,λj v=>?_⟩;by_cases a:Bj (Dc s j)=k
  ·by_cases b:UU s c j=jO
   ·have:=g j ((d j).2 ⟨O,a⟩) b;omega
   ·unfold UU at b;simp only[Bool.not_eq_true]at b;simp[a,b]
  ·simp[a]
def TV{s:St}{c i:Nat}(h:O0 s c=jm i):i<s.tk.length/\(Nl (Dc s i) c).isSome=true:=by
 have e:∀d,NW s d c=jm i->i<s.tk.length/\(Nl (Dc s i) c).isSome=true:=λd a=>by
  unfold NW at a;have f:=GH.1 (nZ a);have b:=dX a;simp only[Bool.and_eq_true]at b;exact⟨f,b.2⟩
 unfold O0 at h;split at h
 ·rename_i j g;injection h with h
  subst h;exact e c g
 ·exact e 0 h
def yG{x c k:Nat}(h:Nl x c=jm k):k<16:=by
 unfold Nl at h;split at h
 ·have:=uf h;have:=Kt c;omega
 ·cases h
def TW{w:jT}{d p L:Nat}{s:St}{tb hb n cT cH:Nat}(h:JF w d p L s tb hb n cT cH)(B:Yf w)(c:Nat)(K:1<=c)(M:c<=2){o:jT}{g r:Nat->Nat}{j:Nat->List Nat}(e:Tri w o g r j)(u:∀x,x<3->(j x).Perm (QW s x n))(k:Nat)(i:k<3):
 Calls prog 235 #[AB (w.heap.size+2+2*k),.func (.func 234) #[iK #[AB p,c]] #[]] o λa w'=>
  a=iO (Zc (NW s k c))/\η w w'/\(∀f,f<3->f≠k->Fe w' w.heap.size (w.heap.size+2+2*f) (g f) (r f) (j f))/\w'.heap[w.heap.size]?=jm (.map (bZ w.heap.size) 3):=by
 refine(Xl h B c O e.low (e.ord k i) (λx F=>?_) (e.heap k i)).mono ?_
 ·have:=(u k i).mem_iff.1 F;simp[QW]at this;exact this.1
 rintro a w'⟨N,rfl,E,m⟩;have D:=(e.ord k i).glt;have y:=(AL.1 e.map).1;refine⟨by rw[iM h.TL (u k i) E],e.low.trans (m.below e.low.size (λb hb=>by rcases hb with rfl|rfl;omega;exact D.1)),λf l t=>?_,?_⟩
 ·have z:=e.apart k f i l (λa=>t a.symm);have q:=e.apart f k l i t;exact(e.ord f l).touch m (λa=>by rcases a with a|a;omega;exact z.2 a.symm) (λa=>by rcases a with a|a;exact q.2 a;exact q.1 a)
 ·refine(m.block _ y (λa=>?_)).trans e.map;rcases a with a|a
  ·omega
  ·rcases(e.ord k i).row.2 with⟨A,_⟩|⟨I,G,H,v,J,C,_⟩
   ·cases A
   ·simp only[Value.slice.injEq,Option.some.injEq,Addr.mk.injEq,and_true,true_and]at v;obtain⟨rfl,rfl⟩:=v;have:=e.map;rw[a,C]at this;cases this
def resV(s:St)(c:Nat):Value:=match Ei s c with
 |some (a,_)=>iJ #[a,gz iU 0]
 |none=>iJ #[gz iU 0,gz iU 6]
def Xm(s:St)(c:Nat):St:=match Ei s c with
 |some (_,a)=>a
 |none=>s
def Fv.below{len:DJ}{w w':jT}{d p L:Nat}{s:St}{tb hb n cT cH:Nat}{own:Nat->Prop}(h:Fv len w d p L s tb hb n cT cH own)(k:η w w'):Fv len w' d p L s tb hb n cT cH own:=by
 exact⟨h.dev.below k,h.L0,h.L1,h.shape,(k.block _ h.box.lt).trans h.box,h.tk.keep (k.block _ h.tk.lt),h.hd.keep (k.block _ h.hd.lt),h.TL,h.nhd,h.oJ,h.cT,h.cH,h.dp,h.dt,h.dh,h.pt,h.ph,h.th,h.tabs.below k,h.g1,h.g2⟩
def Yi{m:DJ}{w:jT}{d p L:Nat}{s:St}{F:Nat->Prop}(h:Fg m w d p L s F)(c:Nat)(aD:1<=c)(aE:c<=2):
 Calls prog 218 #[AB p,c] w λf w'=>f=iO (resV s c)/\Fg m w' d p L (Xm s c) F/\AQ F F w w':=by
 have a8:=Ac h;obtain⟨tb,hb,n,cT,cH,own,Q,hF⟩:=h;obtain⟨t,T,aq⟩:=l9 Q.at Q hF;have ar:s.tk.length=n:=Q.TL;have a4:Yf w:=Q.tabs.tV;have G:=Ac a4;have S:=Ac (Iy Q.at);have t0:(((BG c:Nat):Int)==0)=false:=by
  rw[beq_eq_false_iff_ne];have:BG c≠0:=by
   rcases(by omega:c=1\/c=2)with rfl|rfl<;>decide
  omega
 have D:=Ac (Ik c w O);generalize BG c=bg at D t0;have U:=Ac (yF Q.at);have a5:∀q:Nat,q<3->Instr.findNow (.int iU) (gz iU (q:Int)) (bZ w.heap.size).toList 0=jm (jm (q,AB (w.heap.size+2+2*q))):=λq K=>by
  match q,K with
  |0,_=>rfl
  |1,_=>rfl
  |2,_=>rfl
 have av:=Ac a5;clear Q hF a4 a5;cases i:NW s c c with
 |some a=>
  have ap:Hid (Zc (NW s c c)=iJ #[a,jO]):=Ac (by rw[i];rfl);have R:O0 s c=jm a:=by rw[O0,i]
  obtain⟨z,al⟩:=TV R;rw[ar]at z;obtain⟨g,A⟩:=lX.1 al;have ba:=yG A;obtain⟨x,j⟩:∃x,(GM (hdN s a) c g).1=x:=⟨_,rfl⟩;have aI:x<18446744073709551616:=by rw[<-j];exact gY _ _ _ (Og s a) O
  have l:Ei s c=jm (D7 s.sh a c g,{s with hd:=s.hd.set a (Az x)}):=by unfold Ei;rw[R];simp only[A,j]
  have Z:Hid (resV s c=iJ #[gz iU ((D7 s.sh a c g:Nat):Int),gz iU 0]):=Ac (by rw[resV,l]);have aa:Hid (Xm s c={s with hd:=s.hd.set a (Az x)}):=Ac (by rw[Xm,l]);have az:Hid (ug (Nl (Dc s a) c)=(g:Int)):=Ac (by rw[A];rfl);have H:=Ac (take_any (hdN s a) c g · (Og s a) O O);rw[j]at H;generalize(GM (hdN s a) c g).2=a9 at*;clear R al A j l;clear i;go_in;go_wp2_with(first|(refine S.out.ro ?_)|(refine D.out.ro ?_)|(refine U.out.mono ?_;rintro f a6⟨rfl,a3,a2,a1,B,C⟩;have r:=Ac B;have v:=Ac C;clear B C U D S));rw[Ql Tryz.TU underlying3 _ _ (bZ w.heap.size) 3 _ c _ r.out.map (av c O)];go_wp2_with(first|(refine(TW t G c aD aE r v c O).mono ?_;rintro f a7⟨rfl,e,P,M⟩;rw[ap.out];clear P M;have ab:=Ac e;have X:=t.out.below e;have Y:=G.out.below e;clear e)|(refine(Oh X a z).mono ?_;rintro f aM⟨rfl,J⟩)|(refine(Zb (Dc s a) c aM (Qp s a) O (Y.dr J)).mono ?_;rintro f o⟨rfl,ad⟩;rw[az.out];have ac:=J.trans ad;have y:=τ ab.out (ac.below _);have I:=t.out.below y;have a0:=I.y6;have aR:=I.hd a z;have aW:o.frozen? (Δ hb a)=false:=(y.frozen (p:=Δ hb a) T.hd.lt).trans (T.hd.frozen a);have aw:=Ac y;clear J ad ac X Y I y ab));go_region_with(go_at_call 237;go_loud(refine(H _).mono ?_;rintro f bd⟨rfl,bb,rfl⟩))
  all_goals(clear a0 aR aW H)
  all_goals(have E:Hid (∀k,Dr o k->Fv m (k.setCell (Δ hb a) (gz iV (x:Int))) d p L {s with hd:=s.hd.set a (Az x)} tb hb n cT cH own/\AQ F F w (k.setCell (Δ hb a) (gz iV (x:Int)))):=Ac (λk q=>by
   have K:η w k:=τ aw.out (q.below _);have i:=(T.below K).Amu a (Az x);rw[uh x aI]at i;exact⟨i,(mW K).set (p:=Δ hb a) (.inl ((aq hb).2 (.inr (.inr (.inr rfl))))) _⟩))
  all_goals(go_wp2_with(refine(Xf (E.out _ (Dr.one o _)).1.at a c g z O O).mono ?_;rintro f be⟨rfl,ae⟩);go_ret2)
  all_goals(refine⟨by rw[Z.out];rfl,?_,(E.out _ (Dr.one o _)).2.dr ae⟩)
  all_goals(rw[aa.out];exact⟨tb,hb,n,cT,cH,own,(E.out _ (Dr.one o _)).1.dr ae,aq⟩)
 |none=>
  have ap:Hid (Zc (NW s c c)=iJ #[gz iU 0,jS]):=Ac (by rw[i];rfl);by_cases bh:c=0
  ·omega
  cases V:NW s 0 c with
  |some a=>
   have au:=Ac V;have R:O0 s c=jm a:=by rw[O0,i];exact V
   obtain⟨z,al⟩:=TV R;rw[ar]at z;obtain⟨g,A⟩:=lX.1 al;have ba:=yG A;obtain⟨x,j⟩:∃x,(GM (hdN s a) c g).1=x:=⟨_,rfl⟩;have aI:x<18446744073709551616:=by rw[<-j];exact gY _ _ _ (Og s a) O
   have l:Ei s c=jm (D7 s.sh a c g,{s with hd:=s.hd.set a (Az x)}):=by unfold Ei;rw[R];simp only[A,j]
   have Z:Hid (resV s c=iJ #[gz iU ((D7 s.sh a c g:Nat):Int),gz iU 0]):=Ac (by rw[resV,l]);have aa:Hid (Xm s c={s with hd:=s.hd.set a (Az x)}):=Ac (by rw[Xm,l]);have az:Hid (ug (Nl (Dc s a) c)=(g:Int)):=Ac (by rw[A];rfl);have H:=Ac (take_any (hdN s a) c g · (Og s a) O O);rw[j]at H;generalize(GM (hdN s a) c g).2=a9 at*;clear R al A j l;clear i V;go_in;go_wp2_with(first|(refine S.out.ro ?_)|(refine D.out.ro ?_)|(refine U.out.mono ?_;rintro f a6⟨rfl,a3,a2,a1,B,C⟩;have r:=Ac B;have v:=Ac C;clear B C U D S));rw[Ql Tryz.TU underlying3 _ _ (bZ w.heap.size) 3 _ c _ r.out.map (av c O)];go_wp2_with(refine(TW t G c aD aE r v c O).mono ?_;rintro f a7⟨rfl,e,P,M⟩;rw[ap.out];have N:=P 0 O O;rw[show w.heap.size+2+2*0=w.heap.size+2 from rfl]at N;have W:=Ac M;have u:=Ac N;clear P M N);rw[Ql Tryz.TU underlying3 _ _ (bZ w.heap.size) 3 0 0 (AB (w.heap.size+2)) W.out rfl];go_wp2_with fail;refine(Xl t G c O e u (λx j=>?_) (r.out.heap 0 O)).mono ?_
   ·have:=(v.out 0 O).mem_iff.1 j;simp[QW]at this;exact this.1
   rintro f bc⟨aL,rfl,an,ao⟩;have aG:aL=jm a:=by rw[<-iM ar (v.out 0 O) an];exact au
   subst aG;have ah:=u.glt;have am:=u.hB;replace e:=e.trans (ao.below e.size (λb hb=>by rcases hb with rfl|rfl;exact am;exact ah.1));clear ao an ah am u W;rw[show Zc (jm a)=iJ #[a,jO]from rfl];have ab:=Ac e;have X:=t.out.below e;have Y:=G.out.below e;clear e;go_wp2_with(first|(refine(Oh X a z).mono ?_;rintro f aM⟨rfl,J⟩)|(refine(Zb (Dc s a) c aM (Qp s a) O (Y.dr J)).mono ?_;rintro f o⟨rfl,ad⟩;rw[az.out];have ac:=J.trans ad;have y:=τ ab.out (ac.below _);have I:=t.out.below y;have a0:=I.y6;have aR:=I.hd a z;have aW:o.frozen? (Δ hb a)=false:=(y.frozen (p:=Δ hb a) T.hd.lt).trans (T.hd.frozen a);have aw:=Ac y;clear J ad ac X Y I y ab));go_region_with(go_at_call 237;go_loud(refine(H _).mono ?_;rintro f bd⟨rfl,bb,rfl⟩))
   all_goals(clear a0 aR aW H)
   all_goals(have E:Hid (∀k,Dr o k->Fv m (k.setCell (Δ hb a) (gz iV (x:Int))) d p L {s with hd:=s.hd.set a (Az x)} tb hb n cT cH own/\AQ F F w (k.setCell (Δ hb a) (gz iV (x:Int)))):=Ac (λk q=>by
    have K:η w k:=τ aw.out (q.below _);have i:=(T.below K).Amu a (Az x);rw[uh x aI]at i;exact⟨i,(mW K).set (p:=Δ hb a) (.inl ((aq hb).2 (.inr (.inr (.inr rfl))))) _⟩))
   all_goals(go_wp2_with(refine(Xf (E.out _ (Dr.one o _)).1.at a c g z O O).mono ?_;rintro f be⟨rfl,ae⟩);go_ret2)
   all_goals(refine⟨by rw[Z.out];rfl,?_,(E.out _ (Dr.one o _)).2.dr ae⟩)
   all_goals(rw[aa.out];exact⟨tb,hb,n,cT,cH,own,(E.out _ (Dr.one o _)).1.dr ae,aq⟩)
  |none=>
   have au:=Ac V;have l:Ei s c=none:=by unfold Ei O0;rw[i,V]
   have Z:Hid (resV s c=iJ #[gz iU 0,gz iU 6]):=Ac (by rw[resV,l]);have aa:Hid (Xm s c=s):=Ac (by rw[Xm,l]);clear i V l;go_in;go_wp2_with(first|(refine S.out.ro ?_)|(refine D.out.ro ?_)|(refine U.out.mono ?_;rintro f a6⟨rfl,a3,a2,a1,B,C⟩;have r:=Ac B;have v:=Ac C;clear B C U D S));rw[Ql Tryz.TU underlying3 _ _ (bZ w.heap.size) 3 _ c _ r.out.map (av c O)];go_wp2_with(refine(TW t G c aD aE r v c O).mono ?_;rintro f a7⟨rfl,e,P,M⟩;rw[ap.out];have N:=P 0 O O;rw[show w.heap.size+2+2*0=w.heap.size+2 from rfl]at N;have W:=Ac M;have u:=Ac N;clear P M N);rw[Ql Tryz.TU underlying3 _ _ (bZ w.heap.size) 3 0 0 (AB (w.heap.size+2)) W.out rfl];go_wp2_with fail;refine(Xl t G c O e u (λx j=>?_) (r.out.heap 0 O)).mono ?_
   ·have:=(v.out 0 O).mem_iff.1 j;simp[QW]at this;exact this.1
   rintro f bc⟨aL,rfl,an,ao⟩;have aG:aL=none:=by rw[<-iM ar (v.out 0 O) an];exact au
   subst aG;have ah:=u.glt;have am:=u.hB;replace e:=e.trans (ao.below e.size (λb hb=>by rcases hb with rfl|rfl;exact am;exact ah.1));clear ao an ah am u W;rw[show Zc jw=iJ #[gz iU 0,jS]from rfl];go_wp2;go_ret2;refine⟨by rw[Z.out];rfl,?_,mW e⟩;rw[aa.out];exact a8.below e
def Tryz.Am3:IK prog 76 47 (gz iV 0) 1 8:=⟨underlying76,by kernel_rfl,rfl⟩
def Aiq(p t i:Nat)(w:jT)(c:w.cell? (Δ p 3)=jm (gz iU (t:Int)))(b:t<=100000)(hi:i<=100000):Calls prog 87 #[AB p,i] w λa w'=>a=iO (gz iU ((t:Int)+8*(i:Int)))/\w=w':=by
 go_in;go_wp2;go_ret;exact⟨by go_num,rfl⟩
def uw(ws:Nat->ni)(j k:Nat):(wordsAt ws j (k+1)).map wv=(wordsAt ws j k).map wv++[gz iV ((ws (j+k)).toNat:Int)]:=by
 simp[wordsAt,Qe,wv]
def Adf{o e d:jT}{a k c f pI:Nat}{v q r s t u w:ku}{ws:Nat->ni}{j:Nat}{x:ni}(K:ws (j+k)=x)(_:pI<=a)
 (n:Cm e a 183 [q,r,s,t,u,v,w])(A:(k=0/\v=fM jw 0 0)\/∃g m,v=fM (jm (Φ g)) k m/\a<g)(G:Below a o e)(_:o.heap.size<=e)
 (D:d.ownsRow pI 47 1 (fM (jm (Φ c)) (k+1) f) (k+1) ((wordsAt ws j k).map wv++[gz iV (x.toNat:Int)]))(y:Below pI e d)(z:Kept e d v.ownBlock)(H:v.ownBlock=jm c\/e<=c):
 Cm (d.setCell (Δ a 5) (fM (jm (Φ c)) (k+1) f)) a 183 [q,r,s,t,u,fM (jm (Φ c)) (k+1) f,w]/\a<c/\
  (d.setCell (Δ a 5) (fM (jm (Φ c)) (k+1) f)).ownsRow pI 47 1 (fM (jm (Φ c)) (k+1) f) (k+1) ((wordsAt ws j (k+1)).map wv)/\Below a o (d.setCell (Δ a 5) (fM (jm (Φ c)) (k+1) f)):=by
 have I:jm a≠v.ownBlock:=λl=>by rcases A with⟨_,h⟩|⟨g,m,h,B⟩<;>(subst h;simp[AY]at l);omega
 have J:a<c:=by
  rcases H with h|h
  ·rcases A with⟨_,i⟩|⟨g,m,i,B⟩<;>(subst i;simp[AY]at h);omega
  ·have:=n.lt;omega
 have E:Cm d a 183 [q,r,s,t,u,v,w]:=(z.2 a n.lt I).trans n;refine⟨E.Be 5 _,J,?_,?_⟩
 ·rw[uw,K];refine Ie D ((Touch.refl (·=a) d).setCell (p:=Δ a 5) (.inl rfl) _) (λb hb l=>?_);have:c=b:=by simpa[AY]using hb
  omega
 ·have C:=n.lt;have F:Below a e d:=⟨y.os,y.tape,y.output,z.1,λb hb=>z.2 b (Nat.lt_trans hb C) (λl=>by
   rcases A with⟨_,i⟩|⟨g,m,i,B⟩
   ·subst i;simp[AY]at l
   ·subst i;have:b=g:=by simpa[AY]using l
    omega)⟩
  exact(G.trans F).setCell (p:=Δ a 5) (Ae _) _
def Avj(len:Mode)(d L:Nat)(ws:Nat->ni)(own:Nat->Prop)(sh:Sh)(w:jT)(e:Ending)(w':jT):Prop:=
 η w w'/\((∀a,a<sh.CE->Hw (ws (sh.table/8+a)).toNat=jO)->∃p F,e=iO (iJ #[AB p,gz iU 0])/\
  Fg len w' d p L {sh:=sh,ws:=ws,tk:=wordsAt ws (sh.table/8) sh.CE,hd:=BJ sh.CE 0} F/\∀b,F b->own b\/w<=b)/\
  ((∃a,a<sh.CE/\¬Hw (ws (sh.table/8+a)).toNat=jO)->e=iO (iJ #[iL jw,gz iU 5]))
def mY{len:Mode}{w:jT}{d L:Nat}{ws:Nat->ni}{own:Nat->Prop}{sh:Sh}(aq:0<L)(ap:L<=1024)(aI:shapeOf L=jm sh)(I:len.lf≠0)(h:Dev w d L ws len (λ_=>0) own)(au:Tabs w)(cl:¬own 0)(cm:¬own 1)
 (bg:wordsAt ws 0 8=wordsOf sh):
 Calls prog 45 #[AB d] w (Avj len d L ws own sh w):=by
 have ac:=J4 aI;have bb:=Ac (Ail aq ap aI I h au);have an:Hid (iy ws sh=iJ #[shV sh,gz iU 0]):=Ac (by rw[iy,kX bg]);obtain⟨n,i⟩:∃x,sh.CE=x:=⟨_,rfl⟩;obtain⟨tb,ab⟩:∃x,sh.table=x:=⟨_,rfl⟩;obtain⟨m,bm⟩:∃x,sh.data=x:=⟨_,rfl⟩;obtain⟨s,bo⟩:∃x,sh.lines=x:=⟨_,rfl⟩;have bw:shV sh=iK #[s,n,tb,m]:=by rw[shV,i,ab,bm,bo]
 rw[bw]at an;have cM:n<=64:=Ω ac.fits;have a0:tb=128:=by rw[<-ab];exact ac.table
 obtain⟨cD,o,bB,bE,bL⟩:=info_parts Tryz.JL.hi;have cv:∀l:jT,(Instr.makeSlice 76 (gz iU (n:Int)) (gz iU (n:Int))).run prog l=.ok (fM (jm (Φ l)) n n) (l.alloc (ji (madeCells (AA iV 0).cells (n*1)) 47)):=λl=>by
  have:=run_make (P:=prog) (w:=l) 76 47 cD (gz iV 0) underlying76 o bB iU iU (n:Int) (n:Int) O O (by rw[bL];omega) O;rw[bE]at this;simpa using this
 obtain⟨z,bM⟩:∃z,madeCells (AA iV 0).cells (n*1)=z:=⟨_,rfl⟩;rw[bM]at cv;obtain⟨ba,aM,b8,cc⟩:=lL (λl(c:η w l)=>(h.below c:Dev l d L ws len (λ_=>0) own)) ac h.lt aI;have b3:tb<=100000:=O;have a1:=Ac a0;have am:=Ac ab;clear h ac bw bg o bB bE bL a0 ab;go_in;go_wp2_with fail;refine bb.mono ?_;rintro j R⟨rfl,aw⟩;rw[an.out];go_wp2_with fail;obtain⟨g,Z⟩:=ε (R.alloc (ji #[s,n,tb,m] 55));have K:Cm g R.heap.size 55 [s,n,tb,m]:=by rw[Z];exact heap_alloc_new _ _
 have bk:η w g:=by rw[Z];exact aw.alloc aw.size _
 rw[<-Z];obtain⟨bY,b0,b1,b2,f0,f1,f2,f3⟩:=Dp K;have a2:Cm (g.alloc (ji z 47)) R.heap.size 55 [s,n,tb,m]:=(χ _ _ K.lt).trans K;obtain⟨cG,cH,cI,cJ,_,_,_,_⟩:=Dp a2;have T:=Ac K;have S:=Ac bk;clear Z K a2 bk aw bb;go_region;obtain⟨B,u⟩:=ε (((g.alloc (ji z 47)).alloc (ji #[AB d,s,n,tb,m,fM jw 0 0,fM (jm (Φ g.heap.size)) n n] 183)).drew);have k:(g.alloc (ji z 47)).heap.size=g.heap.size+1:=by simp
 have X:Cm B (g.heap.size+1) 183 [AB d,s,n,tb,m,fM jw 0 0,fM (jm (Φ g)) n n]:=by
  rw[u,<-k];exact heap_alloc_new _ _
 have av:B.heap[g.heap.size]?=jm (ji z 47 (0,0)):=by
  rw[u];exact(χ _ _ O).trans (heap_alloc_new _ _)
 have Y:Cm B R.heap.size 55 [s,n,tb,m]:=by
  have:=T.lt;rw[u];exact(χ _ _ O).trans ((χ _ _ this).trans T)
 have bl:η w B:=by
  have:=S.size;rw[u];exact((S.alloc this _).alloc O _).trans (mX _)
 rw[<-u];have cC:=S.size;have bt:=T.lt;have cF:B.heap.size=g.heap.size+1+1:=by rw[u];show(Array.size _)=_;simp
 clear u cG cH cI cJ bY b0 b1 b2 f0 f1 f2 f3 k;obtain⟨f,bp⟩:∃f,g.heap.size+1=f:=⟨_,rfl⟩;obtain⟨D,ct⟩:∃D,g.heap.size=D:=⟨_,rfl⟩;obtain⟨bV,cz⟩:∃bV,R.heap.size=bV:=⟨_,rfl⟩;rw[bp]at X cF⊢;rw[ct]at X av cC bt bp⊢;rw[cz]at Y bt⊢;obtain⟨bY,b0,b1,b2,f0,f1,f2,f3⟩:=Dp Y;obtain⟨ca,ce,cN,b7⟩:=lL X av Y bl;clear X av Y bl T S an;go_wp2_with fail;go_loopw [27](λe wr=>∃c v,c<=n/\e=gz iU (c:Nat)/\Cm wr f 183 [AB d,s,n,tb,m,v,fM (jm (Φ D)) n n]/\
  ((c=0/\v=fM jw 0 0)\/∃C V,v=fM (jm (Φ C)) c V/\f<C)/\wr.ownsRow w.heap.size 47 1 v c ((wordsAt ws (tb/8) c).map wv)/\Below f B wr/\∀e,e<c->Hw (ws (tb/8+e)).toNat=jO)(λe _=>n-(intOf e).toNat)
 case atStart=>exact⟨0,_,Bd _,rfl,ca,.inl ⟨rfl,rfl⟩,Ce _ _ _ _,mZ,λe o=>absurd o (Nat.not_lt_zero _)⟩
 case round=>
  obtain⟨c,v,cV,rfl,ar,bA,H,az,bj⟩:=hrel;have aD:η w wr:=b7.trans (az.mono O);have aL:=ar.cell 3;simp only[Ai,Af]at aL;obtain⟨ae,al,ao,bO,bX,ad,a8⟩:=lQ (Aiq f tb c wr aL b3 O) ar bA H az aD bj;clear ar bA H az aL bj;by_cases G:c<n
  ·obtain⟨co,cq,br,cy⟩:=ba _ aD;have A:=tK d L ws _ _ co cq (tb/8+c) 1 wr aq ap I br (Ξ aM.fits aM.Qo a1.out);rw[show((8*(tb/8+c):Nat):Int)=(tb:Int)+8*(c:Int)by have:=a1.out;omega]at A;have A:=Ac A;clear br cy aD;go_wp2_with fail;refine ae.ro ?_;go_wp2_with fail;refine A.out.mono ?_;rintro j bW⟨c0,rfl,aa,F⟩;obtain⟨cL,cP,rfl,cR,aG⟩:=CY aa;obtain⟨be,rfl,cS,b4⟩:=Qk aa O;have N:bW.cell? (Φ be)=jm (gz iV ((ws (tb/8+c)).toNat:Int)):=by
    obtain⟨b,cY,j,_,cr⟩:=aG.2 O;injection j with j;injection j with k ck;subst k ck
    rw[cr 0 O];simp[Su,wv]
   have r:=Ac (Xb (ws (tb/8+c)).toNat · (bD _));by_cases E:Hw (ws (tb/8+c)).toNat=jO
   case neg=>
    have bi:Hw (ws (tb/8+c)).toNat=false:=by simpa using E
    rw[bi]at r;have b9:=Ac E;have a9:=Ac (τ ad.out F);obtain⟨x,q⟩:∃x,ws (tb/8+c)=x:=⟨_,rfl⟩;rw[q]at N r;clear aa aG F q E bi A ae;go_wp2_with fail;refine(r _).mono ?_;rintro j y⟨rfl,Q⟩;have cf:=Ac (τ a9.out (Q.below _));clear Q a9 r N;go_wp2;go_ret2;have k:sh.table/8=tb/8:=by rw[am.out]
    exact⟨cf,λh=>absurd (by have:=h c (by rw[i];exact G);rw[k]at this;exact this) b9,λ_=>rfl⟩
   rw[E]at r;have bh:=al.out.ξ F;have bs:=own_below bO F;have a3:=bX.trans (F.mono (Lh al.lt));obtain⟨ah,a4,a5⟩:=l9 bh bs a3;obtain⟨x,q⟩:∃x,ws (tb/8+c)=x:=⟨_,rfl⟩;rw[q]at N r;have cd:=Ac q;have b6:Hid (∀e,e<c+1->Hw (ws (tb/8+e)).toNat=jO):=Ac (λe o=>by
    rcases Nat.lt_succ_iff_lt_or_eq.1 o with h|h
    ·exact a8 e h
    ·subst h;rw[q];rw[<-q];exact E)
   clear aa aG F bh bs a3 q E A ae;go_wp2_with fail;refine(r _).mono ?_;rintro j y⟨rfl,Q⟩;have M:=Q.below bW.heap.size;have J:=ah.out.ξ M;have cs:=(M.cell (p:=Φ be) b4).trans N;have aW:=own_below a4 M;have a6:=a5.trans (M.mono (Lh ah.lt));have aR:=J.cell 5;have f5:=J.frozen 5;have bq:=J.lt;simp only[Ai,Af]at aR;obtain⟨cb,b5,a7⟩:=l9 J aW a6;have cB:w.heap.size<=y.heap.size:=O;clear Q M J aW a6 N ah a4 a5 r;obtain⟨c2,cX⟩:=ε y.drew;go_wp2_with fail;go_region_law(refine PH rfl (.tmp 50) (.tmp 54) 76 rfl Tryz.Am3 y w.heap.size v c ((wordsAt ws (tb/8) c).map wv) [x] rfl b5 rfl rfl rfl rfl y.heap.size 1 rfl rfl rfl U (by intro cZ I;simp at I;subst I;rfl) O U cB ?_;intro cn cj c1 bd bc W bN;have aE:jm f≠v.ownBlock:=(λj=>by rcases ao with⟨_,h⟩|⟨C,V,h,G⟩<;>(subst h;simp[AY]at j);omega);have cK:=(BQ (w:=y) (a:=Δ f 5) (W.2 f bq aE)).trans aR;have f6:=(World.frozen?_of_block (w:=y) (a:=Δ f 5) (W.2 f bq aE)).trans f5)
   all_goals(obtain⟨bQ,cE,bR,bS⟩:=Adf cd O cb ao a7 a7.size bd bc W bN)
   all_goals(have cg:=Ac bQ)
   all_goals(have ch:=Ac bR)
   all_goals(have ci:=Ac bS)
   all_goals(clear bQ bR bS bd bc W bN aE cK f6 aR f5 cs)
   all_goals(go_wp2)
   all_goals(go_roundw)
   all_goals(try(case rel=>exact⟨c+1,_,O,by go_num,cg,.inr ⟨cn,cj,rfl,cE⟩,ch,ci,b6⟩))
   all_goals(try(simp[intOf];omega))
  ·have cu:c=n:=O;subst cu;go_wp2;go_ret2;have cw:0<c:=by rw[<-i];exact aM.CE
   rcases ao with⟨cQ,_⟩|⟨C,V,rfl,cU⟩
   ·omega
   have G:=b8.out;have H:=bO.out;have cp:=(bX.block D O).trans ce;have cT:=Qk H cw;have cW:=au.lt;have k:sh.table/8=tb/8:=by rw[am.out]
   refine⟨ad,λ_=>?_,λ⟨e,o,cx⟩=>absurd (by rw[k];exact a8 e (by rw[<-i];exact o)) cx⟩;refine⟨f,λb=>own b\/b=f\/b=C\/b=D,rfl,⟨C,D,c,V,c,own,⟨⟨ba _ ad,I⟩,aq,ap,cc,?_,?_,?_,?_,?_,?_,(Dk H).1,Ae _,λh=>?_,λh=>?_,λh=>?_,O,O,O,au.below ad,?_,?_⟩,λ_=>Iff.rfl⟩,λb hb=>?_⟩
   ·show Cm wr f _ _;rw[bo,i,am.out,bm];exact al
   ·rw[i,k];exact UR.Qn H
   ·refine⟨z,cp,λt bx=>?_⟩;have cA:t<c:=by rw[List.length_replicate,i]at bx;exact bx
    rw[<-Array.getElem?_toList,<-bM,NT,CP,Jw,kX cA,wY];rfl
   ·simp[wordsAt,i]
   ·simp[i]
   ·exact i.symm
   ·have:=G _ h;omega
   ·have:=G _ h;omega
   ·have:=G _ h;omega
   ·rintro(h|h|h|h)
    ·exact cl h
    ·omega
    ·omega
    ·omega
   ·rintro(h|h|h|h)
    ·exact cm h
    ·omega
    ·omega
    ·omega
   ·rcases hb with h|h|h|h
    ·exact .inl h
    ·right;omega
    ·right;omega
    ·right;omega
def Air{len:Mode}{w:jT}{d L:Nat}{ws:Nat->ni}{own:Nat->Prop}{sh:Sh}(k:0<L)(j:L<=1024)(r:shapeOf L=jm sh)(s:len.lf≠0)(h:Dev w d L ws len (λ_=>0) own)(m:Tabs w)(e:¬own 0)(f:¬own 1)
 (i:wordsAt ws 0 8=wordsOf sh)(n:∀c,c<sh.CE->Hw (ws (sh.table/8+c)).toNat=jO):
 Calls prog 45 #[AB d] w λa w'=>∃p F,a=iO (iJ #[AB p,gz iU 0])/\
  Fg len w' d p L {sh:=sh,ws:=ws,tk:=wordsAt ws (sh.table/8) sh.CE,hd:=BJ sh.CE 0} F/\η w w'/\∀b,F b->own b\/w<=b:=by
 refine(mY k j r s h m e f i).mono ?_;rintro a w'⟨hb,g,_⟩;obtain⟨p,F,o,l,q⟩:=g n;exact⟨p,F,o,l,hb,q⟩
def Adg(j n:Nat):CQ (λ_=>0) j (BJ n 0)=λ_=>0:=by
 funext i;unfold CQ;split
 ·rw[Bv,Jw];split<;>rfl
 ·rfl
def UW(sh:Sh):(wordsOf sh).length=8:=rfl
def yJ(sh:Sh):wordsAt (Nq sh) 0 8=wordsOf sh:=by
 apply ER
 ·rfl
 ·intro a b c;have e:a<8:=by simpa[wordsAt]using b
  have d:=UW sh;simp only[wordsAt,UC,RU];unfold Nq CQ;rw[kX O,Bv,show 0+a-0=a by omega,Ag c];rfl
def Nw(sh:Sh)(i:Nat)(hi:8<=i):Nq sh i=0:=by
 unfold Nq CQ;have a:=UW sh;rw[lg O]
def st0(sh:Sh):St:={sh:=sh,ws:=Nq sh,tk:=BJ sh.CE 0,hd:=BJ sh.CE 0}
def uy(sh:Sh)(h:sh.table=128):wordsAt (Nq sh) (sh.table/8) sh.CE=BJ sh.CE 0:=by
 apply ER
 ·simp[wordsAt]
 ·intro c a b;simp only[wordsAt,UC,RU,wY];exact Nw sh _ O
structure KH(len:DJ)(w:jT)(x d p L:Nat)(s:St)(F:Nat->Prop):Prop where
 sys:Fg len w d p L s F
 box:Cm w x 188 [AB d,AB p]
 out:¬F x
abbrev Ix:=KH (.up M0)
section
variable{len:DJ}{w w':jT}{x d p L:Nat}{s:St}{F:Nat->Prop}
def KH.below(h:KH len w x d p L s F)(k:η w w'):KH len w' x d p L s F:=⟨h.sys.below k,h.box.ξ k,h.out⟩
def KH.move{b:DJ}(h:KH len w x d p L s F){s':St}{a:Nat->Prop}(e:Fg b w' d p L s' a)(m:AQ F a w w'):KH b w' x d p L s' a:=
 ⟨e,h.box.touch m.touch h.out,λc=>(m.own x c).elim h.out (λf=>Ω h.box.lt)⟩
def KH.L0(h:KH len w x d p L s F):0<L/\L<=1024/\mV L s.sh/\s.tk.length=s.sh.CE:=by
 obtain⟨_,_,_,_,_,_,a,_⟩:=h.sys;exact⟨a.L0,a.L1,J4 a.shape,by rw[a.TL,a.oJ]⟩
def Jc(h:KH len w x d p L s F)(key:nG)(c:key.size<=1000000):Calls prog 104 #[AB x,key] w λb w'=>b=iO (gz iU (if 16<key.size then 3 else 0))/\w=w':=by
 have e:=h.box.p1;clear h;by_cases a:16<key.size
 ·have t1:=dT ((16:Int)<(key.size:Int));rw[kX a];go_in;go_wp2;go_ret;exact⟨rfl,rfl⟩
 ·have t1:=dF ((16:Int)<(key.size:Int));rw[lg a];go_in;go_wp2;go_ret;exact⟨rfl,rfl⟩
def iP{len:Mode}(h:KH len w x d p L s F):Calls prog 158 #[AB x] w λa w'=>a=iO (iJ #[gz iV ((s.ws 9).toNat:Int),gz iU 0])/\η w w':=by
 have B:=h.box.p1;obtain⟨u,y,e,_⟩:=h.L0;have c:=tZ h.sys 9 1 (Ξ e.fits e.Qo e.CE);rw[show((8*9:Nat):Int)=72 from rfl,show((1:Nat):Int)=1 from rfl]at c;have c:=Ac c;clear h e;go_in;go_wp2_with fail;refine c.out.mono ?_;rintro a m⟨v,rfl,f,hb⟩;obtain⟨A,n,rfl,o,g⟩:=CY f;obtain⟨k,rfl,r,t⟩:=Qk f O;have q:m.cell? (Φ k)=jm (gz iV ((s.ws 9).toNat:Int)):=by
  obtain⟨b,z,a,_,l⟩:=g.2 O;injection a with a;injection a with i j;subst i j
  rw[l 0 O];simp[wordsAt,wv]
 clear c f g;go_wp2;go_ret2;exact⟨rfl,hb⟩
end
def Ze{c:Nat}(h:Bq c≠0):c=1\/c=2:=by
 unfold Bq at h;split at h<;>simp_all
def Agj(a b:Nat):Ew (a|||b)=Ew a|||Ew b:=by
 unfold Ew fieldN;rw[Nat.or_div_two_pow,Nat.or_mod_two_pow]
def Ari(a:Nat):Ew a<4:=by
 unfold Ew fieldN;exact Nat.mod_lt _ U
def Adh{a b:Nat}(h1:Bq (Bj (a|||b))≠0)(h2:Bq (Bj a)≠0):Bj a=Bj (a|||b):=by
 have f:=Ze h1;have c:=Ze h2;have g:Bj (a|||b)=Ew (a|||b):=by
  unfold Bj;split
  ·rfl
  ·rename_i e;unfold Bj at f;simp[e]at f
 have i:Bj a=Ew a:=by
  unfold Bj;split
  ·rfl
  ·rename_i e;unfold Bj at c;simp[e]at c
 rw[g,Agj]at f;rw[i]at c;rw[g,i,Agj];have hb:=Ari b;generalize Ew a=x at*;generalize Ew b=d at*;have:d=0\/d=1\/d=2\/d=3:=O;rcases c with rfl|rfl<;>rcases this with rfl|rfl|rfl|rfl<;>simp_all
def Yj{s:St}{off:Int}(h:Bq (Ed s off)≠0):∃a b,a<s.tk.length/\off=((s.sh.data+1024*a+64*Bq (Ed s off)*b:Nat):Int)/\(Bq (Ed s off)=1\/Bq (Ed s off)=4)/\Bq (Ed s off)*b+Bq (Ed s off)<=16:=by
 cases d:Jg s off with
 |none=>rw[Ed,d]at h;exact absurd rfl h
 |some m=>
  obtain⟨a,b⟩:=m;obtain⟨j,n,l,k,g⟩:=Qq d;rw[Ed,d]at h
  dsimp only at h
  split at h
  ·rename_i i;have f:Ed s off=Bj (Dc s a):=by
    rw[Ed,d];dsimp only;rw[kX i];exact Adh (by rw[Dc]at k;omega) h
   rw[f];refine⟨a,b,j,l,?_,g⟩;rcases Ze (c:=Bj (Dc s a)) O with e|e<;>rw[e]<;>simp[Bq]
  ·exact absurd rfl h
def Yk(c:Nat):Oa (c:Int)=((8*Bq c:Nat):Int):=by
 unfold Oa Bq;split
 ·rename_i h;have:c=1:=O;subst this;rfl
 ·rename_i b;split
  ·rename_i a;have:c=2:=O;subst this;rfl
  ·rename_i a;split
   ·simp at b
   ·simp at a
   ·rfl
def cO(w:jT)(pI:Nat)(v:ku)(x:Nd):Prop:=
 ∃a d b e c f,v=iK #[fM a x.pre.length d,x.val,fM b x.labels.length e,fM c x.kids.length f]/\
  w.ownsRow pI 5 1 (fM a x.pre.length d) x.pre.length (x.pre.map bv)/\w.ownsRow pI 5 1 (fM b x.labels.length e) x.labels.length (x.labels.map bv)/\w.ownsRow pI 47 1 (fM c x.kids.length f) x.kids.length (x.kids.map wv)
def iQ{i:Ending->jT->Prop}{e:jT}{f:Array ku}{j:Func}(l:j.results= #[.cell 4 211,.tmp 5])(g:Nat){a b c d:ku}(h:Cm e g 211 [a,b,c,d])(v:ku)(h2:f[4]?=jm (AB g))(h3:f[5]?=jm v)
 (k:i (iO (iJ #[iK #[a,b,c,d],v])) e):bodyPost prog j i Exit.ret {tmps:=f,defers:=[]} e:=by
 obtain⟨m,n,o,p,f0,f1,f2,f3⟩:=Dp h;refine bodyPost_ret (v:=iJ #[iK #[a,b,c,d],v]) (by simp[results,l,go_sem,h2,h3,m,n,o,p]) rfl k
section
variable{len:Mode}{w w':jT}{x d p L:Nat}{s:St}{F:Nat->Prop}
def Am4(s:St)(a:ni)(w:jT)(e:Ending)(w':jT):Prop:=
 η w w'/\match Gu s a with
  |none=>e=iO (iJ #[iK #[fM jw 0 0,gz iV 0,fM jw 0 0,fM jw 0 0],gz iU 5])
  |some b=>∃v,e=iO (iJ #[v,gz iU 0])/\cO w' w v b
def Ol(h:KH len w x d p L s F)(f:ni):Calls prog 159 #[AB x,f] w (Am4 s f w):=by
 have J:=Ac h;obtain⟨bo,bp,P,an⟩:=h.L0;have bh:IntKind.i64.wrap (f.toNat:Int)=Bz f:=rfl;have a2: -9223372036854775808<=Bz f/\Bz f<=9223372036854775807:=by
  have D:=f.toNat_lt;unfold Bz;simp only[IntKind.wrap,IntKind.bits,IntKind.signed,Bool.true_and,decide_eq_true_eq,show(2:Int)^(64-1)=9223372036854775808 from rfl,show(2:Int)^64=18446744073709551616 from rfl];constructor<;>split<;>omega
 have a5:=h.box.lt;obtain⟨b,N⟩:=ε (Bz f);rw[<-N]at bh a2;clear h;have U:=Ac (λ(ao:jT)(ap:η w ao)=>by
  obtain⟨tb,hb,n,cT,cH,own,W,-⟩:=(J.below ap).sys;exact ik W.at b a2)
 obtain⟨aE,a4⟩:=J.box.p2;have Q:Cm (w.alloc (ji #[fM jw 0 0,gz iV 0,fM jw 0 0,fM jw 0 0] 211)) w 211 [fM jw 0 0,gz iV 0,fM jw 0 0,fM jw 0 0]:=heap_alloc_new _ _;have z:η w (w.alloc (ji #[fM jw 0 0,gz iV 0,fM jw 0 0,fM jw 0 0] 211)):=mZ.alloc (Ae _) _;by_cases B:Bq (Ed s b)=0
 ·have I:Hid (Gu s f=jw):=Ac (by rw[Gu,<-N,kX B]);clear N P an;go_in;go_wp2_with fail;generalize w.alloc (ji #[fM jw 0 0,gz iV 0,fM jw 0 0,fM jw 0 0] 211)=K at*;refine(U K z).mono ?_;rintro e aD⟨rfl,t⟩;have r:=τ z (t.below K);have q:=Q.ξ (t.below _);clear Q z t;go_wp2_with(refine(KO _ _).ro ?_;rw[Yk,B];clear U J aE a4 B;obtain⟨Y,Z,aa,ab,f0,f1,f2,f3⟩:=Dp q);have H:=(((q.Be 0 (Ad jw 0 0)).Be 1 (AA iV 0)).Be 2 (Ad jw 0 0)).Be 3 (Ad jw 0 0);have NM:=(((r.setCell (p:=Φ w) (Ae _) (Ad jw 0 0)).setCell (p:=Δ w 1) (Ae _) (AA iV 0)).setCell (p:=Δ w 2) (Ae _) (Ad jw 0 0)).setCell (p:=Δ w 3) (Ae _) (Ad jw 0 0);refine iQ rfl w H (gz iU 5) rfl rfl ⟨NM,?_⟩;rw[I.out]
 ·obtain⟨bm,bk,aM,aI,au,aL⟩:=Yj B;have y:Hid (Gu s f=if JK (wordsAt s.ws (b.toNat/8) (8*Bq (Ed s b)))then jm (FY (wordsAt s.ws (b.toNat/8) (8*Bq (Ed s b))))else jw):=Ac (by rw[Gu,<-N,lg B]);have aR:b=((8*(b.toNat/8):Nat):Int)/\b.toNat/8+8*Bq (Ed s b)<=8*L:=by
   have:=P.data;have:=P.fits;have:=P.CE;rw[an]at aM;rcases au with X|X<;>rw[X]at aI aL⊢<;>omega
  obtain⟨j,a1⟩:=ε (b.toNat/8);rw[<-a1]at aR y;obtain⟨aW,a0⟩:=aR;have S:=Ac (λ(ao:jT)(ap:η w ao)=>tZ (J.below ap).sys j (8*Bq (Ed s b)) a0);rw[<-aW]at S;have t1:(((8*Bq (Ed s b):Nat):Int)==0)=false:=ζ O;have T:Hid (8*Bq (Ed s b)<=1000000):=Ac (by rcases au with X|X<;>omega);obtain⟨u,av⟩:∃u,u=8*Bq (Ed s b):=⟨_,rfl⟩;have am:Hid (Oa (Ed s b:Int)=(u:Int)):=Ac (by rw[Yk,av]);rw[<-av]at S t1 T y;clear N P an au aL aI aM aW a0 a1 B av;go_in;go_wp2_with fail;generalize w.alloc (ji #[fM jw 0 0,gz iV 0,fM jw 0 0,fM jw 0 0] 211)=K at*;refine(U K z).mono ?_;rintro e aD⟨rfl,t⟩;have r:=τ z (t.below K);have q:=Q.ξ (t.below _);have bj:aD.cell? (Φ x)=jm (AB d):=(r.cell (p:=Φ x) a5).trans aE;clear Q z t;go_wp2_with(first|(refine(KO _ _).ro ?_;rw[am.out];clear U J aE a4;obtain⟨Y,Z,aa,ab,f0,f1,f2,f3⟩:=Dp q)|(refine(S aD r).mono ?_;rintro e ah⟨v,rfl,a3,M⟩;obtain⟨A,a8,rfl,bc,W⟩:=CY a3;have aq:=τ r M;have bl:w.heap.size<ah:=Bc q.lt M.size;have al:=q.ξ M;clear S a3 Y Z aa ab f0 f1 f2 f3 bj q;have aw:=Ac W;clear W));refine(decode_any A u a8 _ ah T bc aw).mono ?_;rintro e c⟨V,E⟩;have R:=al.ξ V;have aG:=τ aq V;cases C:JK (wordsAt s.ws j u)
  ·have I:Hid (Gu s f=jw):=Ac (by rw[y.out,C];rfl);rw[C]at E;replace E:e=iO (iJ #[iK #[fM jw 0 0,gz iV 0,fM jw 0 0,fM jw 0 0],jS]):=E;subst E;clear y T C aw am;have G:Cm (c.alloc (ji #[Ad jw 0 0,AA iV 0,Ad jw 0 0,Ad jw 0 0] 211)) w _ _:=R.ξ ((Below.refl c c).alloc (Ae _) _);have ar:η w (c.alloc (ji #[Ad jw 0 0,AA iV 0,Ad jw 0 0,Ad jw 0 0] 211)):=τ aG ((Below.refl c c).alloc (Ae _) _);clear al R r M aq V;obtain⟨Y,Z,aa,ab,f0,f1,f2,f3⟩:=Dp G;go_wp2_with fail;have H:=(((G.Be 0 (Ad jw 0 0)).Be 1 (AA iV 0)).Be 2 (Ad jw 0 0)).Be 3 (Ad jw 0 0);have NM:=(((ar.setCell (p:=Φ w) (Ae _) (Ad jw 0 0)).setCell (p:=Δ w 1) (Ae _) (AA iV 0)).setCell (p:=Δ w 2) (Ae _) (Ad jw 0 0)).setCell (p:=Δ w 3) (Ae _) (Ad jw 0 0);refine iQ rfl w H (gz iU 5) rfl rfl ⟨NM,?_⟩;rw[I.out]
  ·have I:Hid (Gu s f=jm (FY (wordsAt s.ws j u))):=Ac (by rw[y.out,C];rfl);rw[C]at E;obtain⟨g,l,i,m,k,o,rfl,bd,be,bg,a9,ba,bb,ac,ad,ae⟩:=E;have a6:=Ac (And.intro ac (And.intro ad ae));clear a9 ba bb bd be bg ac ad ae y T C aw am;generalize FY (wordsAt s.ws j u)=a at*;have G:Cm (c.alloc (ji #[Ad g a.pre.length l,AA iV (a.val.toNat:Int),Ad i a.labels.length m,Ad k a.kids.length o] 211)) w _ _:=R.ξ ((Below.refl c c).alloc (Ae _) _);have ar:η w (c.alloc (ji #[Ad g a.pre.length l,AA iV (a.val.toNat:Int),Ad i a.labels.length m,Ad k a.kids.length o] 211)):=τ aG ((Below.refl c c).alloc (Ae _) _);clear al R r M aq V;obtain⟨Y,Z,aa,ab,f0,f1,f2,f3⟩:=Dp G;go_wp2_with fail;have H:=(((G.Be 0 (Ad g a.pre.length l)).Be 1 (AA iV (a.val.toNat:Int))).Be 2 (Ad i a.labels.length m)).Be 3 (Ad k a.kids.length o);have NM:=(((ar.setCell (p:=Φ w) (Ae _) (Ad g a.pre.length l)).setCell (p:=Δ w 1) (Ae _) (AA iV (a.val.toNat:Int))).setCell (p:=Δ w 2) (Ae _) (Ad i a.labels.length m)).setCell (p:=Δ w 3) (Ae _) (Ad k a.kids.length o);refine iQ rfl w H (gz iU 0) rfl rfl ⟨NM,?_⟩;rw[I.out];obtain⟨ac,ad,ae⟩:=a6.out;have a7:η c (c.alloc (ji #[Ad g a.pre.length l,AA iV (a.val.toNat:Int),Ad i a.labels.length m,Ad k a.kids.length o] 211)):=mZ.alloc (Ae _) _;have D:w.heap.size<ah:=O;have az:∀{e:TypeId}{v:ku}{n:Nat}{xs:List ku},c.ownsRow ah e 1 v n xs->World.ownsRow (((((c.alloc (ji #[Ad g a.pre.length l,AA iV (a.val.toNat:Int),Ad i a.labels.length m,Ad k a.kids.length o] 211)).setCell (Φ w) (Ad g a.pre.length l)).setCell (Δ w 1) (AA iV (a.val.toNat:Int))).setCell (Δ w 2) (Ad i a.labels.length m)).setCell (Δ w 3) (Ad k a.kids.length o)) w e 1 v n xs:=λbi=>
    WZ (AV (AV (AV (AV (own_below bi a7) D _ _) D _ _) D _ _) D _ _) (Lh D)
   exact⟨_,rfl,g,l,i,m,k,o,rfl,az ac,az ad,az ae⟩
end
def rcV(r:Rc):Value:=iK #[r.nK,r.next,r.gone,r.text]
def iR(s:nG):(s.toList==[])=decide (s.size=0):=by
 rw[ByteArray.toList_eq];have h:s.size=s.data.toList.length:=rfl;cases a:s.data.toList with
 |nil=>rw[h,a];rfl
 |cons b c=>rw[h,a];rfl
def Am5(r:Rc)(w:jT)(u:r.text.size<=4294967296):Calls prog 208 #[rcV r] w λm w'=>m=iO (iw (Et r))/\η w w':=by
 obtain⟨b,f,g,a⟩:=r;simp only[rcV];obtain⟨s,k,hb,i⟩:=E5 w 195 [b,f,g,a];obtain⟨n,o,p,q,_,_,_,_⟩:=Dp i;have e:=Ac hb;rw[k]at n o p q e;have j:=iR a;have l:=Ac j;clear i hb k j;by_cases d:b.toNat=0
 ·have t1:((b.toNat:Int)==0)=true:=by rw[d];rfl
  have c:Hid (Et ⟨b,f,g,a⟩=jS):=Ac (by simp[Et,d]);clear d;go_wp2;go_ret;exact⟨by rw[c.out];rfl,e⟩
 ·have t1:((b.toNat:Int)==0)=false:=ζ O;have u1:(b.toNat==0)=false:=ζ d;by_cases t:40<a.size
  ·have t2:=dT ((40:Int)<(a.size:Int));have c:Hid (Et ⟨b,f,g,a⟩=jS):=Ac (by simp[Et,u1];omega);clear d u1;go_wp2;go_ret;exact⟨by rw[c.out];rfl,e⟩
  ·have t2:=dF ((40:Int)<(a.size:Int));cases g with
   |false=>
    have c:Hid (Et ⟨b,f,jS,a⟩=jO):=Ac (by simp[Et,u1];omega);clear d u1;go_wp2;go_ret;exact⟨by rw[c.out];rfl,e⟩
   |true=>
    have c:Hid (Et ⟨b,f,jO,a⟩=(a.toList==[])):=Ac (by rw[l.out];simp[Et,u1];omega);clear d u1;go_in;cases t4:(a.toList==[])
    all_goals(go_wp2)
    all_goals(go_ret)
    all_goals(exact⟨by rw[c.out,t4];rfl,e⟩)
def Ark:∀n:Fin 41,bits BinOp.or iV 3 ((n.val:Int)*65536)=((Jo n.val false:Nat):Int):=by decide+kernel
def Am6:bits BinOp.or iV (bits BinOp.or iV 3 (((0:Nat):Int)*65536)) 256=((Jo 0 true:Nat):Int):=by decide+kernel
def Arl(o b j:Nat)(a:o<256^j)(hb:b<256)(e:j<8):bits .or iV (o:Int) (IntKind.u64.wrap (IntKind.u64.wrap (b:Int)*2^(j*8)))=((o+b*256^j:Nat):Int):=by
 have h:=Af8 o b j hb e;have c:(o:Int)%256^j=(o:Int):=by
  have d:(o:Int)%256^j=((o%256^j:Nat):Int):=by rw[Int.natCast_emod,Int.natCast_pow];rfl
  rw[d,Ho a]
 rw[c,Ho a,KD 8 j]at h;exact h
def Px(r:Rc)(k:Nat):List Value:=([Az (Jo r.text.size r.gone),r.nK,r.next]++textW (r.text.data.toList.take k)).map wv
def Adi(r:Rc)(k:Nat)(e:k<r.text.size)(v:Nat)(d:v=(NL (r.text.data.toList.take k) (k/8)).toNat+r.text[k].toNat*256^(k%8)):(Px r k).set (3+k/8) (gz iV (v:Int))=Px r (k+1):=by
 have c:k<r.text.data.toList.length:=e;have a:=fA r.text k c;have b:r.text.data.toList[k]=r.text[k]:=rfl;rw[b,<-d]at a;unfold Px;rw[<-Acb r.text k c (NL (r.text.data.toList.take (k+1)) (k/8)) (by rw[b,<-d];exact a),<-a];rw[show AA IntKind.u64 ((NL (r.text.data.toList.take (k+1)) (k/8)).toNat:Int)=wv (NL (r.text.data.toList.take (k+1)) (k/8))from rfl,<-O9,VV _ _ Θ];congr 3;simp
def Adj(r:Rc)(w:jT)(e:Ending)(w':jT):Prop:=
 η w w'/\if Et r=jO then∃a,e=iO (iJ #[fM (jm (Φ a)) 8 8,jO])/\w'.ownsRow w 47 1 (fM (jm (Φ a)) 8 8) 8 ((EE r).map wv)
  else e=iO (iJ #[fM jw 0 0,jS])
def oZ(r:Rc)(w:jT)(bm:r.text.size<=4294967296):Calls prog 177 #[rcV r] w (Adj r w):=by
 obtain⟨c,av,hb,ac⟩:=E5 w 195 [r.nK,r.next,r.gone,r.text];obtain⟨a9,ba,bb,bc,_,_,_,_⟩:=Dp ac;obtain⟨aL,bg,m⟩:=l9 hb ac (Am5 r c bm);unfold rcV at m⊢;have aM:=Ac av;rw[av]at a9 ba bb bc;clear ac hb av;have aE:∀c:jT,(Instr.makeSlice 76 (gz iU 8) (gz iU 8)).run prog c=.ok (fM (jm (Φ c)) 8 8) (c.alloc (ji (madeCells (AA iV 0).cells (8*1)) 47)):=λc=>by
  obtain⟨bq,bk,aa,bo,bp⟩:=info_parts Tryz.xJ;have:=run_make (P:=prog) (w:=c) 76 47 bq (gz iV 0) underlying76 bk aa iU iU 8 8 O O (by rw[bp];omega) O;rw[bo]at this;simpa using this
 have aG:(madeCells (AA iV 0).cells (8*1)).toList=(BJ 8 (0:ni)).map wv:=NT 8;obtain⟨ab,a8⟩:∃ab,madeCells (AA iV 0).cells (8*1)=ab:=⟨_,rfl⟩;rw[a8]at aE aG;have am:=Ac aG;clear a8 aG;cases q:Et r with
 |false=>
  have J:=Ac q;rw[q]at m;clear q;go_in;go_wp2_with(rw[<-aM.out];refine m.mono ?_;rintro f d⟨rfl,E⟩;have i:=Ac (τ aL.out E);clear m E);go_ret2;refine⟨i,?_⟩;rw[lg (by rw[J.out];exact Bool.false_ne_true)];rfl
 |true=>
  have J:=Ac q;rw[q]at m;have a4:=((MJ r).1 q).2.1;clear q;go_in;go_wp2_with fail;rw[<-aM.out];refine m.mono ?_;rintro f d⟨rfl,E⟩;have i:=Ac (τ aL.out E);have ad:=bg.out.ξ E;obtain⟨bM,bN,bO,bQ,_,_,_,_⟩:=Dp ad;have T:=Ac ad;clear m E ad a9 ba bb bc;obtain⟨e,N⟩:=ε (d.alloc (ji ab 47));have a7:=aE d;rw[<-N]at a7;obtain⟨a,R⟩:=ε d.heap.size;have bA:=T.lt;have t:w.heap.size≠a:=O;have x:Cm e a 47 [gz iV 0,gz iV 0,gz iV 0,gz iV 0,gz iV 0,gz iV 0,gz iV 0,gz iV 0]:=by
   have f:[AA iV 0,gz iV 0,gz iV 0,gz iV 0,gz iV 0,gz iV 0,gz iV 0,gz iV 0]=ab.toList:=by rw[am.out];rfl
   rw[f];unfold Cm;rw[N,R,A4v];exact heap_alloc_new _ _
  have z:Cm e w.heap.size 195 _:=(N▸χ _ _ T.lt:e.heap[w.heap.size]?=d.heap[w.heap.size]?).trans T;have Y:Below a d e:=by rw[N,R];exact mZ.alloc (Ae _) _
  have I:=Ac R;rw[<-R]at a7;clear N R aE;have a3:∀(c:jT)(xs:List ku),Cm c a 47 xs->∀b,b<xs.length->(∃v,c.cell? (Δ a b)=jm v)/\c.frozen? (Δ a b)=false:=λc xs h b az=>⟨⟨_,h.has az⟩,h.frozen b⟩
  have j:=Ac a3;clear a3;obtain⟨U,D⟩:=ε (AA iV (bits BinOp.or iV 3 ((r.text.size:Int)*65536)));cases s:r.gone with
  |false=>
   have ah:=Ac s;have g:=x.Be 0 U;have k:=z.far t 0 U;have l:=g.Be 1 (gz iV (r.nK.toNat:Int));have n:=k.far t 1 (gz iV (r.nK.toNat:Int));have y:=l.Be 2 (gz iV (r.next.toNat:Int));have A:=n.far t 2 (gz iV (r.next.toNat:Int));have a0:=Ac y;obtain⟨⟨br,aq⟩,f2⟩:=j _ _ x 0 Θ;obtain⟨⟨bE,B⟩,f3⟩:=j _ _ g 1 Θ;obtain⟨⟨bs,C⟩,f4⟩:=j _ _ l 2 Θ;have L:=z.cell 3;have o:=k.cell 2;have an:=k.cell 0;have ao:=n.cell 1;have ap:=A.cell 3;simp only[Af,Ai,s]at L o an ao ap;rw[D]at o an ao ap B f3 C f4;clear x z g k l n y A s;have al:Hid (Cm ((((e.setCell (Φ a) (AA iV (bits BinOp.or iV 3 ((r.text.size:Int)*65536)))).setCell (Δ a 1) (gz iV (r.nK.toNat:Int))).setCell (Δ a 2) (gz iV (r.next.toNat:Int)))) a 47 (Px r 0)):=Ac (by
    have h:=a0.out;rw[D]at h;unfold Px;rw[ah.out,Aqn,fB];have f:bits BinOp.or iV 3 ((r.text.size:Int)*65536)=((Jo r.text.size false:Nat):Int):=Ark ⟨r.text.size,O⟩;have au:=TI a4 jS;simp only[Aq,Aw,f]at h;simp only[BM,DR,Ci,FW,wv,f,au,show(((0:ni).toNat:Nat):Int)=0 from rfl];exact h)
   have ae:Hid (Below a d ((((e.setCell (Φ a) (AA iV (bits BinOp.or iV 3 ((r.text.size:Int)*65536)))).setCell (Δ a 1) (gz iV (r.nK.toNat:Int))).setCell (Δ a 2) (gz iV (r.next.toNat:Int))))):=Ac (((Y.setCell (p:=Φ a) (Ae _) _).setCell (p:=Δ a 1) (Ae _) _).setCell (p:=Δ a 2) (Ae _) _);clear D a0 j am Y;go_wp2_with fail;clear L o an ao ap aq f2 B f3 C f4;generalize((((e.setCell (Φ a) (AA iV (bits BinOp.or iV 3 ((r.text.size:Int)*65536)))).setCell (Δ a 1) (gz iV (r.nK.toNat:Int))).setCell (Δ a 2) (gz iV (r.next.toNat:Int))))=bi at*;generalize bits BinOp.or iV 3 ((r.text.size:Int)*65536)=bj at*;go_loopw [36](λu wr=>∃b:Nat,b<=r.text.size/\u=gz iU (b:Nat)/\Cm wr a 47 (Px r b)/\Below a d wr)(λu _=>r.text.size-(intOf u).toNat)
   case atStart=>exact⟨0,Bd _,rfl,al,ae⟩
   case round=>
    obtain⟨b,az,rfl,S,Q⟩:=hrel;have G:=Ac S;have K:=Ac Q;clear S Q;by_cases bl:b<r.text.size
    ·have a5:=G.cell (3+b/8);have bw:=G.frozen (3+b/8);have a6:(Px r b)[3+b/8]?=jm (gz iV ((NL (r.text.data.toList.take b) (b/8)).toNat:Int)):=by
      unfold Px;rw[CP,Ez Θ,show 3+b/8- [Az (Jo r.text.size r.gone),r.nK,r.next].length=b/8 by simp,textW,CP,List.getElem?_range O];rfl
     rw[a6]at a5;have bB:wr.cell? (Δ w 3)=jm (ig r.text):=by
      have:=(T.below K (by have:=I.out;omega:w.heap.size<a)).cell 3;simpa using this
     have bx:b/8<=4:=O;obtain⟨F,Z⟩:∃F,NL (r.text.data.toList.take b) (b/8)=F:=⟨_,rfl⟩;rw[Z]at a5;have bd:=Ac (Arl F.toNat r.text[b].toNat (b%8) (by rw[<-Z];exact Aca _ _) (r.text[b]).toNat_lt O);have be:Hid (Cm ((wr.setCell (Δ a (3+b/8)) (gz iV ((F.toNat+r.text[b].toNat*256^(b%8):Nat):Int))).drew) a 47 (Px r (b+1))):=Ac (by
      have h:=(G.Be (3+b/8) (gz iV ((F.toNat+r.text[b].toNat*256^(b%8):Nat):Int))).drew;rw[Adi r b bl _ (by rw[Z])]at h;exact h)
     have bh:Hid (Below a d ((wr.setCell (Δ a (3+b/8)) (gz iV ((F.toNat+r.text[b].toNat*256^(b%8):Nat):Int))).drew)):=Ac ((K.setCell (p:=Δ a (3+b/8)) (Ae _) _).drew);clear a6 Z;go_wp2_with fail;go_region;rw[bd.out];go_wp2;exact⟨⟨b+1,O,by go_num,be,bh⟩,mz⟩
    ·have aD:b=r.text.size:=O;subst aD;have H:Hid (Px r r.text.size=(EE r).map wv):=Ac (by
      unfold Px EE;rw[Dq (show r.text.data.toList.length<=r.text.size from Ae _)])
     go_wp2;go_ret2;refine⟨i.trans (K.mono (Ψ I.out i.size)),?_⟩;rw[kX J.out];have M:=G.own (B:=w.heap.size) (Ψ I.out i.size) (by rw[H.out,Df,Jp];decide);rw[H.out,Df,Jp]at M;exact⟨a,rfl,M⟩
  |true=>
   have ah:=Ac s;have aa:r.text.size=0:=((MJ r).1 J).2.2 s;have aR:=Ac aa;clear aa;obtain⟨a2,aw⟩:=ε (AA iV (bits BinOp.or iV (bits BinOp.or iV 3 ((r.text.size:Int)*65536)) 256));have g:=x.Be 0 U;have k:=z.far t 0 U;have l:=g.Be 0 a2;have n:=k.far t 0 a2;have y:=l.Be 1 (gz iV (r.nK.toNat:Int));have A:=n.far t 1 (gz iV (r.nK.toNat:Int));have aI:=y.Be 2 (gz iV (r.next.toNat:Int));have aW:=A.far t 2 (gz iV (r.next.toNat:Int));have a1:=Ac aI;obtain⟨⟨br,aq⟩,f2⟩:=j _ _ x 0 Θ;have B:=g.cell 0;have f3:=g.frozen 0;obtain⟨⟨bs,C⟩,f4⟩:=j _ _ l 1 Θ;obtain⟨⟨bL,ar⟩,f5⟩:=j _ _ y 2 Θ;have L:=z.cell 3;have o:=k.cell 2;have V:=n.cell 0;have W:=A.cell 1;have X:=aW.cell 3;simp only[Af,Ai,Aq,s]at L o V W X B;rw[D]at o B f3 V C f4 W ar f5 X;rw[aw]at V C f4 W ar f5 X;clear x z g k l n y A aI aW s;have al:Hid (Cm (((((e.setCell (Φ a) (AA iV (bits BinOp.or iV 3 ((r.text.size:Int)*65536)))).setCell (Φ a) (AA iV (bits BinOp.or iV (bits BinOp.or iV 3 ((r.text.size:Int)*65536)) 256))).setCell (Δ a 1) (gz iV (r.nK.toNat:Int))).setCell (Δ a 2) (gz iV (r.next.toNat:Int)))) a 47 (Px r 0)):=Ac (by
    have h:=a1.out;rw[D,aw]at h;unfold Px;rw[ah.out,Aqn,fB];have f:bits BinOp.or iV (bits BinOp.or iV 3 ((r.text.size:Int)*65536)) 256=((Jo r.text.size true:Nat):Int):=by rw[aR.out];exact Am6
    have au:=TI a4 jO;simp only[Aq,Aw,f]at h;simp only[BM,DR,Ci,FW,wv,f,au,show(((0:ni).toNat:Nat):Int)=0 from rfl];exact h)
   have ae:Hid (Below a d (((((e.setCell (Φ a) (AA iV (bits BinOp.or iV 3 ((r.text.size:Int)*65536)))).setCell (Φ a) (AA iV (bits BinOp.or iV (bits BinOp.or iV 3 ((r.text.size:Int)*65536)) 256))).setCell (Δ a 1) (gz iV (r.nK.toNat:Int))).setCell (Δ a 2) (gz iV (r.next.toNat:Int))))):=Ac ((((Y.setCell (p:=Φ a) (Ae _) _).setCell (p:=Φ a) (Ae _) _).setCell (p:=Δ a 1) (Ae _) _).setCell (p:=Δ a 2) (Ae _) _);clear D aw a1 j am Y;go_wp2_with fail;clear L o V W X aq f2 B f3 C f4 ar f5;generalize(((((e.setCell (Φ a) (AA iV (bits BinOp.or iV 3 ((r.text.size:Int)*65536)))).setCell (Φ a) (AA iV (bits BinOp.or iV (bits BinOp.or iV 3 ((r.text.size:Int)*65536)) 256))).setCell (Δ a 1) (gz iV (r.nK.toNat:Int))).setCell (Δ a 2) (gz iV (r.next.toNat:Int))))=bi at*;generalize bits BinOp.or iV (bits BinOp.or iV 3 ((r.text.size:Int)*65536)) 256=bt at*;generalize bits BinOp.or iV 3 ((r.text.size:Int)*65536)=bj at*;go_loopw [36](λu wr=>∃b:Nat,b<=r.text.size/\u=gz iU (b:Nat)/\Cm wr a 47 (Px r b)/\Below a d wr)(λu _=>r.text.size-(intOf u).toNat)
   case atStart=>exact⟨0,Bd _,rfl,al,ae⟩
   case round=>
    obtain⟨b,az,rfl,S,Q⟩:=hrel;have G:=Ac S;have K:=Ac Q;clear S Q;have aD:b=r.text.size:=Ω aR.out;subst aD;have H:Hid (Px r r.text.size=(EE r).map wv):=Ac (by
     unfold Px EE;rw[Dq (show r.text.data.toList.length<=r.text.size from Ae _)])
    go_wp2;go_ret2;refine⟨i.trans (K.mono (Ψ I.out i.size)),?_⟩;rw[kX J.out];have M:=G.own (B:=w.heap.size) (Ψ I.out i.size) (by rw[H.out,Df,Jp];decide);rw[H.out,Df,Jp]at M;exact⟨a,rfl,M⟩
def Tryz.Am7:IK prog 207 213 (iK #[fM jw 0 0,gz iV 0,fM jw 0 0,fM jw 0 0,gz iU 0,gz .u8 0,gz iU 0]) 7 104:=⟨underlying207,by kernel_rfl,rfl⟩
def Dx(e:TypeId)(w w':jT):Prop:=w.heap.size<=w'.heap.size/\∀j,j<w.heap.size->(∃a b,w.heap[j]?=jm (ji a e b))\/w'.heap[j]?=w.heap[j]?
def Dx.of_below{e:TypeId}{w w':jT}(h:η w w'):Dx e w w':=⟨h.size,λj a=>.inr (h.block j a)⟩
def Dx.trans{e:TypeId}{a b c:jT}(h:Dx e a b)(k:Dx e b c):Dx e a c:=by
 refine⟨AZ h.1 k.1,λj g=>?_⟩;rcases h.2 j g with d|d
 ·exact .inl d
 ·rcases k.2 j (Bc g h.1)with⟨i,l,f⟩|f
  ·exact .inl ⟨i,l,d▸f⟩
  ·exact .inr (f.trans d)
def Dx.Be{e:TypeId}{w:jT}{g:Nat}{xs:List ku}(h:Cm w g e xs)(i:Nat)(u:ku):Dx e w (w.setCell (Δ g i) u):=by
 refine⟨by simp[DL,RN],λj b=>?_⟩;by_cases a:j=g
 ·exact .inl ⟨_,_,a▸h⟩
 ·exact .inr (by simp only[DL,Ov];rw[lg (λe=>a e.symm)])
def Dx.kept{e:TypeId}{w w':jT}{pI k n:Nat}{v:ku}{xs:List ku}(h:w.ownsRow pI e k v n xs)(c:Kept w w' v.ownBlock):Dx e w w':=by
 refine⟨c.1,λj f=>?_⟩;by_cases a:jm j=v.ownBlock
 ·rcases h.2 with⟨b,_⟩|⟨l,g,i,b,_,d,_⟩
  ·subst b;simp[AY]at a
  ·subst b;simp[AY]at a;subst a;exact .inl ⟨_,_,d⟩
 ·exact .inr (c.2 j f a)
def Dx.own{e f:TypeId}(o:f≠e){w w':jT}{pI k n:Nat}{v:ku}{xs:List ku}(s:Dx e w w')(h:w.ownsRow pI f k v n xs):w'.ownsRow pI f k v n xs:=by
 refine⟨h.1,?_⟩;rcases h.2 with b|⟨d,g,i,b,l,c,m⟩
 ·exact .inl b
 ·refine .inr ⟨d,g,i,b,l,?_,m⟩;rcases s.2 d (AL.1 c).1 with⟨p,q,a⟩|a
  ·rw[c]at a;injection a with a;injection a with _ j;exact absurd j o
  ·rw[a,c]
def Dx.nd{w w':jT}{pI:Nat}{v:ku}{x:Nd}(s:Dx 213 w w')(h:cO w pI v x):cO w' pI v x:=by
 obtain⟨a,d,b,e,c,f,g,i,j,k⟩:=h;exact⟨a,d,b,e,c,f,g,s.own U i,s.own U j,s.own U k⟩
def cO.mono{w:jT}{pI base':Nat}{v:ku}{x:Nd}(h:cO w pI v x)(hb:base'<=pI):cO w base' v x:=by
 obtain⟨a,d,b,e,c,f,g,i,j,k⟩:=h;exact⟨a,d,b,e,c,f,g,FI i hb,FI j hb,FI k hb⟩
def PlV(w:jT)(pI:Nat)(f:List ku)(a:Pl):Prop:=
 ∃c b e d,f=[c,b,e,d,gz iU a.off,gz .u8 (a.label.toNat:Int),gz iU a.word]/\cO w pI (iK #[c,b,e,d]) a.nd
def Zf(w:jT)(pI:Nat):List (List ku)->List Pl->Prop
 |[],[]=>True
 |a::b,p::c=>PlV w pI a p/\Zf w pI b c
 |_,_=>False
def Dx.pl{w w':jT}{pI:Nat}{a:List ku}{p:Pl}(s:Dx 213 w w')(h:PlV w pI a p):PlV w' pI a p:=by
 obtain⟨c,b,e,d,f,h⟩:=h;exact⟨c,b,e,d,f,s.nd h⟩
def Dx.pls{w w':jT}{pI:Nat}(s:Dx 213 w w'):∀(vs:List (List ku))(a:List Pl),Zf w pI vs a->Zf w' pI vs a
 |[],[],_=>trivial
 |_::vs,_::a,h=>⟨s.pl h.1,s.pls vs a h.2⟩
 |[],_::_,h=>h.elim
 |_::_,[],h=>h.elim
def Zf.app{w:jT}{pI:Nat}{c:List ku}{p:Pl}(b:PlV w pI c p):∀(vs:List (List ku))(a:List Pl),Zf w pI vs a->Zf w pI (vs++[c]) (a++[p])
 |[],[],_=>⟨b,trivial⟩
 |_::vs,_::a,h=>⟨h.1,Zf.app b vs a h.2⟩
 |[],_::_,h=>h.elim
 |_::_,[],h=>h.elim
def Qs(w:jT)(pI:Nat)(v:ku)(b:List Pl):Prop:=
 ∃a,w.ownsRow pI 213 7 v b.length (a.flatten)/\Zf w pI a b
def Qs.nil(w:jT)(pI:Nat):Qs w pI (fM jw 0 0) []:=⟨[],Ce _ _ _ _,trivial⟩
def Qs.app{w w':jT}{pI:Nat}{b:ku}{a:List Pl}{vs:List (List ku)}{c:List ku}{p:Pl}(h:Zf w pI vs a)(e:PlV w pI c p)(s:Dx 213 w w')
 (d:w'.ownsRow pI 213 7 b (a.length+1) (vs.flatten++c)):Qs w' pI b (a++[p]):=
 ⟨vs++[c],by simpa using d,(s.pls vs a h).app (s.pl e)⟩
def TY(w:jT)(pI:Nat)(A:Option Addr)(l:List nC):Prop:=
 Bs w A l.length l/\∀a d,A=jm (Δ a d)->pI<=a/\∃b c,w.heap[a]?=jm (ji b 5 c)
def Dx.rs{w w':jT}{pI:Nat}{A:Option Addr}{l:List nC}(s:Dx 213 w w')(h:TY w pI A l):TY w' pI A l:=by
 have k:∀a c,A=jm (Δ a c)->w'.heap[a]?=w.heap[a]?:=λa c d=>by
  obtain⟨_,g,i,f⟩:=h.2 a c d;rcases s.2 a (AL.1 f).1 with⟨r,t,e⟩|e
  ·rw[f]at e;injection e with e;injection e with _ m;exact absurd m U
  ·exact e
 refine⟨⟨h.1.1,λq=>?_⟩,λa c d=>?_⟩
 ·obtain⟨b,c,d,hb,o⟩:=h.1.2 q;exact⟨b,c,d,Bc hb s.1,λj p=>(BQ (w:=w) (k b c d)).trans (o j p)⟩
 ·obtain⟨n,g,i,f⟩:=h.2 a c d;exact⟨n,g,i,(k a c d).trans f⟩
def TY.Qn{w:jT}{pI n c:Nat}{A:Option Addr}{l:List nC}(h:w.ownsRow pI 5 1 (fM A n c) n (l.map bv))(g:n=l.length):TY w pI A l:=by
 subst g;refine⟨(Dk h).2,λm p a=>?_⟩;rcases h.2 with⟨b,_⟩|⟨o,i,j,b,e,f,_⟩
 ·simp only[Value.slice.injEq]at b;rw[b.1]at a;cases a
 ·simp only[Value.slice.injEq]at b;rw[b.1]at a;injection a with a;injection a with d k;subst d;exact⟨e,_,_,f⟩
def TY.drop{w:jT}{pI g off:Nat}{l:List nC}(h:TY w pI (jm (Δ g off)) l)(k:Nat)(o:k<=l.length):TY w pI (jm (Δ g (off+k))) (l.drop k):=by
 refine⟨⟨by simp,λi=>?_⟩,λn m a=>?_⟩
 ·simp only[AU]at i;obtain⟨b,m,a,hb,e⟩:=h.1.2 O;injection a with a;injection a with c d;subst c d
  refine⟨_,_,rfl,hb,λj f=>?_⟩;simp only[AU]at f;rw[JD,e (k+j) O,List.map_drop,DX]
 ·injection a with a;injection a with c d;subst c
  exact h.2 _ _ rfl
def TY.cut{w:jT}{pI b off c:Nat}{l:List nC}(h:TY w pI (jm (Δ b off)) l)(k:Nat)(a:k<=l.length)(e:l.length<=c):TY w pI (if c=k then jm (Δ b off)else jm (Δ b (off+k))) (l.drop k):=by
 split
 ·refine⟨⟨by simp,λd=>?_⟩,h.2⟩;simp only[AU]at d;omega
 ·exact h.drop k a
def Kept.trans'{a b c:jT}{r:Option Nat}(h:Kept a b r)(k:Kept b c r):Kept a c r:=
 ⟨AZ h.1 k.1,λj d e=>(k.2 j (Bc d h.1) e).trans (h.2 j d e)⟩
def Kept.of_below{a b:jT}{r:Option Nat}(h:η a b):Kept a b r:=⟨h.size,λj c _=>h.block j c⟩
def Kept.Be(w:jT)(g i:Nat)(u:ku):Kept w (w.setCell (Δ g i) u) (jm g):=
 ⟨by simp[DL,RN],λj _ b=>by simp only[DL,Ov];rw[lg (λa=>b (by rw[a]))]⟩
def FN{w w':jT}{pI k n:Nat}{e:TypeId}{v:ku}{xs:List ku}{r:Option Nat}(h:w.ownsRow pI e k v n xs)(l:Kept w w' r)(a:r≠v.ownBlock\/v.ownBlock=jw):w'.ownsRow pI e k v n xs:=by
 refine⟨h.1,?_⟩
 rcases h.2 with b| ⟨c,f,g,b,i,d,j⟩
 ·exact .inl b
 ·refine .inr ⟨c,f,g,b,i,?_,j⟩
  subst b
  rw [l.2 c (AL.1 d).1 (fun e=>by rcases a with a| a
                                  ·exact a (by rw [<-e];rfl)
                                  ·simp [AY]at a)]
  exact d
def lenOf:ku->Nat
 | .slice _ n _=>n
 |_=>0
def yK(s:St)(key:List nC)(w:jT)(e:Ending)(w':jT):Prop:=
 η w w'/\match FC s key with
  |none=>e=iO (iJ #[fM jw 0 0,fM jw 0 0,gz iU 5])
  |some (d,a)=>∃c A b,e=iO (iJ #[c,fM A a.length b,gz iU 0])/\Qs w' w c d/\TY w' w A a/\a.length<=b
def iT(l:List nC):(CO l).length=2*l.length:=by
 induction l with
 |nil=>rfl
 |cons b t a=>simp[CO]at a⊢;omega
def Am8(s:St)(_:Nat)(key:List nC)(w:jT)(g:Nat)(u7 u8 u10:ku)(wr:jT):Prop:=
 ∃(d:Nat)(A:Option Addr)(c:Nat)(a:List nC)(f:ni)(e:nC)(i:Int)(b:List Pl)(j k l m n:ku),
  u7=fM A a.length c/\u8=gz iV (f.toNat:Int)/\ES s d f a e i b=FC s key/\a.length<d/\a.length<=c/\b.length+a.length<=2*key.length/\
  Cm wr g 213 [j,k,l,m,n,e,i]/\Qs wr w u10 b/\(jm g≠u10.ownBlock)/\TY wr w A a/\η w wr
def pg(l:List ni):(FY l).kids.length<=16/\(FY l).labels.length<=16:=by
 unfold FY;split
 ·unfold Aly Ko
  dsimp only
  split<;>simp[digits_length]<;>omega
 ·unfold Ab8;have:=eY ((l.drop 4).take 16);simp at this;simp[QQ];omega
def Om{s:St}{c:ni}{a:Nd}(h:Gu s c=jm a):a.pre.length<=15/\a.kids.length<=16/\a.labels.length<=16:=by
 unfold Gu at h;split at h
 ·cases h
 ·split at h
  ·rename_i b;injection h with h
   subst h;refine⟨?_,(pg _).1,(pg _).2⟩;unfold JK at b;simp only[Bool.and_eq_true]at b;exact((BD _).1 b.2.1).1
  ·cases h
def Fh{w:jT}{g:Nat}{e:TypeId}{a b c d k l m:ku}(h:Cm w g e [a,b,c,d,k,l,m]):w.cell? (Φ g)=jm a/\w.cell? (Δ g 1)=jm b/\w.cell? (Δ g 2)=jm c/\w.cell? (Δ g 3)=jm d/\w.cell? (Δ g 4)=jm k/\w.cell? (Δ g 5)=jm l/\w.cell? (Δ g 6)=jm m:=
 ⟨h.cell 0,h.cell 1,h.cell 2,h.cell 3,h.cell 4,h.cell 5,h.cell 6⟩
def wrap64(a:Int)(h1: -9223372036854775808<=a)(h2:a<9223372036854775808):IntKind.i64.wrap a=a:=by
 simp only[IntKind.wrap,IntKind.bits,IntKind.signed,Bool.true_and,decide_eq_true_eq,show(2:Int)^(64-1)=9223372036854775808 from rfl,show(2:Int)^64=18446744073709551616 from rfl];split<;>omega
def Yl{len:Mode}{w:jT}{x d p L:Nat}{s:St}{F:Nat->Prop}(h:KH len w x d p L s F){b:ni}{l:Nd}(a:Gu s b=jm l):0<=Bz b/\Bz b<=65536:=by
 obtain⟨q,r,m,e⟩:=h.L0;unfold Gu at a;split at a
 ·cases a
 ·rename_i f;obtain⟨o,n,i,k,j,g⟩:=Yj f;rw[k];have:=m.fits;rw[e]at i;rcases j with c|c<;>rw[c]at g⊢<;>omega
def Ais{c:Nd}{b:nC}{a:ni}{d:Nat}(h:Ru c b=jm (a,d)):bP c b=iJ #[a,d,jO]:=by
 unfold Ru Kq at h;unfold bP;split at h
 ·rename_i j g;(try rw[g]);split at h
  ·rename_i i;injection h with h
   injection h with e f
   subst e f;simp only[i,if_true];split<;>rfl
  ·cases h
 ·cases h
def Ait{c:Nd}{b:nC}(h:Ru c b=jw):bP c b=iJ #[gz iV 0,gz iU 0,jS]:=by
 unfold Ru Kq at h;unfold bP;split at h
 ·rename_i e a;(try rw[a]);split at h
  ·cases h
  ·rename_i d;simp only[d];rfl
 ·first|rfl|(rename_i a;rw[a])
def Adk{b:Nd}{a:nC}{f:ni}{c:Nat}(h:Ru b a=jm (f,c))(j:b.labels.length<=16):c<=300:=by
 unfold Ru Kq at h;have:=a.toNat_lt;split at h
 ·rename_i k e;have i:=(NG.1 e).1;split at h
  ·injection h with h
   injection h with g d
   subst d;split<;>omega
  ·cases h
 ·cases h
def Avl{w:jT}{pI c j d k e l:Nat}{f g i:Option Addr}{x:Nd}(h:cO w pI (iK #[fM f c j,x.val,fM g d k,fM i e l]) x)(m:c<=1000000)(n:d<=1000000)(o:e<=1000000)(b:nC):
 Calls prog 161 #[iK #[fM f c j,x.val,fM g d k,fM i e l],b] w λa w'=>a=iO (bP x b)/\η w w':=by
 obtain⟨_,_,_,_,_,_,a,p,q,r⟩:=h;simp only[Value.agg.injEq]at a;simp at a;obtain⟨⟨rfl,rfl,rfl⟩,⟨rfl,rfl,rfl⟩,⟨rfl,rfl,rfl⟩⟩:=a;exact Al5 _ _ _ _ _ _ _ _ _ x b w m n o (Dk p).2 (Dk q).2 (Dk r).2
section
variable{len:Mode}{w w':jT}{x d p L:Nat}{s:St}{F:Nat->Prop}
def Me(h:KH len w x d p L s F)(key:nG)(dv:key.size<=1000):Calls prog 105 #[AB x,key] w (yK s key w):=by
 have bM:=Ac h
 obtain⟨cg,cM,c4⟩:=l9 (Al1 key w O) (λ(am:jT)(ao:η w am)=>iP (bM.below ao)) (λ(am:jT)(ao:η w am)=>Ol (bM.below ao))
 clear h
 go_in
 go_wp2_with(first| (refine cg.out.mono ?_;rintro k dp⟨v,rfl,bY,bR⟩;obtain⟨A,o,rfl,dc,de⟩:=CY bY;have cf:=Ac bY;clear cg bY de)| (refine(cM dp bR).mono ?_;rintro k a3⟨rfl,bS⟩;have cm:=Ac (own_below cf.out bS);have bV:=τ bR bS;clear cf bR bS cM))
 obtain⟨aM,aR⟩:=ε (a3.alloc (ji #[fM jw 0 0,gz iV 0,fM jw 0 0,fM jw 0 0,gz iU 0,gz .u8 0,gz iU 72] 213))
 have bO:η a3 aM:=by rw [aR];exact mZ.alloc (Ae _) _
 have bt:Cm aM a3 213 [fM jw 0 0,gz iV 0,fM jw 0 0,fM jw 0 0,gz iU 0,gz .u8 0,gz iU 72]:=by rw [aR];exact heap_alloc_new _ _
 have cx:η w aM:=τ bV bO
 have cw:=TY.Qn (own_below cm.out bO) (by rw [iT];simp)
 rw [<-aR]
 have aa:(CO key).length=2*key.size:=by rw [iT];simp
 have u:=bV.size
 obtain⟨e,b5⟩:∃e,a3=e:=⟨_,rfl⟩
 rw [b5]at bt u⊢
 have cc:Hid (Am8 s L key w e (fM A (2*key.size) o) (gz iV ((s.ws 9).toNat:Int)) (fM jw 0 0) aM):=
  Ac ⟨2*key.size+1,A,o,CO key,s.ws 9,0,72,[],_,_,_,_,_,by rw [aa],rfl,by simp [FC],O,O,by simp [aa],bt,Qs.nil _ _,by simp [AY],cw,cx⟩
 clear aR bO bt cx cw cm aa dc bV b5
 go_loopw [7,8,10](λu7 u8 u10 wr=>Am8 s L key w e u7 u8 u10 wr)(λu7 _ _ _=>lenOf u7)
 case atStart=>exact cc.out
 case round=>
  clear cc
  obtain⟨Z,A,o,i,c,l,n,j,c5,c6,c7,c8,dq,rfl,rfl,cF,cE,cz,aa,cv,cl,cG,cH,cy⟩:=hrel
  obtain⟨Z,rfl⟩:∃da,Z=da+1:=⟨Z-1,O⟩
  obtain⟨al,bl,bd,bw,X,bc,Q⟩:=lQ cv cl cG cH cF cy (And.intro cE (And.intro cz aa))
  clear cv cl cG cH cF cy cE cz aa
  by_cases ar:c=0
  ·have M:Hid (FC s key=jm (j,i)):=Ac (by rw [<-X.out,ES,kX ar])
   have t0:(((c.toNat:Nat):Int)==0)=true:=by subst ar;rfl
   clear X
   go_wp2
   refine bodyPost_ret (v:= iJ #[u10,fM A i.length o,gz iU 0]) (by simp [results,results105,go_sem]) rfl ?_
   refine⟨bc.out,?_⟩
   rw [M.out]
   exact⟨_,A,o,rfl,bl.out,bw.out,Q.2.1⟩
  ·have t0:(((c.toNat:Nat):Int)==0)=false:=by
    rw [beq_eq_false_iff_ne];intro k;apply ar
    exact Eb.1 (by have:c.toNat=0:=O
                   rw [this];rfl)
   have f4:=al.frozen 4
   have au:=al.cell 4
   simp only [Ai,Af]at au
   have dj:IntKind.i64.wrap (c.toNat:Int)=Bz c:=rfl
   go_wp2_with fail
   have aG:=al.Be 4 (AA iU (Bz c))
   have b0:=Dx.Be al.out 4 (AA iU (Bz c))
   have cN:=Kept.Be wr e 4 (AA iU (Bz c))
   have b2:=bc.setCell (p:=Δ e 4) u (AA iU (Bz c))
   have di:w.heap.size<=wr:=bc.size
   generalize wr.setCell (Δ e 4) (AA iU (Bz c))=bN at*
   have co:=Ac b0
   replace aG:Cm bN e 213 [c5,c6,c7,c8,gz iU (Bz c),l,n]:=aG
   have cI:w.heap.size<=bN:=AZ di b0.1
   clear f4 au dj b0
   refine(c4 bN b2 c).mono ?_
   rintro k b3⟨ap,ab⟩
   have cp:=Ac (co.trans (Dx.of_below ap))
   have cj:=Ac (cN.trans' (Kept.of_below ap))
   clear cN
   have g:=aG.ξ ap
   have bW:=b2.trans (ap.mono cI)
   clear aG b2 ap co
   cases ac:Gu s c with
   | none=>
     rw [ac]at ab
     dsimp only at ab
     subst ab
     have M:Hid (FC s key=jw):=Ac (by rw [<-X.out,ES,lg ar,ac])
     have f0:=g.frozen 0
     have f1:=g.frozen 1
     have f2:=g.frozen 2
     have f3:=g.frozen 3
     have be:=g.cell 0
     have bg:=g.cell 1
     have bh:=g.cell 2
     have bi:=g.cell 3
     simp only [Ai,Af]at be bg bh bi
     clear ac X
     go_wp2
     refine bodyPost_ret (v:= iJ #[fM jw 0 0,fM jw 0 0,gz iU 5]) (by simp [results,results105,go_sem]) rfl ?_
     refine⟨(((bW.setCell (p:=Φ e) u _).setCell (p:=Δ e 1) u _).setCell (p:=Δ e 2) u _).setCell (p:=Δ e 3) u _,?_⟩
     rw [M.out]
   | some a=>
     rw [ac]at ab
     dsimp only at ab
     obtain⟨v,rfl,q,t,z,C,B,D,rfl,cR,cS,cT⟩:=ab
     have ce:=Ac (show cO b3 w (iK #[fM q a.pre.length t,a.val,fM z a.labels.length C,fM B a.kids.length D]) a from cO.mono ⟨q,t,z,C,B,D,rfl,cR,cS,cT⟩ cI)
     have bm:=Ac ac
     clear ac cR cS cT
     have f0:=g.frozen 0
     have f1:=g.frozen 1
     have f2:=g.frozen 2
     have f3:=g.frozen 3
     have be:=g.cell 0
     have bg:=g.cell 1
     have bh:=g.cell 2
     have bi:=g.cell 3
     have au:=g.cell 4
     have cW:=g.cell 5
     have cX:=g.cell 6
     simp only [Ai,Af]at be bg bh bi au cW cX
     obtain⟨cV,cJ,cK⟩:=bl.out
     have ca:=(((g.Be 0 (Ad q a.pre.length t)).Be 1 (AA iV (a.val.toNat:Int))).Be 2 (Ad z a.labels.length C)).Be 3 (Ad B a.kids.length D)
     have bj:=(((bW.setCell (p:=Φ e) u (Ad q a.pre.length t)).setCell (p:=Δ e 1) u (AA iV (a.val.toNat:Int))).setCell (p:=Δ e 2) u (Ad z a.labels.length C)).setCell (p:=Δ e 3) u (Ad B a.kids.length D)
     have cq:=cp.trans ((((Dx.Be g 0 (Ad q a.pre.length t)).trans (Dx.Be (g.Be 0 _) 1 (AA iV (a.val.toNat:Int)))).trans (Dx.Be ((g.Be 0 _).Be 1 _) 2 (Ad z a.labels.length C))).trans (Dx.Be (((g.Be 0 _).Be 1 _).Be 2 _) 3 (Ad B a.kids.length D)))
     have ck:=cj.trans' ((((Kept.Be _ e 0 (Ad q a.pre.length t)).trans' (Kept.Be _ e 1 (AA iV (a.val.toNat:Int)))).trans' (Kept.Be _ e 2 (Ad z a.labels.length C))).trans' (Kept.Be _ e 3 (Ad B a.kids.length D)))
     obtain⟨bB,bo,bx,aL,b6⟩:=lM (FN cJ ck (.inl bd.out)) (((((Dx.Be g 0 (Ad q a.pre.length t)).trans (Dx.Be (g.Be 0 _) 1 (AA iV (a.val.toNat:Int)))).trans (Dx.Be ((g.Be 0 _).Be 1 _) 2 (Ad z a.labels.length C))).trans (Dx.Be (((g.Be 0 _).Be 1 _).Be 2 _) 3 (Ad B a.kids.length D))).nd ce.out) cq ca bj
     have ch:=Ac (bx.pls cV j cK)
     have cL:=bj.size
     have dd:j.length<=1000000:=by have:=Q.out;simp at this;omega
     clear cq ck ca bj cJ cK
     go_wp2_with(at_builtin;refine BU rfl (.tmp 42) (.tmp 44) 207 rfl Tryz.Am7 ((((b3.setCell (Φ e) (Ad q a.pre.length t)).setCell (Δ e 1) (AA iV (a.val.toNat:Int))).setCell (Δ e 2) (Ad z a.labels.length C)).setCell (Δ e 3) (Ad B a.kids.length D)) w u10 j.length cV.flatten [Ad q a.pre.length t,AA iV (a.val.toNat:Int),Ad z a.labels.length C,Ad B a.kids.length D,gz iU (Bz c),l,n] rfl bB.out rfl b3 1 rfl (by simp [DL,RN]) rfl U (by simp [Value.oneCell']) dd U cL ?_;intro H N a4 cs cr bQ cQ;have br:=(bQ.2 e aL.lt bd.out).trans aL.out;obtain⟨a5,a6,a7,a8,a9,ba,bb⟩:=Fh br)
     have a1:=Dx.kept bB.out bQ
     have cn:Hid (Cm a4 e 213 [fM q a.pre.length t,a.val,fM z a.labels.length C,fM B a.kids.length D,gz iU (Bz c),l,n]):=Ac br
     obtain⟨ci,bp,bq,b4⟩:=lL (Qs.app ch.out (p:=⟨a,Bz c,l,n⟩) ⟨_,_,_,_,rfl,bo.out⟩ a1 cs) ((bx.trans a1).rs bw.out) (a1.nd bo.out) (b6.trans cr)
     have b7:Hid (e≠H):=Ac (λk=>by
      rcases cQ with cu| cu
      ·exact bd (by rw [cu,k])
      ·exact Nat.lt_irrefl _ (Nat.lt_of_lt_of_le aL.lt (Nat.le_trans cu (Nat.le_of_eq k.symm))))
     clear a1 br cs cr bQ cQ bB ch bo bx aL b6 bl bw al bd bc ce cp cj g bW f0 f1 f2 f3 be bg bh bi au cW cX cL
     obtain⟨dr,ds,c9⟩:=Om bm.out
     obtain⟨f,aW⟩:=ε (oW a.pre i)
     have df:i.length<=4294967296:=by have:=Q.out;simp at this;omega
     refine(NZ q A a.pre.length i.length t o a.pre i a4 O df (by obtain⟨_,_,_,_,_,_,k,dn,_,_⟩:=bq.out;simp only [Value.agg.injEq]at k;simp at k;obtain⟨⟨rfl,rfl⟩,_⟩:=k;exact(Dk dn).2) bp.1).mono ?_
     rintro k G⟨rfl,cC⟩
     rw [<-aW]
     have ae:=cC.below a4
     have a2:Dx 213 a4 G:=Dx.of_below ae
     have bs:=cn.out.ξ ae
     have bE:Hid (Qs G w (fM (jm (Φ H)) (j.length+1) N) (j++[⟨a,Bz c,l,n⟩])):=Ac (by
      obtain⟨K,I,J⟩:=ci.out
      exact⟨K,FN I (Kept.of_below (r:=jw) ae) (.inl (by simp [AY])),a2.pls _ _ J⟩)
     obtain⟨aw,cY,bk,c2⟩:=lL (a2.rs bp.out) (a2.nd bq.out) (τ b4.out ae) bs
     obtain⟨a5,a6,a7,a8,a9,ba,bb⟩:=Fh bs
     have av:Hid ((if f<a.pre.length\/f=i.length then jm (j++[⟨a,Bz c,l,n⟩],i)else
      match Ru a (i.getD f 0)with
      | none=>jm (j++[⟨a,Bz c,l,n⟩],i)
      | some (a0,m)=>ES s Z a0 (i.drop (f+1)) (i.getD f 0) (Bz c+8*m) (j++[⟨a,Bz c,l,n⟩]))=FC s key):=Ac (by
      rw [<-X.out,ES,lg ar,bm.out,aW]
      rfl)
     have c3:=Ac aW
     clear cC ae a2 bs ci bp bq b4 cn aW X
     by_cases T:f<a.pre.length\/f=i.length
     ·have M:Hid (FC s key=jm (j++[⟨a,Bz c,l,n⟩],i)):=Ac (by rw [<-av.out,kX T])
      have ct:yK s key w (iO (iJ #[fM (jm (Φ H)) (j.length+1) N,fM A i.length o,gz iU 0])) G:=by
       refine⟨bk.out,?_⟩
       rw [M.out]
       exact⟨_,A,o,rfl,bE.out,aw.out,Q.2.1⟩
      have cd:=Ac ct
      clear ct M av
      by_cases V:f<a.pre.length
      ·have t1:=dT ((f:Int)<(a.pre.length:Int))
       have cU:=dT (f<a.pre.length) V
       clear T V
       go_wp2
       refine bodyPost_ret (v:= iJ #[fM (jm (Φ H)) (j.length+1) N,fM A i.length o,gz iU 0]) (by simp [results,results105,go_sem]) rfl cd.out
      ·have t1:=dF ((f:Int)<(a.pre.length:Int))
       have cU:=dF (f<a.pre.length) V
       have t2:((f:Int)==(i.length:Int))=true:=by rw [beq_iff_eq];omega
       clear T V
       go_wp2
       refine bodyPost_ret (v:= iJ #[fM (jm (Φ H)) (j.length+1) N,fM A i.length o,gz iU 0]) (by simp [results,results105,go_sem]) rfl cd.out
     ·have V:¬f<a.pre.length:=λk=>T (.inl k)
      have dh:f≠i.length:=λk=>T (.inr k)
      have bX:f<i.length:=by have:=LM a.pre i;rw [<-c3.out]at this;omega
      have ah:=Ac av.out
      rw [lg T]at ah
      have t1:=dF ((f:Int)<(a.pre.length:Int))
      have cU:=dF (f<a.pre.length) V
      have t2:((f:Int)==(i.length:Int))=false:=ζ O
      obtain⟨b,ad,rfl,hb,cB⟩:=aw.1.2 O
      have cA:G.cell? (Δ b (ad+f))=jm (gz .u8 ((i.getD f 0).toNat:Int)):=by
       rw [cB f bX,CP,Ag bX,Bv,Ag bX];rfl
      generalize i.getD f 0=y at*
      clear cB av T V dh
      have az:=Ac (λ(am:jT)(ao:η G am)=>Avl ((Dx.of_below ao).nd cY.out) O O O y)
      cases S:Ru a y with
      | none=>
        have bA:=Ac (Ait S)
        rw [bA.out]at az
        have M:Hid (FC s key=jm (j++[⟨a,Bz c,l,n⟩],i)):=Ac (by rw [<-ah.out,S])
        clear S ah
        go_wp2_with fail
        go_region_with(go_at_call 161;go_loud(refine(az _ (mX _)).mono ?_;rintro k P⟨rfl,aq⟩))
        all_goals(have E:=((Dr.drew G).below G).trans aq;have W:Dx 213 G P:=Dx.of_below E)
        all_goals(have aI:Hid (Qs P w (fM (jm (Φ H)) (j.length+1) N) (j++[⟨a,Bz c,l,n⟩])):=Ac (by
         obtain⟨K,I,J⟩:=bE.out
         exact⟨K,FN I (Kept.of_below (r:=jw) E) (.inl (by simp [AY])),W.pls _ _ J⟩))
        all_goals(have aD:=Ac (W.rs aw.out);have aE:=Ac (τ bk.out E);clear E W aq;go_wp2_with fail)
        all_goals(refine bodyPost_ret (v:= iJ #[fM (jm (Φ H)) (j.length+1) N,fM (jm (Δ b ad)) i.length o,gz iU 0]) (by simp [results,results105,go_sem]) rfl ?_)
        all_goals(refine⟨aE.out,?_⟩)
        all_goals(rw [M.out];exact⟨_,_,o,rfl,aI.out,aD.out,Q.2.1⟩)
      | some dl=>
        obtain⟨a0,m⟩:=dl
        have bA:=Ac (Ais S)
        rw [bA.out]at az
        have dw:=Adk S c9
        have cZ:Hid (ES s Z a0 (i.drop (f+1)) y (Bz c+8*m) (j++[⟨a,Bz c,l,n⟩])=FC s key):=Ac (by rw [<-ah.out,S])
        have dx:IntKind.i64.wrap (8*(m:Int))=8*(m:Int):=wrap64 _ O O
        have dg:=Yl bM.out bm.out
        have dy:IntKind.i64.wrap (Bz c+8*(m:Int))=Bz c+8*(m:Int):=wrap64 _ O O
        have dz:IntKind.i64.wrap ((f:Int)+1)=(f:Int)+1:=wrap64 _ O (by have:=Q.out;simp at this;omega)
        clear dg
        clear S ah
        go_wp2_with fail
        go_region_with(go_at_call 161;go_loud(refine(az _ (mX _)).mono ?_;rintro k P⟨rfl,aq⟩))
        all_goals(have E:=((Dr.drew G).below G).trans aq;have W:Dx 213 G P:=Dx.of_below E)
        all_goals(have aI:Hid (Qs P w (fM (jm (Φ H)) (j.length+1) N) (j++[⟨a,Bz c,l,n⟩])):=Ac (by
         obtain⟨K,I,J⟩:=bE.out
         exact⟨K,FN I (Kept.of_below (r:=jw) E) (.inl (by simp [AY])),W.pls _ _ J⟩))
        all_goals(obtain⟨aD,aE,R⟩:=l9 (W.rs aw.out) (τ bk.out E) (c2.out.ξ E);have c0:=(E.cell (p:=Δ b (ad+f)) hb).trans cA;clear E W aq;clear cA a5 a6 a7 a8 a9 ba bb;obtain⟨a5,a6,a7,a8,a9,ba,bb⟩:=Fh R.out;have f5:=R.frozen 5;have f6:=R.frozen 6;go_wp2_with fail)
        all_goals(go_region)
        all_goals(have cb:=(R.Be 5 (AA .u8 (y.toNat:Int))).Be 6 (AA iU (Bz c+8*(m:Int)));have b1:=(Dx.Be R.out 5 (AA .u8 (y.toNat:Int))).trans (Dx.Be (R.Be 5 (AA .u8 (y.toNat:Int))) 6 (AA iU (Bz c+8*(m:Int))));have cP:=(Kept.Be P e 5 (AA .u8 (y.toNat:Int))).trans' (Kept.Be _ e 6 (AA iU (Bz c+8*(m:Int))));have b8:=(aE.setCell (p:=Δ e 5) u (AA .u8 (y.toNat:Int))).setCell (p:=Δ e 6) u (AA iU (Bz c+8*(m:Int)));have cD:=(Dr.drew ((P.setCell (Δ e 5) (AA .u8 (y.toNat:Int))).setCell (Δ e 6) (AA iU (Bz c+8*(m:Int))))).below w;obtain⟨an,Y⟩:=ε (World.drew ((P.setCell (Δ e 5) (AA .u8 (y.toNat:Int))).setCell (Δ e 6) (AA iU (Bz c+8*(m:Int))))))
        all_goals(have bL:Hid (Qs an w (fM (jm (Φ H)) (j.length+1) N) (j++[⟨a,Bz c,l,n⟩])):=Ac (by
         obtain⟨K,I,J⟩:=aI.out
         rw [Y]
         exact⟨K,FN I cP (.inl (by simp [AY,b7.out])),(b1.trans (Dx.of_below (mX _))).pls _ _ J⟩))
        all_goals(have c1:Hid (TY an w (jm (Δ b ad)) i):=Ac (by rw [Y];exact b1.rs aD.out))
        all_goals(have b9:Hid (η w an):=Ac (by rw [Y];exact b8.trans cD))
        all_goals(have dm:Hid (Cm an e 213 [fM q a.pre.length t,a.val,fM z a.labels.length C,fM B a.kids.length D,gz iU (Bz c),y,gz iU (Bz c+8*(m:Int))]):=Ac (by rw [Y];exact cb))
        all_goals(rw [<-Y];clear cb b1 cP b8 cD Y R aI aD aE a5 a6 a7 a8 a9 ba bb f5 f6 c0;go_wp2_with fail)
        all_goals(go_quiet(fail))
        all_goals(have⟨dt,db,du⟩:=Q.out;go_roundw)
        all_goals first
         | (case measure=>(simp [lenOf];omega))
         | (case rel=>
            refine⟨_,_,_,_,_,_,_,_,_,_,_,_,_,_,_,_,_,_,_,_,_,_,_,_,_,_,_,_,_,_,_,_,_,_,_,_,_,_,_,_,_,_,_,_,_,_,_,_,_,_,_,_,_,_,_,_,_,_,_,_,_,_,_,_,_,_,_,_,_,_,_,_,_,_,_,_,?_,rfl⟩
            refine⟨Z,(if o=f+1 then jm (Δ b ad)else jm (Δ b (ad+(f+1)))),o- (f+1),i.drop (f+1),a0,y,Bz c+8*(m:Int),j++[⟨a,Bz c,l,n⟩],_,_,_,_,_,(by rw [AU]),rfl,cZ.out,(by rw [AU];omega),(by rw [AU];omega),(by rw [AO,AU];simp only [List.length_singleton];omega),dm.out,?_,(by simp [AY,b7.out]),c1.cut (f+1) O db,?_⟩
            ·first
             | (have dk:=bL.out;rw [AO];exact dk)
             | exact bL.out
             | (obtain⟨K,I,J⟩:=bL.out;exact⟨K,I,(Dx.of_below ((Dr.one an _).below _)).pls _ _ J⟩)
            ·first
             | exact b9.out
             | exact b9.trans ((Dr.one _ _).below _))
end
structure Aiv(L:Nat)(pl:Pl):Prop where
 word:∃j:Nat,pl.word=((8*j:Nat):Int)/\j<8*L
 off:∃o:Nat,pl.off=((8*o:Nat):Int)/\o+8<=8*L
 right:CG pl.nd=jO
 kids:pl.nd.kids.length<=16
 labels:pl.nd.labels.length<=16
def Agk{L:Nat}{s:St}(j:mV L s.sh)(k:s.tk.length=s.sh.CE){a:ni}{d:Nd}(h:Gu s a=jm d):
 CG d=jO/\∃i:Nat,Bz a=((8*i:Nat):Int)/\i+(if d.kids.length<=4 then 8 else 32)<=8*L:=by
 unfold Gu at h;split at h
 ·cases h
 ·rename_i e;obtain⟨p,l,m,o,n,t⟩:=Yj e;split at h
  ·rename_i f;injection h with h
   subst h;have b:=f;unfold JK at b;simp only[Bool.and_eq_true,decide_eq_true_eq]at b;have c:=I8 (FY (wordsAt s.ws ((Bz a).toNat/8) (8*Bq (Ed s (Bz a)))));rw[b.2.2]at c;have g:(wordsAt s.ws ((Bz a).toNat/8) (8*Bq (Ed s (Bz a)))).length=8*Bq (Ed s (Bz a)):=by simp[wordsAt]
   rw[g]at c;refine⟨b.2.1,(s.sh.data+1024*p+64*Bq (Ed s (Bz a))*l)/8,?_⟩;rw[<-c];have q:=j.fits;have r:=j.data;rw[k]at m;clear c g b f e;generalize Bq (Ed s (Bz a))=u at*;generalize Bz a=v at*;subst o;rcases n with rfl|rfl<;>constructor<;>omega
  ·cases h
def Avs{b:Nd}{a:nC}{k:ni}{c:Nat}(h:Ru b a=jm (k,c)):c<(if b.kids.length<=4 then 8 else 32):=by
 unfold Ru Kq at h;split at h
 ·rename_i o e;obtain⟨f,i,_⟩:=NG.1 e;split at h
  ·rename_i j;obtain⟨_,_,n,g,_⟩:=(BD _).1 j;have m:a.toNat<16:=by
    have:=List.all_eq_true.1 g _ (BO f);simp only[beq_iff_eq]at i;unfold DW at this;simp only[decide_eq_true_eq]at this;omega
   injection h with h
   injection h with l d
   subst d;split
   ·omega
   ·omega
  ·cases h
 ·cases h
def pq{L:Nat}{s:St}(v:mV L s.sh)(p:s.tk.length=s.sh.CE):∀(f:Nat)(n:ni)(nM:List nC)(m:nC)(k:Int)(i e:List Pl)(g:List nC),
 (∃j:Nat,k=((8*j:Nat):Int)/\j<8*L)->(∀c∈i,Aiv L c)->ES s f n nM m k i=jm (e,g)->(∀c∈e,Aiv L c)/\g.length<=nM.length
 |0,n,nM,m,k,i,e,g,t,l,h=>by
  rw[ES]at h;injection h with h
  injection h with a b
  subst a b;exact⟨l,Ae _⟩
 |f+1,n,nM,m,k,i,e,g,t,l,h=>by
  rw[ES]at h;split at h
  ·injection h with h
   injection h with a b
   subst a b;exact⟨l,Ae _⟩
  ·split at h
   ·cases h
   ·rename_i C r;obtain⟨y,u,q,z⟩:=Agk v p r;obtain⟨G,w,x⟩:=Om r;have o:∀c∈i++[⟨C,Bz n,m,k⟩],Aiv L c:=by
     intro c d;rcases AP.1 d with d|d
     ·exact l c d
     ·rw[BB]at d;subst d;exact⟨t,⟨u,q,by split at z<;>omega⟩,y,w,x⟩
    split at h
    ·injection h with h
     injection h with a b
     subst a b;exact⟨o,Ae _⟩
    ·split at h
     ·injection h with h
      injection h with a b
      subst a b;exact⟨o,Ae _⟩
     ·rename_i B D A;have H:=Avs A;obtain⟨E,F⟩:=pq v p f B _ _ _ _ e g ⟨u+D,by rw[q];omega,O⟩ o h;refine⟨E,?_⟩;rw[AU]at F;omega
def V9{L:Nat}{s:St}(d:mV L s.sh)(e:1<L)(c:s.tk.length=s.sh.CE){key:List nC}{b:List Pl}{nM:List nC}(h:FC s key=jm (b,nM)):(∀a∈b,Aiv L a)/\nM.length<=2*key.length:=by
 have:=pq d c _ _ _ _ _ _ _ _ ⟨9,rfl,O⟩ (by intro a h;cases h) h;rw[iT]at this;exact this
def UX:∀(a b:List nC),oW a b=a.length->oW a b=b.length->a=b:=by
 intro a b c d;induction a generalizing b with
 |nil=>cases b with
  |nil=>rfl
  |cons i t=>simp[oW]at d
 |cons x t f=>cases b with
  |nil=>simp[oW]at c
  |cons i g=>
   simp only[oW]at c d;split at c
   ·rename_i e;rw[kX e]at d;simp only[Bg]at c d;rw[f g O O]
    simp_all
   ·simp at c
def zv(k:Int):Value:=gz iU k
abbrev pz(w:jT)(x d p L:Nat)(q:Ms)(F:Nat->Prop):Prop:=KH q.pw.mode w x d p L q.s F
structure QK(w:jT)(pI jb x d p L:Nat)(j:Jm)(F:Nat->Prop)(v:ku):Prop where
 ix:pz w x d p L j.s F
 box:Cm w jb 255 [AB x,v]
 row:w.ownsRow pI 3 1 v j.made.length (j.made.map zv)
 fj:¬F jb
 bj:pI<=jb
 bx:x<pI
 bt:0<pI/\1<pI
 mj:v.ownBlock≠jm jb
 mF:∀b,v.ownBlock=jm b->¬F b
 mb:∀o∈j.made,-9223372036854775808<=o/\o<=9223372036854775807
def GV(w:jT)(pI jb x d p L:Nat)(j:Jm)(G:Nat->Prop):Prop:=∃F v,QK w pI jb x d p L j F v/\∀b,G b<->(F b\/b=jb\/v.ownBlock=jm b)
section
variable{w w':jT}{pI jb x d p L:Nat}{j:Jm}{F G:Nat->Prop}{v:ku}
def QK.xj(h:QK w pI jb x d p L j F v):x≠jb:=Ψ h.bj h.bx
def QK.mlt(h:QK w pI jb x d p L j F v):∀b,v.ownBlock=jm b->pI<=b/\b<w:=by
 intro b hb;rcases h.row.2 with⟨a,_⟩|⟨i,f,g,a,c,e,_⟩
 ·subst a;simp[AY]at hb
 ·subst a;simp only[AY,Option.some.injEq]at hb;subst hb;exact⟨c,(AL.1 e).1⟩
def QK.mx(h:QK w pI jb x d p L j F v):v.ownBlock≠jm x:=λa=>Ψ ((h.mlt x a).1) h.bx
def QK.below(h:QK w pI jb x d p L j F v)(k:η w w'):QK w' pI jb x d p L j F v:=
 ⟨h.ix.below k,h.box.ξ k,FN h.row (Kept.of_below (r:=jm jb) k) (.inl (λa=>h.mj a.symm)),h.fj,h.bj,h.bx,h.bt,h.mj,h.mF,h.mb⟩
def GV.below(h:GV w pI jb x d p L j G)(k:η w w'):GV w' pI jb x d p L j G:=by
 obtain⟨F,v,h,a⟩:=h;exact⟨F,v,h.below k,a⟩
def GV.lt(h:GV w pI jb x d p L j G):∀b,G b->b<w:=by
 obtain⟨F,v,h,c⟩:=h;intro b hb;rcases(c b).1 hb with a|rfl|a
 ·exact h.ix.sys.lt b a
 ·exact h.box.lt
 ·exact(h.mlt b a).2
def QK.move(h:QK w pI jb x d p L j F v)(f:∀b,G b<->(F b\/b=jb\/v.ownBlock=jm b)){s':Ms}{a:Nat->Prop}(k:LY w' d p L s' a)(m:AQ F a w w'):
 ∃G',QK w' pI jb x d p L {j with s:=s'} a v/\(∀b,G' b<->(a b\/b=jb\/v.ownBlock=jm b))/\AQ G G' w w':=by
 have l:=h.box.lt;refine⟨λb=>a b\/b=jb\/v.ownBlock=jm b,⟨h.ix.move k m,h.box.touch m.touch h.fj,Ie h.row m.touch h.mF,λc=>(m.own _ c).elim h.fj (λg=>O),h.bj,h.bx,h.bt,h.mj,λb hb c=>(m.own _ c).elim (h.mF b hb) (λg=>Ω ((h.mlt b hb).2)),h.mb⟩,λ_=>Iff.rfl,m.touch.mono (λb hb=>(f b).2 (.inl hb)),λb hb=>?_⟩;rcases hb with e|e
 ·exact(m.own b e).imp (λi=>(f b).2 (.inl i)) id
 ·exact .inl ((f b).2 (.inr e))
def QK.app(h:QK w pI jb x d p L j F v)(k:∀b,G b<->(F b\/b=jb\/v.ownBlock=jm b)){o:Int}(A: -9223372036854775808<=o/\o<=9223372036854775807){g c:Nat}{i:jT}
 (C:i.ownsRow pI 3 1 (fM (jm (Φ g)) (j.made.length+1) c) (j.made.length+1) (j.made.map zv++[zv o]))(hb:Below pI w i)(m:Kept w i v.ownBlock)(l:v.ownBlock=jm g\/w<=g):
 ∃G',QK (i.setCell (Δ jb 1) (fM (jm (Φ g)) (j.made.length+1) c)) pI jb x d p L {j with made:=j.made++[o]} F (fM (jm (Φ g)) (j.made.length+1) c)/\
  (∀b,G' b<->(F b\/b=jb\/(Ad (jm (Φ g)) (j.made.length+1) c).ownBlock=jm b))/\AQ G G' w (i.setCell (Δ jb 1) (fM (jm (Φ g)) (j.made.length+1) c)):=by
 have z:=h.box.lt;have r:g≠jb:=by
  rintro rfl;rcases l with a|a
  ·exact h.mj a
  ·omega
 have y:¬F g:=by
  intro q;rcases l with a|a
  ·exact h.mF g a q
  ·have:=h.ix.sys.lt g q;omega
 have t1:Touch (λb=>v.ownBlock=jm b) w i:=⟨hb.os,hb.tape,hb.output,m.1,λb f n=>m.2 b f (λa=>n a.symm)⟩;have t2:Touch (λb=>b=jb\/v.ownBlock=jm b) w (i.setCell (Δ jb 1) (fM (jm (Φ g)) (j.made.length+1) c)):=(t1.mono (λb=>.inr)).setCell (p:=Δ jb 1) (.inl (.inl rfl)) _;have t:∀{b:Nat},b<pI->¬(b=jb\/v.ownBlock=jm b):=by
  intro b f a;rcases a with rfl|a
  ·have:=h.bj;omega
  ·have:=(h.mlt b a).1;omega
 have D:LY (i.setCell (Δ jb 1) (fM (jm (Φ g)) (j.made.length+1) c)) d p L j.s F:=h.ix.sys.keep t2 (λb f n=>n.elim (λa=>h.fj (a▸f)) (λa=>h.mF b a f)) (t h.bt.1) (t h.bt.2);have u:Cm i jb 255 [AB x,v]:=(m.2 jb z (λa=>h.mj a.symm)).trans h.box;refine⟨λb=>F b\/b=jb\/(Ad (jm (Φ g)) (j.made.length+1) c).ownBlock=jm b,⟨⟨D,h.ix.box.touch t2 (λa=>a.elim h.xj h.mx),h.ix.out⟩,u.Be 1 _,?_,h.fj,h.bj,h.bx,h.bt,by simp[AY,r],?_,?_⟩,λ_=>Iff.rfl,?_⟩
 ·have:=FN C (Kept.Be i jb 1 (fM (jm (Φ g)) (j.made.length+1) c)) (.inl (by simp[AY,Ne.symm r]));simpa using this
 ·intro b f;simp only[AY,Option.some.injEq]at f;exact f▸y
 ·intro E B;rcases AP.1 B with e|e
  ·exact h.mb E e
  ·rw[BB]at e;exact e▸A
 ·refine⟨t2.mono (λb f=>(k b).2 (.inr f)),λb f=>?_⟩;rcases f with e|e|e
  ·exact .inl ((k b).2 (.inl e))
  ·exact .inl ((k b).2 (.inr (.inl e)))
  ·simp only[AY,Option.some.injEq]at e;rcases l with a|a
   ·exact .inl ((k b).2 (.inr (.inr (e▸a))))
   ·exact .inr (e▸a)
def AQ.out{G':Nat->Prop}(m:AQ G G' w w'){b:Nat}(hb:b<w)(h:¬G b):¬G' b:=λa=>(m.own b a).elim h (λc=>O)
end
def QX:∀(a b:List nC),Op.bytesLess a b=jS->Op.bytesLess b a=jO\/a=b
 |[],[],_=>.inr rfl
 |[],_::_,h=>by simp[Op.bytesLess]at h
 |_::_,[],_=>.inl rfl
 |x::a,e::b,h=>by
  simp only[Op.bytesLess,Bool.or_eq_false_iff,decide_eq_false_iff_not,Bool.and_eq_false_iff,beq_eq_false_iff_ne]at h;obtain⟨f,g⟩:=h;simp only[Op.bytesLess,Bool.or_eq_true,decide_eq_true_eq,Bool.and_eq_true,beq_iff_eq,List.cons.injEq];by_cases d:x=e
  ·subst d;have i:=g.resolve_left (λh=>h rfl);rcases QX a b i with c|c
   ·exact .inl (.inr ⟨rfl,c⟩)
   ·exact .inr ⟨rfl,c⟩
  ·refine .inl (.inl ?_);rw[UInt8.lt_iff_toNat_lt]at f⊢;have:x.toNat≠e.toNat:=λh=>d (UInt8.toNat_inj.1 h)
   omega
def DC:∀(a:List nC),Op.bytesLess a a=jS
 |[]=>rfl
 |x::a=>by simp[Op.bytesLess,DC a]
def Ji:∀(a b c:List nC),Op.bytesLess a b=jO->Op.bytesLess b c=jO->Op.bytesLess a c=jO
 |_,[],_,h,_=>by simp[Op.bytesLess]at h
 |_,_::_,[],_,h=>by simp[Op.bytesLess]at h
 |[],_::_,_::_,_,_=>rfl
 |x::a,e::b,f::c,h,d=>by
  simp only[Op.bytesLess,Bool.or_eq_true,decide_eq_true_eq,Bool.and_eq_true,beq_iff_eq]at h d⊢;simp only[UInt8.lt_iff_toNat_lt]at h d⊢;rcases h with h|⟨rfl,h⟩
  ·rcases d with d|⟨rfl,d⟩
   ·exact .inl O
   ·exact .inl h
  ·rcases d with d|⟨rfl,d⟩
   ·exact .inl d
   ·exact .inr ⟨rfl,Ji a b c h d⟩
structure Wr where
 key:nG
 text:nG
 gone:Bool
def D5(x:Wr):Bool:=decide (x.key.size<=16)&&decide (x.text.size<=40)&&(!x.gone||decide (x.text.size=0))
def Gf(x:Wr)(key:nG):Bool:=Op.bytesLess x.key.toList key.toList
def Hf(s:List Wr)(key:nG):Nat:=s.findIdx λx=> !Gf x key
def ny(s:List Wr)(key:nG):Bool:=match s[Hf s key]? with
 |some x=>x.key.toList==key.toList
 |none=>jS
def L8(s:List Wr)(key:nG):Option Wr:=if ny s key then s[Hf s key]? else jw
def QY(s:List Wr):Prop:=s.Pairwise λa b=>Gf a b.key=jO
def IV(s:List Wr)(x:Wr):List Wr×Int:=
 if D5 x=jS then(s,2)else if ny s x.key then(s.set (Hf s x.key) x,0)else if 16<=s.length then(s,3)else
 (s.take (Hf s x.key)++x::s.drop (Hf s x.key),0)
def iW(s:List Wr)(key:nG):Hf s key<=s.length:=List.findIdx_le_length
def iY{s:List Wr}{key:nG}{i:Nat}(hi:i<s.length)(h1:Gf s[i] key=jS)(h2:∀j(h:j<s.length),j<i->Gf s[j] key=jO):Hf s key=i/\ny s key=(s[i].key.toList==key.toList):=by
 have h:Hf s key=i:=by
  unfold Hf;rw[List.findIdx_eq hi];exact⟨by rw[h1];rfl,λj a=>by rw[h2 j O a];rfl⟩
 refine⟨h,?_⟩;unfold ny;rw[h,Ag hi]
def Anc{s:List Wr}{key:nG}(h2:∀j(h:j<s.length),Gf s[j] key=jO):Hf s key=s.length/\ny s key=false:=by
 have h:Hf s key=s.length:=by
  unfold Hf;rw[List.findIdx_eq_length];intro x b;obtain⟨j,a,rfl⟩:=CW b;rw[h2 j a];rfl
 refine⟨h,?_⟩;unfold ny;rw[h,List.getElem?_eq_none (Ae _)]
def Adm{s:List Wr}{key:nG}(h:ny s key=jO):Hf s key<s.length:=by
 unfold ny at h;cases a:s[Hf s key]? with
 |none=>rw[a]at h;cases h
 |some x=>exact(Cf.1 a).1
def Adn{s:List Wr}{key:nG}(j:Nat)(h:j<s.length)(a:j<Hf s key):Gf s[j] key=true:=by
 unfold Hf at a;have:=List.not_of_lt_findIdx a;simpa using this
def Aiw{s:List Wr}{key:nG}(h:Hf s key<s.length):Gf s[Hf s key] key=false:=by
 have a:(!Gf s[Hf s key] key)=true:=List.findIdx_getElem (xs:=s) (p:=λx=> !Gf x key) (w:=h);cases b:Gf s[Hf s key] key with
 |false=>rfl
 |true=>rw[b]at a;cases a
def QY.lt{s:List Wr}(h:QY s){i j:Nat}(hi:i<s.length)(b:j<s.length)(a:i<j):Gf s[i] s[j].key=true:=by
 unfold QY at h;exact nX.1 h i j hi b a
def QY.left{s:List Wr}(h:QY s){key:nG}{i:Nat}(hi:i<s.length)(h1:Gf s[i] key=jO):∀j(a:j<s.length),j<i+1->Gf s[j] key=true:=λj a c=>by
 by_cases b:j=i
 ·subst b;exact h1
 ·exact Ji _ _ _ (h.lt a hi O) h1
def QY.right{s:List Wr}(h:QY s){key:nG}{i:Nat}(hi:i<s.length)(h1:Gf s[i] key=jS):∀j(a:j<s.length),i<=j->Gf s[j] key=false:=λj a d=>by
 by_cases b:j=i
 ·subst b;exact h1
 ·cases c:Gf s[j] key with
  |false=>rfl
  |true=>rw[show Gf s[i] key=jO from Ji _ _ _ (h.lt hi a O) c]at h1;cases h1
def Agl{s:List Wr}(h:QY s)(x:Wr):QY (IV s x).1:=by
 unfold IV;split
 ·exact h
 ·split
  ·rename_i d;have f:=Adm d;have k:s[Hf s x.key].key.toList=x.key.toList:=by
    unfold ny at d;rw[Ag f]at d;exact eq_of_beq d
   generalize Hf s x.key=c at f k;unfold QY;rw[nX];intro q j i a w;simp only[List.length_set]at i a;rw[MX,MX];have e:=h.lt i a w;split
   ·rename_i m;subst m;rw[lg O];unfold Gf at e⊢;rw[<-k];exact e
   ·split
    ·rename_i m t;subst t;unfold Gf at e⊢;rw[<-k];exact e
    ·exact e
  ·split
   ·exact h
   ·rename_i d B;have v:ny s x.key=false:=by simpa using d
    obtain⟨c,l⟩:∃c,Hf s x.key=c:=⟨_,rfl⟩;have y:=iW s x.key;have p:∀j(h:j<s.length),j<c->Gf s[j] x.key=true:=λj h a=>Adn j h (l▸a)
    have z:∀j(h:j<s.length),c<=j->Op.bytesLess x.key.toList s[j].key.toList=true:=λj a C=>by
     have f:c<s.length:=O;have n:Gf s[c] x.key=false:=by
      have:=Aiw (s:=s) (key:=x.key) O;simpa only[l]using this
     have o:(s[c].key.toList==x.key.toList)=false:=by
      have g:ny s x.key=_:=(iY f n p).2;rw[<-g];exact v
     have g:Op.bytesLess x.key.toList s[c].key.toList=true:=(QX _ _ n).resolve_right (by rw[beq_eq_false_iff_ne]at o;exact o);by_cases r:j=c
     ·subst r;exact g
     ·exact Ji _ _ _ g (h.lt f a O)
    rw[l]at y⊢;refine List.pairwise_append.2 ⟨List.Pairwise.sublist (List.take_sublist _ _) h,List.pairwise_cons.2 ⟨λb hb=>?_,List.Pairwise.sublist (List.drop_sublist _ _) h⟩,λA u b hb=>?_⟩
    ·obtain⟨j,a,rfl⟩:=CW hb;simp only[AU]at a;rw[bF];exact z _ O O
    ·obtain⟨q,i,rfl⟩:=CW u;simp only[Cc]at i;rw[List.getElem_take];rcases Cb.1 hb with rfl|hb
     ·exact p q O O
     ·obtain⟨j,a,rfl⟩:=CW hb;simp only[AU]at a;rw[bF];exact h.lt O O O
def yM(s:List Wr)(x:Wr):(IV s x).1.length<=max s.length 16:=by
 unfold IV;split
 ·simp;omega
 ·split
  ·simp;omega
  ·split
   ·simp;omega
   ·have:=iW s x.key;simp only[AO,Cc,Bg,AU];omega
def iZ{s:List Wr}(h:∀b∈s,D5 b=jO)(x:Wr):∀b∈(IV s x).1,D5 b=true:=by
 unfold IV;split
 ·exact h
 ·rename_i e;have d:D5 x=true:=by simpa using e
  split
  ·intro b c;rcases List.mem_or_eq_of_mem_set c with a|a
   ·exact h b a
   ·rw[a];exact d
  ·split
   ·exact h
   ·intro b c;rcases AP.1 c with a|a
    ·exact h b (List.mem_of_mem_take a)
    ·rcases Cb.1 a with a|a
     ·rw[a];exact d
     ·exact h b (List.mem_of_mem_drop a)
structure Wt where
 ats:Nat->ni
 ops:Nat->Bool
def isOpen(t:Wt)(i:Nat):Bool:=t.ops i
def Ars(t:Wt)(i:Nat):ni:=t.ats i
def IW{a:Type}(f:Nat->a)(i:Nat)(x:a)(k:Nat):a:=if k=i then x else f k
def MM(t:Wt):Option Nat:=(Ea 8).find? λa=> !t.ops a
def setW(t:Wt)(i:Nat)(x:ni)(b:Bool):Wt:={ats:=IW t.ats i x,ops:=IW t.ops i b}
def Ey(t:Wt)(id:Int):Bool:=decide (0<=id)&&(decide (id<8)&&t.ops id.toNat)
def PI(t:Wt):List ni:=((Ea 8).filter (isOpen t)).map (Ars t)
def Eo(t:Wt)(d:ni):ni:=match PI t with
 |[]=>d
 |b::c=>c.foldl (λx a=>if a.toNat<x.toNat then a else x) b
def TZ:∀(l:List ni)(a:ni),(l.foldl (λx c=>if c.toNat<x.toNat then c else x) a∈a::l)/\∀c∈a::l,(l.foldl (λx c=>if c.toNat<x.toNat then c else x) a).toNat<=c.toNat
 |[],a=>by simp
 |b::l,a=>by
  have g:(if b.toNat<a.toNat then b else a)=a\/(if b.toNat<a.toNat then b else a)=b:=by split<;>simp
  have j:(if b.toNat<a.toNat then b else a).toNat<=a.toNat/\(if b.toNat<a.toNat then b else a).toNat<=b.toNat:=by split<;>omega
  rw[List.foldl_cons];obtain⟨f,e⟩:=TZ l (if b.toNat<a.toNat then b else a);generalize(if b.toNat<a.toNat then b else a)=k at*;refine⟨?_,λc d=>?_⟩
  ·rcases Cb.1 f with h|h
   ·rw[h];rcases g with rfl|rfl<;>simp
   ·exact Bi _ (Bi _ h)
  ·have i:=e _ (Bf ..);rcases Cb.1 d with rfl|d
   ·omega
   ·rcases Cb.1 d with rfl|d
    ·omega
    ·exact e c (Bi _ d)
def OH{t:Wt}{x:ni}:x∈PI t<->∃a,a<8/\isOpen t a=jO/\Ars t a=x:=by
 simp only[PI,CU,List.mem_filter,GH,and_assoc]
def Ane{t:Wt}{n x:ni}(h1:∃a,a<8/\isOpen t a=jO/\Ars t a=x)(h2:∀a,a<8->isOpen t a=jO->x.toNat<=(Ars t a).toNat):Eo t n=x:=by
 unfold Eo;have b:=OH.2 h1;cases h:PI t with
 |nil=>rw[h]at b;cases b
 |cons e l=>
  obtain⟨c,f⟩:=TZ l e;rw[h]at b;have g:=f x b;rw[<-h]at c;obtain⟨a,j,k,i⟩:=OH.1 c;have d:=h2 a j k;rw[i]at d;exact Eb.1 (Nat.le_antisymm g d)
def Ado{t:Wt}{n:ni}(h:∀a,a<8->isOpen t a=jS):Eo t n=n:=by
 unfold Eo;cases d:PI t with
 |nil=>rfl
 |cons c f=>
  obtain⟨a,e,b,_⟩:=OH.1 (d▸Bf .. :c∈PI t);rw[h a e]at b;cases b
abbrev Mk:=ni×Nat
structure Tb where
 wt:Wt
 sets:Nat->List Wr
 Gn:List (nG×ni)
def GI(l:List (nG×ni))(key:nG):ni:=match l.find? (λp=>decide (p.1=key))with
 |some p=>p.2
 |none=>0
def Qu:List (nG×ni)->nG->ni->List (nG×ni)
 |[],a,x=>[(a,x)]
 |(c,b)::d,a,x=>if c=a then(a,x)::d else(c,b)::Qu d a x
def nz(x y:ni):ni:=if x.toNat<y.toNat then y else x
def yN(l:List (nG×ni))(s:List Wr)(x:ni):List (nG×ni):=s.foldl (λl w=>Qu l w.key (nz (GI l w.key) x)) l
def JH(l:List (nG×ni))(s:List Wr)(x:ni):Bool:=s.any λw=>decide (x.toNat<(GI l w.key).toNat)
def uA(a b:nG):(a==b)=decide (a=b):=by
 cases a with|mk x=>cases b with|mk c=>
 have h:((⟨x⟩:nG)==⟨c⟩)=(x==c):=rfl;rw[h,Bool.eq_iff_iff,beq_iff_eq,decide_eq_true_eq,ByteArray.mk.injEq]
def Rx:Nat->List (nG×ni)->List MapEntry
 |_,[]=>[]
 |a,(b,v)::t=>{key:=ig b,val:=gz iV (v.toNat:Int),born:=a}::Rx (a+1) t
def yO(o:nG)(v:ni):∀(l:List (nG×ni))(i:Nat),Rx i (l++[(o,v)])=Rx i l++[{key:=ig o,val:=gz iV (v.toNat:Int),born:=i+l.length}]
 |[],i=>rfl
 |(a,b)::t,i=>by
  simp only[BM,Rx,yO o v t (i+1),Bg];rw[show i+1+t.length=i+(t.length+1)by omega]
def Xo(k:nG):∀(l:List (nG×ni))(i n:Nat),(∀p∈l,p.1≠k)->Instr.findNow .string (ig k) (Rx i l) n=jm jw
 |[],_,_,_=>rfl
 |(a,b)::t,i,n,h=>by
  have d:(k==a)=false:=by rw[uA];exact decide_eq_false (λc=>h (a,b) (Bf ..) c.symm)
  simp only[Rx,Instr.findNow,Instr.sameNow,d];exact Xo k t (i+1) (n+1) (λp e=>h p (Bi _ e))
def UY(k:nG)(v:ni)(e:List (nG×ni)):∀(c:List (nG×ni))(i n:Nat),(∀p∈c,p.1≠k)->Instr.findNow .string (ig k) (Rx i (c++(k,v)::e)) n=jm (jm (n+c.length,gz iV (v.toNat:Int)))
 |[],_,_,_=>by
  have a:(k==k)=true:=by rw[uA];exact decide_eq_true rfl
  simp[Rx,Instr.findNow,Instr.sameNow,a]
 |(d,b)::t,i,n,h=>by
  have a:(k==d)=false:=by rw[uA];exact decide_eq_false (λf=>h (d,b) (Bf ..) f.symm)
  simp only[BM,Rx,Instr.findNow,Instr.sameNow,a];rw[UY k v e t (i+1) (n+1) (λp g=>h p (Bi _ g))];simp only[Bg];rw[show n+1+t.length=n+(t.length+1)by omega]
def yP(k:nG)(v d:ni)(c:List (nG×ni)):∀(a:List (nG×ni))(i:Nat),(Rx i (a++(k,v)::c)).modify a.length (λe=>{e with key:=ig k,val:=gz iV (d.toNat:Int)})=Rx i (a++(k,d)::c)
 |[],i=>rfl
 |(f,b)::t,i=>by
  simp only[BM,Rx,Bg,List.modify_succ_cons];rw[yP k v d c t (i+1)]
def Ry(w:jT)(mb:Nat)(l:List (nG×ni)):Prop:=w.heap[mb]?=jm (.map (Rx 0 l).toArray l.length)
def Ry.lt{w:jT}{mb:Nat}{l:List (nG×ni)}(h:Ry w mb l):mb<w:=(AL.1 h).1
def Ry.below{w w':jT}{mb:Nat}{l:List (nG×ni)}(h:Ry w mb l)(k:η w w'):Ry w' mb l:=(k.block _ h.lt).trans h
def UZ:∀(l:List (nG×ni))(k:nG),(∀p∈l,p.1≠k)\/∃c v e,l=c++(k,v)::e/\∀p∈c,p.1≠k
 |[],_=>.inl (λ_ h=>nomatch h)
 |(f,b)::t,k=>by
  by_cases d:f=k
  ·subst d;exact .inr ⟨[],b,t,rfl,λ_ h=>nomatch h⟩
  ·rcases UZ t k with h|⟨c,v,e,rfl,h⟩
   ·refine .inl λp a=>?_
    rcases Cb.1 a with rfl|a
    ·exact d
    ·exact h p a
   ·refine .inr ⟨(f,b)::c,v,e,rfl,λp a=>?_⟩;rcases Cb.1 a with rfl|a
    ·exact d
    ·exact h p a
def Anf{l:List (nG×ni)}{k:nG}(h:∀p∈l,p.1≠k):GI l k=0:=by
 unfold GI;rw[Rt.2 (λp a=>by simpa using h p a)]
def Aix{a c:List (nG×ni)}{k:nG}{v:ni}(h:∀p∈a,p.1≠k):GI (a++(k,v)::c) k=v:=by
 unfold GI;rw[List.find?_append,Rt.2 (λp b=>by simpa using h p b)];simp
def yQ:∀{l:List (nG×ni)}{k:nG}(x:ni),(∀p∈l,p.1≠k)->Qu l k x=l++[(k,x)]
 |[],_,_,_=>rfl
 |(a,b)::t,k,x,h=>by
  rw[Qu,lg (h (a,b) (Bf ..)),yQ x (λp c=>h p (Bi _ c))];rfl
def pF:∀{a c:List (nG×ni)}{k:nG}{v:ni}(x:ni),(∀p∈a,p.1≠k)->Qu (a++(k,v)::c) k x=a++(k,x)::c
 |[],_,k,v,x,_=>by rw[DR,Qu,kX rfl];rfl
 |(d,b)::t,c,k,v,x,h=>by
  rw[BM,Qu,lg (h (d,b) (Bf ..)),pF x (λp e=>h p (Bi _ e))];rfl
section
variable{P:Program}{t kt et:TypeId}
def SA(a:P.underlying kt=jm .string)(b:Bool)(n:Nat)(k:nG)(w:jT):(Instr.checkKey b (n+1) kt (ig k)).run P w=.ok () w:=by
 simp[Instr.checkKey,run_underlying a,Result.andThen]
def Agm(m:P.underlying t=jm (.map kt et))(j:P.underlying kt=jm .string)(n:∀a,(zeroValue et).run P a=.ok (gz iV 0) a)(a:jT)(mb:Nat)(l:List (nG×ni))(k:nG)(h:Ry a mb l):
 (Instr.lookup t (.map (jm mb)) (ig k) jS).run P a=.ok (gz iV ((GI l k).toNat:Int)) a:=by
 have e:=run_underlying (P:=P) m;have f:=run_underlying (P:=P) j;have g:=λb w=>SA (P:=P) j b 9999 k w
 have i:=Oe (P:=P) h;rcases UZ l k with c|⟨o,v,p,rfl,c⟩
 ·have d:=Xo k l 0 0 c;rw[Anf c];simp[Instr.lookup,e,f,g,i,Instr.findKey,d,n,Result.andThen]
 ·have d:=UY k v p o 0 0 c;rw[Aix c];simp[Instr.lookup,e,f,g,i,Instr.findKey,d,Result.andThen]
def Avt(B:P.underlying t=jm (.map kt et))(q:P.underlying kt=jm .string)(d:jT)(mb:Nat)(l:List (nG×ni))(k:nG)(x:ni)(h:Ry d mb l):
 (Instr.mapUpdate t (.map (jm mb)) (ig k) (gz iV (x.toNat:Int))).run P d=.ok () (EU d mb (Rx 0 (Qu l k x)).toArray (Qu l k x).length):=by
 have g:=run_underlying (P:=P) B;have j:=run_underlying (P:=P) q;have m:=λw=>SA (P:=P) q jS 9999 k w
 have n:=Oe (P:=P) h;have o:=λD=>Xc (P:=P) D h
 rcases UZ l k with e|⟨a,v,c,rfl,e⟩
 ·have f:=Xo k l 0 0 e;rw[yQ x e,yO];simp[Instr.mapUpdate,g,j,m,n,o,Instr.findKey,f,EU,Result.andThen]
 ·have f:=UY k v c a 0 0 e;have A:=yP k v x c a 0;rw[pF x e];have u:(((Rx 0 (a++(k,v)::c)).toArray[a.length]?).map (·.key)).getD (ig k)=ig k:=by
   have:∀(a:List (nG×ni))(i:Nat),(((Rx i (a++(k,v)::c))[a.length]?).map (·.key)).getD (ig k)=ig k:=by
    intro a;induction a with
    |nil=>intro i;rfl
    |cons p t C=>intro i;obtain⟨E,b⟩:=p;simpa[Rx]using C (i+1)
   simpa using this a 0
  have y:∀d,(Instr.keyThatStays (ig k) (ig k)).run P d=.ok (ig k) d:=λd=>by
   have hb:Instr.sameBits 10000 (ig k) (ig k)=true:=by
    show Instr.sameBits (9999+1) _ _=jO;simp[Instr.sameBits,uA]
   simp[Instr.keyThatStays,hb]
  have z:(a++(k,x)::c).length=(a++(k,v)::c).length:=by simp
  have s:(Rx 0 (a++(k,v)::c)).toArray.modify a.length (λr=>{r with key:=ig k,val:=gz iV (x.toNat:Int)})=(Rx 0 (a++(k,x)::c)).toArray:=by
   rw[<-A];simp
  rw[z];simp only[Du]at f;simp only[Instr.mapUpdate,Sem.run_bind,g,Result.andThen_ok,n,m,Instr.findKey,j,f,Sem.run_pure,u,y,o,s,EU]
end
structure Bk where
 ats:Nat->ni
 ops:Nat->Bool
 Iz:Nat->Mk
 many:Nat
 st:Nat->ku
 nt:Nat
def Ee(w:jT)(bk:Nat)(b:Bk):Prop:=
 ∃c:Array ku,w.heap[bk]?=jm (ji c 137 (0,0))/\c.size=58/\(∀a,a<8->c[a]?=jm (wv (b.ats a)))/\(∀a,a<8->c[8+a]?=jm (iw (b.ops a)))/\
  (∀a,a<16->c[16+a*2]?=jm (wv (b.Iz a).1)/\c[16+a*2+1]?=jm (gz iU ((b.Iz a).2:Int)))/\c[48]?=jm (gz iU (b.many:Int))/\(∀a,a<8->c[49+a]?=jm (b.st a))/\c[57]?=jm (.map (jm b.nt))
section
variable{w w':jT}{bk:Nat}{b:Bk}
def Ee.lt(h:Ee w bk b):bk<w:=by
 obtain⟨c,a,_⟩:=h;exact(AL.1 a).1
def Ee.keep(h:Ee w bk b)(k:w'.heap[bk]?=w.heap[bk]?):Ee w' bk b:=by
 obtain⟨a,c,d⟩:=h;exact⟨a,k.trans c,d⟩
def Ee.below(h:Ee w bk b)(k:η w w'):Ee w' bk b:=h.keep (k.block _ h.lt)
def Ee.touch{F:Nat->Prop}(h:Ee w bk b)(t:Touch F w w')(a:¬F bk):Ee w' bk b:=h.keep (t.block _ h.lt a)
def Ee.frozen(h:Ee w bk b)(i:Nat):w.frozen? (Δ bk i)=false:=by
 obtain⟨c,a,_⟩:=h;simp[World.frozen?,a]
def Ee.cellAt(h:Ee w bk b)(i:Nat)(hi:i<8):w.cell? (Δ bk i)=jm (gz iV ((b.ats i).toNat:Int)):=by
 obtain⟨a,c,_,d,_⟩:=h;rw[cell_of_row w bk i a _ (0,0) c,d i hi];rfl
def Ee.Zg(h:Ee w bk b)(i:Nat)(hi:i<8):w.cell? (Δ bk (8+i))=jm (iw (b.ops i)):=by
 obtain⟨a,c,_,_,d,_⟩:=h;rw[cell_of_row w bk (8+i) a _ (0,0) c,d i hi]
def Ee.RD(h:Ee w bk b)(i:Nat)(hi:i<16):w.cell? (Δ bk (16+i*2))=jm (gz iV ((b.Iz i).1.toNat:Int))/\w.cell? (Δ bk (16+i*2+1))=jm (gz iU ((b.Iz i).2:Int)):=by
 obtain⟨a,c,_,_,_,d,_⟩:=h;rw[cell_of_row w bk (16+i*2) a _ (0,0) c,cell_of_row w bk (16+i*2+1) a _ (0,0) c,(d i hi).1,(d i hi).2];exact⟨rfl,rfl⟩
def Ee.L9(h:Ee w bk b):w.cell? (Δ bk 48)=jm (gz iU (b.many:Int)):=by
 obtain⟨a,c,_,_,_,_,d,_⟩:=h;rw[cell_of_row w bk 48 a _ (0,0) c,d]
def Ee.cellSt(h:Ee w bk b)(i:Nat)(hi:i<8):w.cell? (Δ bk (49+i))=jm (b.st i):=by
 obtain⟨a,c,_,_,_,_,_,d,_⟩:=h;rw[cell_of_row w bk (49+i) a _ (0,0) c,d i hi]
def Ee.Ang(h:Ee w bk b):w.cell? (Δ bk 57)=jm (.map (jm b.nt)):=by
 obtain⟨a,c,_,_,_,_,_,_,d⟩:=h;rw[cell_of_row w bk 57 a _ (0,0) c,d]
def VA{cur:Array ku}{i:Nat}{v:ku}(hi:i<cur.size)(k:Nat):(cur.setIfInBounds i v)[k]?=if k=i then jm v else cur[k]?:=by
 rw[Array.getElem?_setIfInBounds];by_cases a:i=k
 ·subst a;rw[kX rfl,kX rfl,kX hi]
 ·rw[lg a,lg (λh=>a h.symm)]
def Ee.setAt(h:Ee w bk b)(i:Nat)(hi:i<8)(x:ni):Ee (w.setCell (Δ bk i) (gz iV (x.toNat:Int))) bk {b with ats:=λa=>if a=i then x else b.ats a}:=by
 obtain⟨f,g,j,k,l,e,m,n,o⟩:=h;have d:=λa=>VA (cur:=f) (i:=i) (v:=gz iV (x.toNat:Int)) O a
 refine⟨_,GR _ g,by simpa using j,λa c=>?_,λa c=>?_,λa c=>⟨?_,?_⟩,?_,λa c=>?_,?_⟩
 ·rw[d];dsimp only;split
  ·rfl
  ·exact k a c
 ·rw[d,lg O];exact l a c
 ·rw[d,lg O];exact(e a c).1
 ·rw[d,lg O];exact(e a c).2
 ·rw[d,lg O];exact m
 ·rw[d,lg O];exact n a c
 ·rw[d,lg O];exact o
def Ee.Agn(h:Ee w bk b)(i:Nat)(hi:i<8)(x:Bool):Ee (w.setCell (Δ bk (8+i)) (iw x)) bk {b with ops:=λa=>if a=i then x else b.ops a}:=by
 obtain⟨g,j,k,l,m,f,n,o,p⟩:=h;have d:=λa=>VA (cur:=g) (i:=8+i) (v:=iw x) O a
 refine⟨_,GR _ j,by simpa using k,λa c=>?_,λa c=>?_,λa c=>⟨?_,?_⟩,?_,λa c=>?_,?_⟩
 ·rw[d,lg O];exact l a c
 ·rw[d];dsimp only;by_cases e:a=i
  ·rw[kX O,kX e]
  ·rw[lg O,lg e];exact m a c
 ·rw[d,lg O];exact(f a c).1
 ·rw[d,lg O];exact(f a c).2
 ·rw[d,lg O];exact n
 ·rw[d,lg O];exact o a c
 ·rw[d,lg O];exact p
def Ee.ja(h:Ee w bk b)(i:Nat)(hi:i<16)(m:Mk):Ee ((w.setCell (Δ bk (16+i*2)) (gz iV (m.1.toNat:Int))).setCell (Δ bk (16+i*2+1)) (gz iU (m.2:Int))) bk {b with Iz:=λa=>if a=i then m else b.Iz a}:=by
 obtain⟨g,k,l,n,o,j,p,q,r⟩:=h;have e:=λa=>VA (cur:=g) (i:=16+i*2) (v:=gz iV (m.1.toNat:Int)) O a
 have d:=λa=>VA (cur:=g.setIfInBounds (16+i*2) (gz iV (m.1.toNat:Int))) (i:=16+i*2+1) (v:=gz iU (m.2:Int)) (by simp;omega) a
 refine⟨_,GR _ (GR _ k),by simpa using l,λa c=>?_,λa c=>?_,λa c=>⟨?_,?_⟩,?_,λa c=>?_,?_⟩
 ·rw[d,lg O,e,lg O];exact n a c
 ·rw[d,lg O,e,lg O];exact o a c
 ·rw[d,lg O,e];dsimp only;by_cases f:a=i
  ·rw[kX O,kX f];rfl
  ·rw[lg O,lg f];exact(j a c).1
 ·rw[d];dsimp only;by_cases f:a=i
  ·rw[kX O,kX f]
  ·rw[lg O,e,lg O,lg f];exact(j a c).2
 ·rw[d,lg O,e,lg O];exact p
 ·rw[d,lg O,e,lg O];exact q a c
 ·rw[d,lg O,e,lg O];exact r
def Ee.setMany(h:Ee w bk b)(n:Nat):Ee (w.setCell (Δ bk 48) (gz iU (n:Int))) bk {b with many:=n}:=by
 obtain⟨f,g,j,k,l,e,p,m,o⟩:=h;have d:=λa=>VA (cur:=f) (i:=48) (v:=gz iU (n:Int)) O a
 refine⟨_,GR _ g,by simpa using j,λa c=>?_,λa c=>?_,λa c=>⟨?_,?_⟩,?_,λa c=>?_,?_⟩
 ·rw[d,lg O];exact k a c
 ·rw[d,lg O];exact l a c
 ·rw[d,lg O];exact(e a c).1
 ·rw[d,lg O];exact(e a c).2
 ·rw[d,kX rfl]
 ·rw[d,lg O];exact m a c
 ·rw[d,lg O];exact o
def Ee.setSt(h:Ee w bk b)(i:Nat)(hi:i<8)(x:ku):Ee (w.setCell (Δ bk (49+i)) x) bk {b with st:=λa=>if a=i then x else b.st a}:=by
 obtain⟨g,j,k,l,m,f,n,o,p⟩:=h;have d:=λa=>VA (cur:=g) (i:=49+i) (v:=x) O a
 refine⟨_,GR _ j,by simpa using k,λa c=>?_,λa c=>?_,λa c=>⟨?_,?_⟩,?_,λa c=>?_,?_⟩
 ·rw[d,lg O];exact l a c
 ·rw[d,lg O];exact m a c
 ·rw[d,lg O];exact(f a c).1
 ·rw[d,lg O];exact(f a c).2
 ·rw[d,lg O];exact n
 ·rw[d];dsimp only;by_cases e:a=i
  ·rw[kX O,kX e]
  ·rw[lg O,lg e];exact o a c
 ·rw[d,lg O];exact p
def J7(f:Nat->Mk)(i j k:Nat):Mk:=if k=i then f j else if k=j then f i else f k
def IB(f:Nat->Mk)(k:Nat):Nat:=(f k).1.toNat
def SB(f:Nat->Mk)(i j:Nat):IB (J7 f i j)=Uz (IB f) i j:=by
 funext k;unfold IB J7 Uz;split
 ·rfl
 ·split<;>rfl
def Ago(h:Ee w bk b):Calls prog 283 #[iL (jm (Δ bk 16))] w λa w'=>a=iO b.many/\w=w':=by
 have c:=h.L9;clear h;go_in;go_wp2;go_ret;exact⟨rfl,rfl⟩
def SC(h:Ee w bk b)(i j:Nat)(hi:i<16)(d:j<16):Calls prog 284 #[iL (jm (Δ bk 16)),i,j] w λc w'=>c=iO (iw (decide (IB b.Iz i<IB b.Iz j)))/\Dr w w':=by
 have e:=(h.RD i hi).1;have f:=(h.RD j d).1;have a:Hid (decide (IB b.Iz i<IB b.Iz j)=decide ((b.Iz i).1.toNat<(b.Iz j).1.toNat)):=Ac rfl;generalize(b.Iz i).1=x at*;generalize(b.Iz j).1=g at*;clear h;go_in;go_wp2_with fail;go_quiet(fail);go_wp2_with fail;rw[a.out];go_ret;exact⟨rfl,_,rfl⟩
end
section
variable{w w':jT}{bk:Nat}{b:Bk}
def Bk.Art(f:Nat->Mk)(i j:Nat):(λa=>if a=j then f i else(λa=>if a=i then f j else f a) a)=J7 f i j:=by
 funext a;unfold J7;by_cases c:a=i
 ·by_cases b:a=j
  ·rw[kX b,kX c,<-c,<-b]
  ·rw[lg b,kX c];dsimp only;rw[kX c]
 ·by_cases b:a=j
  ·rw[kX b,lg c,kX b]
  ·rw[lg b,lg c,lg b];dsimp only;rw[lg c]
def Bk.Aru(f:Nat->Mk)(i j:Nat):(λa=>if a=i then f j else(λa=>if a=j then f i else f a) a)=J7 f i j:=by
 funext a;unfold J7;by_cases b:a=i
 ·simp only[kX b]
 ·simp only[lg b]
def Ee.dr(h:Ee w bk b)(k:Dr w w'):Ee w' bk b:=h.below (k.below _)
def Va(h:Ee w bk b)(i j:Nat)(hi:i<16)(e:j<16):Calls prog 287 #[iL (jm (Δ bk 16)),i,j] w λm w'=>m=iO (iJ #[])/\Ee w' bk {b with Iz:=J7 b.Iz i j}/\Touch (·=bk) w w':=by
 have g:Hid (∀a,Dr w a->Ee ((((a.setCell (Δ bk (16+i*2)) (gz iV ((b.Iz j).1.toNat:Int))).setCell (Δ bk (16+i*2+1)) (gz iU ((b.Iz j).2:Int))).setCell (Δ bk (16+j*2)) (gz iV ((b.Iz i).1.toNat:Int))).setCell (Δ bk (16+j*2+1)) (gz iU ((b.Iz i).2:Int))) bk {b with Iz:=J7 b.Iz i j}/\
  Touch (·=bk) w ((((a.setCell (Δ bk (16+i*2)) (gz iV ((b.Iz j).1.toNat:Int))).setCell (Δ bk (16+i*2+1)) (gz iU ((b.Iz j).2:Int))).setCell (Δ bk (16+j*2)) (gz iV ((b.Iz i).1.toNat:Int))).setCell (Δ bk (16+j*2+1)) (gz iU ((b.Iz i).2:Int)))):=Ac (λa c=>by
  have d:=((h.dr c).ja i hi (b.Iz j)).ja j e (b.Iz i);simp only[Bk.Art]at d;exact⟨d,((((mD (F:=λc=>c=bk) (c.below _)).setCell (p:=Δ bk (16+i*2)) (.inl rfl) _).setCell (p:=Δ bk (16+i*2+1)) (.inl rfl) _).setCell (p:=Δ bk (16+j*2)) (.inl rfl) _).setCell (p:=Δ bk (16+j*2+1)) (.inl rfl) _⟩)
 have k:Hid (∀a,Dr w a->Ee ((((a.setCell (Δ bk (16+j*2)) (gz iV ((b.Iz i).1.toNat:Int))).setCell (Δ bk (16+j*2+1)) (gz iU ((b.Iz i).2:Int))).setCell (Δ bk (16+i*2)) (gz iV ((b.Iz j).1.toNat:Int))).setCell (Δ bk (16+i*2+1)) (gz iU ((b.Iz j).2:Int))) bk {b with Iz:=J7 b.Iz i j}/\
  Touch (·=bk) w ((((a.setCell (Δ bk (16+j*2)) (gz iV ((b.Iz i).1.toNat:Int))).setCell (Δ bk (16+j*2+1)) (gz iU ((b.Iz i).2:Int))).setCell (Δ bk (16+i*2)) (gz iV ((b.Iz j).1.toNat:Int))).setCell (Δ bk (16+i*2+1)) (gz iU ((b.Iz j).2:Int)))):=Ac (λa c=>by
  have d:=((h.dr c).ja j e (b.Iz i)).ja i hi (b.Iz j);simp only[Bk.Aru]at d;exact⟨d,((((mD (F:=λc=>c=bk) (c.below _)).setCell (p:=Δ bk (16+j*2)) (.inl rfl) _).setCell (p:=Δ bk (16+j*2+1)) (.inl rfl) _).setCell (p:=Δ bk (16+i*2)) (.inl rfl) _).setCell (p:=Δ bk (16+i*2+1)) (.inl rfl) _⟩)
 have n:=h.RD i hi;have o:=h.RD j e;obtain⟨x,y⟩:=n;obtain⟨z,A⟩:=o;have s:=h.frozen (16+i*2);have t:=h.frozen (16+i*2+1);have f:=h.ja i hi (b.Iz j);have l:=h.ja j e (b.Iz i);obtain⟨B,C⟩:=f.RD j e;obtain⟨D,E⟩:=l.RD i hi;have u:=f.frozen (16+j*2);have v:=f.frozen (16+j*2+1);have q:(i:Int)<16:=O;have r:(j:Int)<16:=O;clear f l h;go_in;go_wp2_with fail;go_region
 all_goals(go_wp2)
 all_goals(go_end0)
 all_goals(first
  |exact⟨rfl,(g w (Dr.refl w)).1.dr (Dr.drew _),(g w (Dr.refl w)).2.drew⟩
  |exact⟨rfl,(k w (Dr.refl w)).1.dr (Dr.drew _),(k w (Dr.refl w)).2.drew⟩)
def Adq(x y:Int)(w:jT):(Instr.typeAssert (.iface 129 (iK #[gz iV x,y])) 20 129 jO).run prog w=.ok (iJ #[iK #[gz iV x,y],jO]) w:=by kernel_rfl
def mkV(m:Mk):Value:=iK #[m.1,m.2]
def Anh(h:Ee w bk b)(m:Mk)(e:b.many<16):Calls prog 286 #[iL (jm (Δ bk 16)),.iface 129 (mkV m)] w λj w'=>j=iO (iJ #[])/\Ee w' bk {b with Iz:=λa=>if a=b.many then m else b.Iz a,many:=b.many+1}/\Touch (·=bk) w w':=by
 have v:=Adq (m.1.toNat:Int) (m.2:Int);unfold mkV;have g:=h.L9;obtain⟨q,r⟩:=h.RD b.many e;have l:=h.frozen (16+b.many*2);have o:=h.frozen (16+b.many*2+1);have d:=h.ja b.many e m;have i:=d.L9;have k:=d.frozen 48;have c:Hid (Ee (((w.setCell (Δ bk (16+b.many*2)) (gz iV (m.1.toNat:Int))).setCell (Δ bk (16+b.many*2+1)) (gz iU (m.2:Int))).setCell (Δ bk 48) (gz iU ((b.many+1:Nat):Int))) bk {b with Iz:=λa=>if a=b.many then m else b.Iz a,many:=b.many+1}/\
  Touch (·=bk) w (((w.setCell (Δ bk (16+b.many*2)) (gz iV (m.1.toNat:Int))).setCell (Δ bk (16+b.many*2+1)) (gz iU (m.2:Int))).setCell (Δ bk 48) (gz iU ((b.many+1:Nat):Int)))):=
  Ac ⟨d.setMany (b.many+1),(((Touch.refl (·=bk) w).setCell (p:=Δ bk (16+b.many*2)) (.inl rfl) _).setCell (p:=Δ bk (16+b.many*2+1)) (.inl rfl) _).setCell (p:=Δ bk 48) (.inl rfl) _⟩
 have t:=h.lt;obtain⟨n,f⟩:=ε b.many;simp only[<-f]at g q r l o e i k c⊢;rw[show((n+1:Nat):Int)=(n:Int)+1 by omega]at c;have s:(n:Int)<16:=O;have u:=XI n O;clear h d f;go_in;go_wp2_with fail;go_region
 all_goals(go_wp2)
 all_goals(go_end0)
 all_goals(exact⟨rfl,(c.1.below (mZ.alloc (Ae _) _)).dr (Dr.drew _),(c.2.alloc _).drew⟩)
def Arv(h:Ee w bk b)(n:Nat)(d:b.many=n+1)(i:n<16):Calls prog 285 #[iL (jm (Δ bk 16))] w λg w'=>g=iO (.iface 129 (mkV (b.Iz n)))/\Ee w' bk {b with many:=n}/\Touch (·=bk) w w':=by
 have e:=h.L9;have o:=h.frozen 48;have a:=h.setMany n;have f:=a.L9;obtain⟨j,k⟩:=a.RD n i;have c:Hid (Ee (w.setCell (Δ bk 48) (gz iU (n:Int))) bk {b with many:=n}/\Touch (·=bk) w (w.setCell (Δ bk 48) (gz iU (n:Int)))):=
  Ac ⟨a,(Touch.refl (·=bk) w).setCell (p:=Δ bk 48) (.inl rfl) _⟩
 rw[d,show((n+1:Nat):Int)=(n:Int)+1 by omega]at e;have m:(n:Int)<16:=O;have q:IntKind.i64.wrap ((n:Int)+1-1)=(n:Int):=by rw[show(n:Int)+1-1=(n:Int)by omega];exact IntWalk.i64_in _ O
 unfold mkV;simp only at j k f;clear h a d;go_in;go_wp2_with fail;go_quiet(fail);go_wp2;go_ret;exact⟨rfl,c.1.dr (Dr.one _ _),c.2.trans (mD (F:=λl=>l=bk) ((Dr.one _ _).below _)) (λ_=>.inl)⟩
end
def Adr(f:Nat)(a:Addr)(w:jT):(method (f+1) 271 (iL (jm a)) "Push").run prog w=.ok (286,iL (jm a)) w:=by kernel_rfl
def Aiy(f:Nat)(a:Addr)(w:jT):(method (f+1) 271 (iL (jm a)) "Pop").run prog w=.ok (285,iL (jm a)) w:=by kernel_rfl
def pG(f:Nat)(a:Addr)(w:jT):(method (f+1) 271 (iL (jm a)) "Len").run prog w=.ok (283,iL (jm a)) w:=by kernel_rfl
def jc(f:Nat)(a:Addr)(w:jT):(method (f+1) 271 (iL (jm a)) "Less").run prog w=.ok (284,iL (jm a)) w:=by kernel_rfl
def Xp(f:Nat)(a:Addr)(w:jT):(method (f+1) 271 (iL (jm a)) "Swap").run prog w=.ok (287,iL (jm a)) w:=by kernel_rfl
def jd(f:Nat->Mk)(n:Nat)(m:Mk):Prop:=∃a,a<n/\f a=m
def SE{f:Nat->Mk}{n i j:Nat}(hi:i<n)(g:j<n)(m:Mk):jd (J7 f i j) n m<->jd f n m:=by
 constructor
 ·rintro⟨b,d,a⟩;unfold J7 at a;split at a
  ·exact⟨j,g,a⟩
  ·split at a
   ·exact⟨i,hi,a⟩
   ·exact⟨b,d,a⟩
 ·rintro⟨b,d,a⟩;by_cases e:b=i
  ·subst e;refine⟨j,g,?_⟩;unfold J7;by_cases c:j=b
   ·subst c;rw[kX rfl];exact a
   ·rw[lg c,kX rfl];exact a
  ·by_cases c:b=j
   ·subst c;exact⟨i,hi,by unfold J7;rw[kX rfl];exact a⟩
   ·exact⟨b,d,by unfold J7;rw[lg e,lg c];exact a⟩
section
variable{w:jT}{bk n:Nat}{b:Bk}
def Avu(j:Nat)(h:Ee w bk b)(C:j<n)(N:n<=16)(z:TR (IB b.Iz) j n):
 Calls prog 196 #[.iface 271 (iL (jm (Δ bk 16))),j] w λl w'=>l=iO (iJ #[])/\
  ∃d,(∀e,jd d n e<->jd b.Iz n e)/\GU (IB d) n/\Ee w' bk {b with Iz:=d}/\Touch (·=bk) w w':=by
 have P:=λd p=>jc d (Δ bk 16) p
 have Q:=λd p=>Xp d (Δ bk 16) p
 go_in;go_wp2_with fail;go_loopw [1](λc wr=>∃(a:Nat)(d:Nat->Mk),a<n/\c=gz iU (a:Nat)/\(∀e,jd d n e<->jd b.Iz n e)/\TR (IB d) a n/\Ee wr bk {b with Iz:=d}/\Touch (·=bk) w wr)(λc _=>(intOf c).toNat)
 case atStart=>exact⟨j,b.Iz,C,rfl,λ_=>Iff.rfl,z,h,mP⟩
 case round=>
  obtain⟨a,k,D,rfl,s,q,r,t⟩:=hrel;clear h C z;by_cases J:a=0
  ·subst J;go_wp2;go_end0;exact⟨rfl,k,s,TS q (λh=>absurd h O),r,t⟩
  ·obtain⟨x,o,v,u⟩:=lL q r s t;clear q r s t;obtain⟨c,B⟩:∃c,(a-1)/2=c:=⟨_,rfl⟩;have M:c<a:=O;have L:((a:Int) -1)/2=(c:Int):=O;have t1:((c:Int)==(a:Int))=false:=ζ O;have f:=Ac (SC o a c O O);simp only at f;by_cases g:IB k a<IB k c
   ·rw[decide_eq_true g]at f;have m:=Ac g;clear g;go_wp2_with(first|(refine f.out.mono ?_;rintro l K⟨rfl,i⟩;have E:=o.below (i.below _);have G:=Ac (Va E c a O O);simp only at G;clear E f)|(refine G.mono ?_;rintro l R⟨rfl,A,y⟩;have I:=Ac A;have H:=Ac ((u.trans (mD (F:=λa=>a=bk) (i.below _)) (λ_=>.inl)).trans y (λ_=>.inl));clear A y));go_roundw
    case rel=>
     refine⟨c,J7 k c a,O,rfl,λe=>(SE O D e).trans (v e),?_,I,H⟩;rw[SB];exact aC x O D B m
    case measure=>simp[intOf];omega
   ·rw[decide_eq_false g]at f;have m:=Ac g;clear g;go_wp2_with(refine f.out.mono ?_;rintro l K⟨rfl,i⟩);go_end0;exact⟨rfl,k,v,TS x (λ_=>by have:=m.out;rw[<-B]at this;omega),o.below (i.below _),u.trans (mD (F:=λa=>a=bk) (i.below _)) (λ_=>.inl)⟩
end
section
variable{w:jT}{bk:Nat}{b:Bk}
def Ani(n:Nat)(h:Ee w bk b)(ao:n<=15)(Y:O4 (IB b.Iz) 0 n):
 Calls prog 229 #[.iface 271 (iL (jm (Δ bk 16))),gz iU 0,gz iU (n:Int)] w λr w'=>(∃b,r=iO (iw b))/\
  ∃q,(∀p,jd q n p<->jd b.Iz n p)/\GU (IB q) n/\(∀a,n<=a->q a=b.Iz a)/\Ee w' bk {b with Iz:=q}/\Touch (·=bk) w w':=by
 have ar:=λq X=>jc q (Δ bk 16) X
 have au:=λq X=>Xp q (Δ bk 16) X
 go_in;go_wp2_with fail;go_loopw [7](λd wr=>∃(a:Nat)(q:Nat->Mk),(a=0\/a<n)/\d=gz iU (a:Nat)/\(∀p,jd q n p<->jd b.Iz n p)/\O4 (IB q) a n/\(∀a,n<=a->q a=b.Iz a)/\Ee wr bk {b with Iz:=q}/\Touch (·=bk) w wr)(λd _=>n-(intOf d).toNat)
 case atStart=>exact⟨0,b.Iz,.inl rfl,rfl,λ_=>Iff.rfl,Y,λ_ _=>rfl,h,mP⟩
 case round=>
  obtain⟨d,f,an,rfl,s,Z,j,aa,ab⟩:=hrel;obtain⟨I,K,H,V,G⟩:=lM Z aa s ab j;have ap:d<=n:=O;clear h Y Z aa s ab j;by_cases al:n<=2*d+1
  ·have t1:=dT ((n:Int)<=2*(d:Int)+1);go_wp2;go_ret;exact⟨⟨_,rfl⟩,f,H,Jh I (λa y j s=>O),G,K,V⟩
  ·have t1:=dF ((n:Int)<=2*(d:Int)+1);obtain⟨c,l⟩:∃c,2*d+1=c:=⟨_,rfl⟩;obtain⟨e,J⟩:∃e,c+1=e:=⟨_,rfl⟩;have ae:2*(d:Int)+1=(c:Int):=O;have ah:(c:Int)+1=(e:Int):=O;have t4:=dF ((n:Int)<=(c:Int));have t5:=dF ((c:Int)<0);have L:Hid (2*d+1=c):=Ac l;have M:Hid (2*d+2=e):=Ac O;have aq:c<n:=O;clear t1 l J;by_cases am:e<n
   ·have t2:=dT ((e:Int)<(n:Int));by_cases W:IB f e<IB f c
    ·have N:=Ac W;clear W;have x:=Ac (SC K e c O O);simp only at x;rw[decide_eq_true N.out]at x;go_wp2_with fail;refine x.mono ?_;rintro r ad⟨rfl,S⟩;have C:=K.below (S.below _);have D:=V.trans (mD (F:=λa=>a=bk) (S.below _)) (λ_=>.inl);clear x;have u:=Ac C;have A:=Ac D;clear C D;have l:e<n:=O;have J:(e-1)/2=d:=Ψ L.out M.out;have z:Hid (∀a,0<a->a<n->(a-1)/2=d->IB f e<=IB f a):=Ac (λa y j s=>by
      have T:a=c\/a=e:=Ψ L.out M.out;rcases T with rfl|rfl
      ·have:=N.out;omega
      ·exact Ae _)
     have i:=Ac (SC u e d O O);simp only at i;by_cases g:IB f e<IB f d
     ·have t:=Ac g;rw[decide_eq_true g]at i;clear g;go_wp2_with(first|(refine i.out.mono ?_;rintro r U⟨rfl,k⟩;have m:=u.below (k.below _);have o:=A.trans (mD (F:=λa=>a=bk) (k.below _)) (λ_=>.inl);have v:=Ac (Va m d e O O);simp only at v;have P:=Ac o;clear m o i)|(refine v.mono ?_;rintro r ac⟨rfl,B,E⟩;have R:=Ac B;have Q:=Ac (P.trans E (λ_=>.inl));clear B E v));go_roundw
      case rel=>
       refine⟨e,J7 f d e,.inr l,rfl,λp=>(SE O l p).trans (H p),?_,λa j=>?_,R,Q⟩
       ·rw[SB];exact KT I O l J z t
       ·unfold J7;rw[lg O,lg O];exact G a j
      case measure=>simp[intOf];omega
     ·have t:=Ac g;rw[decide_eq_false g]at i;clear g;go_wp2_with(refine i.out.mono ?_;rintro r U⟨rfl,k⟩;have m:=u.below (k.below _);have o:=A.trans (mD (F:=λa=>a=bk) (k.below _)) (λ_=>.inl));go_ret;exact⟨⟨_,rfl⟩,f,H,Jh I (λa y j s=>Ψ (z a y j s) t.out),G,m,o⟩
    ·have N:=Ac W;clear W;have x:=Ac (SC K e c O O);simp only at x;rw[decide_eq_false N.out]at x;go_wp2_with fail;refine x.mono ?_;rintro r ad⟨rfl,S⟩;have C:=K.below (S.below _);have D:=V.trans (mD (F:=λa=>a=bk) (S.below _)) (λ_=>.inl);clear x;have u:=Ac C;have A:=Ac D;clear C D;have l:c<n:=O;have J:(c-1)/2=d:=Ψ L.out M.out;have z:Hid (∀a,0<a->a<n->(a-1)/2=d->IB f c<=IB f a):=Ac (λa y j s=>by
      have T:a=c\/a=e:=Ψ L.out M.out;rcases T with rfl|rfl
      ·exact Ae _
      ·have:=N.out;omega)
     have i:=Ac (SC u c d O O);simp only at i;by_cases g:IB f c<IB f d
     ·have t:=Ac g;rw[decide_eq_true g]at i;clear g;go_wp2_with(first|(refine i.out.mono ?_;rintro r U⟨rfl,k⟩;have m:=u.below (k.below _);have o:=A.trans (mD (F:=λa=>a=bk) (k.below _)) (λ_=>.inl);have v:=Ac (Va m d c O O);simp only at v;have P:=Ac o;clear m o i)|(refine v.mono ?_;rintro r ac⟨rfl,B,E⟩;have R:=Ac B;have Q:=Ac (P.trans E (λ_=>.inl));clear B E v));go_roundw
      case rel=>
       refine⟨c,J7 f d c,.inr l,rfl,λp=>(SE O l p).trans (H p),?_,λa j=>?_,R,Q⟩
       ·rw[SB];exact KT I O l J z t
       ·unfold J7;rw[lg O,lg O];exact G a j
      case measure=>simp[intOf];omega
     ·have t:=Ac g;rw[decide_eq_false g]at i;clear g;go_wp2_with(refine i.out.mono ?_;rintro r U⟨rfl,k⟩;have m:=u.below (k.below _);have o:=A.trans (mD (F:=λa=>a=bk) (k.below _)) (λ_=>.inl));go_ret;exact⟨⟨_,rfl⟩,f,H,Jh I (λa y j s=>Ψ (z a y j s) t.out),G,m,o⟩
   ·have t2:=dF ((e:Int)<(n:Int));have C:=K.out;have D:=V.out;have u:=Ac C;have A:=Ac D;clear C D;have l:c<n:=O;have J:(c-1)/2=d:=Ψ L.out M.out;have z:Hid (∀a,0<a->a<n->(a-1)/2=d->IB f c<=IB f a):=Ac (λa y j s=>by
     have T:a=c\/a=e:=Ψ L.out M.out;rcases T with rfl|rfl
     ·exact Ae _
     ·omega)
    have i:=Ac (SC u c d O O);simp only at i;by_cases g:IB f c<IB f d
    ·have t:=Ac g;rw[decide_eq_true g]at i;clear g;go_wp2_with(first|(refine i.out.mono ?_;rintro r U⟨rfl,k⟩;have m:=u.below (k.below _);have o:=A.trans (mD (F:=λa=>a=bk) (k.below _)) (λ_=>.inl);have v:=Ac (Va m d c O O);simp only at v;have P:=Ac o;clear m o i)|(refine v.mono ?_;rintro r ac⟨rfl,B,E⟩;have R:=Ac B;have Q:=Ac (P.trans E (λ_=>.inl));clear B E v));go_roundw
     case rel=>
      refine⟨c,J7 f d c,.inr l,rfl,λp=>(SE O l p).trans (H p),?_,λa j=>?_,R,Q⟩
      ·rw[SB];exact KT I O l J z t
      ·unfold J7;rw[lg O,lg O];exact G a j
     case measure=>simp[intOf];omega
    ·have t:=Ac g;rw[decide_eq_false g]at i;clear g;go_wp2_with(refine i.out.mono ?_;rintro r U⟨rfl,k⟩;have m:=u.below (k.below _);have o:=A.trans (mD (F:=λa=>a=bk) (k.below _)) (λ_=>.inl));go_ret;exact⟨⟨_,rfl⟩,f,H,Jh I (λa y j s=>Ψ (z a y j s) t.out),G,m,o⟩
def yR{f:Nat->Mk}{n:Nat}(m:Mk)(h:GU (IB f) n):TR (IB λa=>if a=n then m else f a) n (n+1):=by
 have d:∀a,a<n->IB (λa=>if a=n then m else f a) a=IB f a:=λa c=>by unfold IB;dsimp only;rw[lg O]
 refine⟨λa b c g=>?_,λb a e c i=>O⟩;rw[d a O,d _ O];exact h a b O
def Ym(m:Mk)(h:Ee w bk b)(q:b.many<16)(o:GU (IB b.Iz) b.many):
 Calls prog 154 #[.iface 271 (iL (jm (Δ bk 16))),.iface 129 (mkV m)] w λa w'=>a=iO (iJ #[])/\
  ∃c,(∀d,jd c (b.many+1) d<->jd b.Iz b.many d\/d=m)/\GU (IB c) (b.many+1)/\Ee w' bk {b with Iz:=c,many:=b.many+1}/\Touch (·=bk) w w':=by
 have C:=λc i=>Adr c (Δ bk 16) i
 have B:=λc i=>pG c (Δ bk 16) i
 have e:=Ac (Anh h m q);have k:=Ac (yR m o);obtain⟨n,r⟩:=ε b.many;simp only[<-r]at e k q⊢;unfold mkV at e⊢;clear h o;go_in;go_wp2_with fail;refine e.mono ?_;rintro a D⟨rfl,j,s⟩;have g:=Ac (Ago j);have l:=Ac (Avu n j (by omega:n<n+1) O k);simp only at g l;rw[show((n+1:Nat):Int)=(n:Int)+1 by omega]at g;have t:=Ac s;have A:IntKind.i64.wrap ((n:Int)+1-1)=(n:Int):=by rw[show(n:Int)+1-1=(n:Int)by omega];exact IntWalk.i64_in _ O
 clear j s e r;go_wp2_with fail;refine g.ro ?_;go_wp2_with fail;refine l.mono ?_;rintro a E⟨rfl,c,y,u,x,z⟩;go_wp2;go_end0;refine⟨rfl,c,λd=>(y d).trans ⟨?_,?_⟩,u,x,t.trans z (λ_=>.inl)⟩
 ·rintro⟨f,v,a⟩
  dsimp only at a
  by_cases p:f=n
  ·rw[kX p]at a;exact .inr a.symm
  ·rw[lg p]at a;exact .inl ⟨f,O,a⟩
 ·rintro(⟨f,v,a⟩|rfl)
  ·exact⟨f,O,by dsimp only;rw[lg O];exact a⟩
  ·exact⟨n,O,by dsimp only;rw[kX rfl]⟩
def yS(h:Ee w bk b)(n:Nat)(p:b.many=n+1)(r:n<16)(s:GU (IB b.Iz) (n+1)):
 Calls prog 204 #[.iface 271 (iL (jm (Δ bk 16)))] w λa w'=>a=iO (.iface 129 (mkV (b.Iz 0)))/\
  ∃c,(∀d,jd c n d->jd b.Iz (n+1) d)/\(∀d,d≠b.Iz 0->jd b.Iz (n+1) d->jd c n d)/\GU (IB c) n/\Ee w' bk {b with Iz:=c,many:=n}/\Touch (·=bk) w w':=by
 have S:=λc e=>Aiy c (Δ bk 16) e
 have R:=λc e=>pG c (Δ bk 16) e
 have T:=λc e=>Xp c (Δ bk 16) e
 have k:=Ac (Ago h);have l:=Ac (Va h 0 n O r);rw[p,show((n+1:Nat):Int)=(n:Int)+1 by omega]at k;rw[show((0:Nat):Int)=0 from rfl]at l;have v:O4 (IB (J7 b.Iz 0 n)) 0 n:=by
  rw[SB];exact WB s
 have F:=Ac v;have G:=Ac p;have Q:IntKind.i64.wrap ((n:Int)+1-1)=(n:Int):=by rw[show(n:Int)+1-1=(n:Int)by omega];exact IntWalk.i64_in _ O
 clear h s v p;go_in;go_wp2_with(first|(refine k.out.ro ?_)|(refine l.out.mono ?_;rintro a U⟨rfl,z,C⟩;have i:=Ac (Ani n z O F);simp only at i;have H:=Ac C;clear k l z C));refine i.mono ?_;rintro a V⟨⟨P,rfl⟩,c,B,u,x,A,D⟩;have g:=Ac (Arv A n G r);simp only at g;have t:c n=b.Iz 0:=by
  rw[x n (Ae _)];unfold J7;by_cases a:n=0
  ·subst a;rw[kX rfl]
  ·rw[lg a,kX rfl]
 rw[t]at g;obtain⟨E,q,I⟩:=l9 u B (H.trans D (λ_=>.inl));clear A D x u B i t;unfold mkV at g;go_wp2_with(refine g.out.mono ?_;rintro a W⟨rfl,M,N⟩);go_ret;refine⟨rfl,c,λd o=>?_,λd y o=>?_,E,M,I.trans N (λ_=>.inl)⟩
 ·obtain⟨f,K,a⟩:=(q d).1 o;have J:jd (J7 b.Iz 0 n) (n+1) d:=⟨f,O,a⟩;exact(SE O O d).1 J
 ·obtain⟨f,K,a⟩:=(SE (f:=b.Iz) (n:=n+1) (i:=0) (j:=n) O O d).2 o;refine(q d).2 ⟨f,?_,a⟩;by_cases L:f=n
  ·exfalso;subst L;unfold J7 at a;by_cases m:f=0
   ·rw[kX m,m]at a;exact y a.symm
   ·rw[lg m,kX rfl]at a;exact y a.symm
  ·omega
end
def Bk.wt(b:Bk):Wt:={ats:=b.ats,ops:=b.ops}
structure WC(b:Bk):Prop where
 heap:GU (IB b.Iz) b.many
 ids:∀m,jd b.Iz b.many m->m.2<8
 has:∀i,i<8->b.ops i=jO->jd b.Iz b.many (b.ats i,i)
 len:b.many<=16
section
variable{w w':jT}{bk:Nat}{b:Bk}
def yT(h:Ee w bk b)(id:Int):Calls prog 163 #[AB bk,id] w λf w'=>f=iO (iw (Ey b.wt id))/\w=w':=by
 by_cases d:0<=id
 ·have t1:=dT (0<=id) d;by_cases e:id<8
  ·have t2:=dT (id<8) e;obtain⟨a,rfl⟩:∃a:Nat,id=(a:Int):=⟨id.toNat,O⟩;have g:=h.Zg a O;have c:Hid (Ey b.wt (a:Int)=b.ops a):=Ac (by unfold Ey;rw[t1,t2];rfl);generalize b.ops a=i at*;clear h;go_in;go_wp2;go_ret;exact⟨by rw[c.out];rfl,rfl⟩
  ·have t2:=dF (id<8) e;have c:Hid (Ey b.wt id=jS):=Ac (by unfold Ey;rw[t1,t2];rfl);clear h;go_in;go_wp2;go_ret;exact⟨by rw[c.out];rfl,rfl⟩
 ·have t1:=dF (0<=id) d;have c:Hid (Ey b.wt id=jS):=Ac (by unfold Ey;rw[t1];rfl);clear h;go_in;go_wp2;go_ret;exact⟨by rw[c.out];rfl,rfl⟩
def IY{t:Wt}{id:Int}(h:Ey t id=jO):∃a:Nat,id=(a:Int)/\a<8/\t.ops a=true:=by
 unfold Ey at h;simp only[Bool.and_eq_true,decide_eq_true_eq]at h;exact⟨id.toNat,O,O,h.2.2⟩
def atV(t:Wt)(id:Int):Value:=if Ey t id=jO then iJ #[gz iV ((t.ats id.toNat).toNat:Int),jO]else iJ #[gz iV 0,jS]
def uB(h:Ee w bk b)(id:Int):Calls prog 107 #[AB bk,id] w λf w'=>f=iO (atV b.wt id)/\w=w':=by
 have c:=Ac (yT h id);cases a:Ey b.wt id with
 |false=>
  rw[a]at c;have d:Hid (atV b.wt id=iJ #[gz iV 0,jS]):=Ac (by unfold atV;rw[lg (by rw[a];exact Bool.false_ne_true)]);clear h a;go_in;go_wp2_with(refine c.out.ro ?_);go_ret2;exact⟨by rw[d.out];rfl,rfl⟩
 |true=>
  rw[a]at c;have d:Hid (atV b.wt id=iJ #[gz iV ((b.ats id.toNat).toNat:Int),jO]):=Ac (by unfold atV;rw[kX a];rfl);obtain⟨e,rfl,g,_⟩:=IY a;have j:=h.cellAt e g;rw[Int.toNat_natCast]at d;have i:(e:Int)<8:=O;clear h a;go_in;go_wp2_with(refine c.out.ro ?_);go_ret2;exact⟨by rw[d.out];rfl,rfl⟩
def PK(t:Wt):Int:=match MM t with
 |some a=>(a:Int)
 |none=> -1
def pJ(h:Ee w bk b):Calls prog 152 #[fM (jm (Δ bk 8)) 8 8,jS] w λg w'=>g=iO (gz iU (PK b.wt))/\w=w':=by
 go_in;go_wp2_with fail;go_loop [8](λd=>∃a:Nat,a<=8/\d=gz iU (a:Nat)/\∀t,t<a->b.ops t=jO)(λd=>8-(intOf d).toNat)
 case atStart=>exact⟨0,O,rfl,λt m=>absurd m O⟩
 case round=>
  obtain⟨a,s,rfl,l⟩:=hrel;have f:=Ac l;clear l;by_cases k:a<8
  ·have i:=h.Zg a k;have r:(a:Int)<8:=O;cases c:b.ops a with
   |false=>
    have e:Hid (PK b.wt=(a:Int)):=Ac (by
     unfold PK MM;have:(Ea 8).find? (λd=> !b.wt.ops d)=jm a:=List.find?_eq_some_iff_getElem.2 ⟨by show(!b.ops a)=jO;rw[c];rfl,a,by simpa using k,RU ..,λj o=>by
      rw[RU];show(!!b.ops j)=jO;rw[f j o];rfl⟩
     rw[this])
    rw[c]at i;clear c;go_wp2;go_ret;exact⟨by rw[e.out];rfl,rfl⟩
   |true=>
    have n:Hid (∀t,t<a+1->b.ops t=jO):=Ac (λt m=>by
     by_cases g:t=a
     ·subst g;exact c
     ·exact f t O)
    rw[c]at i;clear c;go_wp2;go_round
    case rel=>exact⟨a+1,O,by go_num,n⟩
    case measure=>simp[intOf];omega
  ·have p:a=8:=O;subst p;have e:Hid (PK b.wt= -1):=Ac (by
    unfold PK MM;rw[Rt.2 (λx q=>by simp[Bk.wt,f x (GH.1 q)])])
   go_wp2;go_ret;exact⟨by rw[e.out];rfl,rfl⟩
end
section
variable{w w':jT}{bk:Nat}{b:Bk}
def opsV(b:Bk):List Value:=(Ea 8).map λa=>iw (b.ops a)
def Arw(b:Bk){k:Nat}(a:k<8):(opsV b)[k]?=jm (iw (b.ops k)):=by simp[opsV,a]
def Anj(b:Bk){k:Nat}(d:k<8)(a:jT):(Instr.index 127 (.agg (opsV b).toArray) (gz iU (k:Int))).run prog a=.ok (iw (b.ops k)) a:=by
 have c:k=0\/k=1\/k=2\/k=3\/k=4\/k=5\/k=6\/k=7:=O;rcases c with rfl|rfl|rfl|rfl|rfl|rfl|rfl|rfl<;>rfl
def Ads(h:Ee w bk b):Calls prog 153 #[AB bk] w λf w'=>f=iO (iJ #[])/\
 ∃c n,n<=8/\GU (IB c) n/\(∀e,jd c n e->e.2<8)/\(∀d,d<8->b.ops d=jO->jd c n (b.ats d,d))/\Ee w' bk {b with Iz:=c,many:=n}/\Touch (·=bk) w w':=by
 have V:=h.L9;have W:=h.frozen 48;obtain⟨y,k⟩:=ε (w.setCell (Δ bk 48) (gz iU 0));have z:Ee y bk {b with many:=0}:=by rw[k];exact h.setMany 0
 have R:Hid (Touch (·=bk) w y):=Ac (by rw[k];exact(Touch.refl (·=bk) w).setCell (p:=Δ bk 48) (.inl rfl) _);have N:=Ac z;have Q:Hid ((prog.info? 127).map (·.size)=jm (opsV b).length):=Ac Γ;have P:Hid (∀j v,(opsV b)[j]?=jm v->y.cell? (Δ bk (8+j))=jm v):=Ac (by
  intro j v F;have g:j<8:=by
   have:=(Cf.1 F).1;simpa[opsV]using this
  rw[Arw b g]at F;rw[<-F];exact z.Zg j g)
 have T:=Ac k;clear h z k;go_in;go_wp2_with(first
  |(rw[<-T.out];with_reducible refine UM rfl 127 (.tmp 10) rfl bk 8 rfl (opsV b) _ underlying127 rfl Q.out P.out ?_)
  |fail)
 have K:GU (IB b.Iz) 0:=λa J=>O
 go_loopw [12](λd wr=>∃(a n:Nat)(c:Nat->Mk),a<=8/\n<=a/\d=gz iU (a:Nat)/\GU (IB c) n/\(∀e,jd c n e->e.2<8)/\(∀j,j<a->b.ops j=jO->jd c n (b.ats j,j))/\Ee wr bk {b with Iz:=c,many:=n}/\Touch (·=bk) w wr)(λd _=>8-(intOf d).toNat)
 case atStart=>exact⟨0,0,b.Iz,O,O,rfl,K,(λe⟨a,J,_⟩=>O),(λj g=>O),N.out,R.out⟩
 case round=>
  obtain⟨a,n,c,J,ac,rfl,A,C,B,l,E⟩:=hrel;clear K V W;obtain⟨q,r,o,t,u⟩:=lM A C B E l;by_cases m:a<8
  ·have t1:=dT ((a:Int)<8);have t3:(a:Int)<8:=O;have L:=λx=>Anj b m x
   have ad:=XI a O;have U:=l.cellAt a m;clear A C B E l;cases D:b.ops a with
   |false=>
    rw[D]at L;go_wp2;go_roundw
    case rel=>exact⟨a+1,n,c,O,O,by go_num,q.out,r.out,λj g i=>by
     by_cases f:j=a
     ·rw[f,D]at i;cases i
     ·exact o j O i,u.out,t.out⟩
    case measure=>simp[intOf];omega
   |true=>
    rw[D]at L;have G:=Ac (λx(X:Dr wr x)=>Ym (b.ats a,a) (u.dr X) (by dsimp only;omega) q.out);unfold mkV at G
    dsimp only at G
    go_wp2_with fail;go_region_held3(λw'=>w'.cell? (Δ bk a)=jm (gz iV ((b.ats a).toNat:Int)))(first|exact U|exact H.cellAt a m)
     ((first|(go_at_call 154;refine(G _ (Dr.drew _)).mono ?_;rintro f ae⟨rfl,f2,I,Y,H,M⟩)))
    all_goals(
     have S:=Ac (t.trans ((mD (mX wr)).trans M (λ_=>.inl)) (λ_=>.inl));have s:=Ac I;clear M I;go_wp2_with fail;go_roundw)
    case rel=>exact⟨a+1,n+1,f2,O,O,by go_num,Y,λe Z=>((s e).1 Z).elim (r e) (λf=>by rw[f];exact m),λj g i=>by
     by_cases f:j=a
     ·exact(s _).2 (.inr (by rw[f]))
     ·exact(s _).2 (.inl (o j O i)),H,S.out⟩
    case measure=>simp[intOf];omega
  ·have t1:=dF ((a:Int)<8);have ab:a=8:=O;clear A C B E l;go_wp2;go_end0;exact⟨rfl,c,n,O,q.out,r.out,λd aa=>o d O,u.out,t.out⟩
end
def Xq{t:Wt}{i:Nat}(h:MM t=jm i):i<8/\t.ops i=false:=by
 unfold MM at h;have a:=nZ h;have b:=dX h;exact⟨GH.1 a,by simpa using b⟩
section
variable{w w':jT}{bk:Nat}{b:Bk}
def je(h:Ee w bk b)(d:MM b.wt=jw)(x:Int):Calls prog 100 #[AB bk,gz iV x] w λe w'=>e=iO (iJ #[gz iU 0,gz iU 6])/\w=w':=by
 have a:=Ac (pJ h);have c:PK b.wt= -1:=by unfold PK;rw[d]
 rw[c]at a;clear h d c;go_in;go_wp2_with(refine a.out.ro ?_);go_ret2;exact⟨rfl,rfl⟩
structure Opened(b b':Bk)(i:Nat)(x:ni):Prop where
 ats:b'.ats=IW b.ats i x
 ops:b'.ops=IW b.ops i jO
 st:b'.st=b.st
 nt:b'.nt=b.nt
 many:b.many<16->b'.many=b.many+1
 pile:WC b'
def Aiz(h:Ee w bk b)(G:WC b){i:Nat}(r:MM b.wt=jm i)(x:ni):
 Calls prog 100 #[AB bk,x] w λa w'=>a=iO (iJ #[i,gz iU 0])/\
  ∃A,Opened b A i x/\Ee w' bk A/\Touch (·=bk) w w':=by
 obtain⟨d,T⟩:=Xq r;have y:=Ac (pJ h);have H:PK b.wt=(i:Int):=by unfold PK;rw[r]
 rw[H]at y;have V:(i:Int)<8:=O;have E:=h.frozen i;have F:=h.frozen (8+i);have B:=h.cellAt i d;have C:=h.Zg i d;have v:Hid (∀e,e=(w.setCell (Δ bk i) (gz iV (x.toNat:Int))).setCell (Δ bk (8+i)) (iw jO)\/e=(w.setCell (Δ bk (8+i)) (iw jO)).setCell (Δ bk i) (gz iV (x.toNat:Int))->
  Ee e.drew bk {b with ats:=IW b.ats i x,ops:=IW b.ops i jO}/\Touch (·=bk) w e.drew):=Ac (by
  rintro e(rfl|rfl)
  ·exact⟨((h.setAt i d x).Agn i d jO).dr (Dr.drew _),(((Touch.refl (·=bk) w).setCell (p:=Δ bk i) (.inl rfl) _).setCell (p:=Δ bk (8+i)) (.inl rfl) _).drew⟩
  ·exact⟨((h.Agn i d jO).setAt i d x).dr (Dr.drew _),(((Touch.refl (·=bk) w).setCell (p:=Δ bk (8+i)) (.inl rfl) _).setCell (p:=Δ bk i) (.inl rfl) _).drew⟩)
 have j:=Ac G;have N:=Ac d;clear h r H G T;go_in;go_wp2_with(refine y.out.ro ?_);go_region
 all_goals(
  first
   |(obtain⟨P,c⟩:=ε (((w.setCell (Δ bk i) (gz iV (x.toNat:Int))).setCell (Δ bk (8+i)) (iw jO)).drew)
     rw[<-c];have k:=v _ (.inl rfl);rw[<-c]at k;clear c)
   |(obtain⟨P,c⟩:=ε (((w.setCell (Δ bk (8+i)) (iw jO)).setCell (Δ bk i) (gz iV (x.toNat:Int))).drew)
     rw[<-c];have k:=v _ (.inr rfl);rw[<-c]at k;clear c)
  obtain⟨f,J⟩:=k;have D:=f.L9;have z:=Ac J;clear J;by_cases q:b.many=16
  ·have L:=Ac (Ads f)
   dsimp only at D L
   have g:=Ac q;clear f E F B C;go_wp2_with(refine L.out.mono ?_;rintro a U⟨rfl,l,n,W,o,R,Q,m,t⟩);go_ret2;exact⟨rfl,{b with ats:=IW b.ats i x,ops:=IW b.ops i jO,Iz:=l,many:=n},⟨rfl,rfl,rfl,rfl,λh=>absurd g.out O,o,R,Q,by dsimp only;omega⟩,m,z.trans t (λ_=>.inl)⟩
  ·have g:Hid (b.many<16):=Ac (Ω j.len);have u:=Ac (Ym (x,i) f (by dsimp only;exact g) (by dsimp only;exact j.heap))
   dsimp only at D u
   unfold mkV at u;clear f E F B C;go_wp2_with(refine u.out.mono ?_;rintro a U⟨rfl,l,I,o,m,t⟩);go_ret2;refine⟨rfl,{b with ats:=IW b.ats i x,ops:=IW b.ops i jO,Iz:=l,many:=b.many+1},⟨rfl,rfl,rfl,rfl,λ_=>rfl,o,?_,?_,?_⟩,m,z.trans t (λ_=>.inl)⟩
   ·intro M q;rcases(I M).1 q with h|rfl
    ·exact j.ids M h
    ·exact N
   ·intro K S s;refine(I _).2 ?_;simp only[IW]at s⊢;by_cases a:K=i
    ·rw[kX a,a];exact .inr rfl
    ·rw[lg a];rw[lg a]at s;exact .inl (j.has K S s)
   ·have:=g.out;dsimp only;omega)
structure Closed(b b':Bk)(i:Nat):Prop where
 ats:b'.ats=IW b.ats i 0
 ops:b'.ops=IW b.ops i jS
 st:b'.st=b.st
 nt:b'.nt=b.nt
 many:b'.many=b.many
 pile:WC b'
def Adt(h:Ee w bk b)(m:WC b){i:Nat}(hi:i<8)(o:b.ops i=jO):
 Calls prog 111 #[AB bk,i] w λf w'=>f=iO (gz iU 0)/\
  ∃l,Closed b l i/\Ee w' bk l/\Touch (·=bk) w w':=by
 have k:=Ac (yT h (i:Int));have n:Ey b.wt (i:Int)=true:=by
  unfold Ey;simp only[Bool.and_eq_true,decide_eq_true_eq];exact⟨O,O,o⟩
 rw[n]at k;have A:(i:Int)<8:=O;have u:=h.frozen i;have v:=h.frozen (8+i);have s:=h.cellAt i hi;have t:=h.Zg i hi;have j:Hid (∀c,c=(w.setCell (Δ bk i) (gz iV 0)).setCell (Δ bk (8+i)) (iw jS)\/c=(w.setCell (Δ bk (8+i)) (iw jS)).setCell (Δ bk i) (gz iV 0)->
  Ee c.drew bk {b with ats:=IW b.ats i 0,ops:=IW b.ops i jS}/\Touch (·=bk) w c.drew):=Ac (by
  rintro c(rfl|rfl)
  ·exact⟨((h.setAt i hi 0).Agn i hi jS).dr (Dr.drew _),(((Touch.refl (·=bk) w).setCell (p:=Δ bk i) (.inl rfl) _).setCell (p:=Δ bk (8+i)) (.inl rfl) _).drew⟩
  ·exact⟨((h.Agn i hi jS).setAt i hi 0).dr (Dr.drew _),(((Touch.refl (·=bk) w).setCell (p:=Δ bk (8+i)) (.inl rfl) _).setCell (p:=Δ bk i) (.inl rfl) _).drew⟩)
 have e:=Ac m;clear h m o n;go_in;go_wp2_with(refine k.out.ro ?_);go_region
 all_goals(
  first
   |(obtain⟨r,a⟩:=ε (((w.setCell (Δ bk i) (gz iV 0)).setCell (Δ bk (8+i)) (iw jS)).drew)
     rw[<-a];have g:=j _ (.inl rfl);rw[<-a]at g;clear a)
   |(obtain⟨r,a⟩:=ε (((w.setCell (Δ bk (8+i)) (iw jS)).setCell (Δ bk i) (gz iV 0)).drew)
     rw[<-a];have g:=j _ (.inr rfl);rw[<-a]at g;clear a)
  obtain⟨x,z⟩:=g;clear u v s t;go_wp2;go_ret;refine⟨rfl,{b with ats:=IW b.ats i 0,ops:=IW b.ops i jS},⟨rfl,rfl,rfl,rfl,rfl,e.heap,e.ids,?_,e.len⟩,x,z⟩;intro q y d;simp only[IW]at d⊢;by_cases f:q=i
  ·rw[kX f]at d;exact absurd d U
  ·rw[lg f]at d⊢;exact e.has q y d)
def Yn(b:Bk)(m:Mk):Bool:=b.ops m.2&&decide (b.ats m.2=m.1)
def Ai0(h:Ee w bk b)(m:Mk)(g:m.2<8):Calls prog 168 #[AB bk,mkV m] w λf w'=>f=iO (iw (Yn b m))/\η w w':=by
 have i:(m.2:Int)<8:=O;have j:=h.cellAt m.2 g;have e:=h.Zg m.2 g;have k:=h.lt;unfold mkV;cases a:b.ops m.2 with
 |false=>
  have d:Hid (Yn b m=jS):=Ac (by unfold Yn;rw[a];rfl);rw[a]at e;clear h a;go_in;go_wp2_with fail;go_quiet(fail);go_wp2;go_ret;exact⟨by rw[d.out];rfl,(mZ.alloc (Ae _) _).trans ((Dr.one _ _).below _)⟩
 |true=>
  rw[a]at e;have d:Hid (Yn b m=(((b.ats m.2).toNat:Int)==(m.1.toNat:Int))):=Ac (by
   unfold Yn;rw[a,Bool.true_and];by_cases c:b.ats m.2=m.1
   ·rw[decide_eq_true c,c];exact(beq_self_eq_true _).symm
   ·rw[decide_eq_false c];exact(beq_eq_false_iff_ne.2 (λf=>c (Eb.1 O))).symm)
  clear h a;go_in;go_wp2_with fail;go_quiet(fail);go_wp2;go_ret;exact⟨by rw[d.out];rfl,(mZ.alloc (Ae _) _).trans ((Dr.one _ _).below _)⟩
end
section
variable{w w':jT}{bk:Nat}{b:Bk}
structure Dropped(b b':Bk):Prop where
 ats:b'.ats=b.ats
 ops:b'.ops=b.ops
 st:b'.st=b.st
 nt:b'.nt=b.nt
 many:b'.many<=b.many
 pile:WC b'
def Ai1(h:Ee w bk b)(f:WC b)(n:Nat)(g:b.many=n+1)(a:Yn b (b.Iz 0)=jS):
 Calls prog 167 #[AB bk] w λe w'=>e=iO (iJ #[])/\
  ∃j,Dropped b j/\j.many=n/\Ee w' bk j/\Touch (·=bk) w w':=by
 obtain⟨o,i,d,m⟩:=lL (yS h n g (Ω f.len) (by have:=f.heap;rwa [g]at this)) f g a;clear h f g a;go_in;go_wp2_with(refine o.out.mono ?_;rintro e x⟨rfl,p,q,r,s,hb,v⟩);go_end0;refine⟨rfl,{b with Iz:=p,many:=n},⟨rfl,rfl,rfl,rfl,?_,s,?_,?_,?_⟩,rfl,hb,v⟩
 ·have:=d.out;dsimp only;omega
 ·intro l u;exact i.ids l (d.out▸q l u)
 ·intro c t k;refine r _ (λe=>?_) (d.out▸i.has c t k);have a:=m.out;rw[<-e]at a;unfold Yn at a;rw[show b.ops (b.ats c,c).2=jO from k,Bool.true_and,decide_eq_true (rfl:b.ats (b.ats c,c).2=(b.ats c,c).1)]at a;exact absurd a U
 ·have:=i.len;have:=d.out;dsimp only;omega
def Adu(w:jT)(bk:Nat):Nat:=(intOf ((w.cell? (Δ bk 48)).getD undef)).toNat
def pK(h:Ee w bk b):Adu w bk=b.many:=by
 unfold Adu;rw[h.L9];simp[intOf]
def yU(l:Array ku)(a:jT):(callFunc 167 l).run prog a=.ok (.enter 167 l) a:=by
 simp[callFunc,func167,Tryz.f167]
def Adv(h:Ee w bk b)(B:WC b)(x:ni):
 Calls prog 113 #[AB bk,x] w λe w'=>e=iO (gz iV ((Eo b.wt x).toNat:Int))/\
  ∃a,Dropped b a/\Ee w' bk a/\Touch (·=bk) w w':=by
 have U:=λR J=>yU R J
 have A:=Ac h;have I:=Ac B;clear h B;go_in;go_wp2_with fail;go_loopw [](λwr=>∃a,Dropped b a/\Ee wr bk a/\Touch (·=bk) w wr)(λwr=>Adu wr bk)
 case atStart=>exact⟨b,⟨rfl,rfl,rfl,rfl,Ae _,I.out⟩,A,mP⟩
 case round=>
  obtain⟨a,m,hb,D⟩:=hrel;have c:=Ac m;have u:=Ac D;have E:Hid (b.wt=a.wt):=Ac (by unfold Bk.wt;rw[m.ats,m.ops]);have l:=hb.L9;have r:=Ac hb;have H:=Ac (pK hb);clear m D A;cases i:a.many with
  |zero=>
   rw[i]at l;have v:Hid (Eo b.wt x=x):=Ac (by
    rw[E.out];refine Ado λq y=>?_
    cases z:isOpen a.wt q with
    |false=>rfl
    |true=>
     obtain⟨F,o,_⟩:=c.pile.has q y z;rw[i]at o;exact absurd o O)
   clear hb i;rw[show((0:Nat):Int)=0 from rfl]at l;go_wp2;go_ret;exact⟨by rw[v.out];rfl,a,c,r,u⟩
  |succ n=>
   rw[i,show((n+1:Nat):Int)=(n:Int)+1 by omega]at l;have t3:((n:Int)+1==0)=false:=beq_eq_false_iff_ne.2 O;obtain⟨L,M⟩:=hb.RD 0 O;have j:=Ac (Ai0 hb (a.Iz 0) (c.pile.ids _ ⟨0,O,rfl⟩));unfold mkV at j;have k:=Ac i;clear hb i;cases g:Yn a (a.Iz 0)with
   |true=>
    rw[g]at j;have v:Hid (Eo b.wt x=(a.Iz 0).1):=Ac (by
     rw[E.out];have p:=g;unfold Yn at p;simp only[Bool.and_eq_true,decide_eq_true_eq]at p;refine Ane ⟨(a.Iz 0).2,c.pile.ids _ ⟨0,by rw[k.out];omega,rfl⟩,p.1,p.2⟩ λq y z=>?_
     obtain⟨F,o,e⟩:=c.pile.has q y z;have:=iG c.pile.heap F o;unfold IB at this;rw[e]at this;exact this)
    clear g;go_wp2_with(refine j.out.mono ?_;rintro e S⟨rfl,d⟩;have s:=Ac (r.below d);have N:=s.L9;obtain⟨d0,d1⟩:=s.RD 0 O;rw[k.out,show((n+1:Nat):Int)=(n:Int)+1 by omega]at N;have t:=Ac d;clear d);go_ret;exact⟨by rw[v.out];rfl,a,c,s,u.trans (mD t) (λ_=>.inl)⟩
   |false=>
    rw[g]at j;have G:=Ac g;clear g;go_wp2_with(first|(refine j.out.mono ?_;rintro e S⟨rfl,d⟩;have T:=Ac (Ai1 (r.below d) c.pile n k G);have t:=Ac d;clear d l L M)|(refine T.mono ?_;rintro e V⟨rfl,K,f,P,C,Q⟩));go_roundw
    case rel=>exact⟨K,⟨f.ats.trans c.ats,f.ops.trans c.ops,f.st.trans c.st,f.nt.trans c.nt,AZ f.many c.many,f.pile⟩,C,(u.trans (mD t) (λ_=>.inl)).trans Q (λ_=>.inl)⟩
    case measure=>rw[H.out,k.out,pK C,P];omega
end
def A2g:Value:=iK #[gz iV 0,gz iV 0,jS,ig ⟨#[]⟩]
def Adw(l:List ni)(w:jT)(e:Ending)(w':jT):Prop:=
 η w w'/\match Qi l with
  |none=>e=iO (iJ #[A2g,jS])
  |some a=>e=iO (iJ #[rcV a,jO])
def dI{i:Ending->jT->Prop}{e:jT}{f:Array ku}{j:Func}(l:j.results= #[.cell 2 195,.tmp 3])(g:Nat){a b c d:ku}(h:Cm e g 195 [a,b,c,d])(v:ku)(h2:f[2]?=jm (AB g))(h3:f[3]?=jm v)
 (k:i (iO (iJ #[iK #[a,b,c,d],v])) e):bodyPost prog j i Exit.ret {tmps:=f,defers:=[]} e:=by
 obtain⟨m,n,o,p,f0,f1,f2,f3⟩:=Dp h;refine bodyPost_ret (v:=iJ #[iK #[a,b,c,d],v]) (by simp[results,l,go_sem,h2,h3,m,n,o,p]) rfl k
def U1(l:List ni)(m k:Nat):List nC:=(leBytes (l.drop 3)).take k++BJ (m-k) 0
def pM(l:List ni)(m k:Nat)(b:l.length=8)(c:m<=40)(a:k<=m):(U1 l m k).length=m:=by
 unfold U1;have:=leBytes_length (l.drop 3);simp at this;simp;omega
def Adx(l:List ni)(m k:Nat)(c:l.length=8)(f:m<=40)(e:k<m)(h3:3+k/8<l.length):(U1 l m k).set k (leB l[3+k/8] (k%8))=U1 l m (k+1):=by
 have a:=leBytes_length (l.drop 3);rw[AU,c]at a;have hb:=JZ (l.drop 3) (k/8) (k%8) (by rw[AU];omega) O;rw[show 8*(k/8)+k%8=k by omega,bF]at hb;unfold U1;rw[VV _ _ (by rw[Cc];omega),Cc,Nat.min_eq_left O,Nat.sub_self];obtain⟨d,b⟩:∃d,m-k=d+1:=⟨m-k-1,O⟩;rw[b,show m-(k+1)=d by omega,List.replicate_succ,Aq,List.take_add_one,hb];simp
def A2h(n:Nat)(c:n<18446744073709551616):(bits BinOp.and iV (n:Int) 256 !=0)=decide (n/256%2=1):=by
 have h:=u64_and_nat n 256 c U;rw[show((256:Nat):Int)=256 from rfl]at h;rw[h];have hb:n&&&256=if n.testBit 8 then 256 else 0:=by
  apply Nat.eq_of_testBit_eq;intro d;rw[Nat.testBit_and,show 256=2^8 from rfl,Ahi];by_cases b:8=d
  ·subst b;cases n.testBit 8
   ·rfl
   ·decide
  ·rw[decide_eq_false b,Bool.and_false];split
   ·rw[Ahi,decide_eq_false b]
   ·simp
 rw[hb,Nat.testBit_eq_decide_div_mod_eq];by_cases a:n/2^8%2=1
 ·rw[kX (decide_eq_true a),decide_eq_true (by simpa using a)];rfl
 ·rw[lg (by rw[decide_eq_false a];exact Bool.false_ne_true),decide_eq_false (by simpa using a)];rfl
def byte_of(x:ni)(j:Nat):(x.toNat:Int)/2^(j*8)%256=((leB x j).toNat:Int):=by
 have:=xP x j;rw[KD 8 j]at this;exact this
def Ai2(l:List ni)(A:Option Addr)(c:Nat)(w:jT)(_:8<=c)(h:Ws w A 8 l):Calls prog 135 #[fM A 8 c] w (Adw l w):=by
 have z:=h.len;obtain⟨ck,b,F,rfl,bb,am⟩:=h.at (show 0<8 by decide);obtain⟨f,au,hb,Z⟩:=E5 w 195 [gz iV 0,gz iV 0,jS,ig ⟨#[]⟩];obtain⟨i,N⟩:∃n,n=l[0].toNat:=⟨_,rfl⟩;have bB:i<18446744073709551616:=N▸bD _;have a7:(l.getD 0 0).toNat=i:=by rw[N,Bv,Ag ck];rfl
 rw[<-N]at am;have D:=Ac a7;clear N a7;have d0:f.cell? (Δ b F)=jm (gz iV (i:Int)):=by have:=(hb.cell (p:=Δ b (F+0)) bb).trans am;simpa using this
 obtain⟨ah,aW,ae⟩:=l9 au hb Z;obtain⟨co,cp,cq,cr,f0,f1,f2,f3⟩:=Dp Z;rw[au]at d0 co cp cq cr f0 f1 f2 f3;clear hb Z au;by_cases cx:40<i/65536
 ·have t1:=dT ((40:Int)<(i:Int)/65536);have r:Hid (Qi l=jw):=Ac (by unfold Qi;rw[lg (by rintro⟨_,h⟩;rw[D.out]at h;omega)]);go_in;go_wp2_with fail;rw[<-ah.out];refine dI rfl w ae (iw jS) rfl rfl ⟨aW,?_⟩;rw[r.out];rfl
 ·have t1:=dF ((40:Int)<(i:Int)/65536);obtain⟨d,bh⟩:=ε (i/65536);have t:d<=40:=O;have bi:∀f:jT,(Instr.makeSlice 22 (gz iV ((i:Int)/65536)) (gz iV ((i:Int)/65536))).run prog f=.ok (fM (jm (Φ f)) d d) (f.alloc (ji (madeCells (AA .u8 0).cells (d*1)) 5)):=λf=>by
   obtain⟨ci,b9,cf,cg,ch⟩:=info_parts Tryz.Jq.hi;have m:(i:Int)/65536=(d:Int):=O;rw[m];have:=run_make (P:=prog) (w:=f) 22 5 ci (gz .u8 0) underlying22 b9 cf iV iV (d:Int) (d:Int) O O (by rw[ch];omega) O;rw[cg]at this;simpa using this
  obtain⟨a4,M⟩:=ε (f.alloc (ji (madeCells (AA .u8 0).cells (d*1)) 5));have aw:=bi f;rw[<-M]at aw;obtain⟨tb,Q⟩:=ε f.heap.size;rw[<-Q]at aw;have b7:f.heap.size=w+1:=by rw[ah.out];simp
  have aR:Cm a4 tb 5 ((U1 l d 0).map bv):=by
   have m:(U1 l d 0).map bv=(madeCells (AA .u8 0).cells (d*1)).toList:=by rw[TA];simp[U1]
   rw[m];unfold Cm;rw[M,Q,A4v];exact heap_alloc_new _ _
  have a8:Below tb f a4:=by rw[M,Q];exact mZ.alloc (Ae _) _
  obtain⟨bM,bS,I⟩:=l9 aR a8 bh;have a1:Hid (tb=w+1):=Ac O;rw[ah.out]at aw;clear aR a8 M bi bh Q b7;go_in;go_wp2_with fail;go_loopw [27](λaG wr=>∃a:Nat,a<=d/\aG=gz iU (a:Nat)/\Cm wr tb 5 ((U1 l d a).map bv)/\Below tb f wr)(λaG _=>d-(intOf aG).toNat)
  case atStart=>exact⟨0,Bd _,rfl,bM,bS⟩
  case round=>
   obtain⟨a,cz,rfl,bk,av⟩:=hrel;obtain⟨S,al,G⟩:=l9 bk av (aW.trans (av.mono (Ω a1.out)));clear bk av;by_cases cd:a<d
   ·have ca:3+a/8<8:=O;obtain⟨ce,cu,cB,an,_,b8⟩:=(h.below G).at ca;injection an with an
    injection an with b0 b3
    subst b0 b3;have cc:=pM l d a z t O;obtain⟨cC,cA⟩:∃v,wr.cell? (Δ tb a)=jm v:=⟨_,S.has (i:=a) (by rw[Df];omega)⟩;have cy:=S.frozen a;have aI:=Ac (byte_of l[3+a/8] (a%8));have aL:Hid (Cm (wr.setCell (Δ tb a) (gz .u8 ((leB l[3+a/8] (a%8)).toNat:Int))) tb 5 ((U1 l d (a+1)).map bv)):=Ac (by
     rw[<-Adx l d a z t cd ce,O9];exact S.Be a _)
    have a0:Hid (Below tb f (wr.setCell (Δ tb a) (gz .u8 ((leB l[3+a/8] (a%8)).toNat:Int)))):=Ac (al.setCell (p:=Δ tb a) (Ae _) _);obtain⟨x,bl⟩:∃x,l[3+a/8]=x:=⟨_,rfl⟩;rw[bl]at b8 aI aL a0;clear bl cc;go_wp2_with fail;rw[aI.out];exact⟨⟨a+1,O,by go_num,aL,a0⟩,mz⟩
   ·have cb:a=d:=O;subst cb;obtain⟨cl,cv,cs,ao,_,a5⟩:=(h.below G).at (show 1<8 by decide);injection ao with ao
    injection ao with b1 b2
    subst b1 b2;obtain⟨cm,cw,ct,ap,_,a6⟩:=(h.below G).at (show 2<8 by decide);injection ap with ap
    injection ap with b4 b5
    subst b4 b5;have bY:wr.cell? (Δ b F)=jm (gz iV (i:Int)):=by have:=(G.cell (p:=Δ b (F+0)) bb).trans am;simpa using this
    obtain⟨e,az⟩:∃e:nG,e=⟨((leBytes (l.drop 3)).take a).toArray⟩:=⟨_,rfl⟩;have ar:U1 l a a=(leBytes (l.drop 3)).take a:=by simp[U1]
    have aq:Bs wr (jm (Φ tb)) a ((leBytes (l.drop 3)).take a):=by
     have:=S.rd;rw[ar,Df]at this;have m:((leBytes (l.drop 3)).take a).length=a:=by rw[<-ar];exact pM l a a z t (Ae _)
     rw[m]at this;exact this
    have ba:η wr wr.drew:=mX wr;have a9:η wr (wr.alloc (ji #[gz iV 0,gz iV 0,jS,ig ⟨#[]⟩] 195)).drew:=(mZ.alloc (Ae _) _).trans (mX _);have bc:=KL (P:=prog) underlying22 underlying5 underlying9 (aq.below ba) a;have bd:=KL (P:=prog) underlying22 underlying5 underlying9 (aq.below a9) a;rw[<-az]at bc bd;clear ba a9;obtain⟨g,bg⟩:∃g,(bits BinOp.and iV (i:Int) 256 !=0)=g:=⟨_,rfl⟩;obtain⟨j,aD⟩:∃x,l[1]=x:=⟨_,rfl⟩;obtain⟨k,aE⟩:∃x,l[2]=x:=⟨_,rfl⟩;rw[aD]at a5;rw[aE]at a6;obtain⟨bQ,bR,bN,a2⟩:=lL aD aE bg az;clear aD aE az ar aq;go_wp2_with fail;go_region
    all_goals(obtain⟨E,K⟩:=ε ((wr.alloc (ji #[j,k,g,e] 195)).drew);have ab:Cm E wr 195 [j,k,g,e]:=by rw[K];exact heap_alloc_new _ _)
    all_goals(have X:η wr E:=by rw[K];exact(mZ.alloc (Ae _) _).trans (mX _))
    all_goals(have br:=τ G.out X;have a3:Cm E w 195 _:=(ae.below al (Ω a1.out)).below X (Ψ al.size ae.lt))
    all_goals(have ad:=Ac (oZ ⟨j,k,g,e⟩ E (by show e.size<=_;have b6:e.size=((leBytes (l.drop 3)).take a).length:=(by rw[a2.out];rfl);rw[b6,Cc];omega)))
    all_goals(rw[<-K];unfold rcV at ad;obtain⟨u0,u1,u2,u3,_,_,_,_⟩:=Dp ab)
    all_goals(have ac:Hid (WS l=⟨j,k,g,e⟩):=Ac (by
     have bV:l.getD 1 0=j:=by rw[Bv,Ag cl];exact bQ
     have bW:l.getD 2 0=k:=by rw[Bv,Ag cm];exact bR
     have bX:decide (i/256%2=1)=g:=by rw[<-bN.out];exact(A2h i bB).symm
     unfold WS;rw[bV,bW,D.out,bX,<-I.out,<-a2.out]))
    all_goals(obtain⟨cj,bO,bE⟩:=l9 ab a3 br;clear ab a3 br X K bY a5 a6 bc bd bg;go_wp2_with fail)
    all_goals(refine ad.out.mono ?_;rintro m bs⟨R,q⟩;have H:=τ bE.out R;have J:=bO.out.ξ R;have aa:=cj.out.ξ R;cases u:Et ⟨j,k,g,e⟩)
    all_goals(rw[u]at q;obtain⟨T,V,bL⟩:=l9 J H aa;clear ad u0 u1 u2 u3 R)
    all_goals first
     |(replace q:m=iO (iJ #[fM jw 0 0,jS]):=q
       subst q;have r:Hid (Qi l=jw):=Ac (by unfold Qi;rw[kX ⟨z,by rw[D.out,<-I.out];exact t⟩,ac,u];simp);obtain⟨bt,bw,bx,bA,bm,bo,bp,bq⟩:=Dp J;clear u J aa H;go_wp2_with fail;have C:=(((T.Be 0 (gz iV 0)).Be 1 (gz iV 0)).Be 2 (iw jS)).Be 3 (ig ⟨#[]⟩);have NM:=(((V.setCell (p:=Φ w) (Ae _) (gz iV 0)).setCell (p:=Δ w 1) (Ae _) (gz iV 0)).setCell (p:=Δ w 2) (Ae _) (iw jS)).setCell (p:=Δ w 3) (Ae _) (ig ⟨#[]⟩);refine dI rfl w C (iw jS) rfl rfl ⟨NM,?_⟩;rw[r.out];rfl)
     |(replace q:∃L,m=iO (iJ #[fM (jm (Φ L)) 8 8,jO])/\bs.ownsRow E 47 1 (fM (jm (Φ L)) 8 8) 8 ((EE ⟨j,k,g,e⟩).map wv):=q
       obtain⟨L,rfl,bj⟩:=q;have be:=TK (jm (Φ L)) (jm (Δ b F)) 8 8 8 c (EE ⟨j,k,g,e⟩) l bs U U (Dk bj).2 (h.below H);have B:=Ac be;clear be bj aa J H;by_cases y:EE ⟨j,k,g,e⟩=l
       ·have r:Hid (Qi l=jm ⟨j,k,g,e⟩):=Ac (by unfold Qi;rw[kX ⟨z,by rw[D.out,<-I.out];exact t⟩,ac,kX ⟨u,y⟩]);rw[decide_eq_true y]at B;clear y u;go_wp2_with(refine B.out.mono ?_;rintro m cn⟨rfl,o⟩;have s:=T.out.ξ (o.below _);have aM:=bL.out.ξ (o.below _);have W:=Ac (V.trans (o.below w));obtain⟨bt,bw,bx,bA,bm,bo,bp,bq⟩:=Dp s;obtain⟨u0,u1,u2,u3,_,_,_,_⟩:=Dp aM;have Y:=Ac s;clear s aM o B);have C:=(((Y.Be 0 (gz iV (j.toNat:Int))).Be 1 (gz iV (k.toNat:Int))).Be 2 (iw g)).Be 3 (ig e);have NM:=(((W.setCell (p:=Φ w) (Ae _) (gz iV (j.toNat:Int))).setCell (p:=Δ w 1) (Ae _) (gz iV (k.toNat:Int))).setCell (p:=Δ w 2) (Ae _) (iw g)).setCell (p:=Δ w 3) (Ae _) (ig e);refine dI rfl w C (iw jO) rfl rfl ⟨NM,?_⟩;rw[r.out];rfl
       ·have r:Hid (Qi l=jw):=Ac (by unfold Qi;rw[kX ⟨z,by rw[D.out,<-I.out];exact t⟩,ac,lg (λh=>y h.2)]);rw[decide_eq_false y]at B;clear y u;go_wp2_with(refine B.out.mono ?_;rintro m cn⟨rfl,o⟩;have s:=T.out.ξ (o.below _);have W:=Ac (V.trans (o.below w));obtain⟨bt,bw,bx,bA,bm,bo,bp,bq⟩:=Dp s;have Y:=Ac s;clear s o B);have C:=(((Y.Be 0 (gz iV 0)).Be 1 (gz iV 0)).Be 2 (iw jS)).Be 3 (ig ⟨#[]⟩);have NM:=(((W.setCell (p:=Φ w) (Ae _) (gz iV 0)).setCell (p:=Δ w 1) (Ae _) (gz iV 0)).setCell (p:=Δ w 2) (Ae _) (iw jS)).setCell (p:=Δ w 3) (Ae _) (ig ⟨#[]⟩);refine dI rfl w C (iw jS) rfl rfl ⟨NM,?_⟩;rw[r.out];rfl)
def C9{w:jT}{pI k n:Nat}{e:TypeId}{v:ku}{xs:List ku}(h:w.ownsRow pI e k v n xs):∃A b,v=fM A n b/\n<=b/\Rd w A (n*k) xs:=by
 rcases h.2 with⟨a,d⟩|⟨c,o,g,a,d,f,i,p,q,l⟩
 ·subst d;exact⟨jw,0,a,Ae _,h.1,λm=>O⟩
 ·refine⟨_,_,a,i,h.1,λm=>⟨c,0,rfl,(AL.1 f).1,λj r=>?_⟩⟩;rw[cell_of_row w c _ g _ (0,0) f,<-l,Dh,kX O];simp
def flat_get{e:Type}(f:e->List ku)(m:Nat)(a:∀b,(f b).length=m):∀(l:List e)(k i:Nat)(d:k<l.length),i<m->((l.map f).flatten)[k*m+i]?=(f l[k])[i]?
 |b::t,0,i,_,c=>by
  rw[Ci,NH,Nat.zero_mul,Du,DK (by rw[a];exact c)];rfl
 |b::t,k+1,i,d,c=>by
  rw[Ci,NH,Ez (by rw[a,Axs];omega),a,show(k+1)*m+i-m=k*m+i by rw[Axs];omega];exact flat_get f m a t k i (by simpa using d) c
def lkC(k:Lk):List Value:=[k.off,k.rc.nK,k.rc.next,k.rc.gone,k.rc.text]
def nD(l:List Lk):List Value:=(l.map lkC).flatten
def yV(l:List Lk)(a:Lk):nD (l++[a])=nD l++lkC a:=by simp[nD]
def LkR(w:jT)(A:Option Addr)(l:List Lk):Prop:=Rd w A (l.length*5) (nD l)
def LkR.below{w w':jT}{A:Option Addr}{l:List Lk}(h:LkR w A l)(k:η w w'):LkR w' A l:=Rd.below h k
def LkR.at{w:jT}{A:Option Addr}{l:List Lk}(h:LkR w A l)(k:Nat)(i:k<l.length):∃b a,A=jm (Δ b a)/\b<w/\w.cell? (Δ b (a+k*5))=jm (gz iU l[k].off)/\w.cell? (Δ b (a+k*5+1))=jm (gz iV (l[k].rc.nK.toNat:Int))/\
 w.cell? (Δ b (a+k*5+2))=jm (gz iV (l[k].rc.next.toNat:Int))/\w.cell? (Δ b (a+k*5+3))=jm (iw l[k].rc.gone)/\w.cell? (Δ b (a+k*5+4))=jm (ig l[k].rc.text):=by
 obtain⟨b,a,e,hb,f⟩:=h.2 O;have d:∀c,c<5->w.cell? (Δ b (a+k*5+c))=(lkC l[k])[c]?:=λc g=>by
  rw[JD,f (k*5+c) O];exact flat_get lkC 5 (λ_=>rfl) l k c i g
 exact⟨b,a,e,hb,d 0 U,d 1 U,d 2 U,d 3 U,d 4 U⟩
def dJ{w:jT}{pI:Nat}{v:ku}{l:List Lk}(h:w.ownsRow pI 197 5 v l.length (nD l)):∃A a,v=fM A l.length a/\l.length<=a/\LkR w A l:=C9 h
section
variable{w w':jT}{d p L:Nat}{s:St}{F:Nat->Prop}
def Fg.size{len:DJ}(h:Fg len w d p L s F):Calls prog 19 #[AB d] w λa w'=>a=iO (gz iU ((L*64:Nat):Int))/\w=w':=by
 obtain⟨tb,hb,n,cT,cH,own,h,_⟩:=h;exact h.dev.size h.L1
def Fg.pos{len:DJ}(h:Fg len w d p L s F):0<L/\L<=1024/\mV L s.sh/\s.tk.length=s.sh.CE:=by
 obtain⟨tb,hb,n,cT,cH,own,h,_⟩:=h;exact⟨h.L0,h.L1,J4 h.shape,by rw[h.TL,h.oJ]⟩
def Zh{len:DJ}(h:Fg len w d p L s F):Calls prog 133 #[AB d,AB p] w λc w'=>c=iO jS/\w=w':=by
 have e:=h.pos.1;have t0:(((L*64:Nat):Int)==0)=false:=ζ O;have a:=h.size;generalize L*64=f at a t0;have b:=Ac a;clear a h;go_in;go_wp2_with(refine b.out.ro ?_);go_ret;exact⟨rfl,rfl⟩
end
def Arx(l:List Lk)(a:Nat):Value:=match Je l a with
 |some t=>iJ #[t,jO]
 |none=>iJ #[ig ⟨#[]⟩,jS]
def Ann(l:List Lk)(A:Option Addr)(c:Nat)(a:ni)(w:jT)(H:l.length<=100000)(h:LkR w A l):Calls prog 108 #[fM A l.length c,a] w λt w'=>t=iO (Arx l a.toNat)/\η w w':=by
 have s:=Ac h;clear h;go_in;go_wp2_with fail;go_loopw [10](λm wr=>∃d:Nat,d<=l.length/\m=gz iU (d:Nat)/\Je l a.toNat=Je (l.drop d) a.toNat/\η w wr)(λm _=>l.length-(intOf m).toNat)
 case atStart=>exact⟨0,Bd _,rfl,rfl,mZ⟩
 case round=>
  obtain⟨d,G,rfl,o,hb⟩:=hrel;have i:=Ac o;have e:=Ac hb;clear o hb;by_cases k:d<l.length
  ·obtain⟨b,K,rfl,F,z,B,C,D,E⟩:=(s.below e).at d k;obtain⟨u,J,v⟩:=XH k;have I:=XI d O;have j:Hid (Je l a.toNat=if l[d].rc.nK.toNat<=a.toNat then(if l[d].rc.gone then jw else jm l[d].rc.text)else Je (l.drop (d+1)) a.toNat):=Ac (by
    rw[i.out,BX k,Je])
   generalize l[d]=n at*;obtain⟨y,g,x,p,n⟩:=n;simp only at z B C D E j;by_cases f:g.toNat<=a.toNat
   ·have t1:=dT ((g.toNat:Int)<=(a.toNat:Int));have t2:=dT (g.toNat<=a.toNat) f;rw[kX f]at j;clear f i;cases p
    all_goals(go_wp2_with fail)
    all_goals(go_ret2)
    all_goals(refine⟨?_,e.alloc e.size _⟩)
    all_goals(unfold Arx)
    all_goals(rw[j.out])
    all_goals rfl
   ·have t1:=dF ((g.toNat:Int)<=(a.toNat:Int));have t2:=dF (g.toNat<=a.toNat) f;rw[lg f]at j;have q:=Ac (e.alloc e.size (ji #[y,g,x,p,n] 197));clear f i;go_wp2_with fail;go_roundw
    case rel=>exact⟨d+1,O,by go_num,j,q⟩
    case measure=>simp[intOf];omega
  ·obtain⟨u,v⟩:=wO k;have r:Hid (Je l a.toNat=jw):=Ac (by rw[i.out,D9 O];rfl);clear i;go_wp2_with fail;go_ret2;refine⟨?_,e⟩;unfold Arx;rw[r.out];rfl
def Ai4(l:List Lk)(A:Option Addr)(c:Nat)(low:ni)(w:jT)(J:l.length<=100000)(h:LkR w A l):Calls prog 114 #[fM A l.length c,low] w λv w'=>v=iO (gz iU ((MK l low.toNat:Nat):Int))/\η w w':=by
 have u:=Ac h;clear h;go_in;go_wp2_with fail;go_loopw [5,6,11](λG e o wr=>∃(a n:Nat)(b:Bool),a<=l.length/\n<=a/\o=gz iU (a:Nat)/\G=gz iU (n:Nat)/\e=iw b/\MK l low.toNat=n+Nr low.toNat (l.drop a) b/\η w wr)(λ_ _ o _=>l.length-(intOf o).toNat)
 case atStart=>exact⟨0,0,jS,Bd _,Bd _,rfl,rfl,rfl,by rw[Du];rfl,mZ⟩
 case round=>
  obtain⟨a,n,e,I,K,rfl,rfl,rfl,q,hb⟩:=hrel;have i:=Ac q;have j:=Ac hb;clear q hb;by_cases m:a<l.length
  ·obtain⟨b,P,rfl,H,B,C,D,E,F⟩:=(u.below j).at a m;have r:(a:Int)<(l.length:Int):=O;have N:=dT ((a:Int)<(l.length:Int)) r;have x:=dT (a<l.length) m;have L:=XI a O;have M:=XI n O;have d:Hid (MK l low.toNat=n+if low.toNat<l[a].rc.nK.toNat then Nr low.toNat (l.drop (a+1)) e+1 else if e then Nr low.toNat (l.drop (a+1)) e else Nr low.toNat (l.drop (a+1)) jO+(if l[a].rc.gone then 0 else 1)):=Ac (by
    rw[i.out,BX m,Nr])
   generalize l[a]=p at*;obtain⟨z,g,y,s,p⟩:=p;simp only at B C D E F d;have k:=Ac (j.alloc j.size (ji #[z,g,y,s,p] 197));by_cases f:low.toNat<g.toNat
   ·have t1:=dT ((low.toNat:Int)<(g.toNat:Int));have t2:=dT (low.toNat<g.toNat) f;rw[kX f]at d;clear f i;go_wp2_with fail;go_roundw
    case rel=>exact⟨a+1,n+1,e,O,O,by go_num,by go_num,rfl,by rw[d.out];omega,k⟩
    case measure=>simp[intOf];omega
   ·have t1:=dF ((low.toNat:Int)<(g.toNat:Int));have t2:=dF (low.toNat<g.toNat) f;rw[lg f]at d;clear f i;cases e with
    |true=>
     rw[kX rfl]at d;go_wp2_with fail;go_roundw
     case rel=>exact⟨a+1,n,jO,O,O,by go_num,rfl,rfl,d,k⟩
     case measure=>simp[intOf];omega
    |false=>
     rw[lg Bool.false_ne_true]at d;cases s with
     |true=>
      rw[kX rfl]at d;go_wp2_with fail;go_roundw
      case rel=>exact⟨a+1,n,jO,O,O,by go_num,rfl,rfl,d,k⟩
      case measure=>simp[intOf];omega
     |false=>
      rw[lg Bool.false_ne_true]at d;go_wp2_with fail;go_roundw
      case rel=>exact⟨a+1,n+1,jO,O,O,by go_num,by go_num,rfl,by rw[d.out];omega,k⟩
      case measure=>simp[intOf];omega
  ·have r:=dF ((a:Int)<(l.length:Int));have x:=dF (a<l.length) m;have t:Hid (MK l low.toNat=n):=Ac (by rw[i.out,D9 O];rfl);clear i;go_wp2_with fail;go_ret;exact⟨by rw[t.out];rfl,j⟩
def MB(w:jT)(G:Nat->Prop)(A:Option Addr)(n:Nat)(xs:List ku):Prop:=Rd w A n xs/\(0<n->∀a,A=jm a->¬G a.block)
section
variable{w w':jT}{G G':Nat->Prop}{A:Option Addr}{n:Nat}{xs:List ku}
def MB.moved(h:MB w G A n xs)(m:AQ G G' w w'):MB w' G' A n xs:=by
 obtain⟨⟨k,e⟩,f⟩:=h;refine⟨⟨k,λc=>?_⟩,λc o a=>?_⟩
 ·obtain⟨b,i,a,hb,g⟩:=e c;exact⟨b,i,a,Bc hb m.touch.size,λj l=>(BQ (w:=w) (m.touch.block b hb (f c _ a))).trans (g j l)⟩
 ·obtain⟨b,i,d,hb,g⟩:=e c;rw[d]at a;injection a with a
  subst a;exact m.out hb (f c _ d)
def MB.below(h:MB w G A n xs)(k:η w w'):MB w' G A n xs:=h.moved (mW k)
def MB.mono{F:Nat->Prop}(h:MB w G A n xs)(k:∀b,b<w.heap.size->F b->G b):MB w F A n xs:=⟨h.1,λd f a e=>by
 obtain⟨b,i,c,hb,g⟩:=h.1.2 d;rw[c]at a;injection a with a
 subst a;exact h.2 d _ c (k _ hb e)⟩
def MB.take(h:MB w G A n xs)(k:Nat)(m:k<=n):MB w G A k (xs.take k):=by
 obtain⟨⟨l,c⟩,d⟩:=h;refine⟨⟨by rw[Cc];omega,λg=>?_⟩,λg=>d O⟩;obtain⟨b,i,a,hb,e⟩:=c O;exact⟨b,i,a,hb,λj f=>by rw[e j O,Dh,kX f]⟩
def MB.cut{b off c:Nat}(h:MB w G (jm (Δ b off)) n xs)(k:Nat)(s:k<=n)(q:n<=c):MB w G (if c=k then jm (Δ b off)else jm (Δ b (off+k))) (n-k) (xs.drop k):=by
 obtain⟨⟨p,g⟩,i⟩:=h;by_cases t:k=n
 ·refine⟨⟨by rw[AU];omega,λd=>O⟩,λd=>O⟩
 ·rw[lg O];refine⟨⟨by rw[AU];omega,λd=>?_⟩,λd m a=>?_⟩
  ·obtain⟨o,u,a,hb,l⟩:=g O;injection a with a
   injection a with e f
   subst e f;exact⟨_,_,rfl,hb,λj r=>by rw[JD,l (k+j) O,DX]⟩
  ·injection a with a
   subst a;exact i O (Δ b off) rfl
def MB.Qn{pI c:Nat}{e:TypeId}(h:w.ownsRow pI e 1 (fM A n c) n xs)(i:∀b,pI<=b->b<w->¬G b):MB w G A n xs:=by
 refine⟨(Dk h).2,λo j a=>?_⟩;rcases h.2 with⟨d,_⟩|⟨m,k,l,d,f,g,_⟩
 ·simp only[Value.slice.injEq]at d;rw[d.1]at a;cases a
 ·simp only[Value.slice.injEq]at d;rw[d.1]at a;injection a with a
  subst a;exact i _ f (AL.1 g).1
def MB.nil:MB w G A 0 []:=⟨Rd.nil,λh=>absurd h O⟩
end
def jf(w:jT)(G:Nat->Prop)(a b c d:ku)(e:Nd):Prop:=
 ∃f j g k i l,a=fM f e.pre.length j/\b=gz iV (e.val.toNat:Int)/\c=fM g e.labels.length k/\d=fM i e.kids.length l/\e.pre.length<=j/\
  MB w G f e.pre.length (e.pre.map bv)/\MB w G g e.labels.length (e.labels.map bv)/\MB w G i e.kids.length (e.kids.map wv)
def jf.moved{w w':jT}{G G':Nat->Prop}{a b c d:ku}{e:Nd}(h:jf w G a b c d e)(m:AQ G G' w w'):jf w' G' a b c d e:=by
 obtain⟨f,j,g,k,i,l,n,o,p,q,u,r,s,t⟩:=h;exact⟨f,j,g,k,i,l,n,o,p,q,u,r.moved m,s.moved m,t.moved m⟩
def jf.Azm{w:jT}{G:Nat->Prop}{pI:Nat}{a b c d:ku}{i:Nd}(h:cO w pI (iK #[a,b,c,d]) i)(f:∀b,pI<=b->b<w->¬G b):jf w G a b c d i:=by
 obtain⟨j,m,k,n,l,o,e,g,p,q⟩:=h;simp only[Value.agg.injEq]at e;simp at e;obtain⟨rfl,rfl,rfl,rfl⟩:=e;exact⟨j,m,k,n,l,o,rfl,rfl,rfl,rfl,(Dk g).1,MB.Qn g f,MB.Qn p f,MB.Qn q f⟩
def jh{L:Nat}{s s1:St}{c off:Nat}(d:mV L s.sh)(e:s.tk.length=s.sh.CE)(i:c=1\/c=2)(h:Ei s c=jm (off,s1)):∃b,off=8*b/\b+8*Bq c<=8*L:=by
 unfold Ei at h;split at h
 ·cases h
 ·rename_i n j;split at h
  ·cases h
  ·rename_i f a;injection h with h
   injection h with g l
   have k:=(TV j).1;have m:f<BG c:=by
    unfold Nl at a;split at a
    ·exact uf a
    ·cases a
   unfold D7 at g;have:=d.data;have:=d.fits;rw[e]at k;rcases i with rfl|rfl
   ·refine⟨off/8,?_,?_⟩<;>simp only[Bq,BG]at* <;>omega
   ·refine⟨off/8,?_,?_⟩<;>simp only[Bq,BG]at* <;>omega
def VB(x:Nd):DI x=1\/DI x=2:=by unfold DI;split<;>simp
def Adz(x:Nd):(Eh x).length=8*Bq (DI x):=by
 rw[I8];unfold DI;split<;>rfl
def MN(j:Jm)(n:Nd):(DZ j n).1.made.length<=j.made.length+1:=by
 unfold DZ;split
 ·simp
 ·split
  ·simp
  ·split;split
   ·split;split<;>simp
   ·simp
def Rf(j:Jm)(n:Nd)(b:nC)(a:ni)(e:Int):(Hg j n b a e).1.made.length<=j.made.length+1:=by
 unfold Hg;split
 ·simp
 ·split
  ·exact MN _ _
  ·simp
def Oo:∀(f:Nat)(j:Jm)(l:List nC)(a:ni),(Ld f j l a).1.made.length<=j.made.length+f
 |0,j,l,a=>by simp[Ld]
 |f+1,j,l,a=>by
  unfold Ld;split
  ·have:=MN j ⟨l,a,[],[]⟩;omega
  ·have b:=Oo f j (l.drop 16) a;split;rename_i e g c d;rw[d]at b;have:=Rf e ⟨l.take 15,0,[],[]⟩ (l.getD 15 0) g c;simp only at b;omega
def Ad0(A B:Option Addr)(n m c d:Nat)(a b:List nC)(w:jT)(E:n<=4294967296)(_hm:m<=4294967296)(o:Bs w A n a)(hb:Bs w B m b):
 Calls prog 162 #[fM A n c,fM B m d] w λf w'=>f=iO (iw (decide (a=b)))/\Dr w w':=by
 have C:=o.len;have D:=hb.len;by_cases t:n=m
 ·subst t;have t1:((n:Int)!=(n:Int))=false:=by simp
  go_in;go_wp2;go_loopw [13](λl wr=>∃e:Nat,e<=n/\l=gz iU e/\(∀j(h1:j<a.length)(h2:j<b.length),j<e->a[j]=b[j])/\Dr w wr)(λl _=>n-(intOf l).toNat)
  case atStart=>exact⟨0,Bd _,rfl,λj _ _ h=>absurd h O,Dr.refl _⟩
  case round=>
   obtain⟨e,z,rfl,k,L,rfl⟩:=hrel;by_cases q:e<n
   ·obtain⟨H,p,J,rfl,F,v⟩:=o.at q;obtain⟨I,K,u,rfl,G,x⟩:=hb.at q;by_cases g:a[e]=b[e]
    ·have t2:(((a[e].toNat:Int))!=(b[e].toNat:Int))=false:=by simp[g]
     have r:Hid (∀j(h1:j<a.length)(h2:j<b.length),j<e+1->a[j]=b[j]):=Ac λj h1 h2 y=>by
      by_cases f:j=e
      ·subst f;exact g
      ·exact k j h1 h2 O
     clear k g;go_wp2;go_quiet(fail);go_wp2;exact⟨⟨e+1,O,by go_num,r,by first|exact Dr.one _ _|exact Dr.two _ _ _⟩,mz⟩
    ·have t2:(((a[e].toNat:Int))!=(b[e].toNat:Int))=true:=by
      rw[bne_iff_ne];intro f;exact g (UInt8.toNat_inj.1 O)
     have i:Hid (decide (a=b)=jS):=Ac (by rw[decide_eq_false_iff_not];intro f;subst f;exact g rfl);clear k g;go_wp2;go_quiet(fail);go_wp2;go_ret;exact⟨by rw[i.out];rfl,by first|exact Dr.one _ _|exact Dr.two _ _ _⟩
   ·have s:e=n:=O;subst s;have i:Hid (decide (a=b)=jO):=Ac (by
     rw[decide_eq_true_iff];apply ER O;intro j h1 h2;exact k j h1 h2 O)
    clear k;go_wp2;go_ret;exact⟨by rw[i.out];rfl,Dr.one _ _⟩
 ·have t1:((n:Int)!=(m:Int))=true:=by simp;omega
  have i:Hid (decide (a=b)=jS):=Ac (by rw[decide_eq_false_iff_not];intro f;subst f;omega);go_in;go_wp2;go_ret;exact⟨by rw[i.out];rfl,Dr.refl _⟩
def Agq(w:jT)(o:Obj)(xs:List ku)(t:TypeId):Cm ((w.alloc o).alloc (ji xs.toArray t)) (w+1) t xs:=by
 have:=heap_alloc_new (w.alloc o) (ji xs.toArray t);rw[show(w.alloc o).heap.size=w+1 by simp]at this;exact this
def cO.below{w w':jT}{pI:Nat}{v:ku}{x:Nd}(h:cO w pI v x)(k:η w w'):cO w' pI v x:=by
 obtain⟨a,d,b,e,c,f,g,i,j,l⟩:=h;exact⟨a,d,b,e,c,f,g,own_below i k,own_below j k,own_below l k⟩
def PlV.len{w:jT}{pI:Nat}{a:List ku}{p:Pl}(h:PlV w pI a p):a.length=7:=by
 obtain⟨c,b,e,d,rfl,_⟩:=h;rfl
def Zf.get{w:jT}{pI:Nat}:∀(vs:List (List ku))(b:List Pl),Zf w pI vs b->∀a(h:a<b.length),∃c,PlV w pI c b[a]/\∀j,j<7->vs.flatten[7*a+j]?=c[j]?
 |[],[],_,a,d=>by simp at d
 |[],_::_,h,_,_=>h.elim
 |_::_,[],h,_,_=>h.elim
 |e::vs,p::b,h,0,d=>⟨e,h.1,λj f=>by
   have:=h.1.len;rw[NH,DK O];simp⟩
 |e::vs,p::b,h,a+1,d=>by
   obtain⟨c,g,i⟩:=Zf.get vs b h.2 a (by simpa using d);refine⟨c,by simpa using g,λj f=>?_⟩;have:=h.1.len;rw[NH,Ez O,<-i j f];congr 1;omega
structure Agr(w:jT)(pI:Nat)(g i:Nat)(pl:Pl)(a b c d:ku):Prop where
 cells:∀j u,[a,b,c,d,pl.off,pl.label,pl.word][j]?=jm u->w.cell? (Δ g (7*i+j))=jm u
 nd:cO w pI (iK #[a,b,c,d]) pl.nd
def Qs.at{w:jT}{pI:Nat}{v:ku}{c:List Pl}(h:Qs w pI v c)(p:c≠[]):∃a f,v=fM (jm (Φ a)) c.length f/\c.length<=f/\pI<=a/\a<w/\
 ∀e(hi:e<c.length),∃g b m d,Agr w pI a e c[e] g b m d:=by
 obtain⟨A,y,z⟩:=h;rcases y.2 with⟨_,i⟩|⟨a,n,o,q,i,k,r,C,D,s⟩
 ·exact absurd (List.length_eq_zero_iff.1 i) p
 ·refine⟨a,n,q,r,i,(AL.1 k).1,λe hi=>?_⟩;obtain⟨B,⟨g,b,f,d,rfl,x⟩,t⟩:=Zf.get A c z e hi;refine⟨g,b,f,d,⟨λj E l=>?_,x⟩⟩;have u:j<7:=by have:=(Cf.1 l).1;simpa using this
  rw[cell_of_row w a _ o _ (0,0) k,<-l,<-t j u,<-s,Dh,kX O];simp
def Avx:Value:=iK #[fM jw 0 0,gz iV 0,fM jw 0 0,fM jw 0 0,gz iU 0,gz .u8 0,gz iU 0]
def Azn{w:jT}{g:Nat}{e:TypeId}{a b c d k l m:ku}(h:Cm w g e [a,b,c,d,k,l,m]):w.frozen? (Φ g)=jS/\w.frozen? (Δ g 1)=jS/\w.frozen? (Δ g 2)=jS/\w.frozen? (Δ g 3)=jS/\w.frozen? (Δ g 4)=jS/\w.frozen? (Δ g 5)=jS/\w.frozen? (Δ g 6)=false:=
 ⟨h.frozen 0,h.frozen 1,h.frozen 2,h.frozen 3,h.frozen 4,h.frozen 5,h.frozen 6⟩
def Zi{i:Ending->jT->Prop}{e:jT}{f:Array ku}{j:Func}(o:j.results= #[.cell 4 213,.tmp 5])(g:Nat){a b c d k l m:ku}(h:Cm e g 213 [a,b,c,d,k,l,m])(v:ku)(h2:f[4]?=jm (AB g))(h3:f[5]?=jm v)
 (n:i (iO (iJ #[iK #[a,b,c,d,k,l,m],v])) e):bodyPost prog j i Exit.ret {tmps:=f,defers:=[]} e:=by
 obtain⟨p,q,r,s,t,u,w⟩:=Fh h;refine bodyPost_ret (v:=iJ #[iK #[a,b,c,d,k,l,m],v]) (by simp[results,o,go_sem,h2,h3,p,q,r,s,t,u,w]) rfl n
def Azo{w b:jT}{pI g:Nat}{e:TypeId}{n o q r s t u:ku}(h:Cm b g e [n,o,q,r,s,t,u])(hb:Below pI w b)(a:pI<=g)(c d f i j k l:ku):
 ∃m,m=(((((((b.setCell (Φ g) c).setCell (Δ g 1) d).setCell (Δ g 2) f).setCell (Δ g 3) i).setCell (Δ g 4) j).setCell (Δ g 5) k).setCell (Δ g 6) l)/\Cm m g e [c,d,f,i,j,k,l]/\
 Below pI w m/\
 Kept b m (jm g):=
 ⟨_,rfl,((((((h.Be 0 c).Be 1 d).Be 2 f).Be 3 i).Be 4 j).Be 5 k).Be 6 l,
   ((((((hb.setCell (p:=Φ g) a c).setCell (p:=Δ g 1) a d).setCell (p:=Δ g 2) a f).setCell (p:=Δ g 3) a i).setCell (p:=Δ g 4) a j).setCell (p:=Δ g 5) a k).setCell (p:=Δ g 6) a l,
   ((((((Kept.Be b g 0 c).trans' (Kept.Be _ g 1 d)).trans' (Kept.Be _ g 2 f)).trans' (Kept.Be _ g 3 i)).trans' (Kept.Be _ g 4 j)).trans' (Kept.Be _ g 5 k)).trans' (Kept.Be _ g 6 l)⟩
def Ad1(g:List Pl)(nM:List nC)(pI:Nat)(w:jT)(e:Ending)(w':jT):Prop:=
 η w w'/\match Dw g nM with
  |none=>e=iO (iJ #[Avx,jS])
  |some a=>∃c b f d,e=iO (iJ #[iK #[c,b,f,d,a.off,a.label,a.word],jO])/\cO w' pI (iK #[c,b,f,d]) a.nd
def IM{w:jT}{pI c:Nat}{W:ku}{d:List Pl}{A:Option Addr}{nM:List nC}(C:Qs w pI W d)(au:d.length<=1000000)(aw:∀aE∈d,aE.nd.pre.length<=1000)(T:Bs w A nM.length nM)(bc:nM.length<=1000000):
 Calls prog 106 #[W,fM A nM.length c] w (Ad1 d nM pI w):=by
 have s:Cm (w.alloc (ji #[fM jw 0 0,gz iV 0,fM jw 0 0,fM jw 0 0,gz iU 0,gz .u8 0,gz iU 0] 213)) w 213 [fM jw 0 0,gz iV 0,fM jw 0 0,fM jw 0 0,gz iU 0,gz .u8 0,gz iU 0]:=heap_alloc_new _ _;have D:η w (w.alloc (ji #[fM jw 0 0,gz iV 0,fM jw 0 0,fM jw 0 0,gz iU 0,gz .u8 0,gz iU 0] 213)):=mZ.alloc (Ae _) _;by_cases R:d=[]
 ·subst R;obtain⟨Av,Q,az⟩:∃Av Q,W=fM Av 0 Q:=by
   obtain⟨bk,av,_⟩:=C;rcases av.2 with⟨S,_⟩|⟨B,a6,a7,S,_⟩
   ·exact⟨_,_,S⟩
   ·exact⟨_,_,S⟩
  subst az;have u:Hid (Dw [] nM=jw):=Ac rfl;clear C T au;obtain⟨f0,f1,f2,f3,f4,f5,f6⟩:=Azn s;obtain⟨aG,aI,aL,aM,aR,aW,a0⟩:=Fh s;go_in;go_wp2_with fail;refine Zi rfl w s (iw jS) rfl rfl ⟨D,?_⟩;rw[u.out];rfl
 ·obtain⟨B,Q,rfl,ba,a9,aq,am⟩:=C.at R;have bb:0<d.length:=QI.2 R;obtain⟨a4,b,a5,a8,H⟩:=am (d.length-1) O;have an:d.getLast?=jm (d[d.length-1]' O):=by rw[List.getLast?_eq_getElem?,Ag O]
  have aD:=Ac (aw (d[d.length-1]' O) (BO _));generalize d[d.length-1]' O=a at*;have z:Hid (Dw d nM=if a.nd.pre=nM then jm a else jw):=Ac (by rw[Dw,an]);have t0:((d.length:Int)==0)=false:=ζ O;obtain⟨r,ao⟩:=ε (d.length-1);have bd:IntKind.i64.wrap ((d.length:Int) -1)=(r:Int):=(wrap64 _ O O).trans O;have be:r<d.length:=O;have bg:(r:Int)<(d.length:Int):=O;obtain⟨e,f,g,n,i,o,l,I,U,V⟩:=H.nd;simp only[Value.agg.injEq]at l;simp at l;obtain⟨rfl,rfl,rfl,rfl⟩:=l;have ad:Hid (∀j v,[Ad e a.nd.pre.length f,a.nd.val,fM g a.nd.labels.length n,fM i a.nd.kids.length o,a.off,a.label,a.word][j]?=jm v->w.cell? (Δ B (7*r+j))=jm v):=Ac (by rw[ao];exact H.cells);have ae:=Ac H.nd;have m:∀j v,[Ad e a.nd.pre.length f,a.nd.val,fM g a.nd.labels.length n,fM i a.nd.kids.length o,a.off,a.label,a.word][j]?=jm v->(w.alloc (ji #[fM jw 0 0,gz iV 0,fM jw 0 0,fM jw 0 0,gz iU 0,gz .u8 0,gz iU 0] 213)).cell? (Δ B (r*7+j))=jm v:=λj v ar=>by
   rw[D.cell (p:=Δ B (r*7+j)) aq,KD];exact ad j v ar
  have J:=m 0 _ rfl;have X:=m 1 _ rfl;have Y:=m 2 _ rfl;have Z:=m 3 _ rfl;have aa:=m 4 _ rfl;have ab:=m 5 _ rfl;have ac:=m 6 _ rfl;rw[Nat.add_zero]at J;obtain⟨M,y,ah⟩:=l9 s D T;clear am an C H I U V ao s m ad T D;go_in;go_wp2_with fail;have k:=M.out.ξ (mZ.alloc (Ae _) (ji #[Ad e a.nd.pre.length f,a.nd.val,fM g a.nd.labels.length n,fM i a.nd.kids.length o,a.off,a.label,a.word] 213));have t:Cm ((w.alloc (ji #[fM jw 0 0,gz iV 0,fM jw 0 0,fM jw 0 0,gz iU 0,gz .u8 0,gz iU 0] 213)).alloc (ji #[Ad e a.nd.pre.length f,a.nd.val,fM g a.nd.labels.length n,fM i a.nd.kids.length o,a.off,a.label,a.word] 213)) (w+1) 213 [Ad e a.nd.pre.length f,a.nd.val,fM g a.nd.labels.length n,fM i a.nd.kids.length o,a.off,a.label,a.word]:=Agq _ _ _ _;have E:=y.alloc y.size (ji #[Ad e a.nd.pre.length f,a.nd.val,fM g a.nd.labels.length n,fM i a.nd.kids.length o,a.off,a.label,a.word] 213);clear J X Y Z aa ab ac;generalize((w.alloc (ji #[fM jw 0 0,gz iV 0,fM jw 0 0,fM jw 0 0,gz iU 0,gz .u8 0,gz iU 0] 213)).alloc (ji #[Ad e a.nd.pre.length f,a.nd.val,fM g a.nd.labels.length n,fM i a.nd.kids.length o,a.off,a.label,a.word] 213))=al at*;obtain⟨a1,bh,a2,bi,a3,bj,l,I,U,V⟩:=ae.out;simp only[Value.agg.injEq]at l;simp at l;obtain⟨⟨rfl,rfl⟩,⟨rfl,rfl⟩,⟨rfl,rfl⟩⟩:=l;refine(Ad0 e A a.nd.pre.length nM.length f c a.nd.pre nM al (Ω aD.out) O (Dk (own_below I E)).2 (ah.below E)).mono ?_;clear I U V;rintro l bl⟨rfl,G⟩;have F:=τ E (G.below al);replace k:=k.ξ (G.below _);replace t:=t.ξ (G.below _);clear E G ah;obtain⟨f0,f1,f2,f3,f4,f5,f6⟩:=Azn k;obtain⟨aG,aI,aL,aM,aR,aW,a0⟩:=Fh k;obtain⟨J,X,Y,Z,aa,ab,ac⟩:=Fh t;by_cases q:a.nd.pre=nM
  ·have u:Hid (Dw d nM=jm a):=Ac (by rw[z.out,kX q]);have x:=dT (a.nd.pre=nM) q;rw[x];clear z x q;have L:=Ac k;have N:=Ac F;clear k t F M y;go_wp2_with fail;obtain⟨ap,P,K,NM,-⟩:=Azo L N (Ae _) (Ad e a.nd.pre.length f) (gz iV (a.nd.val.toNat:Int)) (fM g a.nd.labels.length n) (fM i a.nd.kids.length o) (gz iU a.off) (gz .u8 (a.label.toNat:Int)) (gz iU a.word);rw[<-P];refine Zi rfl w K (iw jO) rfl rfl ⟨NM,?_⟩;rw[u.out];exact⟨_,_,_,_,rfl,ae.below NM⟩
  ·have u:Hid (Dw d nM=jw):=Ac (by rw[z.out,lg q]);have x:=dF (a.nd.pre=nM) q;rw[x];clear z x q;have L:=Ac k;have N:=Ac F;clear k t F M y J X Y Z aa ab ac;go_wp2_with fail;obtain⟨ap,P,K,NM,-⟩:=Azo L N (Ae _) (fM jw 0 0) (gz iV 0) (fM jw 0 0) (fM jw 0 0) (gz iU 0) (gz .u8 0) (gz iU 0);rw[<-P];refine Zi rfl w K (iw jS) rfl rfl ⟨NM,?_⟩;rw[u.out];rfl
def EG(w w':jT):Prop:=w.heap.size<=w'/\∀(g:Nat)(a:Array ku)(e:TypeId)(b:Nat×Nat),(e=5\/e=47\/e=211)->w.heap[g]?=jm (Obj.cells a e b)->w'.heap[g]?=w.heap[g]?
def EG.refl(w:jT):EG w w:=⟨Ae _,λ_ _ _ _ _ _=>rfl⟩
def EG.of_below{w w':jT}(h:η w w'):EG w w':=⟨h.size,λa _ _ _ _ b=>h.block a (AL.1 b).1⟩
def EG.trans{a b c:jT}(h:EG a b)(k:EG b c):EG a c:=
 ⟨AZ h.1 k.1,λg d e f j l=>by
  have i:=h.2 g d e f j l;exact(k.2 g d e f j (i.trans l)).trans i⟩
def EG.Ary{w w':jT}{g:Nat}(h:Kept w w' (jm g))(j:∀(a:Array ku)(e:TypeId)(c:Nat×Nat),(e=5\/e=47\/e=211)->w.heap[g]?≠jm (Obj.cells a e c)):EG w w':=
 ⟨h.1,λf a e c i d=>h.2 f (AL.1 d).1 (λb=>by injection b with b;subst b;exact j a e c i d)⟩
def EG.own{w w':jT}{pI k n:Nat}{e:TypeId}{v:ku}{xs:List ku}(h:EG w w')(l:e=5\/e=47\/e=211)(d:w.ownsRow pI e k v n xs):w'.ownsRow pI e k v n xs:=by
 refine⟨d.1,?_⟩;rcases d.2 with a|⟨b,f,g,a,i,c,j⟩
 ·exact .inl a
 ·exact .inr ⟨b,f,g,a,i,(h.2 b _ _ _ l c).trans c,j⟩
def EG.nd{w w':jT}{pI:Nat}{v:ku}{x:Nd}(s:EG w w')(h:cO w pI v x):cO w' pI v x:=by
 obtain⟨a,d,b,e,c,f,g,i,j,k⟩:=h;exact⟨a,d,b,e,c,f,g,s.own (.inl rfl) i,s.own (.inl rfl) j,s.own (.inr (.inl rfl)) k⟩
def EG.box{w w':jT}{g:Nat}{xs:List ku}(s:EG w w')(h:Cm w g 211 xs):Cm w' g 211 xs:=(s.2 g _ _ _ (.inr (.inr rfl)) h).trans h
def SG(w:jT)(A:Option Addr)(l:List nC):Prop:=
 Bs w A l.length l/\(∀a,A=jm a->∃(b:Nat)(c:Array ku)(d:Nat×Nat),a=(Φ b)/\w.heap[b]?=jm (Obj.cells c 5 d))/\(A=jw->l=[])
def SG.nil(w:jT):SG w jw []:=by
 refine⟨Rd.nil,?_,λ_=>rfl⟩;intro b a;cases a
def SG.keep{w w':jT}{A:Option Addr}{l:List nC}(h:SG w A l)(s:EG w w'):SG w' A l:=by
 obtain⟨i,k,p⟩:=h;refine⟨⟨i.1,λt=>?_⟩,λm a=>?_,p⟩
 ·obtain⟨b,u,a,hb,q⟩:=i.2 t;obtain⟨g,e,f,d,c⟩:=k _ a;injection d with n o
  subst n o;exact⟨_,_,a,Bc hb s.1,λj r=>(BQ (w:=w) (s.2 _ _ _ _ (.inl rfl) c)).trans (q j r)⟩
 ·obtain⟨g,e,f,d,c⟩:=k m a;exact⟨g,e,f,d,(s.2 _ _ _ _ (.inl rfl) c).trans c⟩
def SG.cut{w w':jT}{A b:Option Addr}{l m:List nC}(h:SG w A l)(o:Rd w' b (l.length+m.length) (l.map bv++m.map bv))(hb:η w w')(g:Agc w w' 5 A b m.length):SG w' b (l++m):=by
 refine⟨?_,λj a=>?_,λa=>?_⟩
 ·rw[AO];show Rd w' b _ ((l++m).map bv);rw[CJ];exact o
 ·rcases g with⟨rfl,_⟩|⟨d,c,e,_,k⟩
  ·obtain⟨d,c,n,f,i⟩:=h.2.1 j a;exact⟨d,c,n,f,(hb.block _ (AL.1 i).1).trans i⟩
  ·rw[e]at a;injection a with a
   exact⟨d,c,_,a.symm,k⟩
 ·rcases g with⟨rfl,f⟩|⟨d,c,e,_⟩
  ·rw[h.2.2 a,Cj f];rfl
  ·rw[e]at a;exact nomatch a
def itV(p:List nC×ni):List Value:=[ig ⟨p.1.toArray⟩,p.2]
structure Gg(w:jT)(pI sb mb x:Nat)(nJ:List (List nC×ni))(met:List Int)(v:ku):Prop where
 box:Cm w sb 223 [AB x,v,.map (jm mb)]
 row:w.ownsRow pI 157 2 v nJ.length (nJ.map itV).flatten
 map:Nv w mb (met.map λo=>(o,1))
 bs:pI<=sb
 bm:pI<=mb
 vs:v.ownBlock≠jm sb
 nod:met.Nodup
 rng:∀o∈met,0<=o/\o<=65536
 len:nJ.length<=met.length
def SH:∀(N:Nat)(l:List Int),l.Nodup->(∀a∈l,0<=a/\a<(N:Int))->l.length<=N
 |0,l,_,h=>by
  cases l with
  |nil=>simp
  |cons e t=>have:=h e (Bf ..);omega
 |N+1,l,c,h=>by
  by_cases d:(N:Int)∈l
  ·have g:=SH N (l.erase (N:Int)) (c.erase _) (λa b=>by
    have:=(c.mem_erase_iff).1 b;have:=h a this.2;omega)
   rw[List.length_erase_of_mem d]at g;omega
  ·have:=SH N l c (λa b=>by
    have i:=h a b;have:a≠(N:Int):=λf=>d (f▸b)
    omega)
   omega
section
variable{w w':jT}{pI sb mb x:Nat}{nJ:List (List nC×ni)}{met:List Int}{v:ku}
def Gg.few(h:Gg w pI sb mb x nJ met v):nJ.length<=65537:=
 AZ h.len (SH 65537 met h.nod (λo a=>Ω (h.rng o a)))
def Gg.sm(h:Gg w pI sb mb x nJ met v):sb≠mb:=by
 intro c;have a:=h.box;have b:=h.map;unfold Cm at a;unfold Nv at b;rw[c,b]at a;injection a with a
 cases a
def Gg.vm(h:Gg w pI sb mb x nJ met v):v.ownBlock≠jm mb:=by
 intro b;rcases h.row.2 with⟨c,_⟩|⟨g,e,f,c,_,a,_⟩
 ·subst c;exact nomatch b
 ·subst c;simp only[AY,Option.some.injEq]at b;subst b;have d:=h.map;unfold Nv at d;rw[d]at a;injection a with a
  cases a
def Gg.below(h:Gg w pI sb mb x nJ met v)(k:η w w'):Gg w' pI sb mb x nJ met v:=
 ⟨h.box.ξ k,FN h.row (Kept.of_below (r:=jm sb) k) (.inl (λa=>h.vs a.symm)),h.map.below k,h.bs,h.bm,h.vs,h.nod,h.rng,h.len⟩
def Gg.note(h:Gg w pI sb mb x nJ met v){o:Int}(p:0<=o/\o<=65536)(m:o∉met):Gg (EU w mb (Jr 0 ((met++[o]).map λo=>(o,1))).toArray ((met++[o]).map λo=>(o,(1:Int))).length) pI sb mb x nJ (met++[o]) v/\
 EG w (EU w mb (Jr 0 ((met++[o]).map λo=>(o,1))).toArray ((met++[o]).map λo=>(o,(1:Int))).length)/\Below pI w (EU w mb (Jr 0 ((met++[o]).map λo=>(o,1))).toArray ((met++[o]).map λo=>(o,(1:Int))).length):=by
 have n:∀(c:Array ku)(e:TypeId)(d:Nat×Nat),w.heap[mb]?≠jm (Obj.cells c e d):=λc e d a=>by
  have k:=h.map;unfold Nv at k;rw[k]at a;injection a with a
  cases a
 have t:=KP w mb (Jr 0 ((met++[o]).map λo=>(o,1))).toArray ((met++[o]).map λo=>(o,(1:Int))).length;refine⟨⟨h.box.touch t h.sm,Ie h.row t (λj a e=>h.vm (by rw[a,e])),PT _ _ _ _ h.map.lt,h.bs,h.bm,h.vs,?_,?_,?_⟩,⟨t.size,λj c e d _ a=>t.block j (AL.1 a).1 (λl=>n c e d (l▸a))⟩,t.below (Lh (KF h.bm h.map.lt)) (λq e=>e▸h.bm)⟩
 ·exact DF.2 ⟨h.nod,Gz.2 ⟨by simp,WJ⟩,λi g b hb=>by rw[BB]at hb;subst hb;exact λe=>m (e▸g)⟩
 ·intro i g;rcases AP.1 g with f|f
  ·exact h.rng i f
  ·rw[BB]at f;exact f▸p
 ·have:=h.len;simp;omega
def Gg.add(h:Gg w pI sb mb x nJ met v)(p:List nC×ni)(H:nJ.length<met.length){c e:Nat}{a:jT}
 (z:a.ownsRow pI 157 2 (fM (jm (Φ c)) (nJ.length+1) e) (nJ.length+1) ((nJ.map itV).flatten++itV p))(y:Below pI w a)(f:Kept w a v.ownBlock)(A:v.ownBlock=jm c\/w<=c):
 Gg (a.setCell (Δ sb 1) (fM (jm (Φ c)) (nJ.length+1) e)) pI sb mb x (nJ++[p]) met (fM (jm (Φ c)) (nJ.length+1) e)/\
  EG w (a.setCell (Δ sb 1) (fM (jm (Φ c)) (nJ.length+1) e))/\Below pI w (a.setCell (Δ sb 1) (fM (jm (Φ c)) (nJ.length+1) e)):=by
 have B:=h.box.lt;have q:=h.map.lt;have o:c≠sb:=by
  rintro rfl;rcases A with b|b
  ·exact h.vs b
  ·omega
 have n:Cm a sb 223 [AB x,v,.map (jm mb)]:=(f.2 sb B (λb=>h.vs b.symm)).trans h.box;have r:a.heap[mb]?=w.heap[mb]?:=f.2 mb q (λb=>h.vm b.symm);have m:=Kept.Be a sb 1 (fM (jm (Φ c)) (nJ.length+1) e);have C:EG w a:=by
  refine⟨f.1,λu s b t g i=>f.2 u (AL.1 i).1 (λj=>?_)⟩;rcases h.row.2 with⟨k,_⟩|⟨G,E,F,k,_,d,_⟩
  ·subst k;exact nomatch j
  ·subst k;simp only[AY,Option.some.injEq]at j;subst j;rw[i]at d;injection d with d
   injection d with _ l
   rw[l]at g;exact absurd g U
 have D:EG a (a.setCell (Δ sb 1) (fM (jm (Φ c)) (nJ.length+1) e)):=EG.Ary m (λs b t g i=>by
  have d:a.heap[sb]?=_:=n;rw[i]at d;injection d with d
  injection d with _ l
  rw[l]at g;exact absurd g U)
 refine⟨⟨n.Be 1 _,?_,?_,h.bs,h.bm,by simp[AY,o],h.nod,h.rng,by simp;omega⟩,C.trans D,y.setCell (p:=Δ sb 1) h.bs _⟩
 ·have:=FN z m (.inl (by simp[AY,Ne.symm o]));simpa using this
 ·show(a.setCell _ _).heap[mb]?=_;rw[m.2 mb (Bc q f.1) (λb=>h.sm (Option.some.inj b).symm),r];exact h.map
end
structure Ny(s:St)(l:List Lk):Prop where
 nod:(l.map (·.off)).Nodup
 at_:∀k∈l,0<=k.off/\k.off<=65536/\Ed s k.off=1/\Qi (wordsAt s.ws (k.off.toNat/8) 8)=jm k.rc/\FD l<=k.rc.nK.toNat
def Ny.nil(s:St):Ny s []:=⟨WJ,λ_ h=>nomatch h⟩
def Ku(l:List Lk)(k:Lk):FD (l++[k])=k.rc.nK.toNat:=by
 unfold FD;rw[List.getLast?_append];rfl
def Ny.step{s:St}{l:List Lk}(h:Ny s l){off:Int}{r:Rc}(f:0<=off/\off<=65536)(n:Ed s off=1)(e:Qi (wordsAt s.ws (off.toNat/8) 8)=jm r)(q:r.nK.toNat<FD l):Ny s (l++[⟨off,r⟩]):=by
 refine⟨?_,λk a=>?_⟩
 ·rw[CJ];refine DF.2 ⟨h.nod,by simp,λo m b hb=>?_⟩;rw[List.map_singleton,BB]at hb;subst hb;rintro rfl;obtain⟨k,a,g⟩:=CU.1 m;obtain⟨_,_,_,c,d⟩:=h.at_ k a;rw[g,e]at c;injection c with c
  rw[<-c]at d;omega
 ·rw[Ku];rcases AP.1 a with a|a
  ·obtain⟨i,j,c,d,p⟩:=h.at_ k a;exact⟨i,j,c,d,by show r.nK.toNat<=_;omega⟩
  ·rw[BB]at a;subst a;exact⟨f.1,f.2,n,e,Ae _⟩
def Ny.few{s:St}{l:List Lk}(h:Ny s l):l.length<=65537:=by
 have:=SH 65537 (l.map (·.off)) h.nod (λe b=>by
  obtain⟨k,a,rfl⟩:=CU.1 b;obtain⟨c,d,_⟩:=h.at_ k a;omega)
 rwa [Df]at this
def pO{L:Nat}{s:St}{off:Int}(a:mV L s.sh)(e:s.tk.length=s.sh.CE)(g:L<=1024)(h:Ed s off=1):0<=off/\off<=65536/\off=((8*(off.toNat/8):Nat):Int)/\off.toNat/8+8<=8*L:=by
 obtain⟨i,f,d,c,_,b⟩:=Yj (s:=s) (off:=off) (by rw[h];decide);rw[h]at c b;simp only[Bq]at c b;have:=a.data;have:=a.fits;have:=a.CE;rw[e]at d;omega
def Tryz.Arz:IK prog 152 157 (iK #[ig ⟨#[]⟩,gz iV 0]) 2 24:=⟨underlying152,by kernel_rfl,rfl⟩
def Tryz.Pj:prog.underlying 221=jm (.map 3 3):=underlying221
def Tryz.uC(b:jT):(zeroValue 3).run prog b=.ok (gz iU 0) b:=by
 have h:(prog.info? 3).map (·.zero)=jm (jm (gz iU 0)):=by kernel_rfl
 cases a:prog.info? 3 with
 |none=>rw[a]at h;cases h
 |some c=>
  rw[a]at h;simp only[Option.map_some,Option.some.injEq]at h;simp[zeroValue,typeInfo,a,h]
def Ub(r:Option (List (List nC×ni)×List Int))(pI sb mb x:Nat)(w:jT)(e:Ending)(w':jT):Prop:=
 Below pI w w'/\EG w w'/\match r with
  |none=>e=iO (gz iU 5)
  |some (a,b)=>e=iO (gz iU 0)/\∃c,Gg w' pI sb mb x a b c
section
variable{len:Mode}{w w':jT}{pI sb mb x d p L:Nat}{s:St}{F:Nat->Prop}
def KH.past(h:KH len w x d p L s F)(k:Below pI w w')(hF:∀b,F b->b<pI)(e:x<pI)(c:0<pI/\1<pI):KH len w' x d p L s F:=by
 have t:Touch (λb=>pI<=b) w w':=⟨k.os,k.tape,k.output,k.size,λb _ a=>k.block b O⟩;exact⟨h.sys.keep t (λb hb a=>Ω (hF b hb)) O O,h.box.touch t O,h.out⟩
def pR{o:Int}:∀{l:List Int},o∈l->l.Nodup->∃a c,l=a++o::c/\o∉a
 |[],h,_=>by cases h
 |e::t,h,j=>by
  obtain⟨g,i⟩:=Gz.1 j;rcases Cb.1 h with rfl|d
  ·exact⟨[],t,rfl,by simp⟩
  ·obtain⟨a,c,f,k⟩:=pR d i;refine⟨e::a,c,by rw[f];rfl,λb=>?_⟩;rcases Cb.1 b with rfl|b
   ·exact g d
   ·exact k b
def Ad2(h:KH len w x d p L s F)(_:∀b,F b->b<pI){nJ:List (List nC×ni)}{met:List Int}{v:ku}(e:Gg w pI sb mb x nJ met v)(f:Nat)(a:ni)(o8:List nC)(A:Option Addr)(c:Nat)(i:Gu s a=jw):
 Calls prog 164 #[AB sb,a,fM A o8.length c] w (Ub (EJ s (f+1) a o8 (nJ,met)) pI sb mb x w):=by
 have o:Hid (EJ s (f+1) a o8 (nJ,met)=jw):=Ac (by rw[EJ,i]);have k:=Ac (Ol h a);have q:=Ac i;have u:=e.box.p1;have l:pI<=w:=Lh (KF e.bs e.box.lt);clear h e i;go_in;go_wp2_with(refine k.out.mono ?_;rintro r t⟨g,m⟩;rw[q.out]at m;subst m;have j:=Ac (g.mono l);have n:=Ac (EG.of_below g);clear g k);go_ret;refine⟨j.alloc (AZ l j.size) _,n.trans (EG.of_below (mZ.alloc (Ae _) _)),?_⟩;rw[o.out];rfl
def Ai5(h:KH len w x d p L s F)(_:∀b,F b->b<pI){nJ:List (List nC×ni)}{met:List Int}{v:ku}(q:Gg w pI sb mb x nJ met v)(f:Nat)(e:ni)(o8:List nC)(A:Option Addr)(c:Nat)(am:SG w A o8)(bp:o8.length<=c)(bq:o8.length<=33)(i:Nd)(D:Gu s e=jm i)(Q:Bz e∈met):
 Calls prog 164 #[AB sb,e,fM A o8.length c] w (Ub (EJ s (f+1) e o8 (nJ,met)) pI sb mb x w):=by
 have aW:Hid (EJ s (f+1) e o8 (nJ,met)=jw):=Ac (by rw[EJ,D];simp only;rw[kX (.inl (by simpa using Q))]);obtain⟨ac,a0,ad⟩:=l9 (Ol h e) D q;have bw:IntKind.i64.wrap (e.toNat:Int)=Bz e:=rfl;have br:=(Om D).1;have bi:=q.box.p1;have P:pI<=w:=Lh (KF q.bs q.box.lt);obtain⟨y,E,aq,ar⟩:=pR Q q.nod;have Z:=Ac aq;have B:Hid (∀aD∈y.map (λa=>(a,(1:Int))),aD.1≠Bz e):=Ac (λaD a8=>by
  obtain⟨a,a7,rfl⟩:=CU.1 a8;exact λg=>ar (g▸a7))
 have W:=Ac am;generalize Bz e=m at*;clear h q D Q aq ar am;go_in;go_wp2_with fail;refine ac.mono ?_;rintro g bh⟨ao,au⟩;rw[a0.out]at au;obtain⟨bB,rfl,a6⟩:=au;obtain⟨I,al,aI,a4,aL,a5,rfl,az,be,bg⟩:=a6;obtain⟨j,an,J,S⟩:=E5 bh 211 [fM I i.pre.length al,i.val,fM aI i.labels.length a4,fM aL i.kids.length a5];have n:η w j:=τ ao J;have l:=ad.below n;have o:Nv j mb (y.map (λa=>(a,(1:Int)))++(m,1)::E.map (λa=>(a,(1:Int)))):=by
  have:=l.map;rw[Z.out]at this;simpa using this
 have aw:=UT Tryz.Pj underlying3 j mb _ _ m 1 o B;have R:=Arf Tryz.Pj underlying3 j mb _ _ m 1 2 o B;obtain⟨k,C⟩:=ε (EU j mb (Jr 0 (y.map (λa=>(a,(1:Int)))++(m,2)::E.map (λa=>(a,(1:Int))))).toArray (y.map (λa=>(a,(1:Int)))++(m,2)::E.map (λa=>(a,(1:Int)))).length);rw[<-C]at R;have t3:Touch (·=mb) j k:=C▸KP _ _ _ _;have aE:Nv k mb (y.map (λa=>(a,(1:Int)))++(m,2)::E.map (λa=>(a,(1:Int)))):=by rw[C];exact PT _ _ _ _ o.lt
 have u:EG j k:=⟨t3.size,λN bl g bo _ t=>t3.block N (AL.1 t).1 (λM=>by
  unfold Nv at o;rw[M,o]at t;injection t with t
  cases t)⟩
 have V:Below pI j k:=t3.below (AZ P n.size) (λbx g=>g▸l.bm);have T:=u.box S;have X:=(W.keep (EG.of_below n)).keep u;have av:Rd k I i.pre.length (i.pre.map bv):=(Dk (u.own (.inl rfl) (own_below az J))).2;have ae:Cm k sb 223 [AB x,v,.map (jm mb)]:=l.box.touch t3 l.sm;clear C;have G:=l.box.c0;have H:=l.box.c2;rw[an]at aw R G H;clear bi ac an;go_wp2_with fail;obtain⟨ba,bb,bc,bd,-⟩:=Dp T;obtain⟨Y,a1,aa,ah,z,ab⟩:=lN ((n.mono P).trans V) ((EG.of_below n).trans u) aE ae X av;clear aw R G H ao J n l o t3 u V S T X av az be bg aE ae;go_region_law(refine Ns rfl (.tmp 42) (.tmp 44) 22 rfl Tryz.Jq A o8.length (o8.map bv) (by simp[Act.eval]) (by exact z.1) (λa3 g=>by obtain⟨N,_,_,M,_⟩:=z.2.1 a3 g;exact⟨N,M⟩) (λg=>by rw[z.2.2 g];rfl) I i.pre.length al (i.pre.map bv) (by simp[Act.eval]) (by exact ab) (JW _) O U ?_;intro bj bk aG bt a9 ap a2)
 all_goals(have r:η k aG:=(mX k).trans ap;have bA:=UT Tryz.Pj underlying3 aG mb _ _ m 2 (aa.below r) B;have K:=ah.out.ξ r;have G:=K.cell 0;have H:=K.cell 2;simp only[Af,Ai]at G H;have aM:=Ac (Y.trans (r.mono (AZ P (by have:=Y.size;exact this)))))
 all_goals(have aR:=Ac (a1.trans (EG.of_below r));clear r ap a2 a9 K aa ah z ab ba bb bc bd W B Z ad;go_wp2_with fail)
 all_goals(go_ret)
 all_goals(refine⟨aM,aR,?_⟩)
 all_goals(rw[aW.out])
 all_goals rfl
end
def wrC(x:Wr):List Value:=[x.key,x.text,x.gone]
def GK(l:List Wr):List Value:=(l.map wrC).flatten
def Qv:∀(l:List Wr),(GK l).length=l.length*3
 |[]=>rfl
 |a::t=>by
  have:=Qv t;simp only[GK,Ci,NH,AO,Bg]at this⊢;rw[this];simp[wrC];omega
def FP(w:jT)(G:Nat->Prop)(v:ku)(s:List Wr):Prop:=∃A a,v=fM A s.length a/\s.length<=a/\MB w G A (s.length*3) (GK s)
def FP.nil{w:jT}{G:Nat->Prop}:FP w G (fM jw 0 0) []:=⟨jw,0,rfl,Ae _,MB.nil⟩
def FP.moved{w w':jT}{G G':Nat->Prop}{v:ku}{s:List Wr}(h:FP w G v s)(m:AQ G G' w w'):FP w' G' v s:=by
 obtain⟨A,a,b,c,d⟩:=h;exact⟨A,a,b,c,d.moved m⟩
def FP.below{w w':jT}{G:Nat->Prop}{v:ku}{s:List Wr}(h:FP w G v s)(k:η w w'):FP w' G v s:=h.moved (mW k)
def FP.mono{w:jT}{F G:Nat->Prop}{v:ku}{s:List Wr}(h:FP w G v s)(k:∀b,b<w.heap.size->F b->G b):FP w F v s:=by
 obtain⟨A,a,c,d,e⟩:=h;exact⟨A,a,c,d,e.mono k⟩
def FP.at{w:jT}{G:Nat->Prop}{v:ku}{s:List Wr}(h:FP w G v s)(k:Nat)(m:k<s.length):∃b a d,v=fM (jm (Δ b a)) s.length d/\s.length<=d/\b<w/\¬G b/\
 w.cell? (Δ b (a+k*3))=jm (ig s[k].key)/\w.cell? (Δ b (a+k*3+1))=jm (ig s[k].text)/\w.cell? (Δ b (a+k*3+2))=jm (iw s[k].gone):=by
 obtain⟨A,d,f,i,n,g⟩:=h;obtain⟨b,a,rfl,hb,j⟩:=n.2 O;have e:∀c,c<3->w.cell? (Δ b (a+k*3+c))=(wrC s[k])[c]?:=λc l=>by
  rw[JD,j (k*3+c) O];exact flat_get wrC 3 (λ_=>rfl) s k c m l
 exact⟨b,a,d,f,i,hb,g O _ rfl,e 0 U,e 1 U,e 2 U⟩
def FP.slice{w:jT}{G:Nat->Prop}{v:ku}{s:List Wr}(h:FP w G v s):∃A a,v=fM A s.length a:=by
 obtain⟨A,a,b,_⟩:=h;exact⟨A,a,b⟩
def Tryz.pU:IK prog 49 143 (iK #[ig ⟨#[]⟩,ig ⟨#[]⟩,jS]) 3 40:=⟨underlying49,by kernel_rfl,rfl⟩
def OY(x:Wr):Value:=iK #[x.key,x.text,x.gone]
def SI(x:Wr)(w:jT)(h1:x.key.size<=4294967296)(h2:x.text.size<=4294967296):Calls prog 166 #[OY x] w λo w'=>o=iO (iw (D5 x))/\η w w':=by
 obtain⟨b,a,c⟩:=x;simp only[OY]at h1 h2⊢;obtain⟨t,l,hb,j⟩:=E5 w 143 [b,a,c];obtain⟨q,r,s⟩:=j.p3;have d:=Ac hb;rw[l]at q r s d;have k:=iR a;have n:=Ac k;clear j hb l k;by_cases i:16<b.size
 ·have t1:=dT ((16:Int)<(b.size:Int));have f:Hid (D5 ⟨b,a,c⟩=jS):=Ac (by
   unfold D5;rw[show decide (b.size<=16)=jS from decide_eq_false O];rfl)
  clear i;go_wp2;go_ret;exact⟨by rw[f.out];rfl,d⟩
 ·have t1:=dF ((16:Int)<(b.size:Int));by_cases m:40<a.size
  ·have t2:=dT ((40:Int)<(a.size:Int));have f:Hid (D5 ⟨b,a,c⟩=jS):=Ac (by
    unfold D5;rw[show decide (a.size<=40)=jS from decide_eq_false O,Bool.and_false];rfl)
   clear i m;go_wp2;go_ret;exact⟨by rw[f.out];rfl,d⟩
  ·have t2:=dF ((40:Int)<(a.size:Int));have g:Hid (D5 ⟨b,a,c⟩=(!c||(a.toList==[]))):=Ac (by
    unfold D5;rw[n.out,show decide (b.size<=16)=jO from decide_eq_true O,show decide (a.size<=40)=jO from decide_eq_true O];rfl)
   clear i m;cases c with
   |false=>
    go_wp2;go_ret;exact⟨by rw[g.out];rfl,d⟩
   |true=>
    have p:∀e:List nC,(e==[])=e.isEmpty:=λe=>by cases e<;>rfl
    rw[p]at g;go_wp2;go_ret;exact⟨by rw[g.out];rfl,d⟩
def jk(l:List Wr):∀b∈GK l,b.oneCell'=true:=by
 intro b a;simp only[GK,List.mem_flatten,CU]at a;obtain⟨_,⟨x,_,rfl⟩,a⟩:=a;simp only[wrC,Cb,List.not_mem_nil,or_false]at a;rcases a with rfl|rfl|rfl<;>rfl
def Yp(a b:List Wr):GK (a++b)=GK a++GK b:=by simp[GK]
def Ai6{w:jT}{pI g k:Nat}{e:TypeId}(a:Cm w g e [])(hb:pI<=g):w.ownsRow pI e k (fM (jm (Φ g)) 0 0) 0 []:=by
 refine⟨by simp,.inr ⟨g,0,#[],rfl,hb,a,Ae _,by decide,by simp,by simp⟩⟩
def Yq{w:jT}{G:Nat->Prop}{pI n:Nat}{v:ku}{s:List Wr}(h:w.ownsRow pI 143 3 v n (GK s))(c:s.length=n)(i:∀b,pI<=b->b<w->¬G b):FP w G v s:=by
 subst c;obtain⟨A,d,rfl,j,k⟩:=C9 h;refine⟨A,d,rfl,j,k,λc l e=>?_⟩;subst e;rcases h.2 with⟨a,_⟩|⟨p,m,o,a,f,g,_⟩
 ·simp only[Value.slice.injEq]at a;exact absurd a.1 Θ
 ·simp only[Value.slice.injEq,Option.some.injEq]at a;rw[a.1];exact i _ f (AL.1 g).1
def Oq{w:jT}{G:Nat->Prop}{v:ku}{s:List Wr}(h:FP w G v s)(i:s.length<=100000):
 Calls prog 102 #[v] w λa w'=>∃j,a=iO j/\w'.ownsRow w 143 3 j s.length (GK s)/\η w w':=by
 obtain⟨A,e,rfl,y,c,f⟩:=h;have u:=λn=>Lib.run_eql_slice_nil (P:=prog) n 49 143 A s.length e 0 0 underlying49
 cases A with
 |none=>
  have t:s=[]:=by
   by_cases a:s=[]
   ·exact a
   ·obtain⟨b,z,p,_⟩:=c.2 (Ω (QI.2 a));cases p
  subst t;simp only[List.length_nil]at u;clear c f;go_wp2;go_ret;exact⟨_,rfl,⟨by simp[GK],.inl ⟨rfl,rfl⟩⟩,mZ⟩
 |some o=>
  have m:=Ac c;have k:=Ac i;have g:η w (w.alloc (ji #[] 143)):=mZ.alloc (Ae _) _;have d:=Ac g;have l:Hid ((w.alloc (ji #[] 143)).ownsRow w 143 3 (fM (jm (Φ w)) 0 0) 0 []):=Ac (Ai6 (heap_alloc_new _ _) (Ae _));clear g c f i;go_in;go_wp2_with(at_builtin;refine Fq rfl (.tmp 5) (.tmp 6) 49 rfl Tryz.pU U w (fM (jm (Φ w)) 0 0) 0 [] rfl l (jm o) s.length e (GK s) rfl (Rd.below m d) (jk s) (Ω k.out) U Θ ?_;intro B w' r q x);go_ret;exact⟨_,rfl,by simpa using r,d.trans q⟩
