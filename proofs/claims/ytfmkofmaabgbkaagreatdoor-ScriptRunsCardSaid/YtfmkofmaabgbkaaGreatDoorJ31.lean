import Derived.Test.YtfmkofmaabgbkaaGreatDoorJ29
import Derived.Test.YtfmkofmaabgbkaaGreatDoorJ30
set_option linter.defProp false
set_option maxHeartbeats 32000000
set_option maxRecDepth 100000
open List renaming mem_cons->CG,mem_cons_self->Bo,mem_cons_of_mem->Bz,map_append->CE,mem_map->Dk,map_cons->BM,map_map->qx,length_map->CZ,getElem?_cons_succ->Am,getElem?_cons_zero->Ag,getElem_mem->Cm,append_assoc->AY,getElem_toArray->Aq,getElem_cons_succ->Aj,getElem_cons_zero->Ai,setIfInBounds_toArray->Af,set_cons_zero->Ak,set_cons_succ->Au,length_reverse->UU,getElem?_eq_getElem->Ah
open Go.Lib renaming hid->Ac
open Nat renaming le_refl->Ae,lt_of_lt_of_le->Be,le_trans->Bq,zero_add->DI,le_of_eq->LW
open Go.World renaming putObj_heap_other->lI,cell?_of_block->BI
open UInt64 renaming toNat_inj->DN,ofNat->Az
namespace Go.Proofs.YtfmkofmaabgbkaaGreatDoor
open Go.Proofs.Tryz
section
open Go.RowKit Go.Maps
def wB:∀(l:List (Int×Int))(i:Nat)(x:MapEntry),x∈I5 i l->∃p∈l,x.key=.int .i64 p.1
 |[],i,x,b=>by cases b
 |p::e,i,x,b=>by
  rcases CG.1 b with rfl|b
  ·exact⟨p,Bo ..,rfl⟩
  ·obtain⟨q,d,c⟩:=wB e _ x b;exact⟨q,Bz _ d,c⟩
def WY:∀(n:Nat)(l:List (Int×Int)),l.length=n->(l.map (·.1)).Nodup->Go.MapKept.Stamped (I5 0 l).toArray l.length
 |0,l,b,_=>by
  have:l=[]:=List.eq_nil_of_length_eq_zero b;subst this;exact Go.MapKept.stamped_empty 0
 |n+1,l,b,h=>by
  rcases List.eq_nil_or_concat l with rfl|⟨e,f,rfl⟩
  ·simp at b
  ·rw[List.concat_eq_append]at b h⊢;obtain⟨d,v⟩:=f;rw[CE,List.nodup_append]at h;have i:=WY n e (by simpa using b) h.1;rw[aO,List.length_append];have j:=Go.MapKept.stamped_push i (key:=.int .i64 d) (val:=.int .i64 v) (λx m c=>by
    obtain⟨p,k,g⟩:=wB e 0 x (by simpa using m);rw[g]at c;injection c with _ c
    exact h.2.2 p.1 (Dk.2 ⟨p,k,rfl⟩) d Θ c)
   simpa using j
def wf64{x:Int}(h: -9223372036854775808<=x)(k:x<=9223372036854775807):(Lit.int .i64 x).wf=true:=by
 have b:IntKind.i64.min= -9223372036854775808:=by decide
 have c:IntKind.i64.max=9223372036854775807:=by decide
 simp only[Lit.wf,b,c,Bool.and_eq_true,decide_eq_true_eq];exact⟨h,k⟩
def Lr.owns{w:World}{n:Nat}{l:List (Int×Int)}(h:Lr w n l)(r:(l.map (·.1)).Nodup)(b:∀p∈l,(Lit.int .i64 p.1).wf=true/\(Lit.int .i64 p.2).wf=true)(o:l.length<=maxLen):
 ∃e:DataW Unit,w.ownsMap prog 3 (plainElem prog 3) n l.length e/\(intKeys e).Perm (l.map (·.1))/\Maps.size e=l.length:=by
 have t:∀(l:List (Int×Int))(i:Nat),(∀p∈l,(Lit.int .i64 p.1).wf=true/\(Lit.int .i64 p.2).wf=true)->∀x∈I5 i l,∃p∈l,Go.WideElems.rd prog 3 (plainElem (H:=Unit) prog 3) x=some (.int .i64 p.1,.lit (.int .i64 p.2)):=by
  intro l;induction l with
  |nil=>intro i _ x c;cases c
  |cons p u k=>
   intro i b x c;rcases CG.1 c with rfl|c
   ·refine⟨p,Bo ..,?_⟩;obtain⟨g,j⟩:=b p (Bo ..);exact Go.WideElems.rd_mk (keyOf_int_mk underlying3 g) (plainElem_int underlying3 j)
   ·obtain⟨q,s,f⟩:=k _ (λp d=>b p (Bz _ d)) x c;exact⟨q,Bz _ s,f⟩
 have m:∀(l:List (Int×Int))(i:Nat),(∀p∈l,(Lit.int .i64 p.1).wf=true/\(Lit.int .i64 p.2).wf=true)->(I5 i l).map (Go.WideElems.rg prog 3 (plainElem (H:=Unit) prog 3))=l.map λp=>(Lit.int .i64 p.1,DataW.lit (.int .i64 p.2)):=by
  intro l;induction l with
  |nil=>intro i _;rfl
  |cons p u k=>
   intro i b;obtain⟨g,j⟩:=b p (Bo ..);simp only[I5,BM];rw[k _ (λp d=>b p (Bz _ d)),Go.WideElems.rg_of (Go.WideElems.rd_mk (keyOf_int_mk underlying3 g) (plainElem_int underlying3 j))]
 have d:=Go.WideShapes.sorted_perm (l.map λp=>((Lit.int .i64 p.1,DataW.lit (.int .i64 p.2)):Lit×DataW Unit));refine⟨_,⟨_,_,h,⟨by simp[aP];exact o,WY _ l rfl r,λx c=>?_⟩,by simp[aP],rfl⟩,?_,?_⟩
 ·obtain⟨p,_,f⟩:=t l 0 b x (by simpa using c);exact⟨_,f⟩
 ·rw[show((I5 0 l).toArray.toList)=I5 0 l by simp,m l 0 b];refine(d.map (λp=>Go.intOf p.1)).trans ?_;rw[qx];exact List.Perm.of_eq rfl
 ·rw[show((I5 0 l).toArray.toList)=I5 0 l by simp,m l 0 b];show(List.foldr DataW.insert [] _).length=_;rw[d.length_eq,CZ]
def Ake(b:Nat)(w:World):Calls prog 154 #[.map (some b)] w λc w'=>c=.returned (.func (.func 178) #[] #[ptr0 w.heap.size])/\w'=w.alloc (.cells #[.map (some b)] 187):=
 (callsIn_wide (n:=5)).1 (AnyZI.keys_in Tryz.keysA Fence.wide 5 trivial rfl (some b) w)
def Tryz.sortsA(m:Nat):AnyZI.SortsIn prog Tryz.sortedA_ren Fence.wide m:=
 ⟨λd i c j b e f g=>callsIn_wide.2 (AnyM.slices_Sort_int Tryz.sortA d i c j b e f g),
  λp c b=>callsIn_wide.2 (AnyM.slices_Sort_int_none Tryz.sortA p c b)⟩
def wC(d i:Nat)(w:World)(b:List Int)(l:w.cell? (Φ d)=some (.map (some i)))(A:Lr w i (b.map λc=>(c,1)))(m:b.Nodup)(o:∀c∈b,0<=c/\c<=65536):
 Calls prog 153 #[.func (.func 178) #[] #[ptr0 d]] w λk w'=>∃v,k=.returned v/\
  w'.ownsRow w.heap.size 3 1 v b.length ((b.mergeSort (λx E=>decide (x<=E))).map (Value.int .i64))/\η w w':=by
 have z:=World.block_lt_of_cell? w _ l;have F:b.length<=65537:=QB 65537 b m (λc f=>Ω (o c f));obtain⟨j,t,e,g⟩:=A.owns (by rw[qx];simpa[Function.comp_def]using m) (λp B=>by
  obtain⟨c,f,rfl⟩:=Dk.1 B;have:=o c f;exact⟨wf64 (by simp only;omega) (by simp only;omega),wf64 (by simp only;omega) (by simp only;omega)⟩) (by rw[CZ];unfold maxLen;omega)
 rw[qx]at e;replace e:(intKeys j).Perm b:=by simpa[Function.comp_def]using e
 rw[CZ]at g;have C:=AnyZI.keys_gives (ρ:=Tryz.keysA_ren) {Tryz.keysA with} Fence.wide 2 trivial rfl O1 d i _ j w z l t;have s:=AnyZI.sorted_in Tryz.sortedA Fence.wide 5 trivial trivial trivial trivial rfl O1 (Tryz.sortsA _) (enters_of func118 Γ rfl) 178 #[ptr0 d] trivial (enters_of func178 Γ rfl) _ _ (by rw[g];unfold maxLen;omega) (by rw[g];omega) _ C;refine((callsIn_wide (n:=5)).1 s).mono ?_;rintro k w'⟨v,D,rfl,u,q,_,y⟩;have r:D.Perm b:=u.trans e;rw[r.length_eq,mergeSort_of_perm_i r]at q;exact⟨v,rfl,q,y⟩
def Ao7(l:List Int):List Int:=l.mergeSort λx b=>decide (x<=b)
section
variable{len:Mode}{w w':World}{x d p L:Nat}{s:St}{F:Nat->Prop}
def Af9(s:St)(w:World)(e:Ending)(w':World):Prop:=
 η w w'/\match DW s with
  |none=>e=.returned (.tuple #[.slice none 0 0,.int .i64 5])
  |some (_,b)=>∃v,e=.returned (.tuple #[v,.int .i64 0])/\w'.ownsRow w.heap.size 3 1 v b.length ((Ao7 b).map (Value.int .i64))/\b.length<=65537
def YF(h:J6 len w x d p L s F):Calls prog 116 #[ptr0 x] w (Af9 s w):=by
 have i:=Ac (WT h);cases k:DW s with
 |none=>
  have f:=Ac k;clear h k;go_enter func116,ntmps116
  go_wp2_with fail
  refine i.mono ?_;rintro j e⟨g,b⟩;rw[f.out]at b;replace b:j=.returned (.tuple #[.pointer none,.int .i64 5]):=b;subst b;have n:=Ac g;clear g i
  go_wp2_with fail
  go_ret2;refine⟨n.out,?_⟩;rw[f.out];rfl
 |some K=>
  obtain⟨O1,t⟩:=K;have f:=Ac k;clear h k;go_enter func116,ntmps116
  go_wp2_with fail
  refine i.mono ?_;rintro j e⟨g,b⟩;rw[f.out]at b;obtain⟨P,l,v,rfl,q⟩:=b;have C:=q.box.cell 2;simp only[Am,Ag]at C;have n:=Ac g;have H:=Ac q;clear g i q
  go_wp2_with fail
  refine(Ake l e).mono ?_;rintro j m⟨rfl,r⟩;have o:η e m:=r▸(Below.refl _ _).alloc (Ae _) _;have A:m.cell? (Φ e.heap.size)=some (.map (some l)):=by
   have D:CB m e.heap.size 187 [.map (some l)]:=r▸heap_alloc_new _ _;exact D.cell 0
  have c:=H.below o;have y:=Ac (wC e.heap.size l m t A c.map c.zO c.rng);have u:=Ac (τ n.out o);have G:Hid (t.length<=65537):=Ac (QB 65537 t c.zO (λM J=>Ω (c.rng M J)));clear r o A c C
  go_wp2_with fail
  refine y.mono ?_;rintro j Q⟨N,rfl,B,z⟩;have E:=Ac (τ u.out z);have I:=Ac (kK B u.size);clear z B y
  go_wp2_with fail
  go_ret2;refine⟨E.out,?_⟩;rw[f.out];exact⟨N,rfl,I.out,G.out⟩
def Aga(len:Mode)(s:St)(w:World)(d p L:Nat)(F:Nat->Prop)(e:Ending)(w':World):Prop:=
 η w w'/\match DW s with
  |none=>e=.returned (.tuple #[.pointer none,.int .i64 5])
  |some _=>∃x,e=.returned (.tuple #[ptr0 x,.int .i64 0])/\J6 len w' x d p L s F/\w.heap.size<=x
def Aa1(h:EE len w d p L s F):Calls prog 73 #[ptr0 d,ptr0 p] w (Aga len s w d p L F):=by
 have t:=h.lt;obtain⟨N,n,l,-⟩:=newB w 215 [ptr0 d,ptr0 p];have k:J6 len N w.heap.size d p L s F:=⟨h.below l,n▸heap_alloc_new _ _,λG=>Ω (t _ G)⟩;have m:Calls prog 33 #[ptr0 d] w λe w'=>e=.returned (.int .i64 (L*64:Nat))/\w=w':=by
  obtain⟨K,E,J,C,B,own,h,_⟩:=h;exact h.dev.size h.L1
 have U:0<L:=by obtain⟨K,E,J,C,B,own,h,_⟩:=h;exact h.L0
 have t0:(((L*64:Nat):Int)==0)=false:=ζ O1;generalize L*64=W at m t0;have q:=Ac m;have g:=Ac (YF k);have x:=Ac k;have v:=Ac l;have z:=Ac n;clear h m k l n t;go_enter func73,ntmps73
 go_wp2_with fail
 refine q.mono ?_;rintro e X⟨rfl,rfl⟩;clear q
 go_wp2_with fail
 rw[<-z.out];refine g.mono ?_;rintro e Y⟨f,b⟩;have o:=Ac (τ v.out f);have y:=Ac (x.below f);cases c:DW s with
 |none=>
  rw[c]at b;replace b:e=.returned (.tuple #[.slice none 0 0,.int .i64 5]):=b;subst b;have i:=Ac c;clear c f g
  go_wp2_with fail
  go_ret2;refine⟨o.out,?_⟩;rw[i.out];rfl
 |some H=>
  obtain⟨V,I⟩:=H;rw[c]at b;obtain⟨M,rfl,r,_⟩:=b;obtain⟨P,Q,rfl⟩:∃u A,M=.slice u I.length A:=by
   rcases r.2 with⟨j,D⟩|⟨T,R,S,j,_⟩
   ·exact⟨none,0,by rw[j,D]⟩
   ·exact⟨_,_,j⟩
  have i:=Ac c;clear c f g r
  go_wp2_with fail
  go_ret2;refine⟨o.out,?_⟩;rw[i.out];exact⟨_,rfl,y.out,Ae _⟩
end
end
section
open Go.RowKit Go.Shelf
attribute [local go_sem]Oper.semAt_some
def kR(l:List Wr)(ps:List (UInt64×UInt64))(hpl:ps.length<=l.length)(q:Ms)(x:Below' ps.length):Ms×Int:=Jw q ((l[x.1]'(Be x.2 hpl)).key,ps[x.1]'x.2)
def JQ(l:List Wr)(ps:List (UInt64×UInt64))(hpl:ps.length<=l.length)(q:Ms):List (Below' ps.length)->Ms
 |[]=>q
 |x::b=>if(kR l ps hpl q x).2≠0 then(kR l ps hpl q x).1 else JQ l ps hpl (kR l ps hpl q x).1 b
def SC{b f:World}{G:Nat->Prop}(B:Nat)(t:Touch G b f)(k:∀d,G d->d<b.heap.size->Ns b d):KeepsFrom B b f:=⟨t.size,λj n _ e m=>by
 have i:=(Array.getElem?_eq_some_iff.1 e).1;rw[t.block j i (λl=>by
  obtain⟨o,c,g⟩:=k j l i;rw[e]at c;injection c with c
  rw[<-c,m]at g;cases g)]
 exact e⟩
def Ave(A:Option Addr)(n c:Nat)(w:World):Calls prog 261 #[.slice A n c] w λb w'=>b=.returned (.func (.func 264) #[] #[ptr0 w.heap.size])/\w'=w.alloc (.cells #[.slice A n c] 192):=by
 go_enter func261,ntmps261
 go_wp2_with fail
 refine bodyPost_ret (v:=.func (.func 264) #[] #[ptr0 w.heap.size]) (by simp[results,results261,go_sem]) rfl ?_;exact⟨rfl,rfl⟩
def EZ.ends{g:Dq}{w:World}{base jb x d p L:Nat}{s:St}{stamp:UInt64}{vs:Value}{l:List Wr}{ps:List (UInt64×UInt64)}{over:Bool}{en:Int}{F:Nat->Prop}{v:Value}(h:EZ g w base jb x d p L s stamp vs l ps over en F v)(er:Int):
 EZ g ((w.setCell (Δ jb 6) (.bool true)).setCell (Δ jb 7) (.int .i64 er)) base jb x d p L s stamp vs l ps true er F v/\AL (JG F jb v) (JG F jb v) w ((w.setCell (Δ jb 6) (.bool true)).setCell (Δ jb 7) (.int .i64 er)):=by
 have f:Touch (λb=>b=jb) w ((w.setCell (Δ jb 6) (.bool true)).setCell (Δ jb 7) (.int .i64 er)):=((Touch.refl (λb=>b=jb) w).setCell (p:=Δ jb 6) (.inl rfl) _).setCell (p:=Δ jb 7) (.inl rfl) _;have m:AL (JG F jb v) (JG F jb v) w ((w.setCell (Δ jb 6) (.bool true)).setCell (Δ jb 7) (.int .i64 er)):=⟨f.mono (λb c=>.inr (.inl c)),λb e=>.inl e⟩;exact⟨⟨⟨h.ix.sys.keep f (λb e c=>h.fj (c▸e)) h.gj.1 h.gj.2,h.ix.box.touch f h.xj,h.ix.out⟩,(h.box.AX 6 (.bool true)).AX 7 (.int .i64 er),Gj h.row f (λb e c=>h.mj (c▸e)),h.set.moved m,h.fj,h.bj,h.bx,h.bt,h.mj,h.mF⟩,m⟩
def wE(w:World)(base jb e d p L:Nat)(stamp:UInt64)(vs:Value)(l:List Wr)(ps:List (UInt64×UInt64))(en:Int)(F:Nat->Prop)(v:Value)(q:Ms)(b:World):Prop:=
 (∃c,EZ q.pw.mode b base jb e d p L q.s stamp vs l ps false en c v/\AL (JG F jb v) (JG c jb v) w b)/\(CB b w.heap.size 118 [ptr0 jb]/\CB b (w.heap.size+1) 192 [v])/\w.heap.size+2<=b.heap.size
def wE.grown{w:World}{base jb t d p L:Nat}{stamp:UInt64}{vs:Value}{l:List Wr}{ps:List (UInt64×UInt64)}{en:Int}{F:Nat->Prop}{v:Value}{q:Ms}{X j:World}{row:Option Nat}(h:wE w base jb t d p L stamp vs l ps en F v q X){B:Nat}(D:w.heap.size<=B)(r:X.grownBy j row)
 (s:∀b,row=some b->B<=b/\∃i,X.heap[b]?=some i/\i.isCells=false):wE w base jb t d p L stamp vs l ps en F v q j:=by
 obtain⟨⟨u,A,o⟩,⟨m,n⟩,C⟩:=h;have g:∀b,row=some b->¬Ns X b:=λb c⟨i,y,k⟩=>by
  obtain⟨_,E,e,z⟩:=s b c;rw[y]at e;injection e with e
  rw[e,z]at k;cases k
 have f:=LC r;exact⟨⟨u,A.abide r g,⟨o.touch.trans f (λx c=>.inr (Ω ((s x c).1))),o.own⟩⟩,⟨m.touch f (λc=>g _ c (I9 m)),n.touch f (λc=>g _ c (I9 n))⟩,Bq C f.size⟩
def Ac2{q:Ms}{w:World}{base jb aE d p L:Nat}{stamp:UInt64}{vs:Value}{l:List Wr}{ps:List (UInt64×UInt64)}{en:Int}{F:Nat->Prop}{A:Option Addr}{c:Nat}(h:EZ q.pw.mode w base jb aE d p L q.s stamp vs l ps false en F (.slice A ps.length c))(hpl:ps.length<=l.length)(c5:l.length<=100000)(cA:∀cR∈l,cR.key.size<=16)(er:Int):
 Calls prog 259 #[ptr0 jb,.int .i64 er] w λi w'=>i=.returned (.int .i64 er)/\∃j,EZ (JQ l ps hpl q (Ea ps.length ps.length)).pw.mode w' base jb aE d p L (JQ l ps hpl q (Ea ps.length ps.length)).s stamp vs l ps true er j (.slice A ps.length c)/\
  AL (JG F jb (.slice A ps.length c)) (JG j jb (.slice A ps.length c)) w w':=by
 have c3:=h.box.lt;have b9:=h.box.cell 5;unfold Eh at b9;simp only[Ag,Am]at b9;have cU:=Ac h;obtain⟨t,b4⟩:∃t,A=some (Φ t)\/(t=jb/\ps.length=0):=by
  rcases h.row.2 with⟨k,Q⟩|⟨t,cW,cX,k,_⟩
  ·exact⟨jb,.inr ⟨rfl,by injection k⟩⟩
  ·exact⟨t,.inl (by injection k)⟩
 have b3:0<ps.length->A=some (Φ t):=λcY=>b4.resolve_right (λk=>O1)
 have a5:Hid (∀(b:World)(j:Nat->Prop)(cG:Dq)(s':St),EZ cG b base jb aE d p L s' stamp vs l ps false en j (.slice A ps.length c)->t<b.heap.size/\¬j t):=Ac (λb j _ s' al=>by
  rcases b4 with k|⟨k,_⟩
  ·exact⟨(al.mlt t (by rw[k];rfl)).2,al.mF t (by rw[k];rfl)⟩
  ·subst k;exact⟨al.box.lt,al.fj⟩)
 have c2:t<w.heap.size:=(a5 _ _ _ _ h).1;refine(callsIn_wide (n:=3)).1 ?_;refine callsIn_of_wp_marks func259 rfl trivial ?_ rfl;simp only[ntmps259,List.size_toArray,List.length_cons,List.length_nil,Nat.reduceAdd,Nat.reduceSub,Array.replicate_succ,Array.replicate_zero,List.push_toArray,List.append_toArray,List.nil_append,List.cons_append]
 gi_wp2_with(refine⟨trivial,?_⟩;gi_at_call 261;refine(callsIn_wide.2 (Ave _ _ _ _)).mono ?_;rintro i w'⟨rfl,rfl⟩)
 obtain⟨P,aM⟩:=ε ((w.alloc (.cells #[ptr0 jb] 118)).alloc (.cells #[.slice A ps.length c] 192));rw[<-aM];have b0:η w P:=aM▸((Below.refl _ w).alloc (Ae _) _).alloc Θ _;have cg:CB P w.heap.size 118 [ptr0 jb]:=by rw[aM];exact(χ _ _ Θ).trans (heap_alloc_new _ _)
 have bG:CB P (w.heap.size+1) 192 [.slice A ps.length c]:=by
  have:=heap_alloc_new (w.alloc (.cells #[ptr0 jb] 118)) (.cells #[.slice A ps.length c] 192);rw[show(w.alloc (.cells #[ptr0 jb] 118)).heap.size=w.heap.size+1 by simp,<-aM]at this;exact this
 have c9:P.heap.size=w.heap.size+2:=by rw[aM];simp
 have bR:=h.below b0;have cE:∀V(h:V<ps.length),P.cell? (Δ t (V*2))=some (.int .u64 (ps[V].1.toNat:Int))/\P.cell? (Δ t (V*2+1))=some (.int .u64 (ps[V].2.toNat:Int)):=λV b5=>by
  obtain⟨cT,cV,a9,_,H⟩:=own_rowk bR.row;obtain⟨o,ae,bo,_,al⟩:=H.2 O1;injection a9 with a9 _ _
  rw[b3 O1]at a9;subst a9;injection bo with bo
  injection bo with cq cr
  subst cq cr;have b2:=flat_get Acw 2 (λ_=>rfl) ps V;refine⟨?_,?_⟩
  ·have:=al (V*2) O1;rw[DI]at this;rw[this];exact b2 0 b5 U
  ·have:=al (V*2+1) O1;rw[DI]at this;rw[this];exact b2 1 b5 U
 have ck:=Ac cA;have cN:=bG.p1;refine wpIn_rangeFunc_ownH rfl U (gf:=264) (lb:= #[ptr0 (w.heap.size+1)]) rfl trivial (enters_of func264 Γ rfl)
  (encs:=λx:Below' ps.length=> #[.int .i64 (x.1:Int),dJ (ps[x.1]'x.2)]) (Kp:=uQ t (w.heap.size+1)) (S:=λcc=>cc=Ea ps.length ps.length) (Sp:=λE=>E<+:Ea ps.length ps.length) (N:=ps.length) (w0:=P)
  (Ani Fence.wide 2 trivial rfl U (w.heap.size+1) t c A ps O1 b3 P cN cE O1) (λk Q=>⟨Q.1.trans k.1,Q.2.trans k.2⟩) (λb aW a0 cM c4 c8 k _=>⟨lI O1,lI O1⟩) (Below.refl _ _) (λ_=>rfl)
  (λE b=>∃f,(∀y,E++y=Ea ps.length ps.length->JQ l ps hpl q (Ea ps.length ps.length)=JQ l ps hpl f y)/\wE w base jb aE d p L stamp vs l ps en F (.slice A ps.length c) f b)
  (λi E b=>i=.exit 0/\∃f,(∀y,E++y=Ea ps.length ps.length->JQ l ps hpl q (Ea ps.length ps.length)=f)/\wE w base jb aE d p L stamp vs l ps en F (.slice A ps.length c) f b)
  ?hI ?hIx ⟨q,λy i=>by rw[<-i];rfl,⟨F,bR,AL.of_below b0⟩,⟨cg,bG⟩,O1⟩
  (λx bl b=>∃v,P.heap.size<=v/\CB b v 363 [.int .u64 ((ps[x.1]'x.2).1.toNat:Int),.int .u64 ((ps[x.1]'x.2).2.toNat:Int)]/\bl={tmps:= #[ptr0 jb,.int .i64 er,ptr0 w.heap.size,undef,.int .i64 0,.int .i64 (x.1:Int),ptr0 v,ptr0 jb,ptr0 jb,.pointer (some (Δ jb 5)),.slice A ps.length c,.func (.func 264) #[] #[ptr0 (w.heap.size+1)],.int .i64 (x.1:Int),dJ (ps[x.1]'x.2),undef,undef,undef,undef,undef,undef,undef,undef,undef,undef,undef,undef,undef,undef,undef,undef,undef,undef,undef,undef,undef,undef,undef,undef,undef,undef,undef,undef,undef,undef,undef,undef],defers:=[]})
  ?hAx ?assign ?body ?done ?stop
 case hI=>
  rintro E bL bN cb⟨f,B,bp⟩aV H;exact⟨f,B,bp.grown O1 aV H⟩
 case hIx=>
  rintro i E bL bN cb⟨cz,f,B,bp⟩aV H;exact⟨cz,f,B,bp.grown O1 aV H⟩
 case hAx=>
  intro x bl;rintro db bL bN cb⟨v,k,Q,cs⟩aV H;refine⟨v,k,Q.touch (LC aV) (λi=>?_),cs⟩;obtain⟨_,cM,ba,ct⟩:=H v i;obtain⟨a0,cv,bO⟩:=I9 Q;rw[cv]at ba;injection ba with ba
  rw[ba,ct]at bO;cases bO
 case assign=>
  rintro l0 E x b a7⟨f,B,⟨j,z,m⟩,⟨K,ac⟩,ar⟩R;have cl:=Ac B;clear B;have br:t<b.heap.size:=(a5 _ _ _ _ z).1;unfold dJ at R⊢;have cj:=Ac R;have g:=Ac z;have Z:=Ac m;have M:=Ac K;have ah:=Ac ac;clear R z m K ac;gi_wp2;have aR:∀a0,η b (b.alloc a0):=λa0=>(Below.refl _ _).alloc (Ae _) _
  exact cj _ _ ((KeepsOthers.alloc _ _).from _) ⟨χ _ _ br,χ _ _ O1⟩ ⟨f,cl.out,⟨j,g.below (aR _),Z.below (aR _)⟩,⟨M.out.ξ (aR _),ah.out.ξ (aR _)⟩,by have:=(aR (.cells #[] 363)).size;simp at this⊢;omega⟩ ⟨b.heap.size,O1,heap_alloc_new _ _,rfl⟩
 case body=>
  rintro l0 E x bl b c6⟨aD,b7⟩⟨f,B,⟨j,z,m⟩,⟨K,ac⟩,ar⟩⟨v,c0,bb,rfl⟩c7;have W:x.1<l.length:=Be x.2 hpl;obtain⟨aa,ae,bm,cF,c1,cy,cC,bC,I,cP⟩:=z.set.at x.1 W;have cB:=ck l[x.1] (Cm W);have aJ:Hid (∀I,Jw f ((l[x.1]'W).key,ps[x.1]'x.2)=(I,0)->∀y,E++[x]++y=Ea ps.length ps.length->JQ l ps hpl q (Ea ps.length ps.length)=JQ l ps hpl I y):=Ac (λI i y H=>by
   have i:kR l ps hpl f x=(I,0):=i;rw[B (x::y) (by rw[<-H,AY];rfl),JQ,i,ku Θ])
  have a3:Hid (∀I aD,Jw f ((l[x.1]'W).key,ps[x.1]'x.2)=(I,aD)->aD≠0->∀y,E++[x]++y=Ea ps.length ps.length->JQ l ps hpl q (Ea ps.length ps.length)=I):=Ac (λI aD i b7 y H=>by
   have i:kR l ps hpl f x=(I,aD):=i;rw[B (x::y) (by rw[<-H,AY];rfl),JQ,i,jM b7])
  clear B;have g:=Ac z;have Z:=Ac m;have bh:=bb.cell 0;have X:=bb.cell 1;have a1:=K.cell 0;simp only[Ag,Am]at bh X a1;have M:=Ac K;have a4:=Ac bb;have ah:=Ac ac;clear z m K bb ac;by_cases av:(ps[x.1]'x.2).2=0
  ·rw[av]at X;have bj:=Ac (aJ f (by unfold Jw;rw[jM av]));replace X:b.cell? (Δ v 1)=some (.int .u64 0):=X;clear av aJ a3;unfold dJ;gi_wp2;exact⟨KeepsFrom.refl _ _,⟨rfl,rfl⟩,f,bj.out,⟨j,g.out,Z.out⟩,⟨M.out,ah.out⟩,ar⟩
  ·have aq:Hid (Jw f ((l[x.1]'W).key,ps[x.1]'x.2)=if(La f (l[x.1]'W).key.data.toList (ps[x.1]'x.2).1).2≠0 then La f (l[x.1]'W).key.data.toList (ps[x.1]'x.2).1 else((Dz (La f (l[x.1]'W).key.data.toList (ps[x.1]'x.2).1).1 (Bf (ps[x.1]'x.2).2)).1,0)):=Ac (by unfold Jw;rw[ku av]);have t1:(((ps[x.1]'x.2).2.toNat:Int)==0)=false:=ζ λi=>av (DN.1 (by simp;omega))
   clear av;unfold dJ;generalize ps[x.1]'x.2=C at*;generalize l[x.1]'W=a2 at*;have aw:=g.box.cell 4;have ad:=g.box.cell 1;unfold Eh at ad aw;simp only[Ag,Am]at ad aw;rw[cF]at aw;have da:(x.1:Int)<(l.length:Int):=O1;have aF:=Ac (λa8(aW:η b a8)=>An6 (g.ix.below aW) (⟨g.box.ξ aW,g.fj⟩:UA a8 jb aE d p stamp vs (.slice A ps.length c) false en j) a2.key cB C.1);obtain⟨cQ,b8⟩:=ε (La f a2.key.data.toList C.1);rw[<-b8]at aF aq;clear b8;have aZ:¬j w.heap.size:=g.ix.sys.oz M.out U;have bB:¬j v:=g.ix.sys.oz a4.out U;have bA:¬j (w.heap.size+1):=g.ix.sys.oz ah.out U;have cL:¬j t:=(a5 _ _ _ _ g.out).2;have br:t<b.heap.size:=(a5 _ _ _ _ g.out).1;have cK:¬j aa:=λh=>cC (.inl h)
   have bi:Hid (∀r D,AL j D b.drew r->AL j D b r/\(r.cell? (Φ w.heap.size)=some (ptr0 jb)/\r.cell? (Δ jb 4)=some (.slice (some (Δ aa ae)) l.length bm)/\r.cell? (Δ aa (ae+x.1*3))=some (.string a2.key)/\r.cell? (Φ v)=some (.int .u64 (C.1.toNat:Int)))):=Ac (λr D bs=>by
    have aX:AL j D b r:=(AL.of_below ((Dr.drew b).below _)).trans bs;have ab:∀o,o<b.heap.size->¬j o->r.heap[o]?=b.heap[o]?:=λo T bt=>aX.touch.block o T bt
    exact⟨aX,(BI (ab _ M.lt aZ)).trans a1,(BI (ab _ g.box.lt g.fj)).trans aw,(BI (ab _ cy cK)).trans bC,(BI (ab _ a4.lt bB)).trans bh⟩)
   obtain⟨be,bD⟩:=cQ;simp only at aF aq;clear I cP;gi_wp2;refine LG (S:=(λw'=>w'.cell? (Φ w.heap.size)=some (ptr0 jb)/\w'.cell? (Δ jb 4)=some (.slice (some (Δ aa ae)) l.length bm)/\w'.cell? (Δ aa (ae+x.1*3))=some (.string a2.key)/\w'.cell? (Φ v)=some (.int .u64 (C.1.toNat:Int)))) Γ Γ ⟨a1,aw,bC,bh⟩ (λe=>?_);refine Ld 0 (ptr0 jb) e (hy:=λw u=>by obtain⟨s0,an,ao,bg⟩:=u;go_simp) ?_;refine Ld 1 (ptr0 jb) e (hy:=λw u=>by obtain⟨s0,an,ao,bg⟩:=u;go_simp) ?_;refine Ld 2 (ptr0 jb) e ?_;refine Ld 3 (.pointer (some (Δ jb 4))) e ?_
   try simp only[Act.put,Aq,Aj,Ai,Af,Ak,Au]
   refine Ld 4 (.slice (some (Δ aa ae)) l.length bm) e (hy:=λw u=>by obtain⟨s0,an,ao,bg⟩:=u;go_simp) ?_;refine Ld 5 (.int .i64 (x.1:Int)) e ?_;refine Ld 6 (.pointer (some (Δ aa (ae+x.1*3)))) e ?_;refine Ld 7 (.pointer (some (Δ aa (ae+x.1*3)))) e ?_
   try simp only[Act.put,Aq,Aj,Ai,Af,Ak,Au]
   refine Ld 8 (.string a2.key) e (hy:=λw u=>by obtain⟨s0,an,ao,bg⟩:=u;go_simp) ?_;refine Ld 9 (ptr0 v) e ?_;refine Ld 10 (.int .u64 (C.1.toNat:Int)) e (hy:=λw u=>by obtain⟨s0,an,ao,bg⟩:=u;go_simp) ?_
   try simp only[Act.put,Aq,Aj,Ai,Af,Ak,Au]
   refine wpAnyH_ready (rs:=[11]) Γ Θ ?_;refine AllReadyH.cons rfl (λa7 R=>?_) AllReadyH.nil;go_simp;go_at_call 262;refine(aF _ ((Dr.drew b).below _)).mono ?_;rintro i r⟨rfl,D,bc,bk⟩;obtain⟨m,bq⟩:=bi r D bk;refine R.out _ _ (bq) (λe=>?_);clear R a7
   try simp only[Act.put,Aq,Aj,Ai,Af,Ak,Au]
   by_cases bd:bD=0
   ·subst bd;have bj:=Ac (aJ (Dz be (Bf C.2)).1 (by rw[aq.out,ku Θ]));clear a3 aJ aq;refine Ld 12 (.bool false) e ?_
    try simp only[Act.put,Aq,Aj,Ai,Af,Ak,Au]
    refine wpAnyH_done Γ ?_ _;refine⟨nofun,?_⟩;have G:=Ac m;have a6:=Ac bc;have cd:=e.1;have bw:=(g.box.touch m.touch g.fj);have bx:=a4.touch m.touch bB;clear bc bk m bq e bi aF bC a1 bh X ad aw;have ad:=bw.cell 1;have X:=bx.cell 1;unfold Eh at ad;simp only[Ag,Am]at ad X;have ci:=Ac bw;have cn:=Ac bx;have co:=Ac (M.touch G.touch aZ);clear bw bx;have cH:¬D w.heap.size:=G.out.out M.lt aZ;have cJ:¬D v:=G.out.out a4.lt bB;have cI:¬D jb:=G.out.out g.box.lt g.fj;have b6: -9223372036854775808<=Bf C.2/\Bf C.2<=9223372036854775807:=RG C.2;have ca:=Ac (λa8(aW:η r a8)=>KG (a6.sys.below aW) (Bf C.2) b6);have bJ:Hid (∀J Y,AL D Y r.drew J->AL D Y r J/\(J.cell? (Φ w.heap.size)=some (ptr0 jb)/\J.cell? (Δ jb 1)=some (ptr0 p)/\J.cell? (Δ v 1)=some (.int .u64 (C.2.toNat:Int)))):=Ac (λJ Y bs=>by
     have aX:AL D Y r J:=(AL.of_below ((Dr.drew r).below _)).trans bs;have ab:∀o,o<r.heap.size->¬D o->J.heap[o]?=r.heap[o]?:=λo T bt=>aX.touch.block o T bt
     exact⟨aX,(BI (ab _ co.lt cH)).trans cd,(BI (ab _ ci.lt cI)).trans ad,(BI (ab _ cn.lt cJ)).trans X⟩)
    clear b6;gi_wp2;refine LG (S:=(λw'=>w'.cell? (Φ w.heap.size)=some (ptr0 jb)/\w'.cell? (Δ jb 1)=some (ptr0 p)/\w'.cell? (Δ v 1)=some (.int .u64 (C.2.toNat:Int)))) Γ Γ ⟨cd,ad,X⟩ (λe=>?_);refine Ld 0 (ptr0 jb) e (hy:=λw u=>by obtain⟨s0,an,ao⟩:=u;go_simp) ?_;refine Ld 1 (ptr0 jb) e ?_;refine Ld 2 (.pointer (some (Δ jb 1))) e ?_;refine Ld 3 (ptr0 p) e (hy:=λw u=>by obtain⟨s0,an,ao⟩:=u;go_simp) ?_
    try simp only[Act.put,Aq,Aj,Ai,Af,Ak,Au]
    refine Ld 4 (.pointer (some (Δ v 1))) e ?_;refine Ld 5 (.int .u64 (C.2.toNat:Int)) e (hy:=λw u=>by obtain⟨s0,an,ao⟩:=u;go_simp) ?_;refine Ld 6 (.int .i64 (Bf C.2)) e (hy:=λw u=>by clear u;go_simp;rfl) ?_
    try simp only[Act.put,Aq,Aj,Ai,Af,Ak,Au]
    refine wpAnyH_ready (rs:=[7]) Γ Θ ?_;refine AllReadyH.cons rfl (λa7 R=>?_) AllReadyH.nil;go_simp;go_at_call 97;refine(ca _ ((Dr.drew r).below _)).mono ?_;rintro i J⟨rfl,Y,bE,bX⟩;obtain⟨m,bY⟩:=bJ J Y bX;refine R.out _ _ (bY) (λe=>?_);clear R a7
    try simp only[Act.put,Aq,Aj,Ai,Af,Ak,Au]
    refine wpAnyH_done Γ ?_ _;refine⟨nofun,?_⟩;have cS:=Ac m;have cm:=Ac (a6.move bE m);clear bE bX m bY e bJ ca;gi_wp2;have am:AL j Y b J:=G.trans cS.out;obtain⟨aL,az⟩:=g.move cm.out am;exact⟨SC _ am.touch (λo T _=>g.ix.sys.cells T),⟨am.touch.block _ br cL,am.touch.block _ ah.lt bA⟩,(Dz be (Bf C.2)).1,bj.out,⟨Y,aL,Z.trans az⟩,⟨M.touch am.touch aZ,ah.touch am.touch bA⟩,Bq ar am.touch.size⟩
   ·have t5:(bD==0)=false:=ζ bd;have ch:=Ac (a3 be bD (by rw[aq.out,jM bd]) bd);clear a3 aJ aq;refine Ld 12 (.bool true) e ?_
    try simp only[Act.put,Aq,Aj,Ai,Af,Ak,Au]
    refine wpAnyH_done Γ ?_ _;refine⟨nofun,?_⟩;have G:=Ac m;have a6:=Ac bc;clear bc bk m bq e bi aF;gi_wp2;obtain⟨aL,az⟩:=g.move a6.out G.out;exact⟨SC _ G.touch (λo T _=>g.ix.sys.cells T),rfl,be,ch.out,⟨_,aL,Z.trans az⟩,⟨M.touch G.touch aZ,ah.touch G.touch bA⟩,Bq ar G.touch.size⟩
 case' done=>
  rintro ap cc b cw rfl⟨f,B,⟨j,z,m⟩,⟨K,ac⟩,ar⟩bS;have bH:Hid (JQ l ps hpl q (Ea ps.length ps.length)=f):=Ac (B [] (List.append_nil _))
 case' stop=>
  rintro ap i E b cw⟨y,cD⟩⟨rfl,f,B,⟨j,z,m⟩,⟨K,ac⟩,ar⟩bS;have bH:Hid (JQ l ps hpl q (Ea ps.length ps.length)=f):=Ac (B y cD)
 all_goals(
  have a1:=K.p1;have f6:=z.box.frozen 6;have f7:=z.box.frozen 7;have ce:=z.box.cell 6;have cf:=z.box.cell 7;unfold Eh at ce cf;simp only[Ag,Am]at ce cf;have g:=Ac z;have Z:=Ac m;clear z m K ac B;gi_wp2;refine wpIn_wide.2 ?_;go_region;have bV:=(KeepsOthers.setCell (b.setCell (Δ jb 6) (.bool true)) (Δ jb 7) (.int .i64 er)).same ap _ ((KeepsOthers.setCell b (Δ jb 6) (.bool true)).same ap _ bS rfl) rfl;gi_wp2;refine⟨by simp,.inl ⟨_,_,rfl,run_takeDeferred bV,?_⟩⟩;refine⟨.int .i64 er,by simp[results,results259,go_sem],rfl,j,?_⟩;rw[bH.out];obtain⟨aL,az⟩:=g.ends er;have b1:=((Dr.drew ((b.setCell (Δ jb 6) (.bool true)).setCell (Δ jb 7) (.int .i64 er))).below ((b.setCell (Δ jb 6) (.bool true)).setCell (Δ jb 7) (.int .i64 er)).heap.size);have cx:((b.setCell (Δ jb 6) (.bool true)).setCell (Δ jb 7) (.int .i64 er)).drew.heap[ap]?=some (.deferred (some [])):=bV;have cp:=(aL.below b1).abide (grownBy_putObj' _ ap (.deferred none)) (λaD i=>by
   cases i
   rintro⟨a0,k,Q⟩;rw[cx]at k;injection k with k
   rw[<-k]at Q;cases Q)
  refine⟨cp,((Z.trans az).below b1).touch.trans (LC (grownBy_putObj' _ ap (.deferred none))) (λo i=>?_),λo T=>((Z.trans az).own o T)⟩;cases i;exact .inr O1)
end
section
open Go.RowKit
def Aa2(s:St)(stamp:UInt64)(y:Wr):writeM ⟨.up (-1),s⟩ stamp y=(⟨.up (-1),(Ha s stamp y).1⟩,(Ha s stamp y).2):=by
 unfold writeM Ha;rw[show getD ⟨.up (-1),s⟩ y.key.data.toList=GR s y.key.data.toList from rfl];generalize GR s y.key.data.toList=f;obtain⟨v,g⟩:=f;simp only[Ai3];generalize MG s ⟨stamp,v,y.gone,y.text⟩=d;obtain⟨c,b,i⟩:=d;simp only[show UC ⟨.up (-1),c⟩ y.key.data.toList b=N7 ⟨.up (-1),c⟩ y.key.data.toList b from rfl,rO];generalize Qn c y.key.data.toList b=e;obtain⟨k,j⟩:=e;simp only[Ox];split
 ·rfl
 split
 ·rfl
 split
 ·rfl
 split<;>rfl
def Agb(s:St)(key:List UInt8)(v:UInt64):La ⟨.up (-1),s⟩ key v=(⟨.up (-1),(Pj s key v).1⟩,(Pj s key v).2):=by
 unfold La Pj;rw[show vW ⟨.up (-1),s⟩ key=GX ⟨.up (-1),s⟩ key from rfl,show UC ⟨.up (-1),s⟩ key v=N7 ⟨.up (-1),s⟩ key v from rfl,rP,rO];split<;>rfl
def XV:∀(l:List Past)(s:St),PQ ⟨.up (-1),s⟩ l=⟨.up (-1),MX s l⟩
 |[],_=>rfl
 |(c,v,d)::l,s=>by
  rw[PQ,MX];unfold Jw;by_cases h:d=0
  ·simp only[jM h,ne_eq,not_true_eq_false,if_false];exact XV l s
  ·simp only[ku h,Agb,Ox];by_cases b:(Pj s c.data.toList v).2≠0
   ·simp only[jM b]
   ·simp only[ku b,ne_eq,not_true_eq_false,if_false];exact XV l _
section
variable{w:World}{x d p L:Nat}{q:Ms}{F:Nat->Prop}
def Aa3{X:Nat->Prop}{items:List Kv}(g:Jj X L q.s items)(r:Rc)(h:(IZ q r).2.2=0):(IZ q r).2.1≠0:=by
 unfold IZ at h⊢;split at h
 ·exact absurd h (show¬(2:Int)=0 by decide)
 rename_i p;rw[ku p];cases f:DT q.s 1 with
 |none=>rw[f]at h;exact absurd h Θ
 |some t=>
  obtain⟨b,j⟩:=t;rw[f]at h;obtain⟨i,_,_,_,n,_⟩:=OZ g.ok (.inl rfl) f;have w:=n.bounds i;have x:=i.sh.OI;have v:=g.ok.L1;have o:Az b≠0:=λc=>by
   have:=congrArg UInt64.toNat c;rw[Dy O1]at this;simp at this;omega
  simp only at h⊢;generalize JE ⟨q.pw,j⟩ (Lp (b/8) 8) (BX j.ws (b/8) (Ee r))=k at h⊢;obtain⟨u,m⟩:=k;simp only at h⊢;by_cases d:m=0
  ·simp only[jM d]at h⊢;generalize IM u (b:Int)=l at h⊢;obtain⟨y,c⟩:=l;simp only at h⊢;by_cases e:c=0
   ·simp only[jM e];exact o
   ·simp only[ku e]at h;exact absurd h e
  ·simp only[ku d]at h;exact absurd h d
def Agc(h:jy w x d p L q F)(al:∀m,q.pw=.up m->∃S items,Jj S L q.s items){jb:Nat}{stamp:UInt64}{vs G:Value}{en:Int}(J:UA w jb x d p stamp vs G false en F)(y:Wr)(hy:Du y=true):
 Calls prog 258 #[ptr0 jb,OU y] w λe w'=>e=.returned (.tuple #[.agg #[.int .u64 ((writeM q stamp y).2.1.toNat:Int),.int .u64 ((writeM q stamp y).2.2.1.toNat:Int)],.int .i64 (writeM q stamp y).2.2.2])/\
  ∃g,jy w' x d p L (writeM q stamp y).1 g/\UA w' jb x d p stamp vs G false en g/\AL F g w w':=by
 have E:y.key.size<=16/\y.text.size<=40:=by
  unfold Du at hy;simp only[Bool.and_eq_true,decide_eq_true_eq]at hy;exact⟨hy.1.1,hy.1.2⟩
 have o:=λc(O1:η w c)=>Avc (q:=q) (h.below O1) y.key E.1
 by_cases W:∃m,q.pw=.up m
 ·obtain⟨m,V⟩:=W;obtain⟨S,items,X⟩:=al m V;have l:getD q y.key.data.toList=GR q.s y.key.data.toList:=by unfold getD;rw[V]
  have ac:∃v e,GR q.s y.key.data.toList=(v,e)/\((v=0/\e=7)\/(v≠0/\e=0)):=by
   rcases oN X y.key.data.toList E.1 with⟨v,e,an,K⟩|⟨e,ao⟩
   ·exact⟨v,0,e,.inr ⟨K,rfl⟩⟩
   ·exact⟨0,7,e,.inl ⟨rfl,rfl⟩⟩
  obtain⟨v,e,D,M⟩:=ac;have T:¬(e≠0/\e≠7):=by rcases M with⟨_,rfl⟩|⟨_,rfl⟩<;>decide
  by_cases A:y.gone=true/\v=0
  ·have u:writeM q stamp y=(q,0,0,0):=by
    unfold writeM;rw[l,D];simp only;rw[ku T,jM A]
   rw[u];obtain⟨rfl,rfl⟩:=M.resolve_right (λh=>h.1 A.2);rw[l,D]at o;exact jS h J y (.inl ⟨rfl,A.1⟩) o
  ·have C:=λc(O1:η w c)=>Ae0 (q:=q) (h.below O1).sys ⟨stamp,v,y.gone,y.text⟩ (by show y.text.size<=_;omega)
   have hpl:=Aa3 X ⟨stamp,v,y.gone,y.text⟩;have u:writeM q stamp y=if(IZ q ⟨stamp,v,y.gone,y.text⟩).2.2≠0 then((IZ q ⟨stamp,v,y.gone,y.text⟩).1,0,0,(IZ q ⟨stamp,v,y.gone,y.text⟩).2.2)else
    if(UC (IZ q ⟨stamp,v,y.gone,y.text⟩).1 y.key.data.toList (IZ q ⟨stamp,v,y.gone,y.text⟩).2.1).2≠0 then((Dz (UC (IZ q ⟨stamp,v,y.gone,y.text⟩).1 y.key.data.toList (IZ q ⟨stamp,v,y.gone,y.text⟩).2.1).1 (Bf (IZ q ⟨stamp,v,y.gone,y.text⟩).2.1)).1,0,0,(UC (IZ q ⟨stamp,v,y.gone,y.text⟩).1 y.key.data.toList (IZ q ⟨stamp,v,y.gone,y.text⟩).2.1).2)
    else((UC (IZ q ⟨stamp,v,y.gone,y.text⟩).1 y.key.data.toList (IZ q ⟨stamp,v,y.gone,y.text⟩).2.1).1,v,(IZ q ⟨stamp,v,y.gone,y.text⟩).2.1,0):=by
    unfold writeM;rw[l,D];simp only;rw[ku T,ku A]
   unfold tV at C;rw[u];generalize IZ q ⟨stamp,v,y.gone,y.text⟩=Y at C hpl⊢;obtain⟨n,b,f⟩:=Y;simp only at C hpl⊢;have r:f=0->∀c Q,J6 n.pw.mode c x d p L n.s Q->Calls prog 120 #[ptr0 x,.string y.key,.int .u64 (b.toNat:Int)] c _:=λz c Q N=>Ao6 (q:=n) N y.key E.1 b (hpl z)
   unfold L9 at r;generalize UC n y.key.data.toList b=Z at r⊢;obtain⟨j,i⟩:=Z;simp only at r⊢;have aa:f=0->i≠0->∀c H,J6 j.pw.mode c x d p L j.s H->Calls prog 97 #[ptr0 p,.int .i64 (Bf b)] c λe P=>(∃v,e=.returned v)/\∃R,EE (Dz j (Bf b)).1.pw.mode P d p L (Dz j (Bf b)).1.s R/\AL H R c P:=λ_ _ c H N=>(KG (q:=j) N.sys (Bf b) (RG b)).mono λe P k=>⟨⟨_,k.1⟩,k.2⟩
   have am:∀{e:Ending}{w':World},(e=.returned (.tuple #[.agg #[.int .u64 (WN f i (v.toNat:Int) 0 0),.int .u64 (WN f i (b.toNat:Int) 0 0)],.int .i64 (WN f i 0 i f)])/\
    ∃g,J6 (WN f i j.pw.mode (Dz j (Bf b)).1.pw.mode n.pw.mode) w' x d p L (WN f i j.s (Dz j (Bf b)).1.s n.s) g/\UA w' jb x d p stamp vs G false en g/\AL F g w w')->∀t,(t=if f≠0 then(n,0,0,f)else if i≠0 then((Dz j (Bf b)).1,0,0,i)else(j,v,b,0))->
    e=.returned (.tuple #[.agg #[.int .u64 (t.2.1.toNat:Int),.int .u64 (t.2.2.1.toNat:Int)],.int .i64 t.2.2.2])/\∃g,jy w' x d p L t.1 g/\UA w' jb x d p stamp vs G false en g/\AL F g w w':=λ{e w'}k t ah=>by
    subst ah;by_cases z:f=0
    ·subst z;by_cases I:i=0
     ·subst I;exact k
     ·simp only[O0 I]at k;simp only[ne_eq,not_true_eq_false,if_false,jM (show¬i=0 from I)];exact k
    ·simp only[QH z]at k;simp only[ne_eq,jM (show¬f=0 from z)];exact k
   rw[l,D]at o;refine(Afc h J y E.1 rfl ?_ o C r aa).mono λe w' k=>am k _ rfl
   rcases M with⟨rfl,rfl⟩|⟨K,rfl⟩
   ·refine .inl ⟨rfl,rfl,?_⟩;cases ad:y.gone with
    |false=>rfl
    |true=>exact absurd ⟨ad,rfl⟩ A
   ·exact .inr ⟨rfl,λe=>K (DN.1 (by simp;omega))⟩
 ·have ab:∃B,q.pw=.down B:=by
   cases ae:q.pw with
   |up m=>exact absurd ⟨m,ae⟩ W
   |down B=>exact⟨B,rfl⟩
  obtain⟨B,r⟩:=ab;have l:getD q y.key.data.toList=(0,12):=by unfold getD;rw[r]
  have u:writeM q stamp y=(q,0,0,12):=by
   unfold writeM;rw[l];simp only;rw[jM U]
  rw[u];rw[l]at o;exact jS h J y (e0:=12) (.inr ⟨by decide,by decide⟩) o
end
section
variable{l:List Wr}{ps:List (UInt64×UInt64)}{hpl:ps.length<=l.length}{done:List Past}
def XW:∀(D:List (Below' ps.length))(q:Ms),JQ l ps hpl q D=PQ q (D.map λx=>((l[x.1]'(Be x.2 hpl)).key,ps[x.1]'x.2))
 |[],_=>rfl
 |x::D,q=>by
  rw[JQ,BM,PQ];unfold kR;rw[XW D]
def RZ(d:ps=done.map Prod.snd)(i:∀c(h:c<done.length)(h2:c<l.length),done[c].1=l[c].key)(q:Ms):JQ l ps hpl q (Ea ps.length ps.length)=PQ q done.reverse:=by
 have k:ps.length=done.length:=by rw[d];simp
 have g:∀b,b<=ps.length->(Ea ps.length b).map (λx:Below' ps.length=>((l[x.1]'(Be x.2 hpl)).key,ps[x.1]'x.2))=done.reverse.take b:=λb=>by
  induction b with
  |zero=>intro _;rw[List.take_zero];rfl
  |succ b j=>
   intro h;rw[TL _ _ O1,CE,j O1,List.take_succ_eq_append_getElem (by rw[UU];omega)];have e:done.reverse[b]'(by rw[UU];omega)=done[ps.length-1-b]' O1:=by
    rw[List.getElem_reverse];congr 1;omega
   have f:ps[ps.length-1-b]' O1=(done[ps.length-1-b]' O1).2:=by subst d;simp
   rw[e,BM,List.map_nil];simp only[f,<-i (ps.length-1-b) O1 O1]
 rw[XW,g _ (Ae _),List.take_of_length_le (by rw[UU];omega)]
end
def iE(l:List Wr)(ps:List (UInt64×UInt64))(hpl:ps.length<=l.length)(r:Ms×Int):Ms:=if r.2=0 then r.1 else JQ l ps hpl r.1 (Ea ps.length ps.length)
section
variable{w w':World}{base jb x d p L:Nat}{s:St}{stamp:UInt64}{vs:Value}{l:List Wr}{ps:List (UInt64×UInt64)}{over:Bool}{en:Int}{F:Nat->Prop}{v:Value}
def Akf{a6:Dq}{q:Ms}{er:Int}(ad:er≠0)(h:EZ a6 w base jb x d p L s stamp vs l ps false en F v)(hpl:ps.length<=l.length)(z:ps.length<l.length)(Y:l.length<=100000)(ah:∀ap∈l,ap.key.size<=16)
 (R:∀o,η w o->Calls prog 258 #[ptr0 jb,OU l[ps.length]] o λg W=>g=.returned (.tuple #[.agg #[.int .u64 0,.int .u64 0],.int .i64 er])/\
  ∃i,jy W x d p L q i/\UA W jb x d p stamp vs v false en i/\AL F i o W):
 Calls prog 256 #[ptr0 jb] w λg w'=>g=.returned (.tuple #[.bool true,.int .i64 er])/\
  ∃i,EZ (JQ l ps hpl q (Ea ps.length ps.length)).pw.mode w' base jb x d p L (JQ l ps hpl q (Ea ps.length ps.length)).s stamp vs l ps true er i v/\AL (JG F jb v) (JG i jb v) w w':=by
 have aE:=Ac Y;have aL:=Ac ah;have bl:(er==0)=false:=ζ ad;clear ad;clear ah;have X:=Ac (oq jb _ h.box);have S:=h.box.cell 6;have C:=h.box.cell 5;have B:=h.box.cell 4;have aD:=Ac h;obtain⟨a8,bc,P,a1,_⟩:=own_rowk h.row;obtain⟨ap,an⟩:=ε (l[ps.length]);obtain⟨ba,bk,bb,N,a0,bd,a3,T,U,V⟩:=h.set.at ps.length z;rw[<-an]at T U V R;obtain⟨D,ae⟩:=ε ps.length;obtain⟨bj,al⟩:=ε l.length;rw[<-al]at N Y z;rw[<-ae]at P T U V z a1;unfold Eh at B C S;simp only[Ag,Am]at B C S;rw[N]at B;rw[P]at C;obtain⟨bg,bh,bi⟩:=ltT z;have H:=Ac R;unfold OU at H;have be:=h.box.lt;have G:Hid (¬F w.heap.size):=Ac (λa2=>absurd (h.ix.sys.lt _ a2) O1);have ao:Hid (0≠w.heap.size/\1≠w.heap.size):=Ac (Ω h.ix.sys.tabs.lt);have aJ:Hid (x≠w.heap.size):=Ac (Ω h.ix.box.lt);clear h R a0 a3 ae al an N P;go_enter func256,ntmps256
 go_wp2_with fail
 refine X.mono ?_;rintro g bm⟨rfl,rfl⟩
 go_wp2_with fail
 go_region
 all_goals(go_wp2_with fail)
 all_goals(
  go_region_with(go_at_call 258;refine(H _ (by first|exact((Dr.drew w).trans (Dr.drew _)).below _|exact(((Dr.drew w).trans (Dr.drew _)).below _).alloc (Ae _) _|exact((((Dr.drew w).below _).alloc (Ae _) _).drew))).mono ?_;rintro g e⟨rfl,j,m,aa,k⟩;try(have n:CB e w.heap.size 363 [.int .u64 0,.int .u64 0]:=(k.touch.block w.heap.size Θ G.out).trans (heap_alloc_new _ _);have aq:=n.cell 0;have ar:=n.cell 1;have aM:=n.frozen 0;have aR:=n.frozen 1;simp only[Ag,Am]at aq ar)))
 all_goals(
  first
  |(have u:η w _:=((Dr.drew w).trans (Dr.drew _)).below w.heap.size
    have r:AL F j w e:=(AL.of_below u).trans k;obtain⟨f,b⟩:=ε (e.alloc (.cells #[.int .u64 0,.int .u64 0] 363));rw[<-b];have M:η e f:=b▸(Below.refl _ _).alloc (Ae _) _;have y:CB f e.heap.size 363 [.int .u64 0,.int .u64 0]:=b▸heap_alloc_new _ _;have J:=m.below M;have I:AL F j w f:=r.below M;obtain⟨aW,t⟩:=ε e.heap.size;rw[<-t]at y⊢;clear u r b M t m aa k)
  |(have u:η w _:=(((Below.refl w.heap.size w).alloc (Ae _) (.cells #[.int .u64 0,.int .u64 0] 363)).drew).drew
    have r:AL F j w e:=(AL.of_below u).trans k;obtain⟨f,b⟩:=ε ((e.setCell (Φ w.heap.size) (.int .u64 0)).setCell (Δ w.heap.size 1) (.int .u64 0));rw[<-b];have t6:Touch (λD=>D=w.heap.size) e f:=b▸((Touch.refl (λD=>D=w.heap.size) e).setCell (p:=Φ w.heap.size) (.inl rfl) _).setCell (p:=Δ w.heap.size 1) (.inl rfl) _;have y:CB f w.heap.size 363 [.int .u64 0,.int .u64 0]:=by rw[b];exact(n.AX 0 (.int .u64 0)).AX 1 (.int .u64 0)
    have am:¬j w.heap.size:=λaX=>(k.own _ aX).elim G.out (λa4=>absurd a4 Θ)
    have J:jy f x d p L q j:=⟨m.sys.keep t6 (λa9 aZ g=>am (g▸aZ)) ao.1 ao.2,m.box.touch t6 aJ.out,m.out⟩;have I:AL F j w f:=by rw[b];exact(r.set (p:=Φ w.heap.size) (.inr (Ae _)) _).set (p:=Δ w.heap.size 1) (.inr (Ae _)) _
    obtain⟨aW,t⟩:=ε w.heap.size;rw[<-t]at y⊢;clear u r b t6 am t m aa k n aq ar aM aR))
 all_goals(
  obtain⟨K,ac⟩:=aD.move J I;obtain⟨av,aV,Q,_,_⟩:=own_rowk K.row;have E:=Ac (λo(a5:η f o)=>Ac2 (q:=q) (A:=av) (c:=aV) (by rw[<-Q];exact K.below a5) hpl aE.out aL.out er);rw[<-Q]at E;have aF:=Ac ac;clear J I y B C S T U V H X G K ac Q
  go_wp2_with fail
  refine(E _ (Below.refl _ _)).mono ?_;rintro g bo⟨rfl,aw,Z,ab⟩;have az:=Ac Z;have a7:=Ac ab;clear Z ab E
  go_wp2_with fail
  go_ret2;exact⟨rfl,aw,az.out,aF.trans a7.out⟩)
def wF{q:Ms}(h:EZ q.pw.mode w base jb x d p L q.s stamp vs l ps false en F v)(G:ps.length=l.length)(T:l.length<=100000)(X:∀az∈l,az.key.size<=16):
 Calls prog 256 #[ptr0 jb] w λc w'=>c=.returned (.tuple #[.bool true,.int .i64 (JE q 3 (Dt q.s.ws 8 stamp)).2])/\
  ∃M,jy w' x d p L (iE l ps (LW G) (JE q 3 (Dt q.s.ws 8 stamp))) M/\AL (JG F jb v) (JG M jb v) w w':=by
 have ao:=h.ix.sys.pos.2.2.1.fits;have ap:=h.ix.sys.pos.2.2.1.OI;obtain⟨aD,aE,aa⟩:=h.set.slice;obtain⟨ab,an,H,_,_⟩:=own_rowk h.row;have al:=Ac (oq jb _ h.box);have I:=h.box.cell 6;have n:=h.box.cell 5;have m:=h.box.cell 4;have z:=h.box.cell 3;have y:=h.box.cell 0;unfold Eh at y z m n I;simp only[Ag,Am]at y z m n I;rw[aa]at m;rw[H,G]at n;have N:=Ac h;have R:=Ac H;have k:=Ac (λb(A:η w b)=>Qw (q:=q) (h.ix.sys.below A) 8 stamp O1);rw[show((8*8:Nat):Int)=64 from rfl]at k;obtain⟨av,Z⟩:=ε (JE q 3 (Dt q.s.ws 8 stamp));rw[<-Z]at k⊢;obtain⟨j,t⟩:=av;simp only at k⊢;have P:Hid (∀b,Touch F w b->b.cell? (Φ jb)=some (ptr0 d)/\b.cell? (Δ jb 3)=some (.int .u64 (stamp.toNat:Int))):=Ac (λb A=>⟨(h.box.touch A h.fj).cell 0,(h.box.touch A h.fj).cell 3⟩);have C:=Ac G;have ah:=Ac T;have am:=Ac X;obtain⟨aF,Y⟩:=ε l.length;rw[<-Y]at m n;clear h ao ap aa H Z Y T X;go_enter func256,ntmps256
 go_wp2_with fail
 refine al.mono ?_;rintro c aL⟨rfl,rfl⟩
 go_wp2_with fail
 go_region
 all_goals(go_wp2_with fail)
 all_goals(
  go_region_held3(λw'=>w'.cell? (Φ jb)=some (ptr0 d)/\w'.cell? (Δ jb 3)=some (.int .u64 (stamp.toNat:Int)))
   (first|exact⟨y,z⟩|exact P _ r.touch)
   ((first|(go_at_call 142;refine(k _ (((Dr.drew w).trans (Dr.drew _)).below _)).mono ?_;rintro c f⟨rfl,o,W,K⟩;have r:AL F o w f:=(AL.of_below (((Dr.drew w).trans (Dr.drew _)).below _)).trans K))))
 all_goals(
  obtain⟨i,D⟩:=N.move (m1:=j.pw.mode) (s':=j.s) (N.ix.move W r) r;have e:=Ac i;have Q:=Ac D;clear r K W k P y z m n I;by_cases u:t=0
  ·subst u;have S:=i.box.cell 6;have f6:=i.box.frozen 6;unfold Eh at S;simp only[Ag,Am]at S;clear i D
   go_wp2_with fail
   go_ret2;have J:Touch (λg=>g=jb) f (f.setCell (Δ jb 6) (.bool true)):=(Touch.refl (λg=>g=jb) f).setCell (p:=Δ jb 6) (.inl rfl) _;have ar:AL (JG o jb v) (JG o jb v) f (f.setCell (Δ jb 6) (.bool true)):=⟨J.mono (λg c=>.inr (.inl c)),λg E=>.inl E⟩;exact⟨rfl,o,by rw[show iE l ps (LW C.out) (j,0)=j from jM rfl];exact⟨e.ix.sys.keep J (λg E c=>e.fj (c▸E)) e.gj.1 e.gj.2,e.ix.box.touch J e.xj,e.ix.out⟩,Q.trans ar⟩
  ·have aJ:(t==0)=false:=ζ u;have ae:=Ac u;have B:=Ac (λb(aq:η f b)=>Ac2 (q:=j) (A:=ab) (c:=an) (by rw[<-R.out];exact i.below aq) (LW C.out) ah.out am.out t);rw[<-R.out]at B;clear i D u
   go_wp2_with fail
   refine(B _ (Below.refl _ _)).mono ?_;rintro c aM⟨rfl,ac,U,V⟩;have ad:=Ac U;have aw:=Ac V;clear U V B
   go_wp2_with fail
   go_ret2;exact⟨rfl,ac,by rw[show iE l ps (LW C.out) (j,t)=_ from ku ae.out];exact ad.ix,Q.trans aw.out⟩)
end
def WZ(l:List Wr)(done:List Past):Prop:=∀b(_:b<done.length)(_:b<l.length),done[b].1=l[b].key
def WZ.app{l:List Wr}{done:List Past}(h:WZ l done)(f:done.length<l.length)(v q:UInt64):WZ l (done++[(l[done.length].key,v,q)]):=λb d e=>by
 by_cases c:b<done.length
 ·rw[List.getElem_append_left c];exact h b c e
 ·obtain rfl:b=done.length:=by simp at d;omega
  simp
structure Akg(L:Nat)(s0:St)(items:List Kv)(ch:List UInt8->List Lk)(stamp:UInt64)(G:UInt64->List Kv->(List UInt8->List Lk)->Prop):Prop where
 job:∀dn it c,Hist L items ch stamp dn it c->G (s0.ws 8) it c
 put:∀dn it c k(o:Nat)v g t its,Hist L items ch stamp dn it c->QL it its k (Az o)->G (s0.ws 8) its (Fp c k ⟨o,⟨stamp,v,g,t⟩⟩)
 slot:∀dn it c,Hist L items ch stamp dn it c->G stamp it c
def Upd(l0:Int)(L:Nat)(s0:St)(G:UInt64->List Kv->(List UInt8->List Lk)->Prop)(q:Ms)(R:St->Prop):Prop:=
 (∃b,(l0= -1->b= -1)/\q.pw=.up b/\R q.s)\/(l0≠ -1/\Dn (Found L s0 G) q)
def Akh(l0:Int)(L:Nat)(s0:St)(items:List Kv)(ch:List UInt8->List Lk)(stamp:UInt64)(l:List Wr)(G:UInt64->List Kv->(List UInt8->List Lk)->Prop)(q:Ms)(ps:List (UInt64×UInt64)):Prop:=
 Upd l0 L s0 G q (λs=>∃b:Aj6,b.s=s/\b.done.map Prod.snd=ps/\Ac1 L s0 items ch stamp l b/\WZ l b.done)
def Uy(L:Nat)(s0:St)(items:List Kv)(ch:List UInt8->List Lk)(stamp:UInt64)(c:Int)(s':St):Prop:=
 (c=6/\CU L s' items ch/\NQ s0 s')\/
 (c=0/\s'.ws 8=stamp/\s'.sh=s0.sh/\(∀b,b<16->b≠8->b≠9->s'.ws b=s0.ws b)/\∃d c,CU L s' d c/\∀e,∀f∈c e,f.rc.stamp.toNat<=stamp.toNat)
def Aa4(q:Ms)(stamp:UInt64)(y:Wr)(h:(writeM q stamp y).2.2.2≠0):(writeM q stamp y).2.1=0/\(writeM q stamp y).2.2.1=0:=by
 unfold writeM at h⊢;generalize getD q y.key.data.toList=d at h⊢;obtain⟨v,l⟩:=d;simp only at h⊢;generalize IZ q ⟨stamp,v,y.gone,y.text⟩=b at h⊢;obtain⟨k,j,m⟩:=b;simp only at h⊢;generalize UC k y.key.data.toList j=c at h⊢;obtain⟨o,n⟩:=c;simp only at h⊢;split
 ·exact⟨rfl,rfl⟩
 split
 ·exact⟨rfl,rfl⟩
 split
 ·exact⟨rfl,rfl⟩
 split
 ·exact⟨rfl,rfl⟩
 ·rename_i e f g i;rw[ku e,ku f,ku g,ku i]at h;exact absurd rfl h
section
variable{l0:Int}{L:Nat}{s0:St}{items:List Kv}{ch:List UInt8->List Lk}{stamp:UInt64}{l:List Wr}{G:UInt64->List Kv->(List UInt8->List Lk)->Prop}{q:Ms}{ps:List (UInt64×UInt64)}
def wG{Good:(Nat->UInt64)->Prop}(h:Dn Good q)(hpl:ps.length<=l.length):JQ l ps hpl q (Ea ps.length ps.length)=q:=by
 rw[XW];exact eU _ h
def Dn.found{s:St}(h:Dn (Found L s G) q)(b:NQ s0 s):Dn (Found L s0 G) q:=
 h.mono λf c=>c.from b.1 (λd e=>b.2 d O1 O1)
def Aa5(Z:Akh l0 L s0 items ch stamp l G q ps)(m:Akg L s0 items ch stamp G)(ac:ps.length<l.length)(J:∀y∈l,Du y=true)(an:WA l)(t:stamp.toNat≠0)(M:∀ap,∀y∈ch ap,y.rc.stamp.toNat<stamp.toNat){y:Wr}(hy:y=l[ps.length]):
 ((writeM q stamp y).2.2.2=0->Akh l0 L s0 items ch stamp l G (writeM q stamp y).1 (ps++[((writeM q stamp y).2.1,(writeM q stamp y).2.2.1)]))/\
 ((writeM q stamp y).2.2.2≠0->∀hpl:ps.length<=l.length,Upd l0 L s0 G (JQ l ps hpl (writeM q stamp y).1 (Ea ps.length ps.length)) (Uy L s0 items ch stamp (writeM q stamp y).2.2.2)):=by
 have Q:Du y=true:=J y (hy▸Cm ac);have j:l0≠ -1->Dn (Found L s0 G) (writeM q stamp y).1->((writeM q stamp y).2.2.2=0->Akh l0 L s0 items ch stamp l G (writeM q stamp y).1 (ps++[((writeM q stamp y).2.1,(writeM q stamp y).2.2.1)]))/\
  ((writeM q stamp y).2.2.2≠0->∀hpl:ps.length<=l.length,Upd l0 L s0 G (JQ l ps hpl (writeM q stamp y).1 (Ea ps.length ps.length)) (Uy L s0 items ch stamp (writeM q stamp y).2.2.2)):=λb d=>
  ⟨λ_=>.inr ⟨b,d⟩,λ_ hpl=>.inr ⟨b,by rw[wG d hpl];exact d⟩⟩
 rcases Z with⟨w,aa,N,c,D,ah,I,E⟩|⟨b,d⟩
 ·obtain⟨aE,s⟩:=q;simp only at N D;subst N D ah;have aw:(c.done.map Prod.snd).length=c.done.length:=by simp
  have p:c.done.length<l.length:=O1;have u:y=l[c.done.length]:=by rw[hy];congr 1
  have i:=step_ok I J an t M;have ad:=I;obtain⟨⟨ao,A,n,K,Y,av⟩,o,_,al,_⟩:=ad;have B:c.s.ws 8=s0.ws 8:=o.2 8 U U;have z:∀x∈A (Ci y.key.data.toList),x.rc.stamp.toNat<stamp.toNat:=λar R=>by
   rw[Y c.done.length (Ae _) y (by rw[u];exact Ah p)]at R;exact M _ ar R
  unfold NU at i;rw[ku (by rw[al];decide),Ah p]at i;simp only[<-u]at i;have S:(∃f,(l0= -1->f= -1)/\writeM ⟨.up w,c.s⟩ stamp y=(⟨.up f,(Ha c.s stamp y).1⟩,(Ha c.s stamp y).2))\/(l0≠ -1/\Dn (Found L s0 G) (writeM ⟨.up w,c.s⟩ stamp y).1):=by
   by_cases g:l0= -1
   ·rw[aa g];exact .inl ⟨-1,λ_=>rfl,Aa2 _ _ _⟩
   ·rcases Af4 K.y stamp y Q t z w (G:=G) (by rw[B];exact m.job _ _ _ n) (λaD v az ae=>by rw[B];exact m.put _ _ _ _ _ _ _ _ _ n ae)with⟨f,T⟩|d
    ·exact .inl ⟨f,λe=>absurd e g,T⟩
    ·exact .inr ⟨g,d.found o⟩
  rcases S with⟨f,F,X⟩|⟨b,d⟩
  ·rw[X];refine⟨λb=>?_,λb hpl=>?_⟩
   ·simp only at b⊢;rw[ku (by rw[b];simp)]at i;rcases i with⟨_,_,_,r⟩|⟨_,e,_⟩|⟨e,_⟩
    ·refine .inl ⟨f,F,rfl,_,rfl,?_,r,?_⟩
     ·simp
     ·show WZ l (c.done++[(y.key,_,_)]);rw[u];exact E.app p _ _
    ·cases e
    ·omega
   ·simp only at b⊢;rw[jM b]at i;rcases i with⟨_,e,_⟩|⟨_,e,_,r,ab⟩|⟨e,_⟩
    ·cases e
    ·simp only[Prod.mk.injEq,true_and]at e;have P:=vS K stamp y Q t z;rw[RZ rfl E];rcases P.2 with⟨_,am⟩|⟨k,_⟩|⟨_,_,_,k,_⟩
     ·have H:NQ s0 (Ha c.s stamp y).1:=o.trans P.1;have C:Uy L s0 items ch stamp (Ha c.s stamp y).2.2.2 (MX (Ha c.s stamp y).1 c.done.reverse):=.inl ⟨e,r,ab⟩;by_cases g:l0= -1
      ·rw[F g,XV];exact .inl ⟨-1,λ_=>rfl,rfl,C⟩
      ·rcases Akd n f am (G:=G) (λj ao A d=>by rw[H.2 8 U U];exact m.job _ _ _ d)with⟨aq,V⟩|d
       ·rw[V];exact .inl ⟨aq,λW=>absurd W g,rfl,C⟩
       ·exact .inr ⟨g,d.found H⟩
     ·rw[k]at b;exact absurd rfl b
     ·rw[k]at b;exact absurd rfl b
    ·omega
  ·exact j b d
 ·refine j b ?_;rw[Aka d];exact d
def Agd(E:Akh l0 L s0 items ch stamp l G q ps)(n:Akg L s0 items ch stamp G)(f:ps.length=l.length)(J:∀k∈l,Du k=true)(P:WA l)(M:stamp.toNat≠0)(N:∀Q,∀k∈ch Q,k.rc.stamp.toNat<stamp.toNat):
 Upd l0 L s0 G (iE l ps (LW f) (JE q 3 (Dt q.s.ws 8 stamp))) (Uy L s0 items ch stamp (JE q 3 (Dt q.s.ws 8 stamp)).2):=by
 have m:Dn (Found L s0 G) (JE q 3 (Dt q.s.ws 8 stamp)).1->Dn (Found L s0 G) (iE l ps (LW f) (JE q 3 (Dt q.s.ws 8 stamp))):=λc=>by
  unfold iE;split
  ·exact c
  ·rw[wG c];exact c
 rcases E with⟨g,H,w,b,r,I,u,S⟩|⟨C,c⟩
 ·obtain⟨W,s⟩:=q;simp only at w r;subst w r I;have T:b.done.length=l.length:=by simpa using f
  have j:=step_ok u J P M N;obtain⟨⟨V,R,p,v,_,_⟩,t,_,K,_⟩:=u;unfold NU at j;rw[ku (by rw[K];decide),List.getElem?_eq_none O1]at j;have D:b.s.ws 8=s0.ws 8:=t.2 8 U U;rcases j with⟨i,_⟩|⟨i,_⟩|⟨_,_,_,y,z,A,B⟩
  ·omega
  ·omega
  have o:∀d,(l0= -1->d= -1)->JE ⟨.up g,b.s⟩ 3 (Dt b.s.ws 8 stamp)=(⟨.up d,{b.s with ws:=Dt b.s.ws 8 stamp}⟩,0)->Upd l0 L s0 G (iE l (b.done.map Prod.snd) (LW f) (JE ⟨.up g,b.s⟩ 3 (Dt b.s.ws 8 stamp))) (Uy L s0 items ch stamp (JE ⟨.up g,b.s⟩ 3 (Dt b.s.ws 8 stamp)).2):=λd F e=>by
   rw[e];refine .inl ⟨d,F,?_⟩;unfold iE;rw[jM rfl];exact⟨rfl,.inr ⟨rfl,y,z,A,B⟩⟩
  by_cases e:l0= -1
  ·refine o (-1) (λ_=>rfl) ?_;rw[H e];exact Rl _ _ _
  ·rcases Ut (lf:=g) (s:=b.s) (Good:=Found L b.s G) 8 stamp (QN v.y (by rw[D];exact n.job _ _ _ p)) (Aa0 v.y stamp (n.slot _ _ _ p))with⟨d,x⟩|c
   ·exact o d (λi=>absurd i e) x
   ·exact .inr ⟨e,m (c.found t)⟩
 ·exact .inr ⟨C,m (dX c 3 _)⟩
end
section
variable{w:World}{base jb x d p L:Nat}{l0:Int}{s0:St}{stamp:UInt64}{vs:Value}{l:List Wr}{F:Nat->Prop}{v:Value}{items:List Kv}{ch:List UInt8->List Lk}{q:Ms}{ps:List (UInt64×UInt64)}{G:UInt64->List Kv->(List UInt8->List Lk)->Prop}
end
