import Derived.Lib.AppendZerosOnto
import Derived.Lib.Overlaps
import Derived.Deep.MidRow
import Derived.Deep.LoopGhost
import Derived.Test.YtekhjimghoibfaaGreatDoorI04
set_option linter.defProp false
set_option maxHeartbeats 32000000
set_option maxRecDepth 100000
open List renaming getElem?_eq_some_iff->C9,length_drop->AU,getElem?_drop->D7,mem_of_mem_drop->Hr,length_cons->BD,length_nil->Dp,getElem?_eq_getElem->Ae,length_take->Em,getElem?_take->Dj,take_of_length_le->EP,drop_of_length_le->nD,length_eq_zero_iff->mO,replicate->BC,getElem_of_mem->Cm,any_eq_false->Qb,map_take->VL,map_drop->Xl
open Array renaming getElem?_eq_getElem->FO,append_assoc->zG,getElem?_append_left->bQ,getElem?_eq_some_iff->AA,getElem?_push->Gw
open Go.World renaming frozen?->GM,shape?->VK,isSome_setCells->GN,cell?_setCells_out->JV,frozen?_setCells->Gs,cell?_alloc_at->Jw,frozen?_alloc_at->mM,cell?_alloc_past->Df,setCell->DF
open Nat renaming zero_add->DX,min_def->KO,mul_one->Jg,lt_or_ge->Ir,le_refl->Ad
open Go.Lib renaming run_overlaps_apart->uA,run_append_grow_zeros->jf,wpList_append_run->FV,hid->Aa,run_clear_slice->Abh
open Go.Value renaming int->Aw,cells->Y8,slice->Ac,ownBlock->Ba
namespace Go.Proofs.YtekhjimghoibfaaGreatDoor
open Go.RowKit
open Go.Proofs.Tryz
def wp_copy_runI{P:Program}(w:World){o:Oper}{a:Act}{K:Act->World->Prop}{f:Exit->Act->World->Prop}(b s:Operand)(c d:TypeId)
 (i:o.op=.call {callee:=.builtin .copy,args:= #[b,s],argTypes:= #[c,d]})(v u:Value)(h:a.eval b=v)(k:a.eval s=u){e:Value}{w':World}
 (j:(Builtin.copy_ #[c,d] o.type #[v,u]).run P w=.ok e w')(g:K (a.put o.dst e) w'):o.wp P a w K f:=by
 unfold Oper.wp execOp;simp only[i,resolve,invoke,builtin,Sem.run_bind,Sem.run_pure,Result.andThen_ok,List.map_toArray,List.map_cons,List.map_nil,h,k,j];exact g
def wpList_copy_runI{P:Program}(w:World){f:Array Oper}{rest:List Oper}{o:Oper}{a:Act}{e:Exit->Act->World->Prop}(k:o.guard=none)(b s:Operand)(c d:TypeId)
 (l:o.op=.call {callee:=.builtin .copy,args:= #[b,s],argTypes:= #[c,d]})(v u:Value)(j:a.eval b=v)(n:a.eval s=u){g:Value}{w':World}
 (m:(Builtin.copy_ #[c,d] o.type #[v,u]).run P w=.ok g w')(h:wpList P f e rest (a.put o.dst g) w'):wpList P f e (o::rest) a w:=
 wpList_plain k λ_ i=>wp_copy_runI w b s c d l v u j n m (i _ _ h)
def step_copy_runI{P:Program}{d:Array Oper}{o:Oper}{a:Act}{w:World}{K:Act->World->Prop}{h:Exit->Act->World->Prop}{g:Prop}
 (k:o.guard=none)(b x:Operand)(c e:TypeId)(l:o.op=Op.call {callee:=Callee.builtin Builtin.copy,args:= #[b,x],argTypes:= #[c,e]})
 (v u:Value)(j:a.eval b=v)(p:a.eval x=u){f:Value}{w':World}(m:(Builtin.copy_ #[c,e] o.type #[v,u]).run P w=.ok f w')(i:K (a.put o.dst f) w'):
 if Region.wanted o (yielded d a.tmps)=true then Oper.wp P o a w K h else g:=by
 have n:Region.wanted o (yielded d a.tmps)=true:=by simp[Region.wanted,k]
 rw[if_pos n];unfold Oper.wp;simp[execOp,l,resolve,invoke,builtin,j,p,m,Result.andThen];exact i
def dP(g n c i e:Nat)(xs:List Value)(u:Value)(w:World)(S:Nat)(r:w.ownsRow S 5 1 (.slice (some (Φ g)) n c) n xs)(hi:i<n)(av:n+1<=c)(aq:c<=9223372036854775807)(P:e≠g)(d:CQ w e 5 [u])
 (E:∀b∈xs,b.oneCell'=true)(V:u.oneCell'=true):
 Calls prog 178 #[.slice (some (Φ g)) n c,.int .i64 i,.slice (some (Φ e)) 1 1] w λT ad=>
  T=.returned (.slice (some (Φ g)) (n+1) c)/\ad=(w.drew.setCells g (i+1) (xs.drop i)).setCells g i [u]:=by
 have H:xs.length=n:=by simpa using r.1
 have x:∀a b,xs[a]?=some b->w.cell? (Δ g a)=some b:=λa b l=>by
  rw[r.cellAt a (Ω ((C9.1 l).1))];exact l
 have X:∃m:Array Value,w.heap[g]?=some (.cells m 5 (0,0))/\m.size=c:=by
  rcases r.2 with⟨F,_⟩|⟨ah,af,m,R,_,Z,_,_,x,_⟩
  ·cases F
  ·simp only[Value.slice.injEq,Option.some.injEq,Addr.mk.injEq,and_true,true_and]at R;obtain⟨rfl,rfl⟩:=R;exact⟨m,Z,O⟩
 obtain⟨m,q,J⟩:=X;have A:∀a,a<n+1->(w.cell? (Δ g a)).isSome=true:=λa f=>by
  rw[cell_of_row w g a _ 5 (0,0) q,FO O];rfl
 have z:∀a,w.frozen? (Δ g a)=false:=λa=>by simp[GM,q]
 have M:w.shape? g=some (5,c):=by simp[VK,q,J]
 have L:w.shape? e=some (5,1):=by unfold CQ at d;simp[VK,d]
 have y:∀a,w.frozen? (Δ e a)=false:=λa=>d.frozen a
 have Q:∀a b,[u][a]?=some b->w.cell? (Δ e (0+a))=some b:=λa b l=>by rw[d.cell,DX];exact l
 have aB:¬((i:Int)=(n:Int)):=O;have B:(prog.info? 5).map (·.size)=some 1:=by
  obtain⟨aD,aa,al,U,F⟩:=info_parts Tryz.Ia.hi;rw[aa];simp[U]
 have ac:∀C v,(callFunc 195 #[.slice (some (Φ e)) 1 1,.slice (some (Δ g (i+1))) C v]).run prog w=.ok (.value (.bool false)) w:=λC v=>by
  rw[run_callFunc_extern func195 Γ Γ Γ (e:=Extern.SlicesOverlaps.overlaps #[23,23] #[4]) Γ,
   uA w 23 4 5 underlying23 1 Tryz.Ia.Qh (Φ e) (Δ g (i+1)) 1 1 C v P 5 5 1 c L M O (y 0) (y 1)]
  rfl
 have K:(xs.drop i).length=n-i:=by rw[AU,H]
 have az:IntKind.i64.wrap ((i:Int)+1)=(i:Int)+1:=by rw[IntKind.wrap_i64];omega
 have am:(0:Int)<=(i:Int)+1:=O;have ar:i<=n:=O;have aw:((i:Int)+1).toNat=i+1:=O;have an:¬(c=i+1):=O;have ao:(i:Int)<=(n:Int)+1:=O;have ap:¬(c=i):=O;have I:∀j h D,(Builtin.copy_ #[23,23] j #[.slice (some (Δ g (i+1))) (n-i) h,.slice (some (Δ g i)) (n+1-i) D]).run prog w.drew=.ok (goInt (xs.drop i).length) (w.drew.setCells g (i+1) (xs.drop i)):=λj h D=>
  run_copy_cells w.drew _ _ j 5 g (i+1) (n-i) h (Δ g i) (n+1-i) D (xs.drop i) underlying23 B (by rw[K];simp only[KO];split<;>omega)
   (λa b f=>by rw[Addr.add_lit];exact x (i+a) b (by rwa [D7]at f))
   (λa f=>A _ O) (λa f=>z _) (λb d=>E b (Hr d))
 obtain⟨t,p⟩:=ε (w.drew.setCells g (i+1) (xs.drop i));have N:∀s,s<n+1->(t.cell? (Δ g s)).isSome=true:=λs ab=>by
  rw[p];exact GN g _ _ _ _ (A s ab)
 have Y:∀(k:World),(∀o,k.cell? o=t.cell? o)->(∀o,k.frozen? o=t.frozen? o)->∀j h,(Builtin.copy_ #[23,23] j #[.slice (some (Δ g i)) (n+1-i) h,.slice (some (Φ e)) 1 1]).run prog k=.ok (goInt [u].length) (k.setCells g i [u]):=λk G W j h=>
  run_copy_cells k _ _ j 5 g i (n+1-i) h (Φ e) 1 1 [u] underlying23 B (by simp only[KO,BD,Dp];split<;>omega)
   (λa b f=>by
    rw[Addr.add_lit,G,p,JV g _ _ _ _ (λl _=>absurd l P)];exact Q a b f)
   (λa f=>by rw[G];exact N _ (by simp at f;omega)) (λa f=>by rw[W,p,Gs];exact z _) (λb d=>by simp at d;subst d;exact V)
 rw[<-p]at I;clear r x A z M L y Q d E q J N B H K;go_enter func178,ntmps178
 go_wp2_with(simp only[ac])
 go_region_law(refine step_copy_runI rfl _ _ 23 23 rfl _ _ (by simp[Act.eval,Act.put]) (by simp[Act.eval,Act.put]) (I _ _ _) ?_)
 go_wp2_with(at_builtin;refine wpList_copy_runI _ rfl _ _ 23 23 rfl _ _ rfl rfl (Y _ (λ_=>rfl) (λ_=>rfl) _ _) ?_)
 go_ret;exact⟨rfl,rfl⟩
def dQ(g n c i e:Nat)(xs:List Value)(u:Value)(w:World)(S:Nat)(r:w.ownsRow S 43 1 (.slice (some (Φ g)) n c) n xs)(hi:i<n)(av:n+1<=c)(aq:c<=9223372036854775807)(P:e≠g)(d:CQ w e 43 [u])
 (E:∀b∈xs,b.oneCell'=true)(V:u.oneCell'=true):
 Calls prog 179 #[.slice (some (Φ g)) n c,.int .i64 i,.slice (some (Φ e)) 1 1] w λT ad=>
  T=.returned (.slice (some (Φ g)) (n+1) c)/\ad=(w.drew.setCells g (i+1) (xs.drop i)).setCells g i [u]:=by
 have H:xs.length=n:=by simpa using r.1
 have x:∀a b,xs[a]?=some b->w.cell? (Δ g a)=some b:=λa b l=>by
  rw[r.cellAt a (Ω ((C9.1 l).1))];exact l
 have X:∃m:Array Value,w.heap[g]?=some (.cells m 43 (0,0))/\m.size=c:=by
  rcases r.2 with⟨F,_⟩|⟨ah,af,m,R,_,Z,_,_,x,_⟩
  ·cases F
  ·simp only[Value.slice.injEq,Option.some.injEq,Addr.mk.injEq,and_true,true_and]at R;obtain⟨rfl,rfl⟩:=R;exact⟨m,Z,O⟩
 obtain⟨m,q,J⟩:=X;have A:∀a,a<n+1->(w.cell? (Δ g a)).isSome=true:=λa f=>by
  rw[cell_of_row w g a _ 43 (0,0) q,FO O];rfl
 have z:∀a,w.frozen? (Δ g a)=false:=λa=>by simp[GM,q]
 have M:w.shape? g=some (43,c):=by simp[VK,q,J]
 have L:w.shape? e=some (43,1):=by unfold CQ at d;simp[VK,d]
 have y:∀a,w.frozen? (Δ e a)=false:=λa=>d.frozen a
 have Q:∀a b,[u][a]?=some b->w.cell? (Δ e (0+a))=some b:=λa b l=>by rw[d.cell,DX];exact l
 have aB:¬((i:Int)=(n:Int)):=O;have B:(prog.info? 43).map (·.size)=some 1:=by
  obtain⟨aD,aa,al,U,F⟩:=info_parts Tryz.Jc.hi;rw[aa];simp[U]
 have ac:∀C v,(callFunc 197 #[.slice (some (Φ e)) 1 1,.slice (some (Δ g (i+1))) C v]).run prog w=.ok (.value (.bool false)) w:=λC v=>by
  rw[run_callFunc_extern func197 Γ Γ Γ (e:=Extern.SlicesOverlaps.overlaps #[109,109] #[4]) Γ,
   uA w 109 4 43 underlying109 1 Tryz.Jc.Qh (Φ e) (Δ g (i+1)) 1 1 C v P 43 43 1 c L M O (y 0) (y 1)]
  rfl
 have K:(xs.drop i).length=n-i:=by rw[AU,H]
 have az:IntKind.i64.wrap ((i:Int)+1)=(i:Int)+1:=by rw[IntKind.wrap_i64];omega
 have am:(0:Int)<=(i:Int)+1:=O;have ar:i<=n:=O;have aw:((i:Int)+1).toNat=i+1:=O;have an:¬(c=i+1):=O;have ao:(i:Int)<=(n:Int)+1:=O;have ap:¬(c=i):=O;have I:∀j h D,(Builtin.copy_ #[109,109] j #[.slice (some (Δ g (i+1))) (n-i) h,.slice (some (Δ g i)) (n+1-i) D]).run prog w.drew=.ok (goInt (xs.drop i).length) (w.drew.setCells g (i+1) (xs.drop i)):=λj h D=>
  run_copy_cells w.drew _ _ j 43 g (i+1) (n-i) h (Δ g i) (n+1-i) D (xs.drop i) underlying109 B (by rw[K];simp only[KO];split<;>omega)
   (λa b f=>by rw[Addr.add_lit];exact x (i+a) b (by rwa [D7]at f))
   (λa f=>A _ O) (λa f=>z _) (λb d=>E b (Hr d))
 obtain⟨t,p⟩:=ε (w.drew.setCells g (i+1) (xs.drop i));have N:∀s,s<n+1->(t.cell? (Δ g s)).isSome=true:=λs ab=>by
  rw[p];exact GN g _ _ _ _ (A s ab)
 have Y:∀(k:World),(∀o,k.cell? o=t.cell? o)->(∀o,k.frozen? o=t.frozen? o)->∀j h,(Builtin.copy_ #[109,109] j #[.slice (some (Δ g i)) (n+1-i) h,.slice (some (Φ e)) 1 1]).run prog k=.ok (goInt [u].length) (k.setCells g i [u]):=λk G W j h=>
  run_copy_cells k _ _ j 43 g i (n+1-i) h (Φ e) 1 1 [u] underlying109 B (by simp only[KO,BD,Dp];split<;>omega)
   (λa b f=>by
    rw[Addr.add_lit,G,p,JV g _ _ _ _ (λl _=>absurd l P)];exact Q a b f)
   (λa f=>by rw[G];exact N _ (by simp at f;omega)) (λa f=>by rw[W,p,Gs];exact z _) (λb d=>by simp at d;subst d;exact V)
 rw[<-p]at I;clear r x A z M L y Q d E q J N B H K;go_enter func179,ntmps179
 go_wp2_with(simp only[ac])
 go_region_law(refine step_copy_runI rfl _ _ 109 109 rfl _ _ (by simp[Act.eval,Act.put]) (by simp[Act.eval,Act.put]) (I _ _ _) ?_)
 go_wp2_with(at_builtin;refine wpList_copy_runI _ rfl _ _ 109 109 rfl _ _ rfl rfl (Y _ (λ_=>rfl) (λ_=>rfl) _ _) ?_)
 go_ret;exact⟨rfl,rfl⟩
def kM(g n c i m:Nat)(xs:List Value)(u:Value)(w:World)(ab:Nat)(z:w.ownsRow ab 5 1 (.slice (some (Φ g)) n c) n xs)(hi:i<n)(ar:c<n+1)(aM:n<=1000000)(p:CQ w m 5 [u])
 (M:∀b∈xs,b.oneCell'=true)(ac:u.oneCell'=true):
 Calls prog 178 #[.slice (some (Φ g)) n c,.int .i64 i,.slice (some (Φ m)) 1 1] w λt B=>∃f e,n+1<=f/\f<=maxLen/\e.size=f/\(∀a,a<i->e[a]?=xs[a]?)/\
  t=.returned (.slice (some (Φ w.heap.size)) (n+1) f)/\
  B=(((w.alloc (.cells e 5)).drew.setCells w.heap.size i [u]).drew).setCells w.heap.size (i+1) (xs.drop i):=by
 have T:xs.length=n:=by simpa using z.1
 have y:∀a b,xs[a]?=some b->w.cell? (Δ g a)=some b:=λa b j=>by
  rw[z.cellAt a (Ω ((C9.1 j).1))];exact j
 have aq:n<=c:=(CV z).1;have Y:∀a b,[u][a]?=some b->w.cell? (Δ m (0+a))=some b:=λa b j=>by rw[p.cell,DX];exact j
 have av:m<w.heap.size:=p.lt;have ao:g<w.heap.size:=block_lt_of_cell (y 0 _ (Ae O));obtain⟨aa,G,Z,K,J⟩:=info_parts Tryz.Ia.hi;have a1:¬((i:Int)=(n:Int)):=O;have a2:(c:Int)<(n:Int)+1:=O;have I:(prog.info? 5).map (·.size)=some 1:=by rw[G];simp[K]
 have W:(n:Int)+1-(i:Int)=((n+1-i:Nat):Int):=O;have H:i+(n+1-i)=n+1:=O;have X:(Builtin.firstCells aa.size i (.slice (some (Φ g)) i c)).run prog w.drew=.ok (xs.take i).toArray w.drew:=by
  rw[K];exact run_firstCells_some w.drew 1 i (Φ g) i c (xs.take i) (by rw[Em];omega) (λa b h=>by
   rw[Addr.add_lit,DX];rw[Dj]at h;split at h
   ·exact y a b h
   ·cases h)
 have A:∀l,(Builtin.append_ #[23,3] l #[.slice (some (Φ g)) i c,.int .i64 ((n:Int)+1-(i:Int))]).run prog w=
  .ok (.slice (some (Φ w.heap.size)) (n+1) (grownCap w (n+1) c 5)) (w.drew.alloc (.cells ((xs.take i).toArray++Builtin.zeroCells (Aw .u8 0).cells (n+1-i)++Builtin.zeroCells (Aw .u8 0).cells (grownCap w (n+1) c 5-(n+1))) 5)):=λl=>by
  have j:=jf w 23 3 l 5 aa _ .i64 .i64 underlying23 underlying3 G Z (some (Φ g)) i c (xs.take i) X (n+1-i) O O O O (by rw[J];omega) (by rw[J,H];exact growslice_fits ar O);rw[H]at j;rw[W];exact j
 obtain⟨f,v⟩:=ε (grownCap w (n+1) c 5);obtain⟨e,x⟩:∃e:Array Value,e=(xs.take i).toArray++Builtin.zeroCells (Aw .u8 0).cells (n+1-i)++Builtin.zeroCells (Aw .u8 0).cells (f-(n+1)):=⟨_,rfl⟩;rw[<-v]at A;rw[<-x]at A;have am:n+1<=f:=by rw[v];exact grownCap_ge w _ _ _
 have C:f<=maxLen:=by rw[v];exact grownCap_le_maxLen w (n+1) c 5 (by unfold maxLen;omega)
 have S:e.size=f:=by
  rw[x];simp[Builtin.zeroCells,Y8];omega
 have Q:∀a,a<i->e[a]?=xs[a]?:=λa h=>by
  rw[x,zG,bQ (by simp;omega)];simp[h]
 obtain⟨o,r⟩:=ε (w.drew.alloc (.cells e 5));rw[<-r]at A;have D:∀a,a<n+1->(o.cell? (Δ w.heap.size a)).isSome=true:=λa h=>by
  rw[r,Jw (w:=w.drew) e _ w.heap.size a rfl,FO O];rfl
 have E:∀a,o.frozen? (Δ w.heap.size a)=false:=λa=>by rw[r];exact mM (w:=w.drew) e _ w.heap.size a rfl
 have N:∀a b,w.cell? (Δ g a)=some b->o.cell? (Δ g a)=some b:=λa b j=>by rw[r,Df (w:=w.drew) _ g a ao];exact j
 have P:∀a b,w.cell? (Δ m a)=some b->o.cell? (Δ m a)=some b:=λa b j=>by rw[r,Df (w:=w.drew) _ m a av];exact j
 have ap:∀(k:World),(∀d,k.cell? d=o.cell? d)->(∀d,k.frozen? d=o.frozen? d)->∀l q,(Builtin.copy_ #[23,23] l #[.slice (some (Δ w.heap.size i)) (n+1-i) q,.slice (some (Φ m)) 1 1]).run prog k=.ok (goInt [u].length) (k.setCells w.heap.size i [u]):=λk s F l q=>
  run_copy_cells k _ _ l 5 w.heap.size i (n+1-i) q (Φ m) 1 1 [u] underlying23 I (by simp only[KO,BD,Dp];split<;>omega)
   (λa b h=>by rw[Addr.add_lit,s];exact P _ b (Y a b h))
   (λa h=>by rw[s];exact D _ (by simp at h;omega)) (λa h=>by rw[F];exact E _) (λb p=>by simp at p;subst p;exact ac)
 have az:f<=9223372036854775807:=by unfold maxLen at C;omega
 have aB:¬(f=i):=O;have aD:¬(f=i+1):=O;have aH:¬(c=i):=O;have an:g≠w.heap.size:=O;have V:(xs.drop i).length=n-i:=by rw[AU,T]
 have U:∀(k:World),(∀d,k.cell? d=(o.setCells w.heap.size i [u]).cell? d)->(∀d,k.frozen? d=(o.setCells w.heap.size i [u]).frozen? d)->∀l q L,(Builtin.copy_ #[23,23] l #[.slice (some (Δ w.heap.size (i+1))) (n-i) q,.slice (some (Δ g i)) (n-i) L]).run prog k=.ok (goInt (xs.drop i).length) (k.setCells w.heap.size (i+1) (xs.drop i)):=λk s F l q L=>
  run_copy_cells k _ _ l 5 w.heap.size (i+1) (n-i) q (Δ g i) (n-i) L (xs.drop i) underlying23 I (by rw[V];simp only[KO];split<;>omega)
   (λa b h=>by
    rw[Addr.add_lit,s,JV _ _ _ _ _ (λj _=>absurd j an)];exact N _ b (y (i+a) b (by rwa [D7]at h)))
   (λa h=>by rw[s];exact GN _ _ _ _ _ (D _ O))
   (λa h=>by rw[F,Gs];exact E _) (λb p=>M b (Hr p))
 subst r;have ad:∀d,((w.alloc (.cells e 5)).drew).cell? d=(w.drew.alloc (.cells e 5)).cell? d:=λd=>rfl
 have af:∀d,((w.alloc (.cells e 5)).drew).frozen? d=(w.drew.alloc (.cells e 5)).frozen? d:=λd=>rfl
 have ah:∀d,(((w.alloc (.cells e 5)).drew.setCells w.heap.size i [u]).drew).cell? d=((w.drew.alloc (.cells e 5)).setCells w.heap.size i [u]).cell? d:=λd=>rfl
 have al:∀d,(((w.alloc (.cells e 5)).drew.setCells w.heap.size i [u]).drew).frozen? d=((w.drew.alloc (.cells e 5)).setCells w.heap.size i [u]).frozen? d:=λd=>rfl
 have a0:IntKind.i64.wrap ((i:Int)+1)=(i:Int)+1:=by rw[IntKind.wrap_i64];omega
 have aE:(0:Int)<=(i:Int)+1:=O;have aL:i<=n:=O;have aR:((i:Int)+1).toNat=i+1:=O;have aG:(i:Int)<=(n:Int):=O;have aw:i<=c:=O;refine Calls.mono (R:=λt B=>t=.returned (.slice (some (Φ w.heap.size)) (n+1) f)/\B=(((w.alloc (.cells e 5)).drew.setCells w.heap.size i [u]).drew).setCells w.heap.size (i+1) (xs.drop i)) ?_ (λt B j=>⟨f,e,am,C,S,Q,j⟩);clear W H X x v S Q z y aq Y p M D E N P G Z K J I T V C;go_enter func178,ntmps178
 go_wp2_with(first
  |(at_builtin;refine FV _ rfl _ _ _ _ rfl _ _ rfl rfl _ _ (A _) ?_)
  |(at_builtin;refine wpList_copy_runI _ rfl _ _ 23 23 rfl _ _ rfl rfl (ap _ ad af _ _) ?_)
  |(at_builtin;refine wpList_copy_runI _ rfl _ _ 23 23 rfl _ _ rfl rfl (U _ (λ_=>rfl) (λ_=>rfl) _ _ _) ?_))
 go_region_law(refine step_copy_runI rfl _ _ 23 23 rfl (.slice (some (Δ w.heap.size (i+1))) (n-i) (f-(i+1))) (.slice (some (Δ g i)) (n-i) (c-i)) (by simp[Act.eval,Act.put]) (by simp[Act.eval,Act.put]) (U _ ah al 3 (f-(i+1)) (c-i)) ?_)
 go_wp2;go_ret;exact⟨rfl,rfl⟩
def kN(g n c i m:Nat)(xs:List Value)(u:Value)(w:World)(ab:Nat)(z:w.ownsRow ab 43 1 (.slice (some (Φ g)) n c) n xs)(hi:i<n)(ar:c<n+1)(aM:n<=1000000)(p:CQ w m 43 [u])
 (M:∀b∈xs,b.oneCell'=true)(ac:u.oneCell'=true):
 Calls prog 179 #[.slice (some (Φ g)) n c,.int .i64 i,.slice (some (Φ m)) 1 1] w λt B=>∃f e,n+1<=f/\f<=maxLen/\e.size=f/\(∀a,a<i->e[a]?=xs[a]?)/\
  t=.returned (.slice (some (Φ w.heap.size)) (n+1) f)/\
  B=(((w.alloc (.cells e 43)).drew.setCells w.heap.size i [u]).drew).setCells w.heap.size (i+1) (xs.drop i):=by
 have T:xs.length=n:=by simpa using z.1
 have y:∀a b,xs[a]?=some b->w.cell? (Δ g a)=some b:=λa b j=>by
  rw[z.cellAt a (Ω ((C9.1 j).1))];exact j
 have aq:n<=c:=(CV z).1;have Y:∀a b,[u][a]?=some b->w.cell? (Δ m (0+a))=some b:=λa b j=>by rw[p.cell,DX];exact j
 have av:m<w.heap.size:=p.lt;have ao:g<w.heap.size:=block_lt_of_cell (y 0 _ (Ae O));obtain⟨aa,G,Z,K,J⟩:=info_parts Tryz.Jc.hi;have a1:¬((i:Int)=(n:Int)):=O;have a2:(c:Int)<(n:Int)+1:=O;have I:(prog.info? 43).map (·.size)=some 1:=by rw[G];simp[K]
 have W:(n:Int)+1-(i:Int)=((n+1-i:Nat):Int):=O;have H:i+(n+1-i)=n+1:=O;have X:(Builtin.firstCells aa.size i (.slice (some (Φ g)) i c)).run prog w.drew=.ok (xs.take i).toArray w.drew:=by
  rw[K];exact run_firstCells_some w.drew 1 i (Φ g) i c (xs.take i) (by rw[Em];omega) (λa b h=>by
   rw[Addr.add_lit,DX];rw[Dj]at h;split at h
   ·exact y a b h
   ·cases h)
 have A:∀l,(Builtin.append_ #[109,3] l #[.slice (some (Φ g)) i c,.int .i64 ((n:Int)+1-(i:Int))]).run prog w=
  .ok (.slice (some (Φ w.heap.size)) (n+1) (grownCap w (n+1) c 43)) (w.drew.alloc (.cells ((xs.take i).toArray++Builtin.zeroCells (Aw .u64 0).cells (n+1-i)++Builtin.zeroCells (Aw .u64 0).cells (grownCap w (n+1) c 43-(n+1))) 43)):=λl=>by
  have j:=jf w 109 3 l 43 aa _ .i64 .i64 underlying109 underlying3 G Z (some (Φ g)) i c (xs.take i) X (n+1-i) O O O O (by rw[J];omega) (by rw[J,H];exact growslice_fits ar O);rw[H]at j;rw[W];exact j
 obtain⟨f,v⟩:=ε (grownCap w (n+1) c 43);obtain⟨e,x⟩:∃e:Array Value,e=(xs.take i).toArray++Builtin.zeroCells (Aw .u64 0).cells (n+1-i)++Builtin.zeroCells (Aw .u64 0).cells (f-(n+1)):=⟨_,rfl⟩;rw[<-v]at A;rw[<-x]at A;have am:n+1<=f:=by rw[v];exact grownCap_ge w _ _ _
 have C:f<=maxLen:=by rw[v];exact grownCap_le_maxLen w (n+1) c 43 (by unfold maxLen;omega)
 have S:e.size=f:=by
  rw[x];simp[Builtin.zeroCells,Y8];omega
 have Q:∀a,a<i->e[a]?=xs[a]?:=λa h=>by
  rw[x,zG,bQ (by simp;omega)];simp[h]
 obtain⟨o,r⟩:=ε (w.drew.alloc (.cells e 43));rw[<-r]at A;have D:∀a,a<n+1->(o.cell? (Δ w.heap.size a)).isSome=true:=λa h=>by
  rw[r,Jw (w:=w.drew) e _ w.heap.size a rfl,FO O];rfl
 have E:∀a,o.frozen? (Δ w.heap.size a)=false:=λa=>by rw[r];exact mM (w:=w.drew) e _ w.heap.size a rfl
 have N:∀a b,w.cell? (Δ g a)=some b->o.cell? (Δ g a)=some b:=λa b j=>by rw[r,Df (w:=w.drew) _ g a ao];exact j
 have P:∀a b,w.cell? (Δ m a)=some b->o.cell? (Δ m a)=some b:=λa b j=>by rw[r,Df (w:=w.drew) _ m a av];exact j
 have ap:∀(k:World),(∀d,k.cell? d=o.cell? d)->(∀d,k.frozen? d=o.frozen? d)->∀l q,(Builtin.copy_ #[109,109] l #[.slice (some (Δ w.heap.size i)) (n+1-i) q,.slice (some (Φ m)) 1 1]).run prog k=.ok (goInt [u].length) (k.setCells w.heap.size i [u]):=λk s F l q=>
  run_copy_cells k _ _ l 43 w.heap.size i (n+1-i) q (Φ m) 1 1 [u] underlying109 I (by simp only[KO,BD,Dp];split<;>omega)
   (λa b h=>by rw[Addr.add_lit,s];exact P _ b (Y a b h))
   (λa h=>by rw[s];exact D _ (by simp at h;omega)) (λa h=>by rw[F];exact E _) (λb p=>by simp at p;subst p;exact ac)
 have az:f<=9223372036854775807:=by unfold maxLen at C;omega
 have aB:¬(f=i):=O;have aD:¬(f=i+1):=O;have aH:¬(c=i):=O;have an:g≠w.heap.size:=O;have V:(xs.drop i).length=n-i:=by rw[AU,T]
 have U:∀(k:World),(∀d,k.cell? d=(o.setCells w.heap.size i [u]).cell? d)->(∀d,k.frozen? d=(o.setCells w.heap.size i [u]).frozen? d)->∀l q L,(Builtin.copy_ #[109,109] l #[.slice (some (Δ w.heap.size (i+1))) (n-i) q,.slice (some (Δ g i)) (n-i) L]).run prog k=.ok (goInt (xs.drop i).length) (k.setCells w.heap.size (i+1) (xs.drop i)):=λk s F l q L=>
  run_copy_cells k _ _ l 43 w.heap.size (i+1) (n-i) q (Δ g i) (n-i) L (xs.drop i) underlying109 I (by rw[V];simp only[KO];split<;>omega)
   (λa b h=>by
    rw[Addr.add_lit,s,JV _ _ _ _ _ (λj _=>absurd j an)];exact N _ b (y (i+a) b (by rwa [D7]at h)))
   (λa h=>by rw[s];exact GN _ _ _ _ _ (D _ O))
   (λa h=>by rw[F,Gs];exact E _) (λb p=>M b (Hr p))
 subst r;have ad:∀d,((w.alloc (.cells e 43)).drew).cell? d=(w.drew.alloc (.cells e 43)).cell? d:=λd=>rfl
 have af:∀d,((w.alloc (.cells e 43)).drew).frozen? d=(w.drew.alloc (.cells e 43)).frozen? d:=λd=>rfl
 have ah:∀d,(((w.alloc (.cells e 43)).drew.setCells w.heap.size i [u]).drew).cell? d=((w.drew.alloc (.cells e 43)).setCells w.heap.size i [u]).cell? d:=λd=>rfl
 have al:∀d,(((w.alloc (.cells e 43)).drew.setCells w.heap.size i [u]).drew).frozen? d=((w.drew.alloc (.cells e 43)).setCells w.heap.size i [u]).frozen? d:=λd=>rfl
 have a0:IntKind.i64.wrap ((i:Int)+1)=(i:Int)+1:=by rw[IntKind.wrap_i64];omega
 have aE:(0:Int)<=(i:Int)+1:=O;have aL:i<=n:=O;have aR:((i:Int)+1).toNat=i+1:=O;have aG:(i:Int)<=(n:Int):=O;have aw:i<=c:=O;refine Calls.mono (R:=λt B=>t=.returned (.slice (some (Φ w.heap.size)) (n+1) f)/\B=(((w.alloc (.cells e 43)).drew.setCells w.heap.size i [u]).drew).setCells w.heap.size (i+1) (xs.drop i)) ?_ (λt B j=>⟨f,e,am,C,S,Q,j⟩);clear W H X x v S Q z y aq Y p M D E N P G Z K J I T V C;go_enter func179,ntmps179
 go_wp2_with(first
  |(at_builtin;refine FV _ rfl _ _ _ _ rfl _ _ rfl rfl _ _ (A _) ?_)
  |(at_builtin;refine wpList_copy_runI _ rfl _ _ 109 109 rfl _ _ rfl rfl (ap _ ad af _ _) ?_)
  |(at_builtin;refine wpList_copy_runI _ rfl _ _ 109 109 rfl _ _ rfl rfl (U _ (λ_=>rfl) (λ_=>rfl) _ _ _) ?_))
 go_region_law(refine step_copy_runI rfl _ _ 109 109 rfl (.slice (some (Δ w.heap.size (i+1))) (n-i) (f-(i+1))) (.slice (some (Δ g i)) (n-i) (c-i)) (by simp[Act.eval,Act.put]) (by simp[Act.eval,Act.put]) (U _ ah al 3 (f-(i+1)) (c-i)) ?_)
 go_wp2;go_ret;exact⟨rfl,rfl⟩
def qA(v:Value)(n i g:Nat)(xs:List Value)(u:Value)(w:World)(e:Nat)(b:w.ownsRow e 5 1 v n xs)(o:e<=w.heap.size)(hi:i<=n)(Q:n<=1000000)(S:v.ownBlock≠some g)(j:CQ w g 5 [u])
 (m:∀v∈xs,v.oneCell'=true)(q:u.oneCell'=true):
 Calls prog 178 #[v,.int .i64 i,.slice (some (Φ g)) 1 1] w λc h=>∃k,c=.returned k/\h.ownsRow e 5 1 k (n+1) (UU xs i u)/\Below e w h/\Kept w h v.ownBlock:=by
 have r:xs.length=n:=by simpa using b.1
 by_cases P:i=n
 ·subst P;have t:Rd w (some (Φ g)) 1 [u]:=j.rd;have M:=Uj Tryz.Ia 23 b t (λY F=>by simp at F;subst F;exact q) O U o 1;obtain⟨k,h,E,C,A,p⟩:=M;have y:Hid (UU xs i u=xs++[u]):=Aa (by unfold UU;rw[EP O,nD O]);rcases b.2 with⟨rfl,rfl⟩|⟨d,l,G,rfl,-,-,R,s,-⟩
  ·clear b r j t m;go_enter func178,ntmps178
   go_wp2_with(at_builtin;refine FV _ rfl _ _ _ _ rfl _ _ rfl rfl _ _ E ?_)
   go_ret;exact⟨k,rfl,by rw[y.out];exact C,A,p⟩
  ·clear b r j t m s;go_enter func178,ntmps178
   go_wp2_with(at_builtin;refine FV _ rfl _ _ _ _ rfl _ _ rfl rfl _ _ E ?_)
   all_goals
    go_ret;exact⟨k,rfl,by rw[y.out];exact C,A,p⟩
 ·rcases id b.2 with⟨rfl,rfl⟩|⟨d,l,G,rfl,W,N,R,s,_⟩
  ·omega
  ·have X:d<w.heap.size:=(AA.1 N).1;by_cases D:n+1<=l
   ·refine(dP d n l i g xs u w e b O D (by unfold maxLen at s;omega) (λI=>S (by rw[I];rfl)) j m q).mono ?_;rintro c h⟨rfl,rfl⟩;have f:Kept w ((w.drew.setCells d (i+1) (xs.drop i)).setCells d i [u]) (some d):=((Kept.refl w (some d)).drew.setCells _ _).setCells _ _;refine⟨_,rfl,fD (w:=w.drew) (show w.drew.ownsRow e 5 1 _ n xs from b) O D,f.below o ?_ ?_ ?_ (λH c=>by injection c with c;omega),f⟩
    ·rw[Ff,Ff];rfl
    ·rw[Ei,Ei];rfl
    ·rw[DL,DL];rfl
   ·refine(kM d n l i g xs u w e b O O Q j m q).mono ?_;rintro c h⟨T,z,V,J,K,L,rfl,rfl⟩;have B:=fE (e:=5) (u:=u) (zs:=xs.drop i) z o O O J K L rfl;rw[r]at B;have f:Kept w ((((w.alloc (.cells z 5)).drew.setCells w.heap.size i [u]).drew).setCells w.heap.size (i+1) (xs.drop i)) none:=by
     refine⟨?_,λx f _=>?_⟩
     ·rw[setCells_size,show∀a:World,a.drew.heap.size=a.heap.size from λ_=>rfl,setCells_size];show w.heap.size<=(w.heap.push _).size;simp
     ·rw[Jl _ _ _ _ O,show∀a:World,a.drew.heap=a.heap from λ_=>rfl,Jl _ _ _ _ O];show(w.heap.push _)[x]?=_;rw[Gw,if_neg O]
    refine⟨_,rfl,B,f.below o ?_ ?_ ?_ (λH c=>by cases c),f.1,λx p _=>f.2 x p Θ⟩
    ·rw[Ff,show∀a:World,a.drew.os=a.os from λ_=>rfl,Ff];rfl
    ·rw[Ei,show∀a:World,a.drew.tape=a.tape from λ_=>rfl,Ei];rfl
    ·rw[DL,show∀a:World,a.drew.output=a.output from λ_=>rfl,DL];rfl
def qB(v:Value)(n i g:Nat)(xs:List Value)(u:Value)(w:World)(e:Nat)(b:w.ownsRow e 43 1 v n xs)(o:e<=w.heap.size)(hi:i<=n)(Q:n<=1000000)(S:v.ownBlock≠some g)(j:CQ w g 43 [u])
 (m:∀v∈xs,v.oneCell'=true)(q:u.oneCell'=true):
 Calls prog 179 #[v,.int .i64 i,.slice (some (Φ g)) 1 1] w λc h=>∃k,c=.returned k/\h.ownsRow e 43 1 k (n+1) (UU xs i u)/\Below e w h/\Kept w h v.ownBlock:=by
 have r:xs.length=n:=by simpa using b.1
 by_cases P:i=n
 ·subst P;have t:Rd w (some (Φ g)) 1 [u]:=j.rd;have M:=Uj Tryz.Jc 109 b t (λY F=>by simp at F;subst F;exact q) O U o 1;obtain⟨k,h,E,C,A,p⟩:=M;have y:Hid (UU xs i u=xs++[u]):=Aa (by unfold UU;rw[EP O,nD O]);rcases b.2 with⟨rfl,rfl⟩|⟨d,l,G,rfl,-,-,R,s,-⟩
  ·clear b r j t m;go_enter func179,ntmps179
   go_wp2_with(at_builtin;refine FV _ rfl _ _ _ _ rfl _ _ rfl rfl _ _ E ?_)
   go_ret;exact⟨k,rfl,by rw[y.out];exact C,A,p⟩
  ·clear b r j t m s;go_enter func179,ntmps179
   go_wp2_with(at_builtin;refine FV _ rfl _ _ _ _ rfl _ _ rfl rfl _ _ E ?_)
   all_goals
    go_ret;exact⟨k,rfl,by rw[y.out];exact C,A,p⟩
 ·rcases id b.2 with⟨rfl,rfl⟩|⟨d,l,G,rfl,W,N,R,s,_⟩
  ·omega
  ·have X:d<w.heap.size:=(AA.1 N).1;by_cases D:n+1<=l
   ·refine(dQ d n l i g xs u w e b O D (by unfold maxLen at s;omega) (λI=>S (by rw[I];rfl)) j m q).mono ?_;rintro c h⟨rfl,rfl⟩;have f:Kept w ((w.drew.setCells d (i+1) (xs.drop i)).setCells d i [u]) (some d):=((Kept.refl w (some d)).drew.setCells _ _).setCells _ _;refine⟨_,rfl,fD (w:=w.drew) (show w.drew.ownsRow e 43 1 _ n xs from b) O D,f.below o ?_ ?_ ?_ (λH c=>by injection c with c;omega),f⟩
    ·rw[Ff,Ff];rfl
    ·rw[Ei,Ei];rfl
    ·rw[DL,DL];rfl
   ·refine(kN d n l i g xs u w e b O O Q j m q).mono ?_;rintro c h⟨T,z,V,J,K,L,rfl,rfl⟩;have B:=fE (e:=43) (u:=u) (zs:=xs.drop i) z o O O J K L rfl;rw[r]at B;have f:Kept w ((((w.alloc (.cells z 43)).drew.setCells w.heap.size i [u]).drew).setCells w.heap.size (i+1) (xs.drop i)) none:=by
     refine⟨?_,λx f _=>?_⟩
     ·rw[setCells_size,show∀a:World,a.drew.heap.size=a.heap.size from λ_=>rfl,setCells_size];show w.heap.size<=(w.heap.push _).size;simp
     ·rw[Jl _ _ _ _ O,show∀a:World,a.drew.heap=a.heap from λ_=>rfl,Jl _ _ _ _ O];show(w.heap.push _)[x]?=_;rw[Gw,if_neg O]
    refine⟨_,rfl,B,f.below o ?_ ?_ ?_ (λH c=>by cases c),f.1,λx p _=>f.2 x p Θ⟩
    ·rw[Ff,show∀a:World,a.drew.os=a.os from λ_=>rfl,Ff];rfl
    ·rw[Ei,show∀a:World,a.drew.tape=a.tape from λ_=>rfl,Ei];rfl
    ·rw[DL,show∀a:World,a.drew.output=a.output from λ_=>rfl,DL];rfl
def kP(g n c i:Nat)(xs:List Value)(w:World)(E:Nat)(l:w.ownsRow E 5 1 (.slice (some (Φ g)) n c) n xs)(hi:i<n)(am:n<=1000000)(ad:c<=9223372036854775807)(x:∀m∈xs,m.oneCell'=true):
 Calls prog 174 #[.slice (some (Φ g)) n c,.int .i64 i,.int .i64 ((i:Int)+1)] w λF U=>
  F=.returned (.slice (some (Φ g)) (n-1) c)/\U=(w.drew.setCells g i (xs.drop (i+1))).setCells g (n-1) [.int .u8 0]:=by
 have A:xs.length=n:=by simpa using l.1
 have r:∀b m,xs[b]?=some m->w.cell? (Δ g b)=some m:=λb m j=>by
  rw[l.cellAt b (Ω ((C9.1 j).1))];exact j
 have an:n<=c:=(CV l).1;have J:∃h:Array Value,w.heap[g]?=some (.cells h 5 (0,0))/\h.size=c:=by
  rcases l.2 with⟨G,_⟩|⟨X,W,h,D,_,L,_,_,r,_⟩
  ·cases G
  ·simp only[Value.slice.injEq,Option.some.injEq,Addr.mk.injEq,and_true,true_and]at D;obtain⟨rfl,rfl⟩:=D;exact⟨h,L,O⟩
 obtain⟨h,t,K⟩:=J;have u:∀b,b<n->(w.cell? (Δ g b)).isSome=true:=λb ah=>by
  rw[cell_of_row w g b _ 5 (0,0) t,FO O];rfl
 have s:∀b,w.frozen? (Δ g b)=false:=λb=>by simp[GM,t]
 obtain⟨Q,M,aq,P,av⟩:=info_parts Tryz.Ia.hi;obtain⟨d,k⟩:=ε (xs.drop (i+1));have B:d.length=n-(i+1):=by rw[k,AU,A]
 obtain⟨o,Y,N⟩:∃o:Addr,(if c=i+1 then some ((Φ g):Addr)else some (Δ g (i+1)))=some o/\Hid (∀a e,d[a]?=some e->w.drew.cell? (o.add a)=some e):=by
  by_cases j:c=i+1
  ·refine⟨(Φ g),by simp[j],λa e f=>?_⟩;rw[mO.1 (show d.length=0 by omega)]at f;simp at f
  ·refine⟨(Δ g (i+1)),by simp[j],λa e f=>?_⟩;rw[Addr.add_lit];refine r (i+1+a) e ?_;rw[k,D7]at f;exact f
 have R:Hid (d.length=(n-(i+1))*1):=by rw[Jg];exact B
 have S:Hid (∀e∈d,e.oneCell'=true):=by
  intro e f;rw[k]at f;exact x e (Hr f)
 have T:Hid (∀a,a<d.length->(w.drew.cell? (Δ g (0+i*1+a))).isSome=true/\w.drew.frozen? (Δ g (0+i*1+a))=false):=by
  intro a C;rw[Jg,DX];exact⟨u (i+a) O,s _⟩
 obtain⟨p,q⟩:=ε (w.drew.setCells g (0+i*1) d);have V:∀v,(Builtin.clear_ #[23] v #[.slice (some (Δ g (i+(n-(i+1))))) (n-(i+(n-(i+1)))) (c-(i+(n-(i+1))))]).run prog p=.ok (.tuple #[]) (p.setCells g (i+(n-(i+1))) (BC (n-(i+(n-(i+1)))) (.int .u8 0))):=
  λv=>Abh p _ _ v _ underlying23 Tryz.zeroValue5 rfl rfl g (i+(n-(i+1))) _ _ O (λa C=>by rw[q];exact GN _ _ _ _ _ (u _ O)) (λa C=>by rw[q,Gs];exact s _)
 have z:Hid (p=w.drew.setCells g (0+i*1) d):=q;have I:Hid (d=xs.drop (i+1)):=k;have y:Hid (i+(n-(i+1))=n-1):=by show i+(n-(i+1))=n-1;omega
 have H:Hid (n-(i+(n-(i+1)))=1):=by show n-(i+(n-(i+1)))=1;omega
 have af:i<=c:=O;have al:i+1<=c:=O;have ap:IntKind.i64.wrap ((i:Int)+1)=(i:Int)+1:=by rw[IntKind.wrap_i64];omega
 have Z:(0:Int)<=(i:Int)+1:=O;have ao:((i:Int)+1).toNat=i+1:=O;have ar:((i:Int)==(i:Int)+1)=false:=ζ O;have aa:(i:Int)+1<=(n:Int):=O;have ab:(i:Int)<=(i:Int)+1:=O;have ac:(n:Int)<=(c:Int):=O;clear q l r u s t K k B x A;go_enter func174,ntmps174
 go_wp2_with fail
 go_region_law(refine step_append_room rfl (.tmp 22) (.tmp 25) 23 rfl 5 Q 1 underlying23 M P g 0 i c (by simp[Act.eval,Act.put]) o (n-(i+1)) (c-(i+1)) d (by simp[Act.eval,Act.put]) R.out N.out S.out O T.out ?_;rw[<-z.out])
 go_wp2;go_ret;refine⟨by rw[<-y.out];rfl,?_⟩;rw[<-y.out,<-I.out,z.out,H.out,DX,Jg];rfl
def qC(v:Value)(n i:Nat)(xs:List Value)(w:World)(a:Nat)(e:w.ownsRow a 5 1 v n xs)(k:a<=w.heap.size)(hi:i<n)(m:n<=1000000)(j:∀v∈xs,v.oneCell'=true):
 Calls prog 174 #[v,.int .i64 i,.int .i64 ((i:Int)+1)] w λb d=>∃g,b=.returned g/\d.ownsRow a 5 1 g (n-1) (jF xs i)/\Below a w d/\Kept w d v.ownBlock:=by
 rcases id e.2 with⟨rfl,rfl⟩|⟨c,h,o,rfl,q,r,s,l,_⟩
 ·omega
 ·refine(kP c n h i xs w a e hi m (by unfold maxLen at l;omega) j).mono ?_;rintro b d⟨rfl,rfl⟩;have f:Kept w ((w.drew.setCells c i (xs.drop (i+1))).setCells c (n-1) [.int .u8 0]) (some c):=((Kept.refl w (some c)).drew.setCells _ _).setCells _ _;refine⟨_,rfl,Xx (w:=w.drew) (show w.drew.ownsRow a 5 1 _ n xs from e) hi rfl,f.below k ?_ ?_ ?_ (λp b=>by injection b with b;omega),f⟩
  ·rw[Ff,Ff];rfl
  ·rw[Ei,Ei];rfl
  ·rw[DL,DL];rfl
def kQ(g n c i:Nat)(xs:List Value)(w:World)(E:Nat)(l:w.ownsRow E 43 1 (.slice (some (Φ g)) n c) n xs)(hi:i<n)(am:n<=1000000)(ad:c<=9223372036854775807)(x:∀m∈xs,m.oneCell'=true):
 Calls prog 175 #[.slice (some (Φ g)) n c,.int .i64 i,.int .i64 ((i:Int)+1)] w λF U=>
  F=.returned (.slice (some (Φ g)) (n-1) c)/\U=(w.drew.setCells g i (xs.drop (i+1))).setCells g (n-1) [.int .u64 0]:=by
 have A:xs.length=n:=by simpa using l.1
 have r:∀b m,xs[b]?=some m->w.cell? (Δ g b)=some m:=λb m j=>by
  rw[l.cellAt b (Ω ((C9.1 j).1))];exact j
 have an:n<=c:=(CV l).1;have J:∃h:Array Value,w.heap[g]?=some (.cells h 43 (0,0))/\h.size=c:=by
  rcases l.2 with⟨G,_⟩|⟨X,W,h,D,_,L,_,_,r,_⟩
  ·cases G
  ·simp only[Value.slice.injEq,Option.some.injEq,Addr.mk.injEq,and_true,true_and]at D;obtain⟨rfl,rfl⟩:=D;exact⟨h,L,O⟩
 obtain⟨h,t,K⟩:=J;have u:∀b,b<n->(w.cell? (Δ g b)).isSome=true:=λb ah=>by
  rw[cell_of_row w g b _ 43 (0,0) t,FO O];rfl
 have s:∀b,w.frozen? (Δ g b)=false:=λb=>by simp[GM,t]
 obtain⟨Q,M,aq,P,av⟩:=info_parts Tryz.Jc.hi;obtain⟨d,k⟩:=ε (xs.drop (i+1));have B:d.length=n-(i+1):=by rw[k,AU,A]
 obtain⟨o,Y,N⟩:∃o:Addr,(if c=i+1 then some ((Φ g):Addr)else some (Δ g (i+1)))=some o/\Hid (∀a e,d[a]?=some e->w.drew.cell? (o.add a)=some e):=by
  by_cases j:c=i+1
  ·refine⟨(Φ g),by simp[j],λa e f=>?_⟩;rw[mO.1 (show d.length=0 by omega)]at f;simp at f
  ·refine⟨(Δ g (i+1)),by simp[j],λa e f=>?_⟩;rw[Addr.add_lit];refine r (i+1+a) e ?_;rw[k,D7]at f;exact f
 have R:Hid (d.length=(n-(i+1))*1):=by rw[Jg];exact B
 have S:Hid (∀e∈d,e.oneCell'=true):=by
  intro e f;rw[k]at f;exact x e (Hr f)
 have T:Hid (∀a,a<d.length->(w.drew.cell? (Δ g (0+i*1+a))).isSome=true/\w.drew.frozen? (Δ g (0+i*1+a))=false):=by
  intro a C;rw[Jg,DX];exact⟨u (i+a) O,s _⟩
 obtain⟨p,q⟩:=ε (w.drew.setCells g (0+i*1) d);have V:∀v,(Builtin.clear_ #[109] v #[.slice (some (Δ g (i+(n-(i+1))))) (n-(i+(n-(i+1)))) (c-(i+(n-(i+1))))]).run prog p=.ok (.tuple #[]) (p.setCells g (i+(n-(i+1))) (BC (n-(i+(n-(i+1)))) (.int .u64 0))):=
  λv=>Abh p _ _ v _ underlying109 Tryz.zeroValue43 rfl rfl g (i+(n-(i+1))) _ _ O (λa C=>by rw[q];exact GN _ _ _ _ _ (u _ O)) (λa C=>by rw[q,Gs];exact s _)
 have z:Hid (p=w.drew.setCells g (0+i*1) d):=q;have I:Hid (d=xs.drop (i+1)):=k;have y:Hid (i+(n-(i+1))=n-1):=by show i+(n-(i+1))=n-1;omega
 have H:Hid (n-(i+(n-(i+1)))=1):=by show n-(i+(n-(i+1)))=1;omega
 have af:i<=c:=O;have al:i+1<=c:=O;have ap:IntKind.i64.wrap ((i:Int)+1)=(i:Int)+1:=by rw[IntKind.wrap_i64];omega
 have Z:(0:Int)<=(i:Int)+1:=O;have ao:((i:Int)+1).toNat=i+1:=O;have ar:((i:Int)==(i:Int)+1)=false:=ζ O;have aa:(i:Int)+1<=(n:Int):=O;have ab:(i:Int)<=(i:Int)+1:=O;have ac:(n:Int)<=(c:Int):=O;clear q l r u s t K k B x A;go_enter func175,ntmps175
 go_wp2_with fail
 go_region_law(refine step_append_room rfl (.tmp 22) (.tmp 25) 109 rfl 43 Q 1 underlying109 M P g 0 i c (by simp[Act.eval,Act.put]) o (n-(i+1)) (c-(i+1)) d (by simp[Act.eval,Act.put]) R.out N.out S.out O T.out ?_;rw[<-z.out])
 go_wp2;go_ret;refine⟨by rw[<-y.out];rfl,?_⟩;rw[<-y.out,<-I.out,z.out,H.out,DX,Jg];rfl
def qE(v:Value)(n i:Nat)(xs:List Value)(w:World)(a:Nat)(e:w.ownsRow a 43 1 v n xs)(k:a<=w.heap.size)(hi:i<n)(m:n<=1000000)(j:∀v∈xs,v.oneCell'=true):
 Calls prog 175 #[v,.int .i64 i,.int .i64 ((i:Int)+1)] w λb d=>∃g,b=.returned g/\d.ownsRow a 43 1 g (n-1) (jF xs i)/\Below a w d/\Kept w d v.ownBlock:=by
 rcases id e.2 with⟨rfl,rfl⟩|⟨c,h,o,rfl,q,r,s,l,_⟩
 ·omega
 ·refine(kQ c n h i xs w a e hi m (by unfold maxLen at l;omega) j).mono ?_;rintro b d⟨rfl,rfl⟩;have f:Kept w ((w.drew.setCells c i (xs.drop (i+1))).setCells c (n-1) [.int .u64 0]) (some c):=((Kept.refl w (some c)).drew.setCells _ _).setCells _ _;refine⟨_,rfl,Xx (w:=w.drew) (show w.drew.ownsRow a 43 1 _ n xs from e) hi rfl,f.below k ?_ ?_ ?_ (λp b=>by injection b with b;omega),f⟩
  ·rw[Ff,Ff];rfl
  ·rw[Ei,Ei];rfl
  ·rw[DL,DL];rfl
def Uw(l:List UInt8)(x:UInt8):Nat:=l.countP λa=>decide (a.toNat<x.toNat)
def Ac5(l:List UInt8)(x:UInt8):Uw l x<=l.length:=List.countP_le_length
def search_end(l:List UInt8)(x:UInt8)(i:Nat)(hi:i<=l.length)(h1:∀a(f:a<l.length),a<i->l[a].toNat<x.toNat)(h2:∀a(f:a<l.length),i<=a->x.toNat<=l[a].toNat):Uw l x=i:=by
 unfold Uw
 conv=>lhs;rw[<-List.take_append_drop i l]
 rw[List.countP_append];have g:(l.take i).countP (λd=>decide (d.toNat<x.toNat))=i:=by
  have:(l.take i).length=i:=by simp;omega
  conv=>rhs;rw[<-this]
  rw[List.countP_eq_length];intro e b;obtain⟨a,c,rfl⟩:=Cm b;simp at c;simpa using h1 a O O
 have h:(l.drop i).countP (λd=>decide (d.toNat<x.toNat))=0:=by
  rw[List.countP_eq_zero];intro e b;obtain⟨a,c,rfl⟩:=Cm b;simp at c;have:=h2 (i+a) O O;simp;omega
 omega
def xW(l:List UInt8)(x:UInt8)(i:Nat)(h1:∀a(c:a<l.length),a<i->l[a].toNat<x.toNat)(h2:∀a(c:a<l.length),i<=a->x.toNat<=l[a].toNat)
 (h:∀b d(f:b<l.length)(m:d<l.length),b<d->l[b].toNat<l[d].toNat)(hi:i<l.length)(j:l[i].toNat≠x.toNat):(l.any λk=>k.toNat==x.toNat)=false:=by
 rw[Qb];intro b f;obtain⟨a,g,rfl⟩:=Cm f;simp;rcases Ir a i with c|c
 ·have:=h1 a g c;omega
 ·rcases Ir i a with e|e
  ·have:=h i a hi g e;have:=h2 i hi (Ad _);omega
  ·obtain rfl:a=i:=O;exact j
def qF(l:List UInt8)(x:UInt8)(h1:∀a(f:a<l.length),a<l.length->l[a].toNat<x.toNat):(l.any λd=>d.toNat==x.toNat)=false:=by
 rw[Qb];intro e c;obtain⟨a,b,rfl⟩:=Cm c;have:=h1 a b b;simp;omega
def xX(l:List UInt8)(x:UInt8)(i:Nat)(hi:i<l.length)(a:l[i].toNat=x.toNat):(l.any λb=>b.toNat==x.toNat)=true:=by
 rw[List.any_eq_true];exact⟨l[i],List.getElem_mem _,by simpa using a⟩
def xY(x:Int)(w:World):Calls prog 203 #[.int .u8 x] w λa b=>a=.returned (.bool false)/\w=b:=by
 go_enter func203,ntmps203;go_wp2;go_ret;exact⟨by simp,rfl⟩
def ZW(x:Int)(w:World):Calls prog 194 #[.int .u8 x] w λa b=>a=.returned (.bool false)/\w=b:=by
 go_enter func194,ntmps194;go_wp2;go_ret;exact⟨by simp,rfl⟩
def XB(x c:Int)(w:World):Calls prog 193 #[.int .u8 x,.int .u8 c] w λa b=>a=.returned (.bool (decide (x<c)))/\w=b:=by
 go_enter func193,ntmps193
 go_wp2_with(go_at_call 203;refine(xY _ _).mono ?_;rintro a b⟨rfl,rfl⟩)
 go_ret;exact⟨rfl,rfl⟩
def XC(A:Option Addr)(n c:Nat)(l:List UInt8)(x:UInt8)(w:World)(S:n<=1000000)(k:Bs w A n l)(G:∀u v(Q:u<l.length)(R:v<l.length),u<v->l[u].toNat<l[v].toNat):
 Calls prog 177 #[.slice A n c,.int .u8 (x.toNat:Int)] w λj p=>j=.returned (.tuple #[.int .i64 (Uw l x:Nat),.bool (l.any λe=>e.toNat==x.toNat)])/\w=p:=by
 have I:=k.len;subst I;have t:=Aa G;clear G;go_enter func177,ntmps177;go_wp2
 go_loopg [7,8]l.length(λH N P wr=>∃b a:Nat,N=.int .i64 b/\P=.int .i64 a/\b<=a/\a<=l.length/\a-b<=H/\wr=w/\(∀d(k:d<l.length),d<b->l[d].toNat<x.toNat)/\(∀d(k:d<l.length),a<=d->x.toNat<=l[d].toNat))
 case atStart=>exact⟨0,l.length,rfl,rfl,Nat.zero_le _,Ad _,O,rfl,λd _ g=>absurd g (Nat.not_lt_zero _),λd y z=>O⟩
 case round=>
  obtain⟨b,a,rfl,rfl,U,F,T,rfl,y,z⟩:=hrel;have q:=Aa y;have s:=Aa z;clear y z;by_cases V:b<a
  ·obtain⟨E,M,L,rfl,K,B⟩:=k.at (show(b+a)/2<l.length by omega);generalize o:l[(b+a)/2]=e at B;have f:=Aa o;have Z:e.toNat<256:=e.toNat_lt;have Y:x.toNat<256:=x.toNat_lt;clear o;by_cases h:e.toNat<x.toNat
   ·have C:decide ((e.toNat:Int)<(x.toNat:Int))=true:=by simp;omega
    go_wp2_with(go_at_call 193;refine(XB _ _ _).mono ?_;rintro j p⟨rfl,rfl⟩)
    go_roundg(a-((b+a)/2+1))
    case measure=>omega
    case rel=>
     refine⟨(b+a)/2+1,a,by rw[show((b:Int)+(a:Int))/2+1=(((b+a)/2+1:Nat):Int)by omega],rfl,O,F,Ad _,rfl,λd g W=>?_,s.out⟩;rcases Ir d ((b+a)/2)with m|m
     ·have:=t.out d ((b+a)/2) g E m;rw[f.out]at this;omega
     ·obtain rfl:d=(b+a)/2:=O;rw[f.out];exact h
   ·have C:decide ((e.toNat:Int)<(x.toNat:Int))=false:=by simp;omega
    go_wp2_with(go_at_call 193;refine(XB _ _ _).mono ?_;rintro j p⟨rfl,rfl⟩)
    go_roundg((b+a)/2-b)
    case measure=>omega
    case rel=>
     refine⟨b,(b+a)/2,rfl,by rw[show((b:Int)+(a:Int))/2=(((b+a)/2:Nat):Int)by omega],O,O,Ad _,rfl,q.out,λd g X=>?_⟩;rcases Ir ((b+a)/2) d with m|m
     ·have:=t.out ((b+a)/2) d E g m;rw[f.out]at this;omega
     ·obtain rfl:d=(b+a)/2:=O;rw[f.out];omega
  ·have:a=b:=O;subst this;have r:=Aa (search_end l x a F q.out s.out);by_cases D:a<l.length
   ·obtain⟨E,M,L,rfl,K,B⟩:=k.at D;generalize o:l[a]=e at B;have f:=Aa o;clear o;by_cases h:e.toNat=x.toNat
    ·have i:=Aa (xX l x a D (by rw[f.out];exact h));have C:((e.toNat:Int)==(x.toNat:Int))=true:=by simp;omega
     clear h
     go_wp2_with(go_at_call 194;refine(ZW _ _).mono ?_;rintro j p⟨rfl,rfl⟩)
     go_ret2;exact⟨by rw[r.out,i.out];rfl,rfl⟩
    ·have i:=Aa (xW l x a q.out s.out t.out D (by rw[f.out];exact h));have C:((e.toNat:Int)==(x.toNat:Int))=false:=ζ O;clear h
     go_wp2_with(go_at_call 194;refine(ZW _ _).mono ?_;rintro j p⟨rfl,rfl⟩)
     go_ret2;exact⟨by rw[r.out,i.out];rfl,rfl⟩
   ·have J:a=l.length:=O;have i:=Aa (qF l x (λd g _=>q.out d g O));clear J
    go_wp2_with fail
    go_ret2;exact⟨by rw[r.out,i.out];rfl,rfl⟩
def ins{a:Type}(xs:List a)(i:Nat)(u:a):List a:=xs.take i++u::xs.drop i
def del{a:Type}(xs:List a)(i:Nat):List a:=xs.take i++xs.drop (i+1)
def qG{a:Type}(f:a->Value)(xs:List a)(i:Nat)(u:a):UU (xs.map f) i (f u)=(ins xs i u).map f:=by
 simp[UU,ins,VL,Xl]
def qH{a:Type}(f:a->Value)(xs:List a)(i:Nat):jF (xs.map f) i=(del xs i).map f:=by
 simp[jF,del,VL,Xl]
def ZX{a:Type}(xs:List a)(i:Nat)(u:a)(b:i<=xs.length):(ins xs i u).length=xs.length+1:=by simp[ins];omega
def ZY{a:Type}(xs:List a)(i:Nat)(b:i<xs.length):(del xs i).length=xs.length-1:=by simp[del];omega
def QC{w:World}{b:Nat}{e:TypeId}{A:Option Addr}{c n:Nat}{xs:List Value}(f:w.ownsRow b e 1 (.slice A n c) n xs):∀a,A=some a->b<=a.block/\a.block<w.heap.size:=by
 intro a i;subst i;rcases f.2 with⟨g,_⟩|⟨m,k,l,d,h,j,_⟩
 ·cases g
 ·simp only[Value.slice.injEq,Option.some.injEq]at d;obtain⟨rfl,_⟩:=d;exact⟨h,(AA.1 j).1⟩
def Tc{w w':World}{f B:Nat}{e:TypeId}{A:Option Addr}{c n:Nat}{xs:List Value}(a:w.ownsRow f e 1 (.slice A n c) n xs)(m:∀d,A=some d->d.block<B)(o:Below B w w'):w'.ownsRow f e 1 (.slice A n c) n xs:=by
 refine⟨a.1,?_⟩;rcases a.2 with a|⟨g,h,i,b,j,k,l⟩
 ·exact .inl a
 ·refine .inr ⟨g,h,i,b,j,?_,l⟩;injection b with b
  exact(o.block g (m _ b)).trans k
def Ac6(x:Nd)(w:World)(e:Ending)(w':World):Prop:=
 ∃a b g c h d i,e=.returned (.agg #[.slice b x.pre.length g,.int .u64 (x.val.toNat:Int),.slice c x.labels.length h,.slice d x.kids.length i])/\w.heap.size<=a/\a<=w'.heap.size/\
  (w'.ownsRow w.heap.size 5 1 (.slice b x.pre.length g) x.pre.length (x.pre.map bv)/\∀f,b=some f->f.block<a)/\
  w'.ownsRow a 5 1 (.slice c x.labels.length h) x.labels.length (x.labels.map bv)/\w'.ownsRow a 43 1 (.slice d x.kids.length i) x.kids.length (x.kids.map wv)/\η w w'
def KW(w:World)(d:TypeId)(a b c e g h i j:Value):∃f,f=(w.alloc (.cells #[a,b,c,e] d)).alloc (.cells #[g,h,i,j] d)/\CQ f w.heap.size d [a,b,c,e]/\CQ f (w.heap.size+1) d [g,h,i,j]/\
 η w f/\f.heap.size=w.heap.size+2:=by
 refine⟨_,rfl,?_,?_,((Below.refl _ _).alloc (Ad _) _).alloc Θ _,by simp⟩
 ·have:CQ (w.alloc (.cells #[a,b,c,e] d)) w.heap.size d [a,b,c,e]:=heap_alloc_new w _;exact(Below.heap_alloc _ _ _ Θ).trans this
 ·have:CQ ((w.alloc (.cells #[a,b,c,e] d)).alloc (.cells #[g,h,i,j] d)) (w.alloc (.cells #[a,b,c,e] d)).heap.size d [g,h,i,j]:=heap_alloc_new _ _;simpa using this
def ZZ(B C D:Option Addr)(a H b I c J:Nat)(x:Nd)(w:World)(ad:a<=1000000)(af:b<=1000000)(ah:c<=1000000)(h1:Bs w B a x.pre)(h2:Bs w C b x.labels)(h3:Ws w D c x.kids):
 Calls prog 173 #[.agg #[.slice B a H,.int .u64 (x.val.toNat:Int),.slice C b I,.slice D c J]] w (Ac6 x w):=by
 have am:=h1.len;have an:=h2.len;have ao:=h3.len;obtain⟨F,Q,k,l,K,a2⟩:=KW w 195 (.slice B a H) (.int .u64 (x.val.toNat:Int)) (.slice C b I) (.slice D c J) (.slice none 0 0) (.int .u64 0) (.slice none 0 0) (.slice none 0 0);have N:=Aa Q;clear Q;obtain⟨o,q,r,s,f0,f1,f2,f3⟩:=blk4 k;have a1:w.heap.size<F.heap.size:=O;go_enter func173,ntmps173
 go_wp2_with fail
 rw[<-N.out];clear N o q r s f0 f1 f2 f3;refine(Ug B a H x.pre F ad (h1.below K)).mono ?_;rintro P L⟨a3,rfl,m,A⟩;obtain⟨d,h,rfl,_,_⟩:=CS m;have U:=QC m;have R:=A.size;replace k:=k.below A O;replace l:=l.below A O;have z:=τ K A;obtain⟨o,q,r,s,f0,f1,f2,f3⟩:=blk4 k;clear A K
 go_wp2_with fail
 clear o q r s f0 f1 f2 f3;replace k:=k.AZ 0 (.slice d a h);replace l:=l.far (g':=w.heap.size) O 0 (.slice d a h);replace m:=AQ m (g:=w.heap.size) O 0 (.slice d a h);replace z:=z.setCell (p:=Φ w.heap.size) (Ad _) (.slice d a h);have X:Hid (∀E,d=some E->E.block<(L.setCell (Φ w.heap.size) (.slice d a h)).heap.size):=Aa (λE al=>by have:=(U E al).2;simpa[DF]using this);replace R:F.heap.size<=(L.setCell (Φ w.heap.size) (.slice d a h)).heap.size:=by simpa[DF]using R
 clear U;generalize L.setCell (Φ w.heap.size) (.slice d a h)=G at*;refine(Ug C b I x.labels G af (h2.below z)).mono ?_;rintro P V⟨a4,rfl,u,t⟩;obtain⟨e,i,rfl,_,_⟩:=CS u;have S:=t.size;replace k:=k.below t O;replace l:=l.below t O;replace m:=own_below m t;have y:=τ z t;obtain⟨o,q,r,s,f0,f1,f2,f3⟩:=blk4 k;clear t z
 go_wp2_with fail
 clear o q r s f0 f1 f2 f3;replace k:=k.AZ 2 (.slice e b i);replace l:=l.far (g':=w.heap.size) O 2 (.slice e b i);replace m:=AQ m (g:=w.heap.size) O 2 (.slice e b i);replace u:=AQ u (g:=w.heap.size) O 2 (.slice e b i);replace y:=y.setCell (p:=Δ w.heap.size 2) (Ad _) (.slice e b i);replace S:G.heap.size<=(V.setCell (Δ w.heap.size 2) (.slice e b i)).heap.size:=by simpa[DF]using S
 generalize V.setCell (Δ w.heap.size 2) (.slice e b i)=ac at*;refine(YS D c J x.kids ac ah (h3.below y)).mono ?_;rintro P M⟨a5,rfl,T,n⟩;obtain⟨f,j,rfl,_,_⟩:=CS T;have ap:=n.size;replace k:=k.below n O;replace l:=l.below n O;replace m:=own_below m n;replace u:=own_below u n;have Y:=τ y n;obtain⟨o,q,r,s,f0,f1,f2,f3⟩:=blk4 k;obtain⟨aH,aL,aM,aR,ar,av,aw,az⟩:=blk4 l;clear n y
 go_wp2_with fail
 clear o q r s f0 f1 f2 f3 aH aL aM aR ar av aw az;have W:=(((((l.far (g':=w.heap.size) O 3 (Ac f c j)).AZ 0 (Ac d a h)).AZ 1 (Aw .u64 (x.val.toNat:Int))).AZ 2 (Ac e b i)).AZ 3 (Ac f c j));have L6:=(((((Y.setCell (p:=Δ w.heap.size 3) Θ (Ac f c j)).setCell (p:=Φ (w.heap.size+1)) Θ (Ac d a h)).setCell (p:=Δ (w.heap.size+1) 1) Θ (Aw .u64 (x.val.toNat:Int))).setCell (p:=Δ (w.heap.size+1) 2) Θ (Ac e b i)).setCell (p:=Δ (w.heap.size+1) 3) Θ (Ac f c j));have Z:=(AQ (AQ (AQ (AQ (AQ m (g:=w.heap.size) O 3 (Ac f c j)) (g:=w.heap.size+1) O 0 (Ac d a h)) (g:=w.heap.size+1) O 1 (Aw .u64 (x.val.toNat:Int))) (g:=w.heap.size+1) O 2 (Ac e b i)) (g:=w.heap.size+1) O 3 (Ac f c j));have aa:=(AQ (AQ (AQ (AQ (AQ u (g:=w.heap.size) O 3 (Ac f c j)) (g:=w.heap.size+1) O 0 (Ac d a h)) (g:=w.heap.size+1) O 1 (Aw .u64 (x.val.toNat:Int))) (g:=w.heap.size+1) O 2 (Ac e b i)) (g:=w.heap.size+1) O 3 (Ac f c j));have ab:=(AQ (AQ (AQ (AQ (AQ T (g:=w.heap.size) O 3 (Ac f c j)) (g:=w.heap.size+1) O 0 (Ac d a h)) (g:=w.heap.size+1) O 1 (Aw .u64 (x.val.toNat:Int))) (g:=w.heap.size+1) O 2 (Ac e b i)) (g:=w.heap.size+1) O 3 (Ac f c j));have aq:M.heap.size=(((((M.setCell (Δ w.heap.size 3) (Ac f c j)).setCell (Φ (w.heap.size+1)) (Ac d a h)).setCell (Δ (w.heap.size+1) 1) (Aw .u64 (x.val.toNat:Int))).setCell (Δ (w.heap.size+1) 2) (Ac e b i)).setCell (Δ (w.heap.size+1) 3) (Ac f c j)).heap.size:=by simp[DF]
 rw[aq]at ap;generalize(((((M.setCell (Δ w.heap.size 3) (Ac f c j)).setCell (Φ (w.heap.size+1)) (Ac d a h)).setCell (Δ (w.heap.size+1) 1) (Aw .u64 (x.val.toNat:Int))).setCell (Δ (w.heap.size+1) 2) (Ac e b i)).setCell (Δ (w.heap.size+1) 3) (Ac f c j))=a0 at*;obtain⟨aB,aD,aE,aG,_⟩:=blk4 W;subst am an ao;refine bodyPost_ret (v:=.agg #[(Ac d x.pre.length h),(Aw .u64 (x.val.toNat:Int)),(Ac e x.labels.length i),(Ac f x.kids.length j)]) (by simp[results,results173,go_sem,aB,aD,aE,aG]) rfl ?_;exact⟨G.heap.size,d,h,e,i,f,j,rfl,O,O,⟨Fe Z O,X.out⟩,aa,Fe ab O,L6⟩
def Asn(l:List UInt8)(x:UInt8):Bool:=l.any λa=>a.toNat==x.toNat
def WI(x:Nd)(a:UInt8)(b:UInt64):Bool:=Cf x&&decide (a.toNat<16)&& !(b.toNat==0)&& !Asn x.labels a
def Nh(x:Nd)(a:UInt8)(b:UInt64):Nd:={pre:=x.pre,val:=x.val,labels:=ins x.labels (Uw x.labels a) a,kids:=ins x.kids (Uw x.labels a) b}
def Pn:Value:=.tuple #[.agg #[.slice none 0 0,.int .u64 0,.slice none 0 0,.slice none 0 0],.bool false]
def Aar(a:Nd)(b:Nat)(w':World)(e:Ending):Prop:=∃c g d h f i,e=.returned (.tuple #[.agg #[.slice c a.pre.length g,.int .u64 (a.val.toNat:Int),.slice d a.labels.length h,.slice f a.kids.length i],.bool true])/\
 w'.ownsRow b 5 1 (.slice c a.pre.length g) a.pre.length (a.pre.map bv)/\w'.ownsRow b 5 1 (.slice d a.labels.length h) a.labels.length (a.labels.map bv)/\w'.ownsRow b 43 1 (.slice f a.kids.length i) a.kids.length (a.kids.map wv)
def gX{l:List UInt8}(d:ER l=true):∀a b(f:a<l.length)(e:b<l.length),a<b->l[a].toNat<l[b].toNat:=by
 rw[Ht]at d;intro a b f e g;obtain⟨c,rfl⟩:∃c,b=a+1+c:=⟨b-(a+1),O⟩;clear g;induction c with
 |zero=>exact d a e
 |succ c h=>exact Nat.lt_trans (h O) (d (a+1+c) e)
def Aas(i d j:Option Addr)(g q c m h r:Nat)(x:Nd)(a:UInt8)(f:UInt64)(w:World)(P:g<=1000000)(C:c<=1000000)(Q:h<=1000000)(h1:Bs w i g x.pre)(h2:Bs w d c x.labels)(h3:Ws w j h x.kids)(F:WI x a f=false):
 Calls prog 148 #[.agg #[.slice i g q,.int .u64 (x.val.toNat:Int),.slice d c m,.slice j h r],.int .u8 (a.toNat:Int),.int .u64 (f.toNat:Int)] w λs G=>s=.returned Pn/\η w G:=by
 obtain⟨B,D,k,l,e,aa⟩:=KW w 195 (.slice i g q) (.int .u64 (x.val.toNat:Int)) (.slice d c m) (.slice j h r) (.slice none 0 0) (.int .u64 0) (.slice none 0 0) (.slice none 0 0);have A:=Aa D;clear D;obtain⟨I,J,K,L,f0,f1,f2,f3⟩:=blk4 k;have Y:w.heap.size<B.heap.size:=O;have N:=Aa F;clear F;have Z:a.toNat<256:=a.toNat_lt;go_enter func148,ntmps148
 go_wp2_with fail
 rw[<-A.out];clear A;refine(LP i d j g q c m h r x B P C Q (h1.below e) (h2.below e) (h3.below e)).mono ?_;rintro s H⟨rfl,n⟩;clear I J K L f0 f1 f2 f3;replace k:=k.below n O;replace l:=l.below n O;have y:=τ e n;replace h2:=h2.below y;clear n e;obtain⟨I,J,K,L,f0,f1,f2,f3⟩:=blk4 k;obtain⟨ah,al,am,an,ab,ac,ad,af⟩:=blk4 l;cases b:Cf x
 case' true=>
  by_cases R:a.toNat<16
  case' neg=>
   have t1:decide ((16:Int)<=(a.toNat:Int))=true:=by simp;omega
   clear b
   go_wp2_with fail
  case' pos=>
   have t1:decide ((16:Int)<=(a.toNat:Int))=false:=by simp;omega
   by_cases o:f.toNat=0
   case' pos=>
    have t2:((f.toNat:Int)==0)=true:=by rw[o];rfl
    clear b o
    go_wp2_with fail
   case' neg=>
    have t2:((f.toNat:Int)==0)=false:=ζ O;have t:=XC d c m x.labels a H C h2 (gX ((Bv x).1 b).2.2.2.2.1);have E:(x.labels.any λu=>u.toNat==a.toNat)=true:=by
     have:=N.out;unfold WI Asn at this;rw[b]at this;cases S:(x.labels.any λu=>u.toNat==a.toNat)with
     |true=>rfl
     |false=>rw[S]at this;simp[R]at this;exact absurd this o
    rw[E]at t;have z:=Aa t;clear t E o b
    go_wp2_with fail
    refine z.out.mono ?_;rintro s G⟨rfl,rfl⟩;clear z
    go_wp2_with fail
 case' false=>
  clear b
  go_wp2_with fail
 all_goals
  have M:=((((l.AZ 0 (Ac none 0 0)).AZ 1 (Aw .u64 0)).AZ 2 (Ac none 0 0)).AZ 3 (Ac none 0 0));have L6:=(((y.setCell (p:=Φ (w.heap.size+1)) Θ (Ac none 0 0)).setCell (p:=Δ (w.heap.size+1) 1) Θ (Aw .u64 0)).setCell (p:=Δ (w.heap.size+1) 2) Θ (Ac none 0 0)).setCell (p:=Δ (w.heap.size+1) 3) Θ (Ac none 0 0);generalize(((H.setCell (Φ (w.heap.size+1)) (Ac none 0 0)).setCell (Δ (w.heap.size+1) 1) (Aw .u64 0)).setCell (Δ (w.heap.size+1) 2) (Ac none 0 0)).setCell (Δ (w.heap.size+1) 3) (Ac none 0 0)=X at*;obtain⟨T,U,V,W,_⟩:=blk4 M;exact bodyPost_ret (v:=Pn) (by unfold Pn;simp[results,results148,go_sem,T,U,V,W]) rfl ⟨rfl,L6⟩
def qI(M J N:Option Addr)(d W a R b X:Nat)(x:Nd)(f:UInt8)(p:UInt64)(w:World)(b1:d<=1000)(_:a<=1000)(b2:b<=1000)(h1:Bs w M d x.pre)(h2:Bs w J a x.labels)(h3:Ws w N b x.kids)(a4:WI x f p=true):
 Calls prog 148 #[.agg #[.slice M d W,.int .u64 (x.val.toNat:Int),.slice J a R,.slice N b X],.int .u8 (f.toNat:Int),.int .u64 (p.toNat:Int)] w λs ao=>Aar (Nh x f p) (w.heap.size+2) ao s/\η w ao:=by
 obtain⟨aH,aR,c,e,V,ca⟩:=KW w 195 (.slice M d W) (.int .u64 (x.val.toNat:Int)) (.slice J a R) (.slice N b X) (.slice none 0 0) (.int .u64 0) (.slice none 0 0) (.slice none 0 0);have aD:=Aa aR;clear aR;have al:=h1.len;have bl:=h2.len;have bm:=h3.len;obtain⟨C,D,E,F,f0,f1,f2,f3⟩:=blk4 c;have b5:w.heap.size<aH.heap.size:=O;have b6:f.toNat<256:=f.toNat_lt;simp only[WI,Bool.and_eq_true,decide_eq_true_eq,Bool.not_eq_true']at a4;obtain⟨⟨⟨ad,b3⟩,a3⟩,a1⟩:=a4;have af:=(Bv x).1 ad;have t1:decide ((16:Int)<=(f.toNat:Int))=false:=by simp;omega
 have t2:((p.toNat:Int)==0)=false:=by rw[beq_eq_false_iff_ne];rw[beq_eq_false_iff_ne]at a3;omega
 have an:=LP M J N d W a R b X x aH O O O (h1.below V) (h2.below V) (h3.below V);rw[ad]at an;have bc:=Aa an;have az:=Aa (gX af.2.2.2.2.1);have b8:=Ac5 x.labels f;have b7:=af.2.2.1;clear ad af an a3;go_enter func148,ntmps148
 go_wp2_with fail
 rw[<-aD.out];clear aD;refine bc.out.mono ?_;rintro s ap⟨rfl,T⟩;clear C D E F f0 f1 f2 f3 bc;replace c:=c.below T O;replace e:=e.below T O;have P:=τ V T;have bV:w.heap.size+2<=ap.heap.size:=Ω T.size;replace h1:=h1.below P;replace h2:=h2.below P;replace h3:=h3.below P;have am:=XC J a R x.labels f ap O h2 az.out;have a2:(x.labels.any λbN=>bN.toNat==f.toNat)=false:=a1;rw[a2]at am;have aB:=Aa am;generalize a5:Uw x.labels f=Z at*;have aa:=Aa a5;clear T V a2 a1 am a5 az;obtain⟨C,D,E,F,f0,f1,f2,f3⟩:=blk4 c
 go_wp2_with fail
 refine aB.out.mono ?_;rintro s ao⟨rfl,rfl⟩;clear aB
 go_wp2_with fail
 have a0:=ZZ M J N d W a R b X x ap O O O h1 h2 h3;refine a0.mono ?_;rintro s aq⟨av,g,i,q,y,r,z,rfl,b4,bk,⟨n,a6⟩,A,k,Y⟩;clear C D E F f0 f1 f2 f3 a0 h1 h2 h3 t1 t2;replace c:=c.below Y O;replace e:=e.below Y O;have o:=τ P Y;have aw:=Aa a6;clear Y P a6;obtain⟨C,D,E,F,f0,f1,f2,f3⟩:=blk4 c
 go_wp2_with fail
 clear C D E F f0 f1 f2 f3;rw[al]at n;rw[bl]at A;rw[bm]at k;have bp:((((aq.setCell (Φ w.heap.size) (Ac g d i)).setCell (Δ w.heap.size 1) (Aw .u64 (x.val.toNat:Int))).setCell (Δ w.heap.size 2) (Ac q a y)).setCell (Δ w.heap.size 3) (Ac r b z)).heap.size=aq.heap.size:=by simp[DF]
 replace c:=((((c.AZ 0 (Ac g d i)).AZ 1 (Aw .u64 (x.val.toNat:Int))).AZ 2 (Ac q a y)).AZ 3 (Ac r b z));replace e:=((((e.far (g':=w.heap.size) O 0 (Ac g d i)).far (g':=w.heap.size) O 1 (Aw .u64 (x.val.toNat:Int))).far (g':=w.heap.size) O 2 (Ac q a y)).far (g':=w.heap.size) O 3 (Ac r b z));replace n:=(AQ (AQ (AQ (AQ n (g:=w.heap.size) O 0 (Ac g d i)) (g:=w.heap.size) O 1 (Aw .u64 (x.val.toNat:Int))) (g:=w.heap.size) O 2 (Ac q a y)) (g:=w.heap.size) O 3 (Ac r b z));replace A:=(AQ (AQ (AQ (AQ A (g:=w.heap.size) O 0 (Ac g d i)) (g:=w.heap.size) O 1 (Aw .u64 (x.val.toNat:Int))) (g:=w.heap.size) O 2 (Ac q a y)) (g:=w.heap.size) O 3 (Ac r b z));replace k:=(AQ (AQ (AQ (AQ k (g:=w.heap.size) O 0 (Ac g d i)) (g:=w.heap.size) O 1 (Aw .u64 (x.val.toNat:Int))) (g:=w.heap.size) O 2 (Ac q a y)) (g:=w.heap.size) O 3 (Ac r b z));replace o:=((((o.setCell (p:=Φ w.heap.size) Θ (Ac g d i)).setCell (p:=Δ w.heap.size 1) Θ (Aw .u64 (x.val.toNat:Int))).setCell (p:=Δ w.heap.size 2) Θ (Ac q a y)).setCell (p:=Δ w.heap.size 3) Θ (Ac r b z));generalize((((aq.setCell (Φ w.heap.size) (Ac g d i)).setCell (Δ w.heap.size 1) (Aw .u64 (x.val.toNat:Int))).setCell (Δ w.heap.size 2) (Ac q a y)).setCell (Δ w.heap.size 3) (Ac r b z))=t at*;rw[<-bp]at bk⊢;have G:η t (t.alloc (.cells #[Aw .u8 (f.toNat:Int)] 5)):=(Below.refl _ _).alloc (Ad _) _;have aE:CQ (t.alloc (.cells #[Aw .u8 (f.toNat:Int)] 5)) t.heap.size 5 [bv f]:=heap_alloc_new t _;have bW:(t.alloc (.cells #[Aw .u8 (f.toNat:Int)] 5)).heap.size=t.heap.size+1:=by simp
 have ba:=QC A;replace c:=c.ξ G;replace e:=e.ξ G;replace n:=own_below n G;replace A:=own_below A G;replace k:=own_below k G;replace o:=τ o G;clear G;generalize t.alloc (.cells #[Aw .u8 (f.toNat:Int)] 5)=bi at*;have I:=qA (.slice q a y) a Z t.heap.size (x.labels.map bv) (bv f) bi av A O O O (by
  cases q with
  |none=>simp[Ba]
  |some ab=>have:=(ba ab rfl).2;simp[Ba];omega) aE (Iw _) rfl
 rw[qG]at I;have Q:=Aa I;clear I ba;refine Q.out.mono ?_;rintro s ar⟨cb,rfl,B,K,a7⟩;obtain⟨h,j,rfl,_,_⟩:=CS B;clear Q;have S:=NS A k U;have bo:=K.size;replace c:=c.below K O;replace e:=e.below K O;replace n:=Tc n aw.out K;replace k:=Ol k a7 (λac ah s=>S ac s ah);replace o:=o.trans (K.mono O);clear S A a7 K aE;obtain⟨C,D,E,F,f0,f1,f2,f3⟩:=blk4 c
 go_wp2_with fail
 clear C D E F f0 f1 f2 f3;have bw:(ar.setCell (Δ w.heap.size 2) (Ac h (a+1) j)).heap.size=ar.heap.size:=by simp[DF]
 replace c:=(c.AZ 2 (Ac h (a+1) j));replace e:=(e.far (g':=w.heap.size) O 2 (Ac h (a+1) j));replace n:=(AQ n (g:=w.heap.size) O 2 (Ac h (a+1) j));replace B:=(AQ B (g:=w.heap.size) O 2 (Ac h (a+1) j));replace k:=(AQ k (g:=w.heap.size) O 2 (Ac h (a+1) j));replace o:=(o.setCell (p:=Δ w.heap.size 2) Θ (Ac h (a+1) j));generalize(ar.setCell (Δ w.heap.size 2) (Ac h (a+1) j))=u at*;rw[<-bw]at bo⊢;have H:η u (u.alloc (.cells #[Aw .u64 (p.toNat:Int)] 43)):=(Below.refl _ _).alloc (Ad _) _;have aG:CQ (u.alloc (.cells #[Aw .u64 (p.toNat:Int)] 43)) u.heap.size 43 [wv p]:=heap_alloc_new u _;have bX:(u.alloc (.cells #[Aw .u64 (p.toNat:Int)] 43)).heap.size=u.heap.size+1:=by simp
 have bb:=QC k;replace c:=c.ξ H;replace e:=e.ξ H;replace n:=own_below n H;replace B:=own_below B H;replace k:=own_below k H;replace o:=τ o H;clear H;generalize u.alloc (.cells #[Aw .u64 (p.toNat:Int)] 43)=bj at*;have I:=qB (.slice r b z) b Z u.heap.size (x.kids.map wv) (wv p) bj av k O O O (by
  cases r with
  |none=>simp[Ba]
  |some ab=>have:=(bb ab rfl).2;simp[Ba];omega) aG (Qe _) rfl
 rw[qG]at I;have Q:=Aa I;clear I bb;refine Q.out.mono ?_;rintro s bL⟨cc,rfl,a9,L,a8⟩;obtain⟨l,m,rfl,_,_⟩:=CS a9;clear Q;have S:=NS k B U;have b9:=L.size;replace c:=c.below L O;replace e:=e.below L O;replace n:=Tc n aw.out L;replace B:=Ol B a8 (λac ah s=>S ac s ah);replace o:=o.trans (L.mono O);clear S k a8 L aG;obtain⟨C,D,E,F,f0,f1,f2,f3⟩:=blk4 c;obtain⟨bO,bR,bS,bT,bq,br,bs,bt⟩:=blk4 e
 go_wp2_with fail
 clear C D E F f0 f1 f2 f3 bO bR bS bT bq br bs bt;have bd:=(((((e.far (g':=w.heap.size) O 3 (Ac l (b+1) m)).AZ 0 (Ac g d i)).AZ 1 (Aw .u64 (x.val.toNat:Int))).AZ 2 (Ac h (a+1) j)).AZ 3 (Ac l (b+1) m));have L6:=(((((o.setCell (p:=Δ w.heap.size 3) Θ (Ac l (b+1) m)).setCell (p:=Φ (w.heap.size+1)) Θ (Ac g d i)).setCell (p:=Δ (w.heap.size+1) 1) Θ (Aw .u64 (x.val.toNat:Int))).setCell (p:=Δ (w.heap.size+1) 2) Θ (Ac h (a+1) j)).setCell (p:=Δ (w.heap.size+1) 3) Θ (Ac l (b+1) m));have be:=Fe (base':=w.heap.size+2) (AQ (AQ (AQ (AQ (AQ n (g:=w.heap.size) O 3 (Ac l (b+1) m)) (g:=w.heap.size+1) O 0 (Ac g d i)) (g:=w.heap.size+1) O 1 (Aw .u64 (x.val.toNat:Int))) (g:=w.heap.size+1) O 2 (Ac h (a+1) j)) (g:=w.heap.size+1) O 3 (Ac l (b+1) m)) O;have bg:=Fe (base':=w.heap.size+2) (AQ (AQ (AQ (AQ (AQ B (g:=w.heap.size) O 3 (Ac l (b+1) m)) (g:=w.heap.size+1) O 0 (Ac g d i)) (g:=w.heap.size+1) O 1 (Aw .u64 (x.val.toNat:Int))) (g:=w.heap.size+1) O 2 (Ac h (a+1) j)) (g:=w.heap.size+1) O 3 (Ac l (b+1) m)) O;have bh:=Fe (base':=w.heap.size+2) (AQ (AQ (AQ (AQ (AQ a9 (g:=w.heap.size) O 3 (Ac l (b+1) m)) (g:=w.heap.size+1) O 0 (Ac g d i)) (g:=w.heap.size+1) O 1 (Aw .u64 (x.val.toNat:Int))) (g:=w.heap.size+1) O 2 (Ac h (a+1) j)) (g:=w.heap.size+1) O 3 (Ac l (b+1) m)) O;generalize(((((bL.setCell (Δ w.heap.size 3) (Ac l (b+1) m)).setCell (Φ (w.heap.size+1)) (Ac g d i)).setCell (Δ (w.heap.size+1) 1) (Aw .u64 (x.val.toNat:Int))).setCell (Δ (w.heap.size+1) 2) (Ac h (a+1) j)).setCell (Δ (w.heap.size+1) 3) (Ac l (b+1) m))=b0 at*;obtain⟨bx,bA,bB,bE,_⟩:=blk4 bd;have aL:(ins x.labels Z f).length=a+1:=by rw[ZX _ _ _ O];omega
 have aM:(ins x.kids Z p).length=b+1:=by rw[ZX _ _ _ O];omega
 refine bodyPost_ret (v:=.tuple #[.agg #[(Ac g d i),(Aw .u64 (x.val.toNat:Int)),Ac h (a+1) j,Ac l (b+1) m],.bool true]) (by simp[results,results148,go_sem,bx,bA,bB,bE]) rfl ?_;refine⟨⟨g,i,h,j,l,m,?_,?_,?_,?_⟩,L6⟩
 ·simp only[Nh,aa.out,aL,aM,al]
 ·simp only[Nh,al];exact be
 ·simp only[Nh,aa.out,aL];exact bg
 ·simp only[Nh,aa.out,aM];exact bh
def Aat(l:List UInt8)(x:UInt8):Option Nat:=l.findIdx? λa=>a.toNat==x.toNat
def Ahb(x:Nd)(i:Nat):Nd:={pre:=x.pre,val:=x.val,labels:=del x.labels i,kids:=del x.kids i}
def xZ(j e k:Option Addr)(h t d n i u:Nat)(x:Nd)(c:UInt8)(w:World)(af:h<=1000000)(ah:d<=1000000)(al:i<=1000000)(h1:Bs w j h x.pre)(h2:Bs w e d x.labels)(h3:Ws w k i x.kids)(z:Aat x.labels c=none\/Cf x=false):
 Calls prog 145 #[.agg #[.slice j h t,.int .u64 (x.val.toNat:Int),.slice e d n,.slice k i u],.int .u8 (c.toNat:Int)] w λo G=>o=.returned Pn/\η w G:=by
 obtain⟨m,K,W,b,a,ao⟩:=KW w 195 (.slice j h t) (.int .u64 (x.val.toNat:Int)) (.slice e d n) (.slice k i u) (.slice none 0 0) (.int .u64 0) (.slice none 0 0) (.slice none 0 0);have I:=Aa K;clear K;obtain⟨aa,ab,ac,ad,f0,f1,f2,f3⟩:=blk4 W;obtain⟨R,S,T,U,M,N,P,Q⟩:=blk4 b;have am:w.heap.size<m.heap.size:=O;have L:=Uh e d n x.labels c m O (h2.below a);have s:=Aa L;clear L;cases f:Aat x.labels c with
 |none=>
  have g:placeOf (λH=>H.toNat==c.toNat) x.labels= -1:=by rw[placeOf,show x.labels.findIdx? _=none from f]
  have l:=Aa g;clear g f z;go_enter func145,ntmps145
  go_wp2_with fail
  rw[<-I.out];refine s.out.mono ?_;rintro o G⟨rfl,rfl⟩;rw[l.out]
  go_wp2_with fail
  have r:=((((b.AZ 0 (Ac none 0 0)).AZ 1 (Aw .u64 0)).AZ 2 (Ac none 0 0)).AZ 3 (Ac none 0 0));have L6:=(((a.setCell (p:=Φ (w.heap.size+1)) Θ (Ac none 0 0)).setCell (p:=Δ (w.heap.size+1) 1) Θ (Aw .u64 0)).setCell (p:=Δ (w.heap.size+1) 2) Θ (Ac none 0 0)).setCell (p:=Δ (w.heap.size+1) 3) Θ (Ac none 0 0);generalize(((m.setCell (Φ (w.heap.size+1)) (Ac none 0 0)).setCell (Δ (w.heap.size+1) 1) (Aw .u64 0)).setCell (Δ (w.heap.size+1) 2) (Ac none 0 0)).setCell (Δ (w.heap.size+1) 3) (Ac none 0 0)=Y at*;obtain⟨C,D,E,F,_⟩:=blk4 r;exact bodyPost_ret (v:=Pn) (by unfold Pn;simp[results,results145,go_sem,C,D,E,F]) rfl ⟨rfl,L6⟩
 |some A=>
  have J:Cf x=false:=by
   rcases z with q|q
   ·rw[f]at q;cases q
   ·exact q
  have g:placeOf (λH=>H.toNat==c.toNat) x.labels=(A:Int):=by rw[placeOf,show x.labels.findIdx? _=some A from f]
  have l:=Aa g;have an:decide ((A:Int)<0)=false:=by simp
  have B:=LP j e k h t d n i u x m O O O (h1.below a) (h2.below a) (h3.below a);rw[J]at B;have V:=Aa B;clear g f z B J;go_enter func145,ntmps145
  go_wp2_with fail
  rw[<-I.out];refine s.out.mono ?_;rintro o G⟨rfl,rfl⟩;rw[l.out];clear s l
  go_wp2_with fail
  refine V.out.mono ?_;rintro o Z⟨rfl,y⟩;clear aa ab ac ad f0 f1 f2 f3 R S T U M N P Q V;replace b:=b.below y O;have X:=τ a y;clear y a;obtain⟨R,S,T,U,M,N,P,Q⟩:=blk4 b
  go_wp2_with fail
  have r:=((((b.AZ 0 (Ac none 0 0)).AZ 1 (Aw .u64 0)).AZ 2 (Ac none 0 0)).AZ 3 (Ac none 0 0));have L6:=(((X.setCell (p:=Φ (w.heap.size+1)) Θ (Ac none 0 0)).setCell (p:=Δ (w.heap.size+1) 1) Θ (Aw .u64 0)).setCell (p:=Δ (w.heap.size+1) 2) Θ (Ac none 0 0)).setCell (p:=Δ (w.heap.size+1) 3) Θ (Ac none 0 0);generalize(((Z.setCell (Φ (w.heap.size+1)) (Ac none 0 0)).setCell (Δ (w.heap.size+1) 1) (Aw .u64 0)).setCell (Δ (w.heap.size+1) 2) (Ac none 0 0)).setCell (Δ (w.heap.size+1) 3) (Ac none 0 0)=Y at*;obtain⟨C,D,E,F,_⟩:=blk4 r;exact bodyPost_ret (v:=Pn) (by unfold Pn;simp[results,results145,go_sem,C,D,E,F]) rfl ⟨rfl,L6⟩
def qJ(J E K:Option Addr)(c S a N b T:Nat)(x:Nd)(W:UInt8)(i:Nat)(w:World)(bw:c<=1000)(_:a<=1000)(bx:b<=1000)(h1:Bs w J c x.pre)(h2:Bs w E a x.labels)(h3:Ws w K b x.kids)(R:Aat x.labels W=some i)(Z:Cf x=true):
 Calls prog 145 #[.agg #[.slice J c S,.int .u64 (x.val.toNat:Int),.slice E a N,.slice K b T],.int .u8 (W.toNat:Int)] w λn ad=>Aar (Ahb x i) (w.heap.size+2) ad n/\η w ad:=by
 obtain⟨X,av,d,k,H,bO⟩:=KW w 195 (.slice J c S) (.int .u64 (x.val.toNat:Int)) (.slice E a N) (.slice K b T) (.slice none 0 0) (.int .u64 0) (.slice none 0 0) (.slice none 0 0);have ap:=Aa av;clear av;have ab:=h1.len;have a9:=h2.len;have ba:=h3.len;obtain⟨y,z,A,B,f0,f1,f2,f3⟩:=blk4 d;have bB:w.heap.size<X.heap.size:=O;have bL:=((Bv x).1 Z).2.2.1;have az:i<x.labels.length:=by
  unfold Aat at R;rw[List.findIdx?_eq_some_iff_getElem]at R;obtain⟨az,_⟩:=R;exact az
 have aD:placeOf (λbm=>bm.toNat==W.toNat) x.labels=(i:Int):=by rw[placeOf,show x.labels.findIdx? _=some i from R]
 have an:=Aa aD;have bE:decide ((i:Int)<0)=false:=by simp
 have aB:=Uh E a N x.labels W X O (h2.below H);have am:=Aa aB;have ac:=LP J E K c S a N b T x X O O O (h1.below H) (h2.below H) (h3.below H);rw[Z]at ac;have a1:=Aa ac;have bR:IntKind.i64.wrap ((i:Int)+1)=(i:Int)+1:=by rw[IntKind.wrap_i64];omega
 clear aD R aB ac Z;go_enter func145,ntmps145
 go_wp2_with fail
 rw[<-ap.out];clear ap;refine am.out.mono ?_;rintro n ad⟨rfl,rfl⟩;rw[an.out];clear am an
 go_wp2_with fail
 refine a1.out.mono ?_;rintro n a0⟨rfl,Q⟩;clear y z A B f0 f1 f2 f3 a1;replace d:=d.below Q O;replace k:=k.below Q O;have L:=τ H Q;have bs:w.heap.size+2<=a0.heap.size:=Ω Q.size;replace h1:=h1.below L;replace h2:=h2.below L;replace h3:=h3.below L;clear Q H;obtain⟨y,z,A,B,f0,f1,f2,f3⟩:=blk4 d
 go_wp2_with fail
 have aw:=ZZ J E K c S a N b T x a0 O O O h1 h2 h3;refine aw.mono ?_;rintro n af⟨al,e,g,q,t,r,u,rfl,bA,a8,⟨o,aE⟩,I,m,V⟩;clear y z A B f0 f1 f2 f3 aw h1 h2 h3;replace d:=d.below V O;replace k:=k.below V O;have s:=τ L V;have ao:=Aa aE;clear V L aE;obtain⟨y,z,A,B,f0,f1,f2,f3⟩:=blk4 d
 go_wp2_with fail
 clear y z A B f0 f1 f2 f3;rw[ab]at o;rw[a9]at I;rw[ba]at m;have aG:((((af.setCell (Φ w.heap.size) (Ac e c g)).setCell (Δ w.heap.size 1) (Aw .u64 (x.val.toNat:Int))).setCell (Δ w.heap.size 2) (Ac q a t)).setCell (Δ w.heap.size 3) (Ac r b u)).heap.size=af.heap.size:=by simp[DF]
 replace d:=((((d.AZ 0 (Ac e c g)).AZ 1 (Aw .u64 (x.val.toNat:Int))).AZ 2 (Ac q a t)).AZ 3 (Ac r b u));replace k:=((((k.far (g':=w.heap.size) O 0 (Ac e c g)).far (g':=w.heap.size) O 1 (Aw .u64 (x.val.toNat:Int))).far (g':=w.heap.size) O 2 (Ac q a t)).far (g':=w.heap.size) O 3 (Ac r b u));replace o:=(AQ (AQ (AQ (AQ o (g:=w.heap.size) O 0 (Ac e c g)) (g:=w.heap.size) O 1 (Aw .u64 (x.val.toNat:Int))) (g:=w.heap.size) O 2 (Ac q a t)) (g:=w.heap.size) O 3 (Ac r b u));replace I:=(AQ (AQ (AQ (AQ I (g:=w.heap.size) O 0 (Ac e c g)) (g:=w.heap.size) O 1 (Aw .u64 (x.val.toNat:Int))) (g:=w.heap.size) O 2 (Ac q a t)) (g:=w.heap.size) O 3 (Ac r b u));replace m:=(AQ (AQ (AQ (AQ m (g:=w.heap.size) O 0 (Ac e c g)) (g:=w.heap.size) O 1 (Aw .u64 (x.val.toNat:Int))) (g:=w.heap.size) O 2 (Ac q a t)) (g:=w.heap.size) O 3 (Ac r b u));replace s:=((((s.setCell (p:=Φ w.heap.size) Θ (Ac e c g)).setCell (p:=Δ w.heap.size 1) Θ (Aw .u64 (x.val.toNat:Int))).setCell (p:=Δ w.heap.size 2) Θ (Ac q a t)).setCell (p:=Δ w.heap.size 3) Θ (Ac r b u));generalize((((af.setCell (Φ w.heap.size) (Ac e c g)).setCell (Δ w.heap.size 1) (Aw .u64 (x.val.toNat:Int))).setCell (Δ w.heap.size 2) (Ac q a t)).setCell (Δ w.heap.size 3) (Ac r b u))=a6 at*;rw[<-aG]at a8;clear aG;have C:=qC (.slice q a t) a i (x.labels.map bv) a6 al I O O O (Iw _);rw[qH]at C;have M:=Aa C;clear C;refine M.out.mono ?_;rintro n ah⟨bS,rfl,D,F,aH⟩;obtain⟨f,h,rfl,_,_⟩:=CS D;clear M;have P:=NS I m U;have bb:=F.size;replace d:=d.below F O;replace k:=k.below F O;replace o:=Tc o ao.out F;replace m:=Ol m aH (λY aa n=>P Y n aa);replace s:=s.trans (F.mono O);clear P I aH F;obtain⟨y,z,A,B,f0,f1,f2,f3⟩:=blk4 d
 go_wp2_with fail
 clear y z A B f0 f1 f2 f3;have aR:(ah.setCell (Δ w.heap.size 2) (Ac f (a-1) h)).heap.size=ah.heap.size:=by simp[DF]
 replace d:=(d.AZ 2 (Ac f (a-1) h));replace k:=(k.far (g':=w.heap.size) O 2 (Ac f (a-1) h));replace o:=(AQ o (g:=w.heap.size) O 2 (Ac f (a-1) h));replace D:=(AQ D (g:=w.heap.size) O 2 (Ac f (a-1) h));replace m:=(AQ m (g:=w.heap.size) O 2 (Ac f (a-1) h));replace s:=(s.setCell (p:=Δ w.heap.size 2) Θ (Ac f (a-1) h));generalize(ah.setCell (Δ w.heap.size 2) (Ac f (a-1) h))=a7 at*;rw[<-aR]at bb;clear aR;have C:=qE (.slice r b u) b i (x.kids.map wv) a7 al m O O O (Qe _);rw[qH]at C;have M:=Aa C;clear C;refine M.out.mono ?_;rintro n bl⟨bT,rfl,aM,G,aL⟩;obtain⟨j,l,rfl,_,_⟩:=CS aM;clear M;have P:=NS m D U;have bN:=G.size;replace d:=d.below G O;replace k:=k.below G O;replace o:=Tc o ao.out G;replace D:=Ol D aL (λY aa n=>P Y n aa);replace s:=s.trans (G.mono O);clear P m aL G;obtain⟨y,z,A,B,f0,f1,f2,f3⟩:=blk4 d;obtain⟨bo,bp,bq,br,bc,bd,be,bg⟩:=blk4 k
 go_wp2_with fail
 clear y z A B f0 f1 f2 f3 bo bp bq br bc bd be bg;have a2:=(((((k.far (g':=w.heap.size) O 3 (Ac j (b-1) l)).AZ 0 (Ac e c g)).AZ 1 (Aw .u64 (x.val.toNat:Int))).AZ 2 (Ac f (a-1) h)).AZ 3 (Ac j (b-1) l));have L6:=(((((s.setCell (p:=Δ w.heap.size 3) Θ (Ac j (b-1) l)).setCell (p:=Φ (w.heap.size+1)) Θ (Ac e c g)).setCell (p:=Δ (w.heap.size+1) 1) Θ (Aw .u64 (x.val.toNat:Int))).setCell (p:=Δ (w.heap.size+1) 2) Θ (Ac f (a-1) h)).setCell (p:=Δ (w.heap.size+1) 3) Θ (Ac j (b-1) l));have a3:=Fe (base':=w.heap.size+2) (AQ (AQ (AQ (AQ (AQ o (g:=w.heap.size) O 3 (Ac j (b-1) l)) (g:=w.heap.size+1) O 0 (Ac e c g)) (g:=w.heap.size+1) O 1 (Aw .u64 (x.val.toNat:Int))) (g:=w.heap.size+1) O 2 (Ac f (a-1) h)) (g:=w.heap.size+1) O 3 (Ac j (b-1) l)) O;have a4:=Fe (base':=w.heap.size+2) (AQ (AQ (AQ (AQ (AQ D (g:=w.heap.size) O 3 (Ac j (b-1) l)) (g:=w.heap.size+1) O 0 (Ac e c g)) (g:=w.heap.size+1) O 1 (Aw .u64 (x.val.toNat:Int))) (g:=w.heap.size+1) O 2 (Ac f (a-1) h)) (g:=w.heap.size+1) O 3 (Ac j (b-1) l)) O;have a5:=Fe (base':=w.heap.size+2) (AQ (AQ (AQ (AQ (AQ aM (g:=w.heap.size) O 3 (Ac j (b-1) l)) (g:=w.heap.size+1) O 0 (Ac e c g)) (g:=w.heap.size+1) O 1 (Aw .u64 (x.val.toNat:Int))) (g:=w.heap.size+1) O 2 (Ac f (a-1) h)) (g:=w.heap.size+1) O 3 (Ac j (b-1) l)) O;generalize(((((bl.setCell (Δ w.heap.size 3) (Ac j (b-1) l)).setCell (Φ (w.heap.size+1)) (Ac e c g)).setCell (Δ (w.heap.size+1) 1) (Aw .u64 (x.val.toNat:Int))).setCell (Δ (w.heap.size+1) 2) (Ac f (a-1) h)).setCell (Δ (w.heap.size+1) 3) (Ac j (b-1) l))=bt at*;obtain⟨bh,bi,bj,bk,_⟩:=blk4 a2;have aq:(del x.labels i).length=a-1:=by rw[ZY _ _ O];omega
 have ar:(del x.kids i).length=b-1:=by rw[ZY _ _ O];omega
 refine bodyPost_ret (v:=.tuple #[.agg #[(Ac e c g),(Aw .u64 (x.val.toNat:Int)),Ac f (a-1) h,Ac j (b-1) l],.bool true]) (by simp[results,results145,go_sem,bh,bi,bj,bk]) rfl ?_;refine⟨⟨e,g,f,h,j,l,?_,?_,?_,?_⟩,L6⟩
 ·simp only[Ahb,aq,ar,ab]
 ·simp only[Ahb,ab];exact a3
 ·simp only[Ahb,aq];exact a4
 ·simp only[Ahb,ar];exact a5
