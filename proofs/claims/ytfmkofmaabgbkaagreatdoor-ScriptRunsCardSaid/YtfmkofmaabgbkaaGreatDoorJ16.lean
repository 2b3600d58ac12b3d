import Derived.Lib.AppendZerosOnto
import Derived.Lib.Overlaps
import Derived.Deep.MidRow
import Derived.Deep.LoopGhost
import Derived.Test.YtfmkofmaabgbkaaGreatDoorJ04
set_option linter.defProp false
set_option maxHeartbeats 32000000
set_option maxRecDepth 100000
open List renaming getElem?_eq_some_iff->Cb,length_drop->AQ,getElem?_drop->D7,mem_of_mem_drop->Hy,length_cons->Bv,length_nil->Dx,getElem?_eq_getElem->Ah,length_take->Ed,getElem?_take->Di,take_of_length_le->EL,drop_of_length_le->DR,length_eq_zero_iff->pV,replicate->BB,getElem_of_mem->Dw,any_eq_false->Agw,map_take->qm,map_drop->Oo
open Array renaming getElem?_eq_getElem->FB,append_assoc->Abn,getElem?_append_left->fK,getElem?_eq_some_iff->AA,getElem?_push->GH
open Go.World renaming frozen?->Jg,shape?->Xe,isSome_setCells->GV,cell?_setCells_out->Ku,frozen?_setCells->GG,cell?_alloc_at->J8,frozen?_alloc_at->pU,cell?_alloc_past->Dc,setCell->D9
open Nat renaming zero_add->DI,min_def->Le,mul_one->LU,lt_or_ge->Nu,le_refl->Ae
open Go.Lib renaming run_overlaps_apart->xe,run_append_grow_zeros->lG,wpList_append_run->FT,hid->Ac,run_clear_slice->Adb
open Go.Value renaming int->Aw,cells->xG,slice->Ad,ownBlock->AV
open Go.Value renaming slice->fD,int->fP,bool->fU,tuple->gJ,agg->gU
open Go.Ending renaming returned->gY
open Go.IntKind renaming i64->gZ,u64->ig
open Go.Obj renaming cells->iy
open Option renaming some->iC,none->iD
open Bool renaming true->jm,false->jw
open Go renaming World->jD,Value->jL
namespace Go.Proofs.YtfmkofmaabgbkaaGreatDoor
open Go.RowKit
open Go.Proofs.Tryz
def wp_copy_runI{P:Program}(w:jD){o:Oper}{a:Act}{K:Act->jD->Prop}{e:Exit->Act->jD->Prop}(d s:Operand)(t b:TypeId)
 (g:o.op=.call {callee:=.builtin .copy,args:= #[d,s],argTypes:= #[t,b]})(v u:jL)(f:a.eval d=v)(j:a.eval s=u){c:jL}{w':jD}
 (i:(Builtin.copy_ #[t,b] o.type #[v,u]).run P w=.ok c w')(h:K (a.put o.dst c) w'):o.wp P a w K e:=by
 unfold Oper.wp execOp;simp only[g,resolve,invoke,builtin,Sem.run_bind,Sem.run_pure,Result.andThen_ok,List.map_toArray,List.map_cons,List.map_nil,f,j,i];exact h
def wpList_copy_runI{P:Program}(w:jD){e:Array Oper}{rest:List Oper}{o:Oper}{a:Act}{c:Exit->Act->jD->Prop}(j:o.guard=iD)(d s:Operand)(t b:TypeId)
 (k:o.op=.call {callee:=.builtin .copy,args:= #[d,s],argTypes:= #[t,b]})(v u:jL)(i:a.eval d=v)(m:a.eval s=u){f:jL}{w':jD}
 (l:(Builtin.copy_ #[t,b] o.type #[v,u]).run P w=.ok f w')(h:wpList P e c rest (a.put o.dst f) w'):wpList P e c (o::rest) a w:=
 wpList_plain j λ_ g=>wp_copy_runI w d s t b k v u i m l (g _ _ h)
def step_copy_runI{P:Program}{c:Array Oper}{o:Oper}{a:Act}{w:jD}{K:Act->jD->Prop}{g:Exit->Act->jD->Prop}{E:Prop}
 (k:o.guard=iD)(d x:Operand)(b e:TypeId)(l:o.op=Op.call {callee:=Callee.builtin Builtin.copy,args:= #[d,x],argTypes:= #[b,e]})
 (v u:jL)(j:a.eval d=v)(p:a.eval x=u){f:jL}{w':jD}(m:(Builtin.copy_ #[b,e] o.type #[v,u]).run P w=.ok f w')(i:K (a.put o.dst f) w'):
 if Region.wanted o (yielded c a.tmps)=jm then Oper.wp P o a w K g else E:=by
 have n:Region.wanted o (yielded c a.tmps)=jm:=by simp[Region.wanted,k]
 rw[jM n];unfold Oper.wp;simp[execOp,l,resolve,invoke,builtin,j,p,m,Result.andThen];exact i
def iq(g n c i e:Nat)(xs:List jL)(u:jL)(w:jD)(S:Nat)(r:w.ownsRow S 5 1 (fD (iC (Φ g)) n c) n xs)(hi:i<n)(av:n+1<=c)(aq:c<=9223372036854775807)(P:e≠g)(d:CB w e 5 [u])
 (E:∀b∈xs,b.oneCell'=jm)(V:u.oneCell'=jm):
 Calls prog 213 #[fD (iC (Φ g)) n c,fP gZ i,fD (iC (Φ e)) 1 1] w λT ad=>
  T=gY (fD (iC (Φ g)) (n+1) c)/\ad=(w.drew.setCells g (i+1) (xs.drop i)).setCells g i [u]:=by
 have H:xs.length=n:=by simpa using r.1
 have x:∀a b,xs[a]?=iC b->w.cell? (Δ g a)=iC b:=λa b h=>by
  rw[r.cellAt a (Ω ((Cb.1 h).1))];exact h
 have X:∃m:Array jL,w.heap[g]?=iC (iy m 5 (0,0))/\m.size=c:=by
  rcases r.2 with⟨F,_⟩|⟨ah,ae,m,R,_,Z,_,_,x,_⟩
  ·cases F
  ·simp only[Value.slice.injEq,Option.some.injEq,Addr.mk.injEq,and_true,true_and]at R;obtain⟨rfl,rfl⟩:=R;exact⟨m,Z,O⟩
 obtain⟨m,q,J⟩:=X;have A:∀a,a<n+1->(w.cell? (Δ g a)).isSome=jm:=λa f=>by
  rw[cell_of_row w g a _ 5 (0,0) q,FB O];rfl
 have z:∀a,w.frozen? (Δ g a)=jw:=λa=>by simp[Jg,q]
 have M:w.shape? g=iC (5,c):=by simp[Xe,q,J]
 have L:w.shape? e=iC (5,1):=by unfold CB at d;simp[Xe,d]
 have y:∀a,w.frozen? (Δ e a)=jw:=λa=>d.frozen a
 have Q:∀a b,[u][a]?=iC b->w.cell? (Δ e (0+a))=iC b:=λa b h=>by rw[d.cell,DI];exact h
 have B:(prog.info? 5).map (·.size)=iC 1:=by
  obtain⟨aD,aa,al,U,F⟩:=info_parts Tryz.I4.hi;rw[aa];simp[U]
 have ac:∀C v,(callFunc 225 #[fD (iC (Φ e)) 1 1,fD (iC (Δ g (i+1))) C v]).run prog w=.ok (.value (fU jw)) w:=λC v=>by
  rw[run_callFunc_extern func225 Γ Γ Γ (e:=Extern.SlicesOverlaps.overlaps #[22,22] #[4]) Γ,
   xe w 22 4 5 underlying22 1 Tryz.I4.QW (Φ e) (Δ g (i+1)) 1 1 C v P 5 5 1 c L M O (y 0) (y 1)]
  rfl
 have K:(xs.drop i).length=n-i:=by rw[AQ,H]
 have az:IntKind.i64.wrap ((i:Int)+1)=(i:Int)+1:=by rw[IntKind.wrap_i64];omega
 have am:(0:Int)<=(i:Int)+1:=O;have ar:i<=n:=O;have aw:((i:Int)+1).toNat=i+1:=O;have an:¬(c=i+1):=O;have ao:(i:Int)<=(n:Int)+1:=O;have ap:¬(c=i):=O;have I:∀k j D,(Builtin.copy_ #[22,22] k #[fD (iC (Δ g (i+1))) (n-i) j,fD (iC (Δ g i)) (n+1-i) D]).run prog w.drew=.ok (goInt (xs.drop i).length) (w.drew.setCells g (i+1) (xs.drop i)):=λk j D=>
  run_copy_cells w.drew _ _ k 5 g (i+1) (n-i) j (Δ g i) (n+1-i) D (xs.drop i) underlying22 B (by rw[K];simp only[Le];split<;>omega)
   (λa b f=>by rw[Addr.add_lit];exact x (i+a) b (by rwa [D7]at f))
   (λa f=>A _ O) (λa f=>z _) (λb d=>E b (Hy d))
 obtain⟨t,p⟩:=ε (w.drew.setCells g (i+1) (xs.drop i));have N:∀s,s<n+1->(t.cell? (Δ g s)).isSome=jm:=λs ab=>by
  rw[p];exact GV g _ _ _ _ (A s ab)
 have Y:∀(l:jD),(∀o,l.cell? o=t.cell? o)->(∀o,l.frozen? o=t.frozen? o)->∀k j,(Builtin.copy_ #[22,22] k #[fD (iC (Δ g i)) (n+1-i) j,fD (iC (Φ e)) 1 1]).run prog l=.ok (goInt [u].length) (l.setCells g i [u]):=λl G W k j=>
  run_copy_cells l _ _ k 5 g i (n+1-i) j (Φ e) 1 1 [u] underlying22 B (by simp only[Le,Bv,Dx];split<;>omega)
   (λa b f=>by
    rw[Addr.add_lit,G,p,Ku g _ _ _ _ (λh _=>absurd h P)];exact Q a b f)
   (λa f=>by rw[G];exact N _ (by simp at f;omega)) (λa f=>by rw[W,p,GG];exact z _) (λb d=>by simp at d;subst d;exact V)
 rw[<-p]at I;clear r x A z M L y Q d E q J N B H K;go_enter func213,ntmps213
 go_wp2_with(simp only[ac])
 go_region_law(refine step_copy_runI rfl _ _ 22 22 rfl _ _ (by simp[Act.eval,Act.put]) (by simp[Act.eval,Act.put]) (I _ _ _) ?_)
 go_wp2_with(at_builtin;refine wpList_copy_runI _ rfl _ _ 22 22 rfl _ _ rfl rfl (Y _ (λ_=>rfl) (λ_=>rfl) _ _) ?_)
 go_ret;exact⟨rfl,rfl⟩
def iw(g n c i e:Nat)(xs:List jL)(u:jL)(w:jD)(S:Nat)(r:w.ownsRow S 40 1 (fD (iC (Φ g)) n c) n xs)(hi:i<n)(av:n+1<=c)(aq:c<=9223372036854775807)(P:e≠g)(d:CB w e 40 [u])
 (E:∀b∈xs,b.oneCell'=jm)(V:u.oneCell'=jm):
 Calls prog 214 #[fD (iC (Φ g)) n c,fP gZ i,fD (iC (Φ e)) 1 1] w λT ad=>
  T=gY (fD (iC (Φ g)) (n+1) c)/\ad=(w.drew.setCells g (i+1) (xs.drop i)).setCells g i [u]:=by
 have H:xs.length=n:=by simpa using r.1
 have x:∀a b,xs[a]?=iC b->w.cell? (Δ g a)=iC b:=λa b h=>by
  rw[r.cellAt a (Ω ((Cb.1 h).1))];exact h
 have X:∃m:Array jL,w.heap[g]?=iC (iy m 40 (0,0))/\m.size=c:=by
  rcases r.2 with⟨F,_⟩|⟨ah,ae,m,R,_,Z,_,_,x,_⟩
  ·cases F
  ·simp only[Value.slice.injEq,Option.some.injEq,Addr.mk.injEq,and_true,true_and]at R;obtain⟨rfl,rfl⟩:=R;exact⟨m,Z,O⟩
 obtain⟨m,q,J⟩:=X;have A:∀a,a<n+1->(w.cell? (Δ g a)).isSome=jm:=λa f=>by
  rw[cell_of_row w g a _ 40 (0,0) q,FB O];rfl
 have z:∀a,w.frozen? (Δ g a)=jw:=λa=>by simp[Jg,q]
 have M:w.shape? g=iC (40,c):=by simp[Xe,q,J]
 have L:w.shape? e=iC (40,1):=by unfold CB at d;simp[Xe,d]
 have y:∀a,w.frozen? (Δ e a)=jw:=λa=>d.frozen a
 have Q:∀a b,[u][a]?=iC b->w.cell? (Δ e (0+a))=iC b:=λa b h=>by rw[d.cell,DI];exact h
 have B:(prog.info? 40).map (·.size)=iC 1:=by
  obtain⟨aD,aa,al,U,F⟩:=info_parts Tryz.Je.hi;rw[aa];simp[U]
 have ac:∀C v,(callFunc 227 #[fD (iC (Φ e)) 1 1,fD (iC (Δ g (i+1))) C v]).run prog w=.ok (.value (fU jw)) w:=λC v=>by
  rw[run_callFunc_extern func227 Γ Γ Γ (e:=Extern.SlicesOverlaps.overlaps #[89,89] #[4]) Γ,
   xe w 89 4 40 underlying89 1 Tryz.Je.QW (Φ e) (Δ g (i+1)) 1 1 C v P 40 40 1 c L M O (y 0) (y 1)]
  rfl
 have K:(xs.drop i).length=n-i:=by rw[AQ,H]
 have az:IntKind.i64.wrap ((i:Int)+1)=(i:Int)+1:=by rw[IntKind.wrap_i64];omega
 have am:(0:Int)<=(i:Int)+1:=O;have ar:i<=n:=O;have aw:((i:Int)+1).toNat=i+1:=O;have an:¬(c=i+1):=O;have ao:(i:Int)<=(n:Int)+1:=O;have ap:¬(c=i):=O;have I:∀k j D,(Builtin.copy_ #[89,89] k #[fD (iC (Δ g (i+1))) (n-i) j,fD (iC (Δ g i)) (n+1-i) D]).run prog w.drew=.ok (goInt (xs.drop i).length) (w.drew.setCells g (i+1) (xs.drop i)):=λk j D=>
  run_copy_cells w.drew _ _ k 40 g (i+1) (n-i) j (Δ g i) (n+1-i) D (xs.drop i) underlying89 B (by rw[K];simp only[Le];split<;>omega)
   (λa b f=>by rw[Addr.add_lit];exact x (i+a) b (by rwa [D7]at f))
   (λa f=>A _ O) (λa f=>z _) (λb d=>E b (Hy d))
 obtain⟨t,p⟩:=ε (w.drew.setCells g (i+1) (xs.drop i));have N:∀s,s<n+1->(t.cell? (Δ g s)).isSome=jm:=λs ab=>by
  rw[p];exact GV g _ _ _ _ (A s ab)
 have Y:∀(l:jD),(∀o,l.cell? o=t.cell? o)->(∀o,l.frozen? o=t.frozen? o)->∀k j,(Builtin.copy_ #[89,89] k #[fD (iC (Δ g i)) (n+1-i) j,fD (iC (Φ e)) 1 1]).run prog l=.ok (goInt [u].length) (l.setCells g i [u]):=λl G W k j=>
  run_copy_cells l _ _ k 40 g i (n+1-i) j (Φ e) 1 1 [u] underlying89 B (by simp only[Le,Bv,Dx];split<;>omega)
   (λa b f=>by
    rw[Addr.add_lit,G,p,Ku g _ _ _ _ (λh _=>absurd h P)];exact Q a b f)
   (λa f=>by rw[G];exact N _ (by simp at f;omega)) (λa f=>by rw[W,p,GG];exact z _) (λb d=>by simp at d;subst d;exact V)
 rw[<-p]at I;clear r x A z M L y Q d E q J N B H K;go_enter func214,ntmps214
 go_wp2_with(simp only[ac])
 go_region_law(refine step_copy_runI rfl _ _ 89 89 rfl _ _ (by simp[Act.eval,Act.put]) (by simp[Act.eval,Act.put]) (I _ _ _) ?_)
 go_wp2_with(at_builtin;refine wpList_copy_runI _ rfl _ _ 89 89 rfl _ _ rfl rfl (Y _ (λ_=>rfl) (λ_=>rfl) _ _) ?_)
 go_ret;exact⟨rfl,rfl⟩
def nU(g n c i m:Nat)(xs:List jL)(u:jL)(w:jD)(ab:Nat)(z:w.ownsRow ab 5 1 (fD (iC (Φ g)) n c) n xs)(hi:i<n)(ar:c<n+1)(aM:n<=1000000)(p:CB w m 5 [u])
 (M:∀b∈xs,b.oneCell'=jm)(ac:u.oneCell'=jm):
 Calls prog 213 #[fD (iC (Φ g)) n c,fP gZ i,fD (iC (Φ m)) 1 1] w λt B=>∃f e,n+1<=f/\f<=maxLen/\e.size=f/\(∀a,a<i->e[a]?=xs[a]?)/\
  t=gY (fD (iC (Φ w.heap.size)) (n+1) f)/\
  B=(((w.alloc (iy e 5)).drew.setCells w.heap.size i [u]).drew).setCells w.heap.size (i+1) (xs.drop i):=by
 have T:xs.length=n:=by simpa using z.1
 have y:∀a b,xs[a]?=iC b->w.cell? (Δ g a)=iC b:=λa b h=>by
  rw[z.cellAt a (Ω ((Cb.1 h).1))];exact h
 have aq:n<=c:=(CQ z).1;have Y:∀a b,[u][a]?=iC b->w.cell? (Δ m (0+a))=iC b:=λa b h=>by rw[p.cell,DI];exact h
 have av:m<w.heap.size:=p.lt;have ao:g<w.heap.size:=block_lt_of_cell (y 0 _ (Ah O));obtain⟨aa,G,Z,K,J⟩:=info_parts Tryz.I4.hi;have aW:(c:Int)<(n:Int)+1:=O;have I:(prog.info? 5).map (·.size)=iC 1:=by rw[G];simp[K]
 have W:(n:Int)+1-(i:Int)=((n+1-i:Nat):Int):=O;have H:i+(n+1-i)=n+1:=O;have X:(Builtin.firstCells aa.size i (fD (iC (Φ g)) i c)).run prog w.drew=.ok (xs.take i).toArray w.drew:=by
  rw[K];exact run_firstCells_some w.drew 1 i (Φ g) i c (xs.take i) (by rw[Ed];omega) (λa b j=>by
   rw[Addr.add_lit,DI];rw[Di]at j;split at j
   ·exact y a b j
   ·cases j)
 have A:∀l,(Builtin.append_ #[22,3] l #[fD (iC (Φ g)) i c,fP gZ ((n:Int)+1-(i:Int))]).run prog w=
  .ok (fD (iC (Φ w.heap.size)) (n+1) (grownCap w (n+1) c 5)) (w.drew.alloc (iy ((xs.take i).toArray++Builtin.zeroCells (Aw .u8 0).cells (n+1-i)++Builtin.zeroCells (Aw .u8 0).cells (grownCap w (n+1) c 5-(n+1))) 5)):=λl=>by
  have h:=lG w 22 3 l 5 aa _ gZ gZ underlying22 underlying3 G Z (iC (Φ g)) i c (xs.take i) X (n+1-i) O O O O (by rw[J];omega) (by rw[J,H];exact growslice_fits ar O);rw[H]at h;rw[W];exact h
 obtain⟨f,v⟩:=ε (grownCap w (n+1) c 5);obtain⟨e,x⟩:∃e:Array jL,e=(xs.take i).toArray++Builtin.zeroCells (Aw .u8 0).cells (n+1-i)++Builtin.zeroCells (Aw .u8 0).cells (f-(n+1)):=⟨_,rfl⟩;rw[<-v]at A;rw[<-x]at A;have am:n+1<=f:=by rw[v];exact grownCap_ge w _ _ _
 have C:f<=maxLen:=by rw[v];exact grownCap_le_maxLen w (n+1) c 5 (by unfold maxLen;omega)
 have S:e.size=f:=by
  rw[x];simp[Builtin.zeroCells,xG];omega
 have Q:∀a,a<i->e[a]?=xs[a]?:=λa j=>by
  rw[x,Abn,fK (by simp;omega)];simp[j]
 obtain⟨o,r⟩:=ε (w.drew.alloc (iy e 5));rw[<-r]at A;have D:∀a,a<n+1->(o.cell? (Δ w.heap.size a)).isSome=jm:=λa j=>by
  rw[r,J8 (w:=w.drew) e _ w.heap.size a rfl,FB O];rfl
 have E:∀a,o.frozen? (Δ w.heap.size a)=jw:=λa=>by rw[r];exact pU (w:=w.drew) e _ w.heap.size a rfl
 have N:∀a b,w.cell? (Δ g a)=iC b->o.cell? (Δ g a)=iC b:=λa b h=>by rw[r,Dc (w:=w.drew) _ g a ao];exact h
 have P:∀a b,w.cell? (Δ m a)=iC b->o.cell? (Δ m a)=iC b:=λa b h=>by rw[r,Dc (w:=w.drew) _ m a av];exact h
 have ap:∀(k:jD),(∀d,k.cell? d=o.cell? d)->(∀d,k.frozen? d=o.frozen? d)->∀l q,(Builtin.copy_ #[22,22] l #[fD (iC (Δ w.heap.size i)) (n+1-i) q,fD (iC (Φ m)) 1 1]).run prog k=.ok (goInt [u].length) (k.setCells w.heap.size i [u]):=λk s F l q=>
  run_copy_cells k _ _ l 5 w.heap.size i (n+1-i) q (Φ m) 1 1 [u] underlying22 I (by simp only[Le,Bv,Dx];split<;>omega)
   (λa b j=>by rw[Addr.add_lit,s];exact P _ b (Y a b j))
   (λa j=>by rw[s];exact D _ (by simp at j;omega)) (λa j=>by rw[F];exact E _) (λb p=>by simp at p;subst p;exact ac)
 have az:f<=9223372036854775807:=by unfold maxLen at C;omega
 have aD:¬(f=i):=O;have aE:¬(f=i+1):=O;have aL:¬(c=i):=O;have an:g≠w.heap.size:=O;have V:(xs.drop i).length=n-i:=by rw[AQ,T]
 have U:∀(k:jD),(∀d,k.cell? d=(o.setCells w.heap.size i [u]).cell? d)->(∀d,k.frozen? d=(o.setCells w.heap.size i [u]).frozen? d)->∀l q L,(Builtin.copy_ #[22,22] l #[fD (iC (Δ w.heap.size (i+1))) (n-i) q,fD (iC (Δ g i)) (n-i) L]).run prog k=.ok (goInt (xs.drop i).length) (k.setCells w.heap.size (i+1) (xs.drop i)):=λk s F l q L=>
  run_copy_cells k _ _ l 5 w.heap.size (i+1) (n-i) q (Δ g i) (n-i) L (xs.drop i) underlying22 I (by rw[V];simp only[Le];split<;>omega)
   (λa b j=>by
    rw[Addr.add_lit,s,Ku _ _ _ _ _ (λh _=>absurd h an)];exact N _ b (y (i+a) b (by rwa [D7]at j)))
   (λa j=>by rw[s];exact GV _ _ _ _ _ (D _ O))
   (λa j=>by rw[F,GG];exact E _) (λb p=>M b (Hy p))
 subst r;have ad:∀d,((w.alloc (iy e 5)).drew).cell? d=(w.drew.alloc (iy e 5)).cell? d:=λd=>rfl
 have ae:∀d,((w.alloc (iy e 5)).drew).frozen? d=(w.drew.alloc (iy e 5)).frozen? d:=λd=>rfl
 have ah:∀d,(((w.alloc (iy e 5)).drew.setCells w.heap.size i [u]).drew).cell? d=((w.drew.alloc (iy e 5)).setCells w.heap.size i [u]).cell? d:=λd=>rfl
 have al:∀d,(((w.alloc (iy e 5)).drew.setCells w.heap.size i [u]).drew).frozen? d=((w.drew.alloc (iy e 5)).setCells w.heap.size i [u]).frozen? d:=λd=>rfl
 have aV:IntKind.i64.wrap ((i:Int)+1)=(i:Int)+1:=by rw[IntKind.wrap_i64];omega
 have aF:(0:Int)<=(i:Int)+1:=O;have aR:((i:Int)+1).toNat=i+1:=O;have aJ:(i:Int)<=(n:Int):=O;have aw:i<=c:=O;refine Calls.mono (R:=λt B=>t=gY (fD (iC (Φ w.heap.size)) (n+1) f)/\B=(((w.alloc (iy e 5)).drew.setCells w.heap.size i [u]).drew).setCells w.heap.size (i+1) (xs.drop i)) ?_ (λt B h=>⟨f,e,am,C,S,Q,h⟩);clear W H X x v S Q z y aq Y p M D E N P G Z K J I T V C;go_enter func213,ntmps213
 go_wp2_with(first
  |(at_builtin;refine FT _ rfl _ _ _ _ rfl _ _ rfl rfl _ _ (A _) ?_)
  |(at_builtin;refine wpList_copy_runI _ rfl _ _ 22 22 rfl _ _ rfl rfl (ap _ ad ae _ _) ?_)
  |(at_builtin;refine wpList_copy_runI _ rfl _ _ 22 22 rfl _ _ rfl rfl (U _ (λ_=>rfl) (λ_=>rfl) _ _ _) ?_))
 go_region_law(refine step_copy_runI rfl _ _ 22 22 rfl (fD (iC (Δ w.heap.size (i+1))) (n-i) (f-(i+1))) (fD (iC (Δ g i)) (n-i) (c-i)) (by simp[Act.eval,Act.put]) (by simp[Act.eval,Act.put]) (U _ ah al 3 (f-(i+1)) (c-i)) ?_)
 go_wp2;go_ret;exact⟨rfl,rfl⟩
def nV(g n c i m:Nat)(xs:List jL)(u:jL)(w:jD)(ab:Nat)(z:w.ownsRow ab 40 1 (fD (iC (Φ g)) n c) n xs)(hi:i<n)(ar:c<n+1)(aM:n<=1000000)(p:CB w m 40 [u])
 (M:∀b∈xs,b.oneCell'=jm)(ac:u.oneCell'=jm):
 Calls prog 214 #[fD (iC (Φ g)) n c,fP gZ i,fD (iC (Φ m)) 1 1] w λt B=>∃f e,n+1<=f/\f<=maxLen/\e.size=f/\(∀a,a<i->e[a]?=xs[a]?)/\
  t=gY (fD (iC (Φ w.heap.size)) (n+1) f)/\
  B=(((w.alloc (iy e 40)).drew.setCells w.heap.size i [u]).drew).setCells w.heap.size (i+1) (xs.drop i):=by
 have T:xs.length=n:=by simpa using z.1
 have y:∀a b,xs[a]?=iC b->w.cell? (Δ g a)=iC b:=λa b h=>by
  rw[z.cellAt a (Ω ((Cb.1 h).1))];exact h
 have aq:n<=c:=(CQ z).1;have Y:∀a b,[u][a]?=iC b->w.cell? (Δ m (0+a))=iC b:=λa b h=>by rw[p.cell,DI];exact h
 have av:m<w.heap.size:=p.lt;have ao:g<w.heap.size:=block_lt_of_cell (y 0 _ (Ah O));obtain⟨aa,G,Z,K,J⟩:=info_parts Tryz.Je.hi;have aW:(c:Int)<(n:Int)+1:=O;have I:(prog.info? 40).map (·.size)=iC 1:=by rw[G];simp[K]
 have W:(n:Int)+1-(i:Int)=((n+1-i:Nat):Int):=O;have H:i+(n+1-i)=n+1:=O;have X:(Builtin.firstCells aa.size i (fD (iC (Φ g)) i c)).run prog w.drew=.ok (xs.take i).toArray w.drew:=by
  rw[K];exact run_firstCells_some w.drew 1 i (Φ g) i c (xs.take i) (by rw[Ed];omega) (λa b j=>by
   rw[Addr.add_lit,DI];rw[Di]at j;split at j
   ·exact y a b j
   ·cases j)
 have A:∀l,(Builtin.append_ #[89,3] l #[fD (iC (Φ g)) i c,fP gZ ((n:Int)+1-(i:Int))]).run prog w=
  .ok (fD (iC (Φ w.heap.size)) (n+1) (grownCap w (n+1) c 40)) (w.drew.alloc (iy ((xs.take i).toArray++Builtin.zeroCells (Aw ig 0).cells (n+1-i)++Builtin.zeroCells (Aw ig 0).cells (grownCap w (n+1) c 40-(n+1))) 40)):=λl=>by
  have h:=lG w 89 3 l 40 aa _ gZ gZ underlying89 underlying3 G Z (iC (Φ g)) i c (xs.take i) X (n+1-i) O O O O (by rw[J];omega) (by rw[J,H];exact growslice_fits ar O);rw[H]at h;rw[W];exact h
 obtain⟨f,v⟩:=ε (grownCap w (n+1) c 40);obtain⟨e,x⟩:∃e:Array jL,e=(xs.take i).toArray++Builtin.zeroCells (Aw ig 0).cells (n+1-i)++Builtin.zeroCells (Aw ig 0).cells (f-(n+1)):=⟨_,rfl⟩;rw[<-v]at A;rw[<-x]at A;have am:n+1<=f:=by rw[v];exact grownCap_ge w _ _ _
 have C:f<=maxLen:=by rw[v];exact grownCap_le_maxLen w (n+1) c 40 (by unfold maxLen;omega)
 have S:e.size=f:=by
  rw[x];simp[Builtin.zeroCells,xG];omega
 have Q:∀a,a<i->e[a]?=xs[a]?:=λa j=>by
  rw[x,Abn,fK (by simp;omega)];simp[j]
 obtain⟨o,r⟩:=ε (w.drew.alloc (iy e 40));rw[<-r]at A;have D:∀a,a<n+1->(o.cell? (Δ w.heap.size a)).isSome=jm:=λa j=>by
  rw[r,J8 (w:=w.drew) e _ w.heap.size a rfl,FB O];rfl
 have E:∀a,o.frozen? (Δ w.heap.size a)=jw:=λa=>by rw[r];exact pU (w:=w.drew) e _ w.heap.size a rfl
 have N:∀a b,w.cell? (Δ g a)=iC b->o.cell? (Δ g a)=iC b:=λa b h=>by rw[r,Dc (w:=w.drew) _ g a ao];exact h
 have P:∀a b,w.cell? (Δ m a)=iC b->o.cell? (Δ m a)=iC b:=λa b h=>by rw[r,Dc (w:=w.drew) _ m a av];exact h
 have ap:∀(k:jD),(∀d,k.cell? d=o.cell? d)->(∀d,k.frozen? d=o.frozen? d)->∀l q,(Builtin.copy_ #[89,89] l #[fD (iC (Δ w.heap.size i)) (n+1-i) q,fD (iC (Φ m)) 1 1]).run prog k=.ok (goInt [u].length) (k.setCells w.heap.size i [u]):=λk s F l q=>
  run_copy_cells k _ _ l 40 w.heap.size i (n+1-i) q (Φ m) 1 1 [u] underlying89 I (by simp only[Le,Bv,Dx];split<;>omega)
   (λa b j=>by rw[Addr.add_lit,s];exact P _ b (Y a b j))
   (λa j=>by rw[s];exact D _ (by simp at j;omega)) (λa j=>by rw[F];exact E _) (λb p=>by simp at p;subst p;exact ac)
 have az:f<=9223372036854775807:=by unfold maxLen at C;omega
 have aD:¬(f=i):=O;have aE:¬(f=i+1):=O;have aL:¬(c=i):=O;have an:g≠w.heap.size:=O;have V:(xs.drop i).length=n-i:=by rw[AQ,T]
 have U:∀(k:jD),(∀d,k.cell? d=(o.setCells w.heap.size i [u]).cell? d)->(∀d,k.frozen? d=(o.setCells w.heap.size i [u]).frozen? d)->∀l q L,(Builtin.copy_ #[89,89] l #[fD (iC (Δ w.heap.size (i+1))) (n-i) q,fD (iC (Δ g i)) (n-i) L]).run prog k=.ok (goInt (xs.drop i).length) (k.setCells w.heap.size (i+1) (xs.drop i)):=λk s F l q L=>
  run_copy_cells k _ _ l 40 w.heap.size (i+1) (n-i) q (Δ g i) (n-i) L (xs.drop i) underlying89 I (by rw[V];simp only[Le];split<;>omega)
   (λa b j=>by
    rw[Addr.add_lit,s,Ku _ _ _ _ _ (λh _=>absurd h an)];exact N _ b (y (i+a) b (by rwa [D7]at j)))
   (λa j=>by rw[s];exact GV _ _ _ _ _ (D _ O))
   (λa j=>by rw[F,GG];exact E _) (λb p=>M b (Hy p))
 subst r;have ad:∀d,((w.alloc (iy e 40)).drew).cell? d=(w.drew.alloc (iy e 40)).cell? d:=λd=>rfl
 have ae:∀d,((w.alloc (iy e 40)).drew).frozen? d=(w.drew.alloc (iy e 40)).frozen? d:=λd=>rfl
 have ah:∀d,(((w.alloc (iy e 40)).drew.setCells w.heap.size i [u]).drew).cell? d=((w.drew.alloc (iy e 40)).setCells w.heap.size i [u]).cell? d:=λd=>rfl
 have al:∀d,(((w.alloc (iy e 40)).drew.setCells w.heap.size i [u]).drew).frozen? d=((w.drew.alloc (iy e 40)).setCells w.heap.size i [u]).frozen? d:=λd=>rfl
 have aV:IntKind.i64.wrap ((i:Int)+1)=(i:Int)+1:=by rw[IntKind.wrap_i64];omega
 have aF:(0:Int)<=(i:Int)+1:=O;have aR:((i:Int)+1).toNat=i+1:=O;have aJ:(i:Int)<=(n:Int):=O;have aw:i<=c:=O;refine Calls.mono (R:=λt B=>t=gY (fD (iC (Φ w.heap.size)) (n+1) f)/\B=(((w.alloc (iy e 40)).drew.setCells w.heap.size i [u]).drew).setCells w.heap.size (i+1) (xs.drop i)) ?_ (λt B h=>⟨f,e,am,C,S,Q,h⟩);clear W H X x v S Q z y aq Y p M D E N P G Z K J I T V C;go_enter func214,ntmps214
 go_wp2_with(first
  |(at_builtin;refine FT _ rfl _ _ _ _ rfl _ _ rfl rfl _ _ (A _) ?_)
  |(at_builtin;refine wpList_copy_runI _ rfl _ _ 89 89 rfl _ _ rfl rfl (ap _ ad ae _ _) ?_)
  |(at_builtin;refine wpList_copy_runI _ rfl _ _ 89 89 rfl _ _ rfl rfl (U _ (λ_=>rfl) (λ_=>rfl) _ _ _) ?_))
 go_region_law(refine step_copy_runI rfl _ _ 89 89 rfl (fD (iC (Δ w.heap.size (i+1))) (n-i) (f-(i+1))) (fD (iC (Δ g i)) (n-i) (c-i)) (by simp[Act.eval,Act.put]) (by simp[Act.eval,Act.put]) (U _ ah al 3 (f-(i+1)) (c-i)) ?_)
 go_wp2;go_ret;exact⟨rfl,rfl⟩
def uu(v:jL)(n i g:Nat)(xs:List jL)(u:jL)(w:jD)(e:Nat)(b:w.ownsRow e 5 1 v n xs)(p:e<=w.heap.size)(hi:i<=n)(Q:n<=1000000)(S:v.ownBlock≠iC g)(k:CB w g 5 [u])
 (o:∀v∈xs,v.oneCell'=jm)(r:u.oneCell'=jm):
 Calls prog 213 #[v,fP gZ i,fD (iC (Φ g)) 1 1] w λc j=>∃l,c=gY l/\j.ownsRow e 5 1 l (n+1) (VV xs i u)/\Below e w j/\Kept w j v.ownBlock:=by
 have s:xs.length=n:=by simpa using b.1
 by_cases P:i=n
 ·subst P;have x:Rd w (iC (Φ g)) 1 [u]:=k.rd;have M:=Vk Tryz.I4 22 b x (λY G=>by simp at G;subst G;exact r) O U p 1;obtain⟨l,j,F,D,B,q⟩:=M;have z:Hid (VV xs i u=xs++[u]):=Ac (by unfold VV;rw[EL O,DR O]);rcases b.2 with⟨rfl,rfl⟩|⟨d,m,H,rfl,-,-,R,t,-⟩
  ·clear b s k x o;go_enter func213,ntmps213
   go_wp2_with(at_builtin;refine FT _ rfl _ _ _ _ rfl _ _ rfl rfl _ _ F ?_)
   go_ret;exact⟨l,rfl,by rw[z.out];exact D,B,q⟩
  ·clear b s k x o t;go_enter func213,ntmps213
   go_wp2_with(at_builtin;refine FT _ rfl _ _ _ _ rfl _ _ rfl rfl _ _ F ?_)
   all_goals
    go_ret;exact⟨l,rfl,by rw[z.out];exact D,B,q⟩
 ·rcases id b.2 with⟨rfl,rfl⟩|⟨d,m,H,rfl,W,N,R,t,_⟩
  ·omega
  ·have X:d<w.heap.size:=(AA.1 N).1;by_cases E:n+1<=m
   ·refine(iq d n m i g xs u w e b O E (by unfold maxLen at t;omega) (λh=>S (by rw[h];rfl)) k o r).mono ?_;rintro c j⟨rfl,rfl⟩;have f:Kept w ((w.drew.setCells d (i+1) (xs.drop i)).setCells d i [u]) (iC d):=((Kept.refl w (iC d)).drew.setCells _ _).setCells _ _;refine⟨_,rfl,iQ (w:=w.drew) (show w.drew.ownsRow e 5 1 _ n xs from b) O E,f.below p ?_ ?_ ?_ (λI c=>by injection c with c;omega),f⟩
    ·rw[EX,EX];rfl
    ·rw[Ec,Ec];rfl
    ·rw[DC,DC];rfl
   ·refine(nU d n m i g xs u w e b O O Q k o r).mono ?_;rintro c j⟨T,A,V,J,K,L,rfl,rfl⟩;have C:=iR (e:=5) (u:=u) (zs:=xs.drop i) A p O O J K L rfl;rw[s]at C;have f:Kept w ((((w.alloc (iy A 5)).drew.setCells w.heap.size i [u]).drew).setCells w.heap.size (i+1) (xs.drop i)) iD:=by
     refine⟨?_,λy f _=>?_⟩
     ·rw[setCells_size,show∀a:jD,a.drew.heap.size=a.heap.size from λ_=>rfl,setCells_size];show w.heap.size<=(w.heap.push _).size;simp
     ·rw[Jr _ _ _ _ O,show∀a:jD,a.drew.heap=a.heap from λ_=>rfl,Jr _ _ _ _ O];show(w.heap.push _)[y]?=_;rw[GH,ku O]
    refine⟨_,rfl,C,f.below p ?_ ?_ ?_ (λI c=>by cases c),f.1,λy q _=>f.2 y q Θ⟩
    ·rw[EX,show∀a:jD,a.drew.os=a.os from λ_=>rfl,EX];rfl
    ·rw[Ec,show∀a:jD,a.drew.tape=a.tape from λ_=>rfl,Ec];rfl
    ·rw[DC,show∀a:jD,a.drew.output=a.output from λ_=>rfl,DC];rfl
def uw(v:jL)(n i g:Nat)(xs:List jL)(u:jL)(w:jD)(e:Nat)(b:w.ownsRow e 40 1 v n xs)(p:e<=w.heap.size)(hi:i<=n)(Q:n<=1000000)(S:v.ownBlock≠iC g)(k:CB w g 40 [u])
 (o:∀v∈xs,v.oneCell'=jm)(r:u.oneCell'=jm):
 Calls prog 214 #[v,fP gZ i,fD (iC (Φ g)) 1 1] w λc j=>∃l,c=gY l/\j.ownsRow e 40 1 l (n+1) (VV xs i u)/\Below e w j/\Kept w j v.ownBlock:=by
 have s:xs.length=n:=by simpa using b.1
 by_cases P:i=n
 ·subst P;have x:Rd w (iC (Φ g)) 1 [u]:=k.rd;have M:=Vk Tryz.Je 89 b x (λY G=>by simp at G;subst G;exact r) O U p 1;obtain⟨l,j,F,D,B,q⟩:=M;have z:Hid (VV xs i u=xs++[u]):=Ac (by unfold VV;rw[EL O,DR O]);rcases b.2 with⟨rfl,rfl⟩|⟨d,m,H,rfl,-,-,R,t,-⟩
  ·clear b s k x o;go_enter func214,ntmps214
   go_wp2_with(at_builtin;refine FT _ rfl _ _ _ _ rfl _ _ rfl rfl _ _ F ?_)
   go_ret;exact⟨l,rfl,by rw[z.out];exact D,B,q⟩
  ·clear b s k x o t;go_enter func214,ntmps214
   go_wp2_with(at_builtin;refine FT _ rfl _ _ _ _ rfl _ _ rfl rfl _ _ F ?_)
   all_goals
    go_ret;exact⟨l,rfl,by rw[z.out];exact D,B,q⟩
 ·rcases id b.2 with⟨rfl,rfl⟩|⟨d,m,H,rfl,W,N,R,t,_⟩
  ·omega
  ·have X:d<w.heap.size:=(AA.1 N).1;by_cases E:n+1<=m
   ·refine(iw d n m i g xs u w e b O E (by unfold maxLen at t;omega) (λh=>S (by rw[h];rfl)) k o r).mono ?_;rintro c j⟨rfl,rfl⟩;have f:Kept w ((w.drew.setCells d (i+1) (xs.drop i)).setCells d i [u]) (iC d):=((Kept.refl w (iC d)).drew.setCells _ _).setCells _ _;refine⟨_,rfl,iQ (w:=w.drew) (show w.drew.ownsRow e 40 1 _ n xs from b) O E,f.below p ?_ ?_ ?_ (λI c=>by injection c with c;omega),f⟩
    ·rw[EX,EX];rfl
    ·rw[Ec,Ec];rfl
    ·rw[DC,DC];rfl
   ·refine(nV d n m i g xs u w e b O O Q k o r).mono ?_;rintro c j⟨T,A,V,J,K,L,rfl,rfl⟩;have C:=iR (e:=40) (u:=u) (zs:=xs.drop i) A p O O J K L rfl;rw[s]at C;have f:Kept w ((((w.alloc (iy A 40)).drew.setCells w.heap.size i [u]).drew).setCells w.heap.size (i+1) (xs.drop i)) iD:=by
     refine⟨?_,λy f _=>?_⟩
     ·rw[setCells_size,show∀a:jD,a.drew.heap.size=a.heap.size from λ_=>rfl,setCells_size];show w.heap.size<=(w.heap.push _).size;simp
     ·rw[Jr _ _ _ _ O,show∀a:jD,a.drew.heap=a.heap from λ_=>rfl,Jr _ _ _ _ O];show(w.heap.push _)[y]?=_;rw[GH,ku O]
    refine⟨_,rfl,C,f.below p ?_ ?_ ?_ (λI c=>by cases c),f.1,λy q _=>f.2 y q Θ⟩
    ·rw[EX,show∀a:jD,a.drew.os=a.os from λ_=>rfl,EX];rfl
    ·rw[Ec,show∀a:jD,a.drew.tape=a.tape from λ_=>rfl,Ec];rfl
    ·rw[DC,show∀a:jD,a.drew.output=a.output from λ_=>rfl,DC];rfl
def nX(g n c i:Nat)(xs:List jL)(w:jD)(E:Nat)(l:w.ownsRow E 5 1 (fD (iC (Φ g)) n c) n xs)(hi:i<n)(am:n<=1000000)(ad:c<=9223372036854775807)(x:∀m∈xs,m.oneCell'=jm):
 Calls prog 202 #[fD (iC (Φ g)) n c,fP gZ i,fP gZ ((i:Int)+1)] w λF U=>
  F=gY (fD (iC (Φ g)) (n-1) c)/\U=(w.drew.setCells g i (xs.drop (i+1))).setCells g (n-1) [fP .u8 0]:=by
 have A:xs.length=n:=by simpa using l.1
 have r:∀b m,xs[b]?=iC m->w.cell? (Δ g b)=iC m:=λb m h=>by
  rw[l.cellAt b (Ω ((Cb.1 h).1))];exact h
 have an:n<=c:=(CQ l).1;have J:∃j:Array jL,w.heap[g]?=iC (iy j 5 (0,0))/\j.size=c:=by
  rcases l.2 with⟨G,_⟩|⟨X,W,j,D,_,L,_,_,r,_⟩
  ·cases G
  ·simp only[Value.slice.injEq,Option.some.injEq,Addr.mk.injEq,and_true,true_and]at D;obtain⟨rfl,rfl⟩:=D;exact⟨j,L,O⟩
 obtain⟨j,t,K⟩:=J;have u:∀b,b<n->(w.cell? (Δ g b)).isSome=jm:=λb ah=>by
  rw[cell_of_row w g b _ 5 (0,0) t,FB O];rfl
 have s:∀b,w.frozen? (Δ g b)=jw:=λb=>by simp[Jg,t]
 obtain⟨Q,M,aq,P,av⟩:=info_parts Tryz.I4.hi;obtain⟨d,k⟩:=ε (xs.drop (i+1));have B:d.length=n-(i+1):=by rw[k,AQ,A]
 obtain⟨o,Y,N⟩:∃o:Addr,(if c=i+1 then iC ((Φ g):Addr)else iC (Δ g (i+1)))=iC o/\Hid (∀a e,d[a]?=iC e->w.drew.cell? (o.add a)=iC e):=by
  by_cases h:c=i+1
  ·refine⟨(Φ g),by simp[h],λa e f=>?_⟩;rw[pV.1 (show d.length=0 by omega)]at f;simp at f
  ·refine⟨(Δ g (i+1)),by simp[h],λa e f=>?_⟩;rw[Addr.add_lit];refine r (i+1+a) e ?_;rw[k,D7]at f;exact f
 have R:Hid (d.length=(n-(i+1))*1):=by rw[LU];exact B
 have S:Hid (∀e∈d,e.oneCell'=jm):=by
  intro e f;rw[k]at f;exact x e (Hy f)
 have T:Hid (∀a,a<d.length->(w.drew.cell? (Δ g (0+i*1+a))).isSome=jm/\w.drew.frozen? (Δ g (0+i*1+a))=jw):=by
  intro a C;rw[LU,DI];exact⟨u (i+a) O,s _⟩
 obtain⟨p,q⟩:=ε (w.drew.setCells g (0+i*1) d);have V:∀v,(Builtin.clear_ #[22] v #[fD (iC (Δ g (i+(n-(i+1))))) (n-(i+(n-(i+1)))) (c-(i+(n-(i+1))))]).run prog p=.ok (gJ #[]) (p.setCells g (i+(n-(i+1))) (BB (n-(i+(n-(i+1)))) (fP .u8 0))):=
  λv=>Adb p _ _ v _ underlying22 Tryz.zeroValue5 rfl rfl g (i+(n-(i+1))) _ _ O (λa C=>by rw[q];exact GV _ _ _ _ _ (u _ O)) (λa C=>by rw[q,GG];exact s _)
 have z:Hid (p=w.drew.setCells g (0+i*1) d):=q;have I:Hid (d=xs.drop (i+1)):=k;have y:Hid (i+(n-(i+1))=n-1):=by show i+(n-(i+1))=n-1;omega
 have H:Hid (n-(i+(n-(i+1)))=1):=by show n-(i+(n-(i+1)))=1;omega
 have ae:i<=c:=O;have al:i+1<=c:=O;have ap:IntKind.i64.wrap ((i:Int)+1)=(i:Int)+1:=by rw[IntKind.wrap_i64];omega
 have Z:(0:Int)<=(i:Int)+1:=O;have ao:((i:Int)+1).toNat=i+1:=O;have ar:((i:Int)==(i:Int)+1)=jw:=ζ O;have aa:(i:Int)+1<=(n:Int):=O;have ab:(i:Int)<=(i:Int)+1:=O;have ac:(n:Int)<=(c:Int):=O;clear q l r u s t K k B x A;go_enter func202,ntmps202
 go_wp2_with fail
 go_region_law(refine step_append_room rfl (.tmp 22) (.tmp 25) 22 rfl 5 Q 1 underlying22 M P g 0 i c (by simp[Act.eval,Act.put]) o (n-(i+1)) (c-(i+1)) d (by simp[Act.eval,Act.put]) R.out N.out S.out O T.out ?_;rw[<-z.out])
 go_wp2;go_ret;refine⟨by rw[<-y.out];rfl,?_⟩;rw[<-y.out,<-I.out,z.out,H.out,DI,LU];rfl
def uy(v:jL)(n i:Nat)(xs:List jL)(w:jD)(a:Nat)(e:w.ownsRow a 5 1 v n xs)(l:a<=w.heap.size)(hi:i<n)(o:n<=1000000)(k:∀v∈xs,v.oneCell'=jm):
 Calls prog 202 #[v,fP gZ i,fP gZ ((i:Int)+1)] w λb d=>∃g,b=gY g/\d.ownsRow a 5 1 g (n-1) (lZ xs i)/\Below a w d/\Kept w d v.ownBlock:=by
 rcases id e.2 with⟨rfl,rfl⟩|⟨c,j,p,rfl,r,s,t,m,_⟩
 ·omega
 ·refine(nX c n j i xs w a e hi o (by unfold maxLen at m;omega) k).mono ?_;rintro b d⟨rfl,rfl⟩;have f:Kept w ((w.drew.setCells c i (xs.drop (i+1))).setCells c (n-1) [fP .u8 0]) (iC c):=((Kept.refl w (iC c)).drew.setCells _ _).setCells _ _;refine⟨_,rfl,Ym (w:=w.drew) (show w.drew.ownsRow a 5 1 _ n xs from e) hi rfl,f.below l ?_ ?_ ?_ (λq b=>by injection b with b;omega),f⟩
  ·rw[EX,EX];rfl
  ·rw[Ec,Ec];rfl
  ·rw[DC,DC];rfl
def nY(g n c i:Nat)(xs:List jL)(w:jD)(E:Nat)(l:w.ownsRow E 40 1 (fD (iC (Φ g)) n c) n xs)(hi:i<n)(am:n<=1000000)(ad:c<=9223372036854775807)(x:∀m∈xs,m.oneCell'=jm):
 Calls prog 203 #[fD (iC (Φ g)) n c,fP gZ i,fP gZ ((i:Int)+1)] w λF U=>
  F=gY (fD (iC (Φ g)) (n-1) c)/\U=(w.drew.setCells g i (xs.drop (i+1))).setCells g (n-1) [fP ig 0]:=by
 have A:xs.length=n:=by simpa using l.1
 have r:∀b m,xs[b]?=iC m->w.cell? (Δ g b)=iC m:=λb m h=>by
  rw[l.cellAt b (Ω ((Cb.1 h).1))];exact h
 have an:n<=c:=(CQ l).1;have J:∃j:Array jL,w.heap[g]?=iC (iy j 40 (0,0))/\j.size=c:=by
  rcases l.2 with⟨G,_⟩|⟨X,W,j,D,_,L,_,_,r,_⟩
  ·cases G
  ·simp only[Value.slice.injEq,Option.some.injEq,Addr.mk.injEq,and_true,true_and]at D;obtain⟨rfl,rfl⟩:=D;exact⟨j,L,O⟩
 obtain⟨j,t,K⟩:=J;have u:∀b,b<n->(w.cell? (Δ g b)).isSome=jm:=λb ah=>by
  rw[cell_of_row w g b _ 40 (0,0) t,FB O];rfl
 have s:∀b,w.frozen? (Δ g b)=jw:=λb=>by simp[Jg,t]
 obtain⟨Q,M,aq,P,av⟩:=info_parts Tryz.Je.hi;obtain⟨d,k⟩:=ε (xs.drop (i+1));have B:d.length=n-(i+1):=by rw[k,AQ,A]
 obtain⟨o,Y,N⟩:∃o:Addr,(if c=i+1 then iC ((Φ g):Addr)else iC (Δ g (i+1)))=iC o/\Hid (∀a e,d[a]?=iC e->w.drew.cell? (o.add a)=iC e):=by
  by_cases h:c=i+1
  ·refine⟨(Φ g),by simp[h],λa e f=>?_⟩;rw[pV.1 (show d.length=0 by omega)]at f;simp at f
  ·refine⟨(Δ g (i+1)),by simp[h],λa e f=>?_⟩;rw[Addr.add_lit];refine r (i+1+a) e ?_;rw[k,D7]at f;exact f
 have R:Hid (d.length=(n-(i+1))*1):=by rw[LU];exact B
 have S:Hid (∀e∈d,e.oneCell'=jm):=by
  intro e f;rw[k]at f;exact x e (Hy f)
 have T:Hid (∀a,a<d.length->(w.drew.cell? (Δ g (0+i*1+a))).isSome=jm/\w.drew.frozen? (Δ g (0+i*1+a))=jw):=by
  intro a C;rw[LU,DI];exact⟨u (i+a) O,s _⟩
 obtain⟨p,q⟩:=ε (w.drew.setCells g (0+i*1) d);have V:∀v,(Builtin.clear_ #[89] v #[fD (iC (Δ g (i+(n-(i+1))))) (n-(i+(n-(i+1)))) (c-(i+(n-(i+1))))]).run prog p=.ok (gJ #[]) (p.setCells g (i+(n-(i+1))) (BB (n-(i+(n-(i+1)))) (fP ig 0))):=
  λv=>Adb p _ _ v _ underlying89 Tryz.zeroValue40 rfl rfl g (i+(n-(i+1))) _ _ O (λa C=>by rw[q];exact GV _ _ _ _ _ (u _ O)) (λa C=>by rw[q,GG];exact s _)
 have z:Hid (p=w.drew.setCells g (0+i*1) d):=q;have I:Hid (d=xs.drop (i+1)):=k;have y:Hid (i+(n-(i+1))=n-1):=by show i+(n-(i+1))=n-1;omega
 have H:Hid (n-(i+(n-(i+1)))=1):=by show n-(i+(n-(i+1)))=1;omega
 have ae:i<=c:=O;have al:i+1<=c:=O;have ap:IntKind.i64.wrap ((i:Int)+1)=(i:Int)+1:=by rw[IntKind.wrap_i64];omega
 have Z:(0:Int)<=(i:Int)+1:=O;have ao:((i:Int)+1).toNat=i+1:=O;have ar:((i:Int)==(i:Int)+1)=jw:=ζ O;have aa:(i:Int)+1<=(n:Int):=O;have ab:(i:Int)<=(i:Int)+1:=O;have ac:(n:Int)<=(c:Int):=O;clear q l r u s t K k B x A;go_enter func203,ntmps203
 go_wp2_with fail
 go_region_law(refine step_append_room rfl (.tmp 22) (.tmp 25) 89 rfl 40 Q 1 underlying89 M P g 0 i c (by simp[Act.eval,Act.put]) o (n-(i+1)) (c-(i+1)) d (by simp[Act.eval,Act.put]) R.out N.out S.out O T.out ?_;rw[<-z.out])
 go_wp2;go_ret;refine⟨by rw[<-y.out];rfl,?_⟩;rw[<-y.out,<-I.out,z.out,H.out,DI,LU];rfl
def uz(v:jL)(n i:Nat)(xs:List jL)(w:jD)(a:Nat)(e:w.ownsRow a 40 1 v n xs)(l:a<=w.heap.size)(hi:i<n)(o:n<=1000000)(k:∀v∈xs,v.oneCell'=jm):
 Calls prog 203 #[v,fP gZ i,fP gZ ((i:Int)+1)] w λb d=>∃g,b=gY g/\d.ownsRow a 40 1 g (n-1) (lZ xs i)/\Below a w d/\Kept w d v.ownBlock:=by
 rcases id e.2 with⟨rfl,rfl⟩|⟨c,j,p,rfl,r,s,t,m,_⟩
 ·omega
 ·refine(nY c n j i xs w a e hi o (by unfold maxLen at m;omega) k).mono ?_;rintro b d⟨rfl,rfl⟩;have f:Kept w ((w.drew.setCells c i (xs.drop (i+1))).setCells c (n-1) [fP ig 0]) (iC c):=((Kept.refl w (iC c)).drew.setCells _ _).setCells _ _;refine⟨_,rfl,Ym (w:=w.drew) (show w.drew.ownsRow a 40 1 _ n xs from e) hi rfl,f.below l ?_ ?_ ?_ (λq b=>by injection b with b;omega),f⟩
  ·rw[EX,EX];rfl
  ·rw[Ec,Ec];rfl
  ·rw[DC,DC];rfl
def V3(l:List UInt8)(x:UInt8):Nat:=l.countP λa=>decide (a.toNat<x.toNat)
def Ae6(l:List UInt8)(x:UInt8):V3 l x<=l.length:=List.countP_le_length
def search_end(l:List UInt8)(x:UInt8)(i:Nat)(hi:i<=l.length)(h1:∀a(h:a<l.length),a<i->l[a].toNat<x.toNat)(h2:∀a(h:a<l.length),i<=a->x.toNat<=l[a].toNat):V3 l x=i:=by
 unfold V3
 conv=>lhs;rw[<-List.take_append_drop i l]
 rw[List.countP_append];have f:(l.take i).countP (λd=>decide (d.toNat<x.toNat))=i:=by
  have:(l.take i).length=i:=by simp;omega
  conv=>rhs;rw[<-this]
  rw[List.countP_eq_length];intro e b;obtain⟨a,c,rfl⟩:=Dw b;simp at c;simpa using h1 a O O
 have g:(l.drop i).countP (λd=>decide (d.toNat<x.toNat))=0:=by
  rw[List.countP_eq_zero];intro e b;obtain⟨a,c,rfl⟩:=Dw b;simp at c;have:=h2 (i+a) O O;simp;omega
 omega
def zY(l:List UInt8)(x:UInt8)(i:Nat)(h1:∀a(h:a<l.length),a<i->l[a].toNat<x.toNat)(h2:∀a(h:a<l.length),i<=a->x.toNat<=l[a].toNat)
 (g:∀b c(e:b<l.length)(m:c<l.length),b<c->l[b].toNat<l[c].toNat)(hi:i<l.length)(j:l[i].toNat≠x.toNat):(l.any λk=>k.toNat==x.toNat)=jw:=by
 rw[Agw];intro b e;obtain⟨a,f,rfl⟩:=Dw e;simp;rcases Nu a i with h|h
 ·have:=h1 a f h;omega
 ·rcases Nu i a with d|d
  ·have:=g i a hi f d;have:=h2 i hi (Ae _);omega
  ·obtain rfl:a=i:=O;exact j
def uA(l:List UInt8)(x:UInt8)(h1:∀a(h:a<l.length),a<l.length->l[a].toNat<x.toNat):(l.any λd=>d.toNat==x.toNat)=jw:=by
 rw[Agw];intro e c;obtain⟨a,b,rfl⟩:=Dw c;have:=h1 a b b;simp;omega
def zZ(l:List UInt8)(x:UInt8)(i:Nat)(hi:i<l.length)(a:l[i].toNat=x.toNat):(l.any λb=>b.toNat==x.toNat)=jm:=by
 rw[List.any_eq_true];exact⟨l[i],List.getElem_mem _,by simpa using a⟩
def Aaa(x:Int)(w:jD):Calls prog 232 #[fP .u8 x] w λa b=>a=gY (fU jw)/\w=b:=by
 go_enter func232,ntmps232;go_wp2;go_ret;exact⟨by simp,rfl⟩
def di(x:Int)(w:jD):Calls prog 224 #[fP .u8 x] w λa b=>a=gY (fU jw)/\w=b:=by
 go_enter func224,ntmps224;go_wp2;go_ret;exact⟨by simp,rfl⟩
def Yz(x y:Int)(w:jD):Calls prog 223 #[fP .u8 x,fP .u8 y] w λa b=>a=gY (fU (decide (x<y)))/\w=b:=by
 go_enter func223,ntmps223
 go_wp2_with(go_at_call 232;refine(Aaa _ _).mono ?_;rintro a b⟨rfl,rfl⟩)
 go_ret;exact⟨rfl,rfl⟩
def Y0(A:Option Addr)(n c:Nat)(l:List UInt8)(x:UInt8)(w:jD)(S:n<=1000000)(h:Bs w A n l)(G:∀u v(Q:u<l.length)(R:v<l.length),u<v->l[u].toNat<l[v].toNat):
 Calls prog 212 #[fD A n c,fP .u8 (x.toNat:Int)] w λk p=>k=gY (gJ #[fP gZ (V3 l x:Nat),fU (l.any λe=>e.toNat==x.toNat)])/\w=p:=by
 have I:=h.len;subst I;have t:=Ac G;clear G;go_enter func212,ntmps212;go_wp2
 go_loopg [7,8]l.length(λH N P wr=>∃b a:Nat,N=fP gZ b/\P=fP gZ a/\b<=a/\a<=l.length/\a-b<=H/\wr=w/\(∀d(h:d<l.length),d<b->l[d].toNat<x.toNat)/\(∀d(h:d<l.length),a<=d->x.toNat<=l[d].toNat))
 case atStart=>exact⟨0,l.length,rfl,rfl,Nat.zero_le _,Ae _,O,rfl,λd _ g=>absurd g (Nat.not_lt_zero _),λd y z=>O⟩
 case round=>
  obtain⟨b,a,rfl,rfl,U,F,T,rfl,y,z⟩:=hrel;have q:=Ac y;have s:=Ac z;clear y z;by_cases V:b<a
  ·obtain⟨E,M,L,rfl,K,B⟩:=h.at (show(b+a)/2<l.length by omega);generalize o:l[(b+a)/2]=e at B;have f:=Ac o;clear o;by_cases i:e.toNat<x.toNat
   ·have C:decide ((e.toNat:Int)<(x.toNat:Int))=jm:=by simp;omega
    go_wp2_with(go_at_call 223;refine(Yz _ _ _).mono ?_;rintro k p⟨rfl,rfl⟩)
    go_roundg(a-((b+a)/2+1))
    case measure=>omega
    case rel=>
     refine⟨(b+a)/2+1,a,by rw[show((b:Int)+(a:Int))/2+1=(((b+a)/2+1:Nat):Int)by omega],rfl,O,F,Ae _,rfl,λd g W=>?_,s.out⟩;rcases Nu d ((b+a)/2)with m|m
     ·have:=t d ((b+a)/2) g E m;rw[f.out]at this;omega
     ·obtain rfl:d=(b+a)/2:=O;rw[f.out];exact i
   ·have C:decide ((e.toNat:Int)<(x.toNat:Int))=jw:=by simp;omega
    go_wp2_with(go_at_call 223;refine(Yz _ _ _).mono ?_;rintro k p⟨rfl,rfl⟩)
    go_roundg((b+a)/2-b)
    case measure=>omega
    case rel=>
     refine⟨b,(b+a)/2,rfl,by rw[show((b:Int)+(a:Int))/2=(((b+a)/2:Nat):Int)by omega],O,O,Ae _,rfl,q.out,λd g X=>?_⟩;rcases Nu ((b+a)/2) d with m|m
     ·have:=t ((b+a)/2) d E g m;rw[f.out]at this;omega
     ·obtain rfl:d=(b+a)/2:=O;rw[f.out];omega
  ·have:a=b:=O;subst this;have r:=Ac (search_end l x a F q.out s.out);by_cases D:a<l.length
   ·obtain⟨E,M,L,rfl,K,B⟩:=h.at D;generalize o:l[a]=e at B;have f:=Ac o;clear o;by_cases i:e.toNat=x.toNat
    ·have j:=Ac (zZ l x a D (by rw[f.out];exact i));have C:((e.toNat:Int)==(x.toNat:Int))=jm:=by simp;omega
     clear i
     go_wp2_with(go_at_call 224;refine(di _ _).mono ?_;rintro k p⟨rfl,rfl⟩)
     go_ret2;exact⟨by rw[r.out,j.out];rfl,rfl⟩
    ·have j:=Ac (zY l x a q.out s.out t.out D (by rw[f.out];exact i));have C:((e.toNat:Int)==(x.toNat:Int))=jw:=ζ O;clear i
     go_wp2_with(go_at_call 224;refine(di _ _).mono ?_;rintro k p⟨rfl,rfl⟩)
     go_ret2;exact⟨by rw[r.out,j.out];rfl,rfl⟩
   ·have J:a=l.length:=O;have j:=Ac (uA l x (λd g _=>q d g O));clear J
    go_wp2_with fail
    go_ret2;exact⟨by rw[r.out,j.out];rfl,rfl⟩
def ins{a:Type}(xs:List a)(i:Nat)(u:a):List a:=xs.take i++u::xs.drop i
def del{a:Type}(xs:List a)(i:Nat):List a:=xs.take i++xs.drop (i+1)
def uB{a:Type}(f:a->jL)(xs:List a)(i:Nat)(u:a):VV (xs.map f) i (f u)=(ins xs i u).map f:=by
 simp[VV,ins,qm,Oo]
def uC{a:Type}(f:a->jL)(xs:List a)(i:Nat):lZ (xs.map f) i=(del xs i).map f:=by
 simp[lZ,del,qm,Oo]
def dm{a:Type}(xs:List a)(i:Nat)(u:a)(h:i<=xs.length):(ins xs i u).length=xs.length+1:=by simp[ins];omega
def dw{a:Type}(xs:List a)(i:Nat)(h:i<xs.length):(del xs i).length=xs.length-1:=by simp[del];omega
def RN{w:jD}{b:Nat}{e:TypeId}{A:Option Addr}{c n:Nat}{xs:List jL}(h:w.ownsRow b e 1 (fD A n c) n xs):∀a,A=iC a->b<=a.block/\a.block<w.heap.size:=by
 intro a i;subst i;rcases h.2 with⟨f,_⟩|⟨m,k,l,d,g,j,_⟩
 ·cases f
 ·simp only[Value.slice.injEq,Option.some.injEq]at d;obtain⟨rfl,_⟩:=d;exact⟨g,(AA.1 j).1⟩
def Ul{w w':jD}{d B:Nat}{e:TypeId}{A:Option Addr}{c n:Nat}{xs:List jL}(h:w.ownsRow d e 1 (fD A n c) n xs)(m:∀b,A=iC b->b.block<B)(o:Below B w w'):w'.ownsRow d e 1 (fD A n c) n xs:=by
 refine⟨h.1,?_⟩;rcases h.2 with h|⟨f,g,i,a,j,k,l⟩
 ·exact .inl h
 ·refine .inr ⟨f,g,i,a,j,?_,l⟩;injection a with a
  exact(o.block f (m _ a)).trans k
def Ae7(x:Nd)(w:jD)(e:Ending)(w':jD):Prop:=
 ∃a b g c i d j,e=gY (gU #[fD b x.pre.length g,fP ig (x.val.toNat:Int),fD c x.labels.length i,fD d x.kids.length j])/\w.heap.size<=a/\a<=w'.heap.size/\
  (w'.ownsRow w.heap.size 5 1 (fD b x.pre.length g) x.pre.length (x.pre.map bv)/\∀f,b=iC f->f.block<a)/\
  w'.ownsRow a 5 1 (fD c x.labels.length i) x.labels.length (x.labels.map bv)/\w'.ownsRow a 40 1 (fD d x.kids.length j) x.kids.length (x.kids.map wv)/\η w w'
def L6(w:jD)(t:TypeId)(a b c d f g i j:jL):∃e,e=(w.alloc (iy #[a,b,c,d] t)).alloc (iy #[f,g,i,j] t)/\CB e w.heap.size t [a,b,c,d]/\CB e (w.heap.size+1) t [f,g,i,j]/\
 η w e/\e.heap.size=w.heap.size+2:=by
 refine⟨_,rfl,?_,?_,((Below.refl _ _).alloc (Ae _) _).alloc Θ _,by simp⟩
 ·have:CB (w.alloc (iy #[a,b,c,d] t)) w.heap.size t [a,b,c,d]:=heap_alloc_new w _;exact(Below.heap_alloc _ _ _ Θ).trans this
 ·have:CB ((w.alloc (iy #[a,b,c,d] t)).alloc (iy #[f,g,i,j] t)) (w.alloc (iy #[a,b,c,d] t)).heap.size t [f,g,i,j]:=heap_alloc_new _ _;simpa using this
def dA(C D E:Option Addr)(a I b J c K:Nat)(x:Nd)(w:jD)(ae:a<=1000000)(ah:b<=1000000)(al:c<=1000000)(h1:Bs w C a x.pre)(h2:Bs w D b x.labels)(h3:Ws w E c x.kids):
 Calls prog 201 #[gU #[fD C a I,fP ig (x.val.toNat:Int),fD D b J,fD E c K]] w (Ae7 x w):=by
 have an:=h1.len;have ao:=h2.len;have ap:=h3.len;obtain⟨G,R,l,m,L,a0⟩:=L6 w 174 (fD C a I) (fP ig (x.val.toNat:Int)) (fD D b J) (fD E c K) (fD iD 0 0) (fP ig 0) (fD iD 0 0) (fD iD 0 0);have P:=Ac R;clear R;obtain⟨q,r,s,t,f0,f1,f2,f3⟩:=blk4 l;have aZ:w.heap.size<G.heap.size:=O;go_enter func201,ntmps201
 go_wp2_with fail
 rw[<-P.out];clear P q r s t f0 f1 f2 f3;refine(Vg C a I x.pre G ae (h1.below L)).mono ?_;rintro Q M⟨a1,rfl,n,B⟩;obtain⟨d,i,rfl,_,_⟩:=Cj n;have V:=RN n;have S:=B.size;replace l:=l.below B O;replace m:=m.below B O;have A:=τ L B;obtain⟨q,r,s,t,f0,f1,f2,f3⟩:=blk4 l;clear B L
 go_wp2_with fail
 clear q r s t f0 f1 f2 f3;replace l:=l.AX 0 (fD d a i);replace m:=m.far (g':=w.heap.size) O 0 (fD d a i);replace n:=AO n (g:=w.heap.size) O 0 (fD d a i);replace A:=A.setCell (p:=Φ w.heap.size) (Ae _) (fD d a i);have Y:Hid (∀F,d=iC F->F.block<(M.setCell (Φ w.heap.size) (fD d a i)).heap.size):=Ac (λF am=>by have:=(V F am).2;simpa[D9]using this);replace S:G.heap.size<=(M.setCell (Φ w.heap.size) (fD d a i)).heap.size:=by simpa[D9]using S
 clear V;generalize M.setCell (Φ w.heap.size) (fD d a i)=H at*;refine(Vg D b J x.labels H ah (h2.below A)).mono ?_;rintro Q W⟨a2,rfl,y,u⟩;obtain⟨e,j,rfl,_,_⟩:=Cj y;have T:=u.size;replace l:=l.below u O;replace m:=m.below u O;replace n:=own_below n u;have z:=τ A u;obtain⟨q,r,s,t,f0,f1,f2,f3⟩:=blk4 l;clear u A
 go_wp2_with fail
 clear q r s t f0 f1 f2 f3;replace l:=l.AX 2 (fD e b j);replace m:=m.far (g':=w.heap.size) O 2 (fD e b j);replace n:=AO n (g:=w.heap.size) O 2 (fD e b j);replace y:=AO y (g:=w.heap.size) O 2 (fD e b j);replace z:=z.setCell (p:=Δ w.heap.size 2) (Ae _) (fD e b j);replace T:H.heap.size<=(W.setCell (Δ w.heap.size 2) (fD e b j)).heap.size:=by simpa[D9]using T
 generalize W.setCell (Δ w.heap.size 2) (fD e b j)=ad at*;refine(ZJ E c K x.kids ad al (h3.below z)).mono ?_;rintro Q N⟨a3,rfl,U,o⟩;obtain⟨f,k,rfl,_,_⟩:=Cj U;have aq:=o.size;replace l:=l.below o O;replace m:=m.below o O;replace n:=own_below n o;replace y:=own_below y o;have Z:=τ z o;obtain⟨q,r,s,t,f0,f1,f2,f3⟩:=blk4 l;obtain⟨aM,aR,aV,aW,av,aw,az,aD⟩:=blk4 m;clear o z
 go_wp2_with fail
 clear q r s t f0 f1 f2 f3 aM aR aV aW av aw az aD;have X:=(((((m.far (g':=w.heap.size) O 3 (Ad f c k)).AX 0 (Ad d a i)).AX 1 (Aw ig (x.val.toNat:Int))).AX 2 (Ad e b j)).AX 3 (Ad f c k));have LZ:=(((((Z.setCell (p:=Δ w.heap.size 3) Θ (Ad f c k)).setCell (p:=Φ (w.heap.size+1)) Θ (Ad d a i)).setCell (p:=Δ (w.heap.size+1) 1) Θ (Aw ig (x.val.toNat:Int))).setCell (p:=Δ (w.heap.size+1) 2) Θ (Ad e b j)).setCell (p:=Δ (w.heap.size+1) 3) Θ (Ad f c k));have aa:=(AO (AO (AO (AO (AO n (g:=w.heap.size) O 3 (Ad f c k)) (g:=w.heap.size+1) O 0 (Ad d a i)) (g:=w.heap.size+1) O 1 (Aw ig (x.val.toNat:Int))) (g:=w.heap.size+1) O 2 (Ad e b j)) (g:=w.heap.size+1) O 3 (Ad f c k));have ab:=(AO (AO (AO (AO (AO y (g:=w.heap.size) O 3 (Ad f c k)) (g:=w.heap.size+1) O 0 (Ad d a i)) (g:=w.heap.size+1) O 1 (Aw ig (x.val.toNat:Int))) (g:=w.heap.size+1) O 2 (Ad e b j)) (g:=w.heap.size+1) O 3 (Ad f c k));have ac:=(AO (AO (AO (AO (AO U (g:=w.heap.size) O 3 (Ad f c k)) (g:=w.heap.size+1) O 0 (Ad d a i)) (g:=w.heap.size+1) O 1 (Aw ig (x.val.toNat:Int))) (g:=w.heap.size+1) O 2 (Ad e b j)) (g:=w.heap.size+1) O 3 (Ad f c k));have ar:N.heap.size=(((((N.setCell (Δ w.heap.size 3) (Ad f c k)).setCell (Φ (w.heap.size+1)) (Ad d a i)).setCell (Δ (w.heap.size+1) 1) (Aw ig (x.val.toNat:Int))).setCell (Δ (w.heap.size+1) 2) (Ad e b j)).setCell (Δ (w.heap.size+1) 3) (Ad f c k)).heap.size:=by simp[D9]
 rw[ar]at aq;generalize(((((N.setCell (Δ w.heap.size 3) (Ad f c k)).setCell (Φ (w.heap.size+1)) (Ad d a i)).setCell (Δ (w.heap.size+1) 1) (Aw ig (x.val.toNat:Int))).setCell (Δ (w.heap.size+1) 2) (Ad e b j)).setCell (Δ (w.heap.size+1) 3) (Ad f c k))=aX at*;obtain⟨aE,aF,aJ,aL,_⟩:=blk4 X;subst an ao ap;refine bodyPost_ret (v:=gU #[(Ad d x.pre.length i),(Aw ig (x.val.toNat:Int)),(Ad e x.labels.length j),(Ad f x.kids.length k)]) (by simp[results,results201,go_sem,aE,aF,aJ,aL]) rfl ?_;exact⟨H.heap.size,d,i,e,j,f,k,rfl,O,O,⟨EU aa O,Y.out⟩,ab,EU ac O,LZ⟩
def Auh(l:List UInt8)(x:UInt8):Bool:=l.any λa=>a.toNat==x.toNat
def XC(x:Nd)(a:UInt8)(b:UInt64):Bool:=BU x&&decide (a.toNat<16)&& !(b.toNat==0)&& !Auh x.labels a
def NC(x:Nd)(a:UInt8)(b:UInt64):Nd:={pre:=x.pre,val:=x.val,labels:=ins x.labels (V3 x.labels a) a,kids:=ins x.kids (V3 x.labels a) b}
def PZ:jL:=gJ #[gU #[fD iD 0 0,fP ig 0,fD iD 0 0,fD iD 0 0],fU jw]
def Acp(y:Nd)(a:Nat)(w':jD)(e:Ending):Prop:=∃b f c g d i,e=gY (gJ #[gU #[fD b y.pre.length f,fP ig (y.val.toNat:Int),fD c y.labels.length g,fD d y.kids.length i],fU jm])/\
 w'.ownsRow a 5 1 (fD b y.pre.length f) y.pre.length (y.pre.map bv)/\w'.ownsRow a 5 1 (fD c y.labels.length g) y.labels.length (y.labels.map bv)/\w'.ownsRow a 40 1 (fD d y.kids.length i) y.kids.length (y.kids.map wv)
def jP{l:List UInt8}(h:DY l=jm):∀a b(e:a<l.length)(d:b<l.length),a<b->l[a].toNat<l[b].toNat:=by
 rw[Hz]at h;intro a b e d f;obtain⟨c,rfl⟩:∃c,b=a+1+c:=⟨b-(a+1),O⟩;clear f;induction c with
 |zero=>exact h a d
 |succ c g=>exact Nat.lt_trans (g O) (h (a+1+c) d)
def Acr(j d k:Option Addr)(g r c n i s:Nat)(x:Nd)(a:UInt8)(f:UInt64)(w:jD)(Q:g<=1000000)(D:c<=1000000)(R:i<=1000000)(h1:Bs w j g x.pre)(h2:Bs w d c x.labels)(h3:Ws w k i x.kids)(G:XC x a f=jw):
 Calls prog 190 #[gU #[fD j g r,fP ig (x.val.toNat:Int),fD d c n,fD k i s],fP .u8 (a.toNat:Int),fP ig (f.toNat:Int)] w λt H=>t=gY PZ/\η w H:=by
 obtain⟨C,E,l,m,e,ab⟩:=L6 w 174 (fD j g r) (fP ig (x.val.toNat:Int)) (fD d c n) (fD k i s) (fD iD 0 0) (fP ig 0) (fD iD 0 0) (fD iD 0 0);have B:=Ac E;clear E;obtain⟨J,K,L,M,f0,f1,f2,f3⟩:=blk4 l;have Z:w.heap.size<C.heap.size:=O;have P:=Ac G;clear G;have aa:a.toNat<256:=a.toNat_lt;go_enter func190,ntmps190
 go_wp2_with fail
 rw[<-B.out];clear B;refine(MJ j d k g r c n i s x C Q D R (h1.below e) (h2.below e) (h3.below e)).mono ?_;rintro t I⟨rfl,o⟩;clear J K L M f0 f1 f2 f3;replace l:=l.below o O;replace m:=m.below o O;have z:=τ e o;replace h2:=h2.below z;clear o e;obtain⟨J,K,L,M,f0,f1,f2,f3⟩:=blk4 l;obtain⟨al,am,an,ao,ac,ad,ae,ah⟩:=blk4 m;cases b:BU x
 case' true=>
  by_cases S:a.toNat<16
  case' neg=>
   have t1:decide ((16:Int)<=(a.toNat:Int))=jm:=by simp;omega
   clear b
   go_wp2_with fail
  case' pos=>
   have t1:decide ((16:Int)<=(a.toNat:Int))=jw:=by simp;omega
   by_cases q:f.toNat=0
   case' pos=>
    have t2:((f.toNat:Int)==0)=jm:=by rw[q];rfl
    clear b q
    go_wp2_with fail
   case' neg=>
    have t2:((f.toNat:Int)==0)=jw:=ζ O;have u:=Y0 d c n x.labels a I D h2 (jP ((Bh x).1 b).2.2.2.2.1);have F:(x.labels.any λy=>y.toNat==a.toNat)=jm:=by
     have:=P.out;unfold XC Auh at this;rw[b]at this;cases T:(x.labels.any λy=>y.toNat==a.toNat)with
     |true=>rfl
     |false=>rw[T]at this;simp[S]at this;exact absurd this q
    rw[F]at u;have A:=Ac u;clear u F q b
    go_wp2_with fail
    refine A.mono ?_;rintro t H⟨rfl,rfl⟩;clear A
    go_wp2_with fail
 case' false=>
  clear b
  go_wp2_with fail
 all_goals
  have N:=((((m.AX 0 (Ad iD 0 0)).AX 1 (Aw ig 0)).AX 2 (Ad iD 0 0)).AX 3 (Ad iD 0 0));have LZ:=(((z.setCell (p:=Φ (w.heap.size+1)) Θ (Ad iD 0 0)).setCell (p:=Δ (w.heap.size+1) 1) Θ (Aw ig 0)).setCell (p:=Δ (w.heap.size+1) 2) Θ (Ad iD 0 0)).setCell (p:=Δ (w.heap.size+1) 3) Θ (Ad iD 0 0);generalize(((I.setCell (Φ (w.heap.size+1)) (Ad iD 0 0)).setCell (Δ (w.heap.size+1) 1) (Aw ig 0)).setCell (Δ (w.heap.size+1) 2) (Ad iD 0 0)).setCell (Δ (w.heap.size+1) 3) (Ad iD 0 0)=Y at*;obtain⟨U,V,W,X,_⟩:=blk4 N;exact bodyPost_ret (v:=PZ) (by unfold PZ;simp[results,results190,go_sem,U,V,W,X]) rfl ⟨rfl,LZ⟩
def uD(M K N:Option Addr)(d X a R b Y:Nat)(x:Nd)(f:UInt8)(q:UInt64)(w:jD)(bN:d<=1000)(_:a<=1000)(bO:b<=1000)(h1:Bs w M d x.pre)(h2:Bs w K a x.labels)(h3:Ws w N b x.kids)(a3:XC x f q=jm):
 Calls prog 190 #[gU #[fD M d X,fP ig (x.val.toNat:Int),fD K a R,fD N b Y],fP .u8 (f.toNat:Int),fP ig (q.toNat:Int)] w λt ap=>Acp (NC x f q) (w.heap.size+2) ap t/\η w ap:=by
 obtain⟨aR,aX,c,e,W,b3⟩:=L6 w 174 (fD M d X) (fP ig (x.val.toNat:Int)) (fD K a R) (fD N b Y) (fD iD 0 0) (fP ig 0) (fD iD 0 0) (fD iD 0 0);have aJ:=Ac aX;clear aX;have am:=h1.len;have bj:=h2.len;have bk:=h3.len;obtain⟨D,E,F,G,f0,f1,f2,f3⟩:=blk4 c;have bV:w.heap.size<aR.heap.size:=O;have bX:f.toNat<256:=f.toNat_lt;simp only[XC,Bool.and_eq_true,decide_eq_true_eq,Bool.not_eq_true']at a3;obtain⟨⟨⟨ae,bR⟩,a2⟩,a0⟩:=a3;have ah:=(Bh x).1 ae;have t1:decide ((16:Int)<=(f.toNat:Int))=jw:=by simp;omega
 have t2:((q.toNat:Int)==0)=jw:=by rw[beq_eq_false_iff_ne];rw[beq_eq_false_iff_ne]at a2;omega
 have ao:=MJ M K N d X a R b Y x aR O O O (h1.below W) (h2.below W) (h3.below W);rw[ae]at ao;have aD:=Ac ao;have aE:=Ac (jP ah.2.2.2.2.1);have b0:=Ae6 x.labels f;have bY:=ah.2.2.1;clear ae ah ao a2;go_enter func190,ntmps190
 go_wp2_with fail
 rw[<-aJ.out];clear aJ;refine aD.mono ?_;rintro t aq⟨rfl,T⟩;clear D E F G f0 f1 f2 f3 aD;replace c:=c.below T O;replace e:=e.below T O;have P:=τ W T;have b1:w.heap.size+2<=aq.heap.size:=Ω T.size;replace h1:=h1.below P;replace h2:=h2.below P;replace h3:=h3.below P;have an:=Y0 K a R x.labels f aq O h2 aE.out;have a1:(x.labels.any λbC=>bC.toNat==f.toNat)=jw:=a0;rw[a1]at an;have aF:=Ac an;generalize a4:V3 x.labels f=aa at*;have ab:=Ac a4;clear T W a1 a0 an a4 aE;obtain⟨D,E,F,G,f0,f1,f2,f3⟩:=blk4 c
 go_wp2_with fail
 refine aF.mono ?_;rintro t ap⟨rfl,rfl⟩;clear aF
 go_wp2_with fail
 have aZ:=dA M K N d X a R b Y x aq O O O h1 h2 h3;refine aZ.mono ?_;rintro t ar⟨aw,g,j,r,z,s,A,rfl,bS,bi,⟨o,a5⟩,B,l,Z⟩;clear D E F G f0 f1 f2 f3 aZ h1 h2 h3 t1 t2;replace c:=c.below Z O;replace e:=e.below Z O;have p:=τ P Z;have az:=Ac a5;clear Z P a5;obtain⟨D,E,F,G,f0,f1,f2,f3⟩:=blk4 c
 go_wp2_with fail
 clear D E F G f0 f1 f2 f3;rw[am]at o;rw[bj]at B;rw[bk]at l;have bm:((((ar.setCell (Φ w.heap.size) (Ad g d j)).setCell (Δ w.heap.size 1) (Aw ig (x.val.toNat:Int))).setCell (Δ w.heap.size 2) (Ad r a z)).setCell (Δ w.heap.size 3) (Ad s b A)).heap.size=ar.heap.size:=by simp[D9]
 replace c:=((((c.AX 0 (Ad g d j)).AX 1 (Aw ig (x.val.toNat:Int))).AX 2 (Ad r a z)).AX 3 (Ad s b A));replace e:=((((e.far (g':=w.heap.size) O 0 (Ad g d j)).far (g':=w.heap.size) O 1 (Aw ig (x.val.toNat:Int))).far (g':=w.heap.size) O 2 (Ad r a z)).far (g':=w.heap.size) O 3 (Ad s b A));replace o:=(AO (AO (AO (AO o (g:=w.heap.size) O 0 (Ad g d j)) (g:=w.heap.size) O 1 (Aw ig (x.val.toNat:Int))) (g:=w.heap.size) O 2 (Ad r a z)) (g:=w.heap.size) O 3 (Ad s b A));replace B:=(AO (AO (AO (AO B (g:=w.heap.size) O 0 (Ad g d j)) (g:=w.heap.size) O 1 (Aw ig (x.val.toNat:Int))) (g:=w.heap.size) O 2 (Ad r a z)) (g:=w.heap.size) O 3 (Ad s b A));replace l:=(AO (AO (AO (AO l (g:=w.heap.size) O 0 (Ad g d j)) (g:=w.heap.size) O 1 (Aw ig (x.val.toNat:Int))) (g:=w.heap.size) O 2 (Ad r a z)) (g:=w.heap.size) O 3 (Ad s b A));replace p:=((((p.setCell (p:=Φ w.heap.size) Θ (Ad g d j)).setCell (p:=Δ w.heap.size 1) Θ (Aw ig (x.val.toNat:Int))).setCell (p:=Δ w.heap.size 2) Θ (Ad r a z)).setCell (p:=Δ w.heap.size 3) Θ (Ad s b A));generalize((((ar.setCell (Φ w.heap.size) (Ad g d j)).setCell (Δ w.heap.size 1) (Aw ig (x.val.toNat:Int))).setCell (Δ w.heap.size 2) (Ad r a z)).setCell (Δ w.heap.size 3) (Ad s b A))=u at*;rw[<-bm]at bi⊢;have H:η u (u.alloc (iy #[Aw .u8 (f.toNat:Int)] 5)):=(Below.refl _ _).alloc (Ae _) _;have aL:CB (u.alloc (iy #[Aw .u8 (f.toNat:Int)] 5)) u.heap.size 5 [bv f]:=heap_alloc_new u _;have b2:(u.alloc (iy #[Aw .u8 (f.toNat:Int)] 5)).heap.size=u.heap.size+1:=by simp
 have a9:=RN B;replace c:=c.ξ H;replace e:=e.ξ H;replace o:=own_below o H;replace B:=own_below B H;replace l:=own_below l H;replace p:=τ p H;clear H;generalize u.alloc (iy #[Aw .u8 (f.toNat:Int)] 5)=bg at*;have J:=uu (fD r a z) a aa u.heap.size (x.labels.map bv) (bv f) bg aw B O O O (by
  cases r with
  |none=>simp[AV]
  |some ac=>have:=(a9 ac rfl).2;simp[AV];omega) aL (Jk _) rfl
 rw[uB]at J;have Q:=Ac J;clear J a9;refine Q.mono ?_;rintro t av⟨b4,rfl,C,L,a6⟩;obtain⟨i,k,rfl,_,_⟩:=Cj C;clear Q;have S:=Oq B l U;have bl:=L.size;replace c:=c.below L O;replace e:=e.below L O;replace o:=Ul o az.out L;replace l:=OD l a6 (λad al t=>S ad t al);replace p:=p.trans (L.mono O);clear S B a6 L aL;obtain⟨D,E,F,G,f0,f1,f2,f3⟩:=blk4 c
 go_wp2_with fail
 clear D E F G f0 f1 f2 f3;have bs:(av.setCell (Δ w.heap.size 2) (Ad i (a+1) k)).heap.size=av.heap.size:=by simp[D9]
 replace c:=(c.AX 2 (Ad i (a+1) k));replace e:=(e.far (g':=w.heap.size) O 2 (Ad i (a+1) k));replace o:=(AO o (g:=w.heap.size) O 2 (Ad i (a+1) k));replace C:=(AO C (g:=w.heap.size) O 2 (Ad i (a+1) k));replace l:=(AO l (g:=w.heap.size) O 2 (Ad i (a+1) k));replace p:=(p.setCell (p:=Δ w.heap.size 2) Θ (Ad i (a+1) k));generalize(av.setCell (Δ w.heap.size 2) (Ad i (a+1) k))=y at*;rw[<-bs]at bl⊢;have I:η y (y.alloc (iy #[Aw ig (q.toNat:Int)] 40)):=(Below.refl _ _).alloc (Ae _) _;have aM:CB (y.alloc (iy #[Aw ig (q.toNat:Int)] 40)) y.heap.size 40 [wv q]:=heap_alloc_new y _;have bJ:(y.alloc (iy #[Aw ig (q.toNat:Int)] 40)).heap.size=y.heap.size+1:=by simp
 have ba:=RN l;replace c:=c.ξ I;replace e:=e.ξ I;replace o:=own_below o I;replace C:=own_below C I;replace l:=own_below l I;replace p:=τ p I;clear I;generalize y.alloc (iy #[Aw ig (q.toNat:Int)] 40)=bh at*;have J:=uw (fD s b A) b aa y.heap.size (x.kids.map wv) (wv q) bh aw l O O O (by
  cases s with
  |none=>simp[AV]
  |some ac=>have:=(ba ac rfl).2;simp[AV];omega) aM (QU _) rfl
 rw[uB]at J;have Q:=Ac J;clear J ba;refine Q.mono ?_;rintro t bB⟨b5,rfl,a8,V,a7⟩;obtain⟨m,n,rfl,_,_⟩:=Cj a8;clear Q;have S:=Oq l C U;replace c:=c.below V O;replace e:=e.below V O;replace o:=Ul o az.out V;replace C:=OD C a7 (λad al t=>S ad t al);replace p:=p.trans (V.mono O);clear S l a7 V aM;obtain⟨D,E,F,G,f0,f1,f2,f3⟩:=blk4 c;obtain⟨bD,bE,bG,bH,bo,bp,bq,br⟩:=blk4 e
 go_wp2_with fail
 clear D E F G f0 f1 f2 f3 bD bE bG bH bo bp bq br;have bb:=(((((e.far (g':=w.heap.size) O 3 (Ad m (b+1) n)).AX 0 (Ad g d j)).AX 1 (Aw ig (x.val.toNat:Int))).AX 2 (Ad i (a+1) k)).AX 3 (Ad m (b+1) n));have LZ:=(((((p.setCell (p:=Δ w.heap.size 3) Θ (Ad m (b+1) n)).setCell (p:=Φ (w.heap.size+1)) Θ (Ad g d j)).setCell (p:=Δ (w.heap.size+1) 1) Θ (Aw ig (x.val.toNat:Int))).setCell (p:=Δ (w.heap.size+1) 2) Θ (Ad i (a+1) k)).setCell (p:=Δ (w.heap.size+1) 3) Θ (Ad m (b+1) n));have bc:=EU (base':=w.heap.size+2) (AO (AO (AO (AO (AO o (g:=w.heap.size) O 3 (Ad m (b+1) n)) (g:=w.heap.size+1) O 0 (Ad g d j)) (g:=w.heap.size+1) O 1 (Aw ig (x.val.toNat:Int))) (g:=w.heap.size+1) O 2 (Ad i (a+1) k)) (g:=w.heap.size+1) O 3 (Ad m (b+1) n)) O;have bd:=EU (base':=w.heap.size+2) (AO (AO (AO (AO (AO C (g:=w.heap.size) O 3 (Ad m (b+1) n)) (g:=w.heap.size+1) O 0 (Ad g d j)) (g:=w.heap.size+1) O 1 (Aw ig (x.val.toNat:Int))) (g:=w.heap.size+1) O 2 (Ad i (a+1) k)) (g:=w.heap.size+1) O 3 (Ad m (b+1) n)) O;have be:=EU (base':=w.heap.size+2) (AO (AO (AO (AO (AO a8 (g:=w.heap.size) O 3 (Ad m (b+1) n)) (g:=w.heap.size+1) O 0 (Ad g d j)) (g:=w.heap.size+1) O 1 (Aw ig (x.val.toNat:Int))) (g:=w.heap.size+1) O 2 (Ad i (a+1) k)) (g:=w.heap.size+1) O 3 (Ad m (b+1) n)) O;generalize(((((bB.setCell (Δ w.heap.size 3) (Ad m (b+1) n)).setCell (Φ (w.heap.size+1)) (Ad g d j)).setCell (Δ (w.heap.size+1) 1) (Aw ig (x.val.toNat:Int))).setCell (Δ (w.heap.size+1) 2) (Ad i (a+1) k)).setCell (Δ (w.heap.size+1) 3) (Ad m (b+1) n))=bL at*;obtain⟨bt,bw,bx,bA,_⟩:=blk4 bb;have aV:(ins x.labels aa f).length=a+1:=by rw[dm _ _ _ O];omega
 have aW:(ins x.kids aa q).length=b+1:=by rw[dm _ _ _ O];omega
 refine bodyPost_ret (v:=gJ #[gU #[(Ad g d j),(Aw ig (x.val.toNat:Int)),Ad i (a+1) k,Ad m (b+1) n],fU jm]) (by simp[results,results190,go_sem,bt,bw,bx,bA]) rfl ?_;refine⟨⟨g,j,i,k,m,n,?_,?_,?_,?_⟩,LZ⟩
 ·simp only[NC,ab.out,aV,aW,am]
 ·simp only[NC,am];exact bc
 ·simp only[NC,ab.out,aV];exact bd
 ·simp only[NC,ab.out,aW];exact be
def Acs(l:List UInt8)(x:UInt8):Option Nat:=l.findIdx? λa=>a.toNat==x.toNat
def Ajj(x:Nd)(i:Nat):Nd:={pre:=x.pre,val:=x.val,labels:=del x.labels i,kids:=del x.kids i}
def Aab(k e l:Option Addr)(i t d n j u:Nat)(x:Nd)(c:UInt8)(w:jD)(ae:i<=1000000)(ah:d<=1000000)(al:j<=1000000)(h1:Bs w k i x.pre)(h2:Bs w e d x.labels)(h3:Ws w l j x.kids)(z:Acs x.labels c=iD\/BU x=jw):
 Calls prog 172 #[gU #[fD k i t,fP ig (x.val.toNat:Int),fD e d n,fD l j u],fP .u8 (c.toNat:Int)] w λo G=>o=gY PZ/\η w G:=by
 obtain⟨s,L,W,b,a,an⟩:=L6 w 174 (fD k i t) (fP ig (x.val.toNat:Int)) (fD e d n) (fD l j u) (fD iD 0 0) (fP ig 0) (fD iD 0 0) (fD iD 0 0);have J:=Ac L;clear L;obtain⟨aa,ab,ac,ad,f0,f1,f2,f3⟩:=blk4 W;obtain⟨S,T,U,V,N,P,Q,R⟩:=blk4 b;have M:=Vh e d n x.labels c s O (h2.below a);have r:=Ac M;clear M;cases f:Acs x.labels c with
 |none=>
  have g:placeOf (λH=>H.toNat==c.toNat) x.labels= -1:=by rw[placeOf,show x.labels.findIdx? _=iD from f]
  have m:=Ac g;clear g f z;go_enter func172,ntmps172
  go_wp2_with fail
  rw[<-J.out];refine r.mono ?_;rintro o G⟨rfl,rfl⟩;rw[m.out]
  go_wp2_with fail
  have q:=((((b.AX 0 (Ad iD 0 0)).AX 1 (Aw ig 0)).AX 2 (Ad iD 0 0)).AX 3 (Ad iD 0 0));have LZ:=(((a.setCell (p:=Φ (w.heap.size+1)) Θ (Ad iD 0 0)).setCell (p:=Δ (w.heap.size+1) 1) Θ (Aw ig 0)).setCell (p:=Δ (w.heap.size+1) 2) Θ (Ad iD 0 0)).setCell (p:=Δ (w.heap.size+1) 3) Θ (Ad iD 0 0);generalize(((s.setCell (Φ (w.heap.size+1)) (Ad iD 0 0)).setCell (Δ (w.heap.size+1) 1) (Aw ig 0)).setCell (Δ (w.heap.size+1) 2) (Ad iD 0 0)).setCell (Δ (w.heap.size+1) 3) (Ad iD 0 0)=Y at*;obtain⟨B,C,D,E,_⟩:=blk4 q;exact bodyPost_ret (v:=PZ) (by unfold PZ;simp[results,results172,go_sem,B,C,D,E]) rfl ⟨rfl,LZ⟩
 |some A=>
  have K:BU x=jw:=by
   rcases z with h|h
   ·rw[f]at h;cases h
   ·exact h
  have g:placeOf (λH=>H.toNat==c.toNat) x.labels=(A:Int):=by rw[placeOf,show x.labels.findIdx? _=iC A from f]
  have m:=Ac g;have am:decide ((A:Int)<0)=jw:=by simp
  have F:=MJ k e l i t d n j u x s O O O (h1.below a) (h2.below a) (h3.below a);rw[K]at F;have I:=Ac F;clear g f z F K;go_enter func172,ntmps172
  go_wp2_with fail
  rw[<-J.out];refine r.mono ?_;rintro o G⟨rfl,rfl⟩;rw[m.out];clear r m
  go_wp2_with fail
  refine I.mono ?_;rintro o Z⟨rfl,y⟩;clear aa ab ac ad f0 f1 f2 f3 S T U V N P Q R I;replace b:=b.below y O;have X:=τ a y;clear y a;obtain⟨S,T,U,V,N,P,Q,R⟩:=blk4 b
  go_wp2_with fail
  have q:=((((b.AX 0 (Ad iD 0 0)).AX 1 (Aw ig 0)).AX 2 (Ad iD 0 0)).AX 3 (Ad iD 0 0));have LZ:=(((X.setCell (p:=Φ (w.heap.size+1)) Θ (Ad iD 0 0)).setCell (p:=Δ (w.heap.size+1) 1) Θ (Aw ig 0)).setCell (p:=Δ (w.heap.size+1) 2) Θ (Ad iD 0 0)).setCell (p:=Δ (w.heap.size+1) 3) Θ (Ad iD 0 0);generalize(((Z.setCell (Φ (w.heap.size+1)) (Ad iD 0 0)).setCell (Δ (w.heap.size+1) 1) (Aw ig 0)).setCell (Δ (w.heap.size+1) 2) (Ad iD 0 0)).setCell (Δ (w.heap.size+1) 3) (Ad iD 0 0)=Y at*;obtain⟨B,C,D,E,_⟩:=blk4 q;exact bodyPost_ret (v:=PZ) (by unfold PZ;simp[results,results172,go_sem,B,C,D,E]) rfl ⟨rfl,LZ⟩
def uF(J F K:Option Addr)(c T a N b V:Nat)(x:Nd)(X:UInt8)(i:Nat)(w:jD)(br:c<=1000)(_:a<=1000)(bs:b<=1000)(h1:Bs w J c x.pre)(h2:Bs w F a x.labels)(h3:Ws w K b x.kids)(S:Acs x.labels X=iC i)(aa:BU x=jm):
 Calls prog 172 #[gU #[fD J c T,fP ig (x.val.toNat:Int),fD F a N,fD K b V],fP .u8 (X.toNat:Int)] w λo ae=>Acp (Ajj x i) (w.heap.size+2) ae o/\η w ae:=by
 obtain⟨Y,az,d,l,H,bC⟩:=L6 w 174 (fD J c T) (fP ig (x.val.toNat:Int)) (fD F a N) (fD K b V) (fD iD 0 0) (fP ig 0) (fD iD 0 0) (fD iD 0 0);have ar:=Ac az;clear az;have ac:=h1.len;have a7:=h2.len;have a8:=h3.len;obtain⟨z,A,B,C,f0,f1,f2,f3⟩:=blk4 d;have bw:w.heap.size<Y.heap.size:=O;have bA:=((Bh x).1 aa).2.2.1;have aE:i<x.labels.length:=by
  unfold Acs at S;rw[List.findIdx?_eq_some_iff_getElem]at S;obtain⟨aE,_⟩:=S;exact aE
 have aJ:placeOf (λbk=>bk.toNat==X.toNat) x.labels=(i:Int):=by rw[placeOf,show x.labels.findIdx? _=iC i from S]
 have ao:=Ac aJ;have bx:decide ((i:Int)<0)=jw:=by simp
 have aF:=Vh F a N x.labels X Y O (h2.below H);have an:=Ac aF;have ad:=MJ J F K c T a N b V x Y O O O (h1.below H) (h2.below H) (h3.below H);rw[aa]at ad;have aq:=Ac ad;have bD:IntKind.i64.wrap ((i:Int)+1)=(i:Int)+1:=by rw[IntKind.wrap_i64];omega
 clear aJ S aF ad aa;go_enter func172,ntmps172
 go_wp2_with fail
 rw[<-ar.out];clear ar;refine an.mono ?_;rintro o ae⟨rfl,rfl⟩;rw[ao.out];clear an ao
 go_wp2_with fail
 refine aq.mono ?_;rintro o aZ⟨rfl,Q⟩;clear z A B C f0 f1 f2 f3 aq;replace d:=d.below Q O;replace l:=l.below Q O;have L:=τ H Q;have bB:w.heap.size+2<=aZ.heap.size:=Ω Q.size;replace h1:=h1.below L;replace h2:=h2.below L;replace h3:=h3.below L;clear Q H;obtain⟨z,A,B,C,f0,f1,f2,f3⟩:=blk4 d
 go_wp2_with fail
 have aD:=dA J F K c T a N b V x aZ O O O h1 h2 h3;refine aD.mono ?_;rintro o ah⟨am,e,g,r,u,s,y,rfl,bt,a6,⟨q,aL⟩,I,n,W⟩;clear z A B C f0 f1 f2 f3 aD h1 h2 h3;replace d:=d.below W O;replace l:=l.below W O;have t:=τ L W;have ap:=Ac aL;clear W L aL;obtain⟨z,A,B,C,f0,f1,f2,f3⟩:=blk4 d
 go_wp2_with fail
 clear z A B C f0 f1 f2 f3;rw[ac]at q;rw[a7]at I;rw[a8]at n;have aM:((((ah.setCell (Φ w.heap.size) (Ad e c g)).setCell (Δ w.heap.size 1) (Aw ig (x.val.toNat:Int))).setCell (Δ w.heap.size 2) (Ad r a u)).setCell (Δ w.heap.size 3) (Ad s b y)).heap.size=ah.heap.size:=by simp[D9]
 replace d:=((((d.AX 0 (Ad e c g)).AX 1 (Aw ig (x.val.toNat:Int))).AX 2 (Ad r a u)).AX 3 (Ad s b y));replace l:=((((l.far (g':=w.heap.size) O 0 (Ad e c g)).far (g':=w.heap.size) O 1 (Aw ig (x.val.toNat:Int))).far (g':=w.heap.size) O 2 (Ad r a u)).far (g':=w.heap.size) O 3 (Ad s b y));replace q:=(AO (AO (AO (AO q (g:=w.heap.size) O 0 (Ad e c g)) (g:=w.heap.size) O 1 (Aw ig (x.val.toNat:Int))) (g:=w.heap.size) O 2 (Ad r a u)) (g:=w.heap.size) O 3 (Ad s b y));replace I:=(AO (AO (AO (AO I (g:=w.heap.size) O 0 (Ad e c g)) (g:=w.heap.size) O 1 (Aw ig (x.val.toNat:Int))) (g:=w.heap.size) O 2 (Ad r a u)) (g:=w.heap.size) O 3 (Ad s b y));replace n:=(AO (AO (AO (AO n (g:=w.heap.size) O 0 (Ad e c g)) (g:=w.heap.size) O 1 (Aw ig (x.val.toNat:Int))) (g:=w.heap.size) O 2 (Ad r a u)) (g:=w.heap.size) O 3 (Ad s b y));replace t:=((((t.setCell (p:=Φ w.heap.size) Θ (Ad e c g)).setCell (p:=Δ w.heap.size 1) Θ (Aw ig (x.val.toNat:Int))).setCell (p:=Δ w.heap.size 2) Θ (Ad r a u)).setCell (p:=Δ w.heap.size 3) Θ (Ad s b y));generalize((((ah.setCell (Φ w.heap.size) (Ad e c g)).setCell (Δ w.heap.size 1) (Aw ig (x.val.toNat:Int))).setCell (Δ w.heap.size 2) (Ad r a u)).setCell (Δ w.heap.size 3) (Ad s b y))=a4 at*;rw[<-aM]at a6;clear aM;have D:=uy (fD r a u) a i (x.labels.map bv) a4 am I O O O (Jk _);rw[uC]at D;have M:=Ac D;clear D;refine M.mono ?_;rintro o al⟨bE,rfl,E,G,aR⟩;obtain⟨f,j,rfl,_,_⟩:=Cj E;clear M;have P:=Oq I n U;have a9:=G.size;replace d:=d.below G O;replace l:=l.below G O;replace q:=Ul q ap.out G;replace n:=OD n aR (λZ ab o=>P Z o ab);replace t:=t.trans (G.mono O);clear P I aR G;obtain⟨z,A,B,C,f0,f1,f2,f3⟩:=blk4 d
 go_wp2_with fail
 clear z A B C f0 f1 f2 f3;have aW:(al.setCell (Δ w.heap.size 2) (Ad f (a-1) j)).heap.size=al.heap.size:=by simp[D9]
 replace d:=(d.AX 2 (Ad f (a-1) j));replace l:=(l.far (g':=w.heap.size) O 2 (Ad f (a-1) j));replace q:=(AO q (g:=w.heap.size) O 2 (Ad f (a-1) j));replace E:=(AO E (g:=w.heap.size) O 2 (Ad f (a-1) j));replace n:=(AO n (g:=w.heap.size) O 2 (Ad f (a-1) j));replace t:=(t.setCell (p:=Δ w.heap.size 2) Θ (Ad f (a-1) j));generalize(al.setCell (Δ w.heap.size 2) (Ad f (a-1) j))=a5 at*;rw[<-aW]at a9;clear aW;have D:=uz (fD s b y) b i (x.kids.map wv) a5 am n O O O (QU _);rw[uC]at D;have M:=Ac D;clear D;refine M.mono ?_;rintro o bj⟨bG,rfl,aX,R,aV⟩;obtain⟨k,m,rfl,_,_⟩:=Cj aX;clear M;have P:=Oq n E U;replace d:=d.below R O;replace l:=l.below R O;replace q:=Ul q ap.out R;replace E:=OD E aV (λZ ab o=>P Z o ab);replace t:=t.trans (R.mono O);clear P n aV R;obtain⟨z,A,B,C,f0,f1,f2,f3⟩:=blk4 d;obtain⟨bl,bm,bo,bp,ba,bb,bc,bd⟩:=blk4 l
 go_wp2_with fail
 clear z A B C f0 f1 f2 f3 bl bm bo bp ba bb bc bd;have a0:=(((((l.far (g':=w.heap.size) O 3 (Ad k (b-1) m)).AX 0 (Ad e c g)).AX 1 (Aw ig (x.val.toNat:Int))).AX 2 (Ad f (a-1) j)).AX 3 (Ad k (b-1) m));have LZ:=(((((t.setCell (p:=Δ w.heap.size 3) Θ (Ad k (b-1) m)).setCell (p:=Φ (w.heap.size+1)) Θ (Ad e c g)).setCell (p:=Δ (w.heap.size+1) 1) Θ (Aw ig (x.val.toNat:Int))).setCell (p:=Δ (w.heap.size+1) 2) Θ (Ad f (a-1) j)).setCell (p:=Δ (w.heap.size+1) 3) Θ (Ad k (b-1) m));have a1:=EU (base':=w.heap.size+2) (AO (AO (AO (AO (AO q (g:=w.heap.size) O 3 (Ad k (b-1) m)) (g:=w.heap.size+1) O 0 (Ad e c g)) (g:=w.heap.size+1) O 1 (Aw ig (x.val.toNat:Int))) (g:=w.heap.size+1) O 2 (Ad f (a-1) j)) (g:=w.heap.size+1) O 3 (Ad k (b-1) m)) O;have a2:=EU (base':=w.heap.size+2) (AO (AO (AO (AO (AO E (g:=w.heap.size) O 3 (Ad k (b-1) m)) (g:=w.heap.size+1) O 0 (Ad e c g)) (g:=w.heap.size+1) O 1 (Aw ig (x.val.toNat:Int))) (g:=w.heap.size+1) O 2 (Ad f (a-1) j)) (g:=w.heap.size+1) O 3 (Ad k (b-1) m)) O;have a3:=EU (base':=w.heap.size+2) (AO (AO (AO (AO (AO aX (g:=w.heap.size) O 3 (Ad k (b-1) m)) (g:=w.heap.size+1) O 0 (Ad e c g)) (g:=w.heap.size+1) O 1 (Aw ig (x.val.toNat:Int))) (g:=w.heap.size+1) O 2 (Ad f (a-1) j)) (g:=w.heap.size+1) O 3 (Ad k (b-1) m)) O;generalize(((((bj.setCell (Δ w.heap.size 3) (Ad k (b-1) m)).setCell (Φ (w.heap.size+1)) (Ad e c g)).setCell (Δ (w.heap.size+1) 1) (Aw ig (x.val.toNat:Int))).setCell (Δ (w.heap.size+1) 2) (Ad f (a-1) j)).setCell (Δ (w.heap.size+1) 3) (Ad k (b-1) m))=bq at*;obtain⟨be,bg,bh,bi,_⟩:=blk4 a0;have av:(del x.labels i).length=a-1:=by rw[dw _ _ O];omega
 have aw:(del x.kids i).length=b-1:=by rw[dw _ _ O];omega
 refine bodyPost_ret (v:=gJ #[gU #[(Ad e c g),(Aw ig (x.val.toNat:Int)),Ad f (a-1) j,Ad k (b-1) m],fU jm]) (by simp[results,results172,go_sem,be,bg,bh,bi]) rfl ?_;refine⟨⟨e,g,f,j,k,m,?_,?_,?_,?_⟩,LZ⟩
 ·simp only[Ajj,av,aw,ac]
 ·simp only[Ajj,ac];exact a1
 ·simp only[Ajj,av];exact a2
 ·simp only[Ajj,aw];exact a3
