import Derived.Lib.AppendZerosOnto
import Derived.Lib.Overlaps
import Derived.Test.YteejpmddddnmnaaGreatDoorK04
set_option linter.defProp false
set_option maxHeartbeats 32000000
set_option maxRecDepth 100000
open List renaming getElem?_eq_some_iff->Cf,length_drop->AU,getElem?_drop->DX,mem_of_mem_drop->IG,length_cons->Bg,length_nil->CV,getElem?_eq_getElem->Ag,length_take->Cc,getElem?_take->Dh,take_of_length_le->Dq,drop_of_length_le->D9,length_eq_zero_iff->wK,replicate->BJ,getElem_of_mem->CW,any_eq_false->Alc,getElem_mem->BO,map_take->OW,map_drop->MZ,getElem?_map->CP,getElem?_cons_zero->Af,getElem?_cons_succ->Ai,drop_length->Aln,mem_of_getLast?->VW,set_cons_zero->Aq,set_cons_succ->Aw
open Array renaming getElem?_eq_getElem->Gs,append_assoc->Afs,getElem?_append_left->lI,getElem?_eq_some_iff->AL,getElem?_push->Ff
open Go.World renaming frozen?->Ij,shape?->YL,isSome_setCells->Ip,cell?_setCells_out->LJ,frozen?_setCells->Ia,cell?_alloc_at->KJ,frozen?_alloc_at->wJ,cell?_alloc_past->D6,setCell->DL,drew->lY,alloc->Au1
open Nat renaming zero_add->Du,min_def->Nk,mul_one->NJ,lt_or_ge->JO,le_refl->Ae,zero_le->Bd,le_trans->AZ,le_add_right->dB,lt_succ_self->dC,lt_irrefl->Abz
open Go.Lib renaming run_overlaps_apart->Abs,run_append_grow_zeros->rQ,wpList_append_run->GL,hid->Ac,run_clear_slice->Ahj
open Go.Value renaming int->AA,cells->Aby,slice->Ad,ownBlock->AY
open UInt64 renaming toNat_inj->Eb
open Go.Value renaming slice->fM,int->gz,string->ig,tuple->iJ,agg->iK
open Go.Ending renaming returned->iO
open Go.IntKind renaming i64->iU,u64->iV
open Go.Obj renaming cells->ji
open Option renaming some->jm,none->jw
open Bool renaming true->jO,false->jS
open Go renaming World->jT,Value->ku
namespace Go.Proofs.YteejpmddddnmnaaGreatDoor
open Go.RowKit
open Go.Proofs.Tryz
def wp_copy_runI{P:Program}(w:jT){o:Oper}{a:Act}{K:Act->jT->Prop}{e:Exit->Act->jT->Prop}(d s:Operand)(t b:TypeId)
 (g:o.op=.call {callee:=.builtin .copy,args:= #[d,s],argTypes:= #[t,b]})(v u:ku)(f:a.eval d=v)(j:a.eval s=u){c:ku}{w':jT}
 (i:(Builtin.copy_ #[t,b] o.type #[v,u]).run P w=.ok c w')(h:K (a.put o.dst c) w'):o.wp P a w K e:=by
 unfold Oper.wp execOp;simp only[g,resolve,invoke,builtin,Sem.run_bind,Sem.run_pure,Result.andThen_ok,List.map_toArray,List.map_cons,List.map_nil,f,j,i];exact h
def wpList_copy_runI{P:Program}(w:jT){e:Array Oper}{nM:List Oper}{o:Oper}{a:Act}{c:Exit->Act->jT->Prop}(j:o.guard=jw)(d s:Operand)(t b:TypeId)
 (k:o.op=.call {callee:=.builtin .copy,args:= #[d,s],argTypes:= #[t,b]})(v u:ku)(i:a.eval d=v)(m:a.eval s=u){f:ku}{w':jT}
 (l:(Builtin.copy_ #[t,b] o.type #[v,u]).run P w=.ok f w')(h:wpList P e c nM (a.put o.dst f) w'):wpList P e c (o::nM) a w:=
 wpList_plain j λ_ g=>wp_copy_runI w d s t b k v u i m l (g _ _ h)
def step_copy_runI{P:Program}{b:Array Oper}{o:Oper}{a:Act}{w:jT}{K:Act->jT->Prop}{g:Exit->Act->jT->Prop}{f:Prop}
 (k:o.guard=jw)(d x:Operand)(dT c:TypeId)(l:o.op=Op.call {callee:=Callee.builtin Builtin.copy,args:= #[d,x],argTypes:= #[dT,c]})
 (v u:ku)(j:a.eval d=v)(p:a.eval x=u){e:ku}{w':jT}(m:(Builtin.copy_ #[dT,c] o.type #[v,u]).run P w=.ok e w')(i:K (a.put o.dst e) w'):
 if Region.wanted o (yielded b a.tmps)=jO then Oper.wp P o a w K g else f:=by
 have n:Region.wanted o (yielded b a.tmps)=true:=by simp[Region.wanted,k]
 rw[kX n];unfold Oper.wp;simp[execOp,l,resolve,invoke,builtin,j,p,m,Result.andThen];exact i
def nH(g n c i b:Nat)(xs:List ku)(u:ku)(w:jT)(pI:Nat)(p:w.ownsRow pI 5 1 (fM (jm (Φ g)) n c) n xs)(hi:i<n)(aq:n+1<=c)(ao:c<=9223372036854775807)(P:b≠g)(a:Cm w b 5 [u])
 (E:∀v∈xs,v.oneCell'=jO)(U:u.oneCell'=jO):
 Calls prog 221 #[fM (jm (Φ g)) n c,i,fM (jm (Φ b)) 1 1] w λS w'=>
  S=iO (fM (jm (Φ g)) (n+1) c)/\w'=(w.drew.setCells g (i+1) (xs.drop i)).setCells g i [u]:=by
 have H:xs.length=n:=by simpa using p.1
 have t:∀j v,xs[j]?=jm v->w.cell? (Δ g j)=jm v:=λj v h=>by
  rw[p.cellAt j (Ω ((Cf.1 h).1))];exact h
 have W:∃l:Array ku,w.heap[g]?=jm (ji l 5 (0,0))/\l.size=c:=by
  rcases p.2 with⟨F,_⟩|⟨ad,ac,l,R,_,Y,_,_,t,_⟩
  ·cases F
  ·simp only[Value.slice.injEq,Option.some.injEq,Addr.mk.injEq,and_true,true_and]at R;obtain⟨rfl,rfl⟩:=R;exact⟨l,Y,O⟩
 obtain⟨l,o,J⟩:=W;have A:∀j,j<n+1->(w.cell? (Δ g j)).isSome=true:=λj d=>by
  rw[cell_of_row w g j _ 5 (0,0) o,Gs O];rfl
 have z:∀j,w.frozen? (Δ g j)=false:=λj=>by simp[Ij,o]
 have M:w.shape? g=jm (5,c):=by simp[YL,o,J]
 have L:w.shape? b=jm (5,1):=by unfold Cm at a;simp[YL,a]
 have y:∀j,w.frozen? (Δ b j)=false:=λj=>a.frozen j
 have Q:∀j v,[u][j]?=jm v->w.cell? (Δ b (0+j))=jm v:=λj v h=>by rw[a.cell,Du];exact h
 have B:(prog.info? 5).map (·.size)=jm 1:=by
  obtain⟨av,Z,ae,T,F⟩:=info_parts Tryz.Jq.hi;rw[Z];simp[T]
 have ab:∀C s,(callFunc 240 #[fM (jm (Φ b)) 1 1,fM (jm (Δ g (i+1))) C s]).run prog w=.ok (.value (.bool jS)) w:=λC s=>by
  rw[run_callFunc_extern func240 Γ Γ Γ (e:=Extern.SlicesOverlaps.overlaps #[22,22] #[4]) Γ,
   Abs w 22 4 5 underlying22 1 Tryz.Jq.TB (Φ b) (Δ g (i+1)) 1 1 C s P 5 5 1 c L M O (y 0) (y 1)]
  rfl
 have K:(xs.drop i).length=n-i:=by rw[AU,H]
 have au:IntKind.i64.wrap ((i:Int)+1)=(i:Int)+1:=by rw[IntKind.wrap_i64];omega
 have ah:(0:Int)<=(i:Int)+1:=O;have ap:i<=n:=O;have ar:((i:Int)+1).toNat=i+1:=O;have al:¬(c=i+1):=O;have am:(i:Int)<=(n:Int)+1:=O;have an:¬(c=i):=O;have I:∀f e D,(Builtin.copy_ #[22,22] f #[fM (jm (Δ g (i+1))) (n-i) e,fM (jm (Δ g i)) (n+1-i) D]).run prog w.drew=.ok (goInt (xs.drop i).length) (w.drew.setCells g (i+1) (xs.drop i)):=λf e D=>
  run_copy_cells w.drew _ _ f 5 g (i+1) (n-i) e (Δ g i) (n+1-i) D (xs.drop i) underlying22 B (by rw[K];simp only[Nk];split<;>omega)
   (λj v d=>by rw[Addr.add_lit];exact t (i+j) v (by rwa [DX]at d))
   (λj d=>A _ O) (λj d=>z _) (λv a=>E v (IG a))
 obtain⟨r,m⟩:=ε (w.drew.setCells g (i+1) (xs.drop i));have N:∀q,q<n+1->(r.cell? (Δ g q)).isSome=true:=λq aa=>by
  rw[m];exact Ip g _ _ _ _ (A q aa)
 have X:∀(k:jT),(∀x,k.cell? x=r.cell? x)->(∀x,k.frozen? x=r.frozen? x)->∀f e,(Builtin.copy_ #[22,22] f #[fM (jm (Δ g i)) (n+1-i) e,fM (jm (Φ b)) 1 1]).run prog k=.ok (goInt [u].length) (k.setCells g i [u]):=λk G V f e=>
  run_copy_cells k _ _ f 5 g i (n+1-i) e (Φ b) 1 1 [u] underlying22 B (by simp only[Nk,Bg,CV];split<;>omega)
   (λj v d=>by
    rw[Addr.add_lit,G,m,LJ g _ _ _ _ (λh _=>absurd h P)];exact Q j v d)
   (λj d=>by rw[G];exact N _ (by simp at d;omega)) (λj d=>by rw[V,m,Ia];exact z _) (λv a=>by simp at a;subst a;exact U)
 rw[<-m]at I;clear p t A z M L y Q a E o J N B H K;go_in;go_wp2_with(simp only[ab]);go_region_law(refine step_copy_runI rfl _ _ 22 22 rfl _ _ (by simp[Act.eval,Act.put]) (by simp[Act.eval,Act.put]) (I _ _ _) ?_);go_wp2_with(at_builtin;refine wpList_copy_runI _ rfl _ _ 22 22 rfl _ _ rfl rfl (X _ (λ_=>rfl) (λ_=>rfl) _ _) ?_);go_ret;exact⟨rfl,rfl⟩
def nI(g n c i b:Nat)(xs:List ku)(u:ku)(w:jT)(pI:Nat)(p:w.ownsRow pI 47 1 (fM (jm (Φ g)) n c) n xs)(hi:i<n)(aq:n+1<=c)(ao:c<=9223372036854775807)(P:b≠g)(a:Cm w b 47 [u])
 (E:∀v∈xs,v.oneCell'=jO)(U:u.oneCell'=jO):
 Calls prog 222 #[fM (jm (Φ g)) n c,i,fM (jm (Φ b)) 1 1] w λS w'=>
  S=iO (fM (jm (Φ g)) (n+1) c)/\w'=(w.drew.setCells g (i+1) (xs.drop i)).setCells g i [u]:=by
 have H:xs.length=n:=by simpa using p.1
 have t:∀j v,xs[j]?=jm v->w.cell? (Δ g j)=jm v:=λj v h=>by
  rw[p.cellAt j (Ω ((Cf.1 h).1))];exact h
 have W:∃l:Array ku,w.heap[g]?=jm (ji l 47 (0,0))/\l.size=c:=by
  rcases p.2 with⟨F,_⟩|⟨ad,ac,l,R,_,Y,_,_,t,_⟩
  ·cases F
  ·simp only[Value.slice.injEq,Option.some.injEq,Addr.mk.injEq,and_true,true_and]at R;obtain⟨rfl,rfl⟩:=R;exact⟨l,Y,O⟩
 obtain⟨l,o,J⟩:=W;have A:∀j,j<n+1->(w.cell? (Δ g j)).isSome=true:=λj d=>by
  rw[cell_of_row w g j _ 47 (0,0) o,Gs O];rfl
 have z:∀j,w.frozen? (Δ g j)=false:=λj=>by simp[Ij,o]
 have M:w.shape? g=jm (47,c):=by simp[YL,o,J]
 have L:w.shape? b=jm (47,1):=by unfold Cm at a;simp[YL,a]
 have y:∀j,w.frozen? (Δ b j)=false:=λj=>a.frozen j
 have Q:∀j v,[u][j]?=jm v->w.cell? (Δ b (0+j))=jm v:=λj v h=>by rw[a.cell,Du];exact h
 have B:(prog.info? 47).map (·.size)=jm 1:=by
  obtain⟨av,Z,ae,T,F⟩:=info_parts Tryz.JL.hi;rw[Z];simp[T]
 have ab:∀C s,(callFunc 242 #[fM (jm (Φ b)) 1 1,fM (jm (Δ g (i+1))) C s]).run prog w=.ok (.value (.bool jS)) w:=λC s=>by
  rw[run_callFunc_extern func242 Γ Γ Γ (e:=Extern.SlicesOverlaps.overlaps #[76,76] #[4]) Γ,
   Abs w 76 4 47 underlying76 1 Tryz.JL.TB (Φ b) (Δ g (i+1)) 1 1 C s P 47 47 1 c L M O (y 0) (y 1)]
  rfl
 have K:(xs.drop i).length=n-i:=by rw[AU,H]
 have au:IntKind.i64.wrap ((i:Int)+1)=(i:Int)+1:=by rw[IntKind.wrap_i64];omega
 have ah:(0:Int)<=(i:Int)+1:=O;have ap:i<=n:=O;have ar:((i:Int)+1).toNat=i+1:=O;have al:¬(c=i+1):=O;have am:(i:Int)<=(n:Int)+1:=O;have an:¬(c=i):=O;have I:∀f e D,(Builtin.copy_ #[76,76] f #[fM (jm (Δ g (i+1))) (n-i) e,fM (jm (Δ g i)) (n+1-i) D]).run prog w.drew=.ok (goInt (xs.drop i).length) (w.drew.setCells g (i+1) (xs.drop i)):=λf e D=>
  run_copy_cells w.drew _ _ f 47 g (i+1) (n-i) e (Δ g i) (n+1-i) D (xs.drop i) underlying76 B (by rw[K];simp only[Nk];split<;>omega)
   (λj v d=>by rw[Addr.add_lit];exact t (i+j) v (by rwa [DX]at d))
   (λj d=>A _ O) (λj d=>z _) (λv a=>E v (IG a))
 obtain⟨r,m⟩:=ε (w.drew.setCells g (i+1) (xs.drop i));have N:∀q,q<n+1->(r.cell? (Δ g q)).isSome=true:=λq aa=>by
  rw[m];exact Ip g _ _ _ _ (A q aa)
 have X:∀(k:jT),(∀x,k.cell? x=r.cell? x)->(∀x,k.frozen? x=r.frozen? x)->∀f e,(Builtin.copy_ #[76,76] f #[fM (jm (Δ g i)) (n+1-i) e,fM (jm (Φ b)) 1 1]).run prog k=.ok (goInt [u].length) (k.setCells g i [u]):=λk G V f e=>
  run_copy_cells k _ _ f 47 g i (n+1-i) e (Φ b) 1 1 [u] underlying76 B (by simp only[Nk,Bg,CV];split<;>omega)
   (λj v d=>by
    rw[Addr.add_lit,G,m,LJ g _ _ _ _ (λh _=>absurd h P)];exact Q j v d)
   (λj d=>by rw[G];exact N _ (by simp at d;omega)) (λj d=>by rw[V,m,Ia];exact z _) (λv a=>by simp at a;subst a;exact U)
 rw[<-m]at I;clear p t A z M L y Q a E o J N B H K;go_in;go_wp2_with(simp only[ab]);go_region_law(refine step_copy_runI rfl _ _ 76 76 rfl _ _ (by simp[Act.eval,Act.put]) (by simp[Act.eval,Act.put]) (I _ _ _) ?_);go_wp2_with(at_builtin;refine wpList_copy_runI _ rfl _ _ 76 76 rfl _ _ rfl rfl (X _ (λ_=>rfl) (λ_=>rfl) _ _) ?_);go_ret;exact⟨rfl,rfl⟩
def uG(g n c i f:Nat)(xs:List ku)(u:ku)(w:jT)(pI:Nat)(y:w.ownsRow pI 5 1 (fM (jm (Φ g)) n c) n xs)(hi:i<n)(ap:c<n+1)(aG:n<=1000000)(l:Cm w f 5 [u])
 (L:∀v∈xs,v.oneCell'=jO)(aa:u.oneCell'=jO):
 Calls prog 221 #[fM (jm (Φ g)) n c,i,fM (jm (Φ f)) 1 1] w λq w'=>∃G a,n+1<=G/\G<=maxLen/\a.size=G/\(∀j,j<i->a[j]?=xs[j]?)/\
  q=iO (fM (jm (Φ w)) (n+1) G)/\
  w'=(((w.alloc (ji a 5)).drew.setCells w i [u]).drew).setCells w (i+1) (xs.drop i):=by
 have S:xs.length=n:=by simpa using y.1
 have t:∀j v,xs[j]?=jm v->w.cell? (Δ g j)=jm v:=λj v h=>by
  rw[y.cellAt j (Ω ((Cf.1 h).1))];exact h
 have ao:n<=c:=(Dk y).1;have X:∀j v,[u][j]?=jm v->w.cell? (Δ f (0+j))=jm v:=λj v h=>by rw[l.cell,Du];exact h
 have aq:f<w:=l.lt;have am:g<w:=block_lt_of_cell (t 0 _ (Ag O));obtain⟨Z,E,Y,J,I⟩:=info_parts Tryz.Jq.hi;have aM:(c:Int)<(n:Int)+1:=O;have H:(prog.info? 5).map (·.size)=jm 1:=by rw[E];simp[J]
 have V:(n:Int)+1-(i:Int)=((n+1-i:Nat):Int):=O;have F:i+(n+1-i)=n+1:=O;have W:(Builtin.firstCells Z.size i (fM (jm (Φ g)) i c)).run prog w.drew=.ok (xs.take i).toArray w.drew:=by
  rw[J];exact run_firstCells_some w.drew 1 i (Φ g) i c (xs.take i) (by rw[Cc];omega) (λj v b=>by
   rw[Addr.add_lit,Du];rw[Dh]at b;split at b
   ·exact t j v b
   ·cases b)
 have z:∀e,(Builtin.append_ #[22,3] e #[fM (jm (Φ g)) i c,gz iU ((n:Int)+1-(i:Int))]).run prog w=
  .ok (fM (jm (Φ w)) (n+1) (grownCap w (n+1) c 5)) (w.drew.alloc (ji ((xs.take i).toArray++Builtin.zeroCells (AA .u8 0).cells (n+1-i)++Builtin.zeroCells (AA .u8 0).cells (grownCap w (n+1) c 5-(n+1))) 5)):=λe=>by
  have h:=rQ w 22 3 e 5 Z _ iU iU underlying22 underlying3 E Y (jm (Φ g)) i c (xs.take i) W (n+1-i) O O O O (by rw[I];omega) (by rw[I,F];exact growslice_fits ap O);rw[F]at h;rw[V];exact h
 obtain⟨G,r⟩:=ε (grownCap w (n+1) c 5);obtain⟨a,s⟩:∃a:Array ku,a=(xs.take i).toArray++Builtin.zeroCells (AA .u8 0).cells (n+1-i)++Builtin.zeroCells (AA .u8 0).cells (G-(n+1)):=⟨_,rfl⟩;rw[<-r]at z;rw[<-s]at z;have ah:n+1<=G:=by rw[r];exact grownCap_ge w _ _ _
 have A:G<=maxLen:=by rw[r];exact grownCap_le_maxLen w (n+1) c 5 (by unfold maxLen;omega)
 have Q:a.size=G:=by
  rw[s];simp[Builtin.zeroCells,Aby];omega
 have P:∀j,j<i->a[j]?=xs[j]?:=λj b=>by
  rw[s,Afs,lI (by simp;omega)];simp[b]
 obtain⟨k,o⟩:=ε (w.drew.alloc (ji a 5));rw[<-o]at z;have B:∀j,j<n+1->(k.cell? (Δ w j)).isSome=true:=λj b=>by
  rw[o,KJ (w:=w.drew) a _ w j rfl,Gs O];rfl
 have C:∀j,k.frozen? (Δ w j)=false:=λj=>by rw[o];exact wJ (w:=w.drew) a _ w j rfl
 have M:∀j v,w.cell? (Δ g j)=jm v->k.cell? (Δ g j)=jm v:=λj v h=>by rw[o,D6 (w:=w.drew) _ g j am];exact h
 have N:∀j v,w.cell? (Δ f j)=jm v->k.cell? (Δ f j)=jm v:=λj v h=>by rw[o,D6 (w:=w.drew) _ f j aq];exact h
 have an:∀(d:jT),(∀x,d.cell? x=k.cell? x)->(∀x,d.frozen? x=k.frozen? x)->∀e m,(Builtin.copy_ #[22,22] e #[fM (jm (Δ w i)) (n+1-i) m,fM (jm (Φ f)) 1 1]).run prog d=.ok (goInt [u].length) (d.setCells w i [u]):=λd p D e m=>
  run_copy_cells d _ _ e 5 w i (n+1-i) m (Φ f) 1 1 [u] underlying22 H (by simp only[Nk,Bg,CV];split<;>omega)
   (λj v b=>by rw[Addr.add_lit,p];exact N _ v (X j v b))
   (λj b=>by rw[p];exact B _ (by simp at b;omega)) (λj b=>by rw[D];exact C _) (λv l=>by simp at l;subst l;exact aa)
 have au:G<=9223372036854775807:=by unfold maxLen at A;omega
 have av:¬(G=i):=O;have aw:¬(G=i+1):=O;have aE:¬(c=i):=O;have al:g≠w:=O;have U:(xs.drop i).length=n-i:=by rw[AU,S]
 have T:∀(d:jT),(∀x,d.cell? x=(k.setCells w i [u]).cell? x)->(∀x,d.frozen? x=(k.setCells w i [u]).frozen? x)->∀e m K,(Builtin.copy_ #[22,22] e #[fM (jm (Δ w (i+1))) (n-i) m,fM (jm (Δ g i)) (n-i) K]).run prog d=.ok (goInt (xs.drop i).length) (d.setCells w (i+1) (xs.drop i)):=λd p D e m K=>
  run_copy_cells d _ _ e 5 w (i+1) (n-i) m (Δ g i) (n-i) K (xs.drop i) underlying22 H (by rw[U];simp only[Nk];split<;>omega)
   (λj v b=>by
    rw[Addr.add_lit,p,LJ _ _ _ _ _ (λh _=>absurd h al)];exact M _ v (t (i+j) v (by rwa [DX]at b)))
   (λj b=>by rw[p];exact Ip _ _ _ _ _ (B _ O))
   (λj b=>by rw[D,Ia];exact C _) (λv l=>L v (IG l))
 subst o;have ab:∀x,((w.alloc (ji a 5)).drew).cell? x=(w.drew.alloc (ji a 5)).cell? x:=λx=>rfl
 have ac:∀x,((w.alloc (ji a 5)).drew).frozen? x=(w.drew.alloc (ji a 5)).frozen? x:=λx=>rfl
 have ad:∀x,(((w.alloc (ji a 5)).drew.setCells w i [u]).drew).cell? x=((w.drew.alloc (ji a 5)).setCells w i [u]).cell? x:=λx=>rfl
 have ae:∀x,(((w.alloc (ji a 5)).drew.setCells w i [u]).drew).frozen? x=((w.drew.alloc (ji a 5)).setCells w i [u]).frozen? x:=λx=>rfl
 have aL:IntKind.i64.wrap ((i:Int)+1)=(i:Int)+1:=by rw[IntKind.wrap_i64];omega
 have az:(0:Int)<=(i:Int)+1:=O;have aI:((i:Int)+1).toNat=i+1:=O;have aD:(i:Int)<=(n:Int):=O;have ar:i<=c:=O;refine Calls.mono (R:=λq w'=>q=iO (fM (jm (Φ w)) (n+1) G)/\w'=(((w.alloc (ji a 5)).drew.setCells w i [u]).drew).setCells w (i+1) (xs.drop i)) ?_ (λq w' h=>⟨G,a,ah,A,Q,P,h⟩);clear V F W s r Q P y t ao X l L B C M N E Y J I H S U A;go_in;go_wp2_with(first
  |(at_builtin;refine GL _ rfl _ _ _ _ rfl _ _ rfl rfl _ _ (z _) ?_)
  |(at_builtin;refine wpList_copy_runI _ rfl _ _ 22 22 rfl _ _ rfl rfl (an _ ab ac _ _) ?_)
  |(at_builtin;refine wpList_copy_runI _ rfl _ _ 22 22 rfl _ _ rfl rfl (T _ (λ_=>rfl) (λ_=>rfl) _ _ _) ?_))
 go_region_law(refine step_copy_runI rfl _ _ 22 22 rfl (fM (jm (Δ w (i+1))) (n-i) (G-(i+1))) (fM (jm (Δ g i)) (n-i) (c-i)) (by simp[Act.eval,Act.put]) (by simp[Act.eval,Act.put]) (T _ ad ae 3 (G-(i+1)) (c-i)) ?_);go_wp2;go_ret;exact⟨rfl,rfl⟩
def uH(g n c i f:Nat)(xs:List ku)(u:ku)(w:jT)(pI:Nat)(y:w.ownsRow pI 47 1 (fM (jm (Φ g)) n c) n xs)(hi:i<n)(ap:c<n+1)(aG:n<=1000000)(l:Cm w f 47 [u])
 (L:∀v∈xs,v.oneCell'=jO)(aa:u.oneCell'=jO):
 Calls prog 222 #[fM (jm (Φ g)) n c,i,fM (jm (Φ f)) 1 1] w λq w'=>∃G a,n+1<=G/\G<=maxLen/\a.size=G/\(∀j,j<i->a[j]?=xs[j]?)/\
  q=iO (fM (jm (Φ w)) (n+1) G)/\
  w'=(((w.alloc (ji a 47)).drew.setCells w i [u]).drew).setCells w (i+1) (xs.drop i):=by
 have S:xs.length=n:=by simpa using y.1
 have t:∀j v,xs[j]?=jm v->w.cell? (Δ g j)=jm v:=λj v h=>by
  rw[y.cellAt j (Ω ((Cf.1 h).1))];exact h
 have ao:n<=c:=(Dk y).1;have X:∀j v,[u][j]?=jm v->w.cell? (Δ f (0+j))=jm v:=λj v h=>by rw[l.cell,Du];exact h
 have aq:f<w:=l.lt;have am:g<w:=block_lt_of_cell (t 0 _ (Ag O));obtain⟨Z,E,Y,J,I⟩:=info_parts Tryz.JL.hi;have aM:(c:Int)<(n:Int)+1:=O;have H:(prog.info? 47).map (·.size)=jm 1:=by rw[E];simp[J]
 have V:(n:Int)+1-(i:Int)=((n+1-i:Nat):Int):=O;have F:i+(n+1-i)=n+1:=O;have W:(Builtin.firstCells Z.size i (fM (jm (Φ g)) i c)).run prog w.drew=.ok (xs.take i).toArray w.drew:=by
  rw[J];exact run_firstCells_some w.drew 1 i (Φ g) i c (xs.take i) (by rw[Cc];omega) (λj v b=>by
   rw[Addr.add_lit,Du];rw[Dh]at b;split at b
   ·exact t j v b
   ·cases b)
 have z:∀e,(Builtin.append_ #[76,3] e #[fM (jm (Φ g)) i c,gz iU ((n:Int)+1-(i:Int))]).run prog w=
  .ok (fM (jm (Φ w)) (n+1) (grownCap w (n+1) c 47)) (w.drew.alloc (ji ((xs.take i).toArray++Builtin.zeroCells (AA iV 0).cells (n+1-i)++Builtin.zeroCells (AA iV 0).cells (grownCap w (n+1) c 47-(n+1))) 47)):=λe=>by
  have h:=rQ w 76 3 e 47 Z _ iU iU underlying76 underlying3 E Y (jm (Φ g)) i c (xs.take i) W (n+1-i) O O O O (by rw[I];omega) (by rw[I,F];exact growslice_fits ap O);rw[F]at h;rw[V];exact h
 obtain⟨G,r⟩:=ε (grownCap w (n+1) c 47);obtain⟨a,s⟩:∃a:Array ku,a=(xs.take i).toArray++Builtin.zeroCells (AA iV 0).cells (n+1-i)++Builtin.zeroCells (AA iV 0).cells (G-(n+1)):=⟨_,rfl⟩;rw[<-r]at z;rw[<-s]at z;have ah:n+1<=G:=by rw[r];exact grownCap_ge w _ _ _
 have A:G<=maxLen:=by rw[r];exact grownCap_le_maxLen w (n+1) c 47 (by unfold maxLen;omega)
 have Q:a.size=G:=by
  rw[s];simp[Builtin.zeroCells,Aby];omega
 have P:∀j,j<i->a[j]?=xs[j]?:=λj b=>by
  rw[s,Afs,lI (by simp;omega)];simp[b]
 obtain⟨k,o⟩:=ε (w.drew.alloc (ji a 47));rw[<-o]at z;have B:∀j,j<n+1->(k.cell? (Δ w j)).isSome=true:=λj b=>by
  rw[o,KJ (w:=w.drew) a _ w j rfl,Gs O];rfl
 have C:∀j,k.frozen? (Δ w j)=false:=λj=>by rw[o];exact wJ (w:=w.drew) a _ w j rfl
 have M:∀j v,w.cell? (Δ g j)=jm v->k.cell? (Δ g j)=jm v:=λj v h=>by rw[o,D6 (w:=w.drew) _ g j am];exact h
 have N:∀j v,w.cell? (Δ f j)=jm v->k.cell? (Δ f j)=jm v:=λj v h=>by rw[o,D6 (w:=w.drew) _ f j aq];exact h
 have an:∀(d:jT),(∀x,d.cell? x=k.cell? x)->(∀x,d.frozen? x=k.frozen? x)->∀e m,(Builtin.copy_ #[76,76] e #[fM (jm (Δ w i)) (n+1-i) m,fM (jm (Φ f)) 1 1]).run prog d=.ok (goInt [u].length) (d.setCells w i [u]):=λd p D e m=>
  run_copy_cells d _ _ e 47 w i (n+1-i) m (Φ f) 1 1 [u] underlying76 H (by simp only[Nk,Bg,CV];split<;>omega)
   (λj v b=>by rw[Addr.add_lit,p];exact N _ v (X j v b))
   (λj b=>by rw[p];exact B _ (by simp at b;omega)) (λj b=>by rw[D];exact C _) (λv l=>by simp at l;subst l;exact aa)
 have au:G<=9223372036854775807:=by unfold maxLen at A;omega
 have av:¬(G=i):=O;have aw:¬(G=i+1):=O;have aE:¬(c=i):=O;have al:g≠w:=O;have U:(xs.drop i).length=n-i:=by rw[AU,S]
 have T:∀(d:jT),(∀x,d.cell? x=(k.setCells w i [u]).cell? x)->(∀x,d.frozen? x=(k.setCells w i [u]).frozen? x)->∀e m K,(Builtin.copy_ #[76,76] e #[fM (jm (Δ w (i+1))) (n-i) m,fM (jm (Δ g i)) (n-i) K]).run prog d=.ok (goInt (xs.drop i).length) (d.setCells w (i+1) (xs.drop i)):=λd p D e m K=>
  run_copy_cells d _ _ e 47 w (i+1) (n-i) m (Δ g i) (n-i) K (xs.drop i) underlying76 H (by rw[U];simp only[Nk];split<;>omega)
   (λj v b=>by
    rw[Addr.add_lit,p,LJ _ _ _ _ _ (λh _=>absurd h al)];exact M _ v (t (i+j) v (by rwa [DX]at b)))
   (λj b=>by rw[p];exact Ip _ _ _ _ _ (B _ O))
   (λj b=>by rw[D,Ia];exact C _) (λv l=>L v (IG l))
 subst o;have ab:∀x,((w.alloc (ji a 47)).drew).cell? x=(w.drew.alloc (ji a 47)).cell? x:=λx=>rfl
 have ac:∀x,((w.alloc (ji a 47)).drew).frozen? x=(w.drew.alloc (ji a 47)).frozen? x:=λx=>rfl
 have ad:∀x,(((w.alloc (ji a 47)).drew.setCells w i [u]).drew).cell? x=((w.drew.alloc (ji a 47)).setCells w i [u]).cell? x:=λx=>rfl
 have ae:∀x,(((w.alloc (ji a 47)).drew.setCells w i [u]).drew).frozen? x=((w.drew.alloc (ji a 47)).setCells w i [u]).frozen? x:=λx=>rfl
 have aL:IntKind.i64.wrap ((i:Int)+1)=(i:Int)+1:=by rw[IntKind.wrap_i64];omega
 have az:(0:Int)<=(i:Int)+1:=O;have aI:((i:Int)+1).toNat=i+1:=O;have aD:(i:Int)<=(n:Int):=O;have ar:i<=c:=O;refine Calls.mono (R:=λq w'=>q=iO (fM (jm (Φ w)) (n+1) G)/\w'=(((w.alloc (ji a 47)).drew.setCells w i [u]).drew).setCells w (i+1) (xs.drop i)) ?_ (λq w' h=>⟨G,a,ah,A,Q,P,h⟩);clear V F W s r Q P y t ao X l L B C M N E Y J I H S U A;go_in;go_wp2_with(first
  |(at_builtin;refine GL _ rfl _ _ _ _ rfl _ _ rfl rfl _ _ (z _) ?_)
  |(at_builtin;refine wpList_copy_runI _ rfl _ _ 76 76 rfl _ _ rfl rfl (an _ ab ac _ _) ?_)
  |(at_builtin;refine wpList_copy_runI _ rfl _ _ 76 76 rfl _ _ rfl rfl (T _ (λ_=>rfl) (λ_=>rfl) _ _ _) ?_))
 go_region_law(refine step_copy_runI rfl _ _ 76 76 rfl (fM (jm (Δ w (i+1))) (n-i) (G-(i+1))) (fM (jm (Δ g i)) (n-i) (c-i)) (by simp[Act.eval,Act.put]) (by simp[Act.eval,Act.put]) (T _ ad ae 3 (G-(i+1)) (c-i)) ?_);go_wp2;go_ret;exact⟨rfl,rfl⟩
def zq(v:ku)(n i f:Nat)(xs:List ku)(u:ku)(w:jT)(pI:Nat)(b:w.ownsRow pI 5 1 v n xs)(m:pI<=w)(hi:i<=n)(P:n<=1000000)(R:v.ownBlock≠jm f)(g:Cm w f 5 [u])
 (l:∀v∈xs,v.oneCell'=jO)(p:u.oneCell'=jO):
 Calls prog 221 #[v,i,fM (jm (Φ f)) 1 1] w λc w'=>∃j,c=iO j/\w'.ownsRow pI 5 1 j (n+1) (XW xs i u)/\Below pI w w'/\Kept w w' v.ownBlock:=by
 have q:xs.length=n:=by simpa using b.1
 by_cases N:i=n
 ·subst N;have s:Rd w (jm (Φ f)) 1 [u]:=g.rd;have L:=Xa Tryz.Jq 22 b s (λW E=>by simp at E;subst E;exact p) O U m 1;obtain⟨j,w',D,B,z,o⟩:=L;have x:Hid (XW xs i u=xs++[u]):=Ac (by unfold XW;rw[Dq O,D9 O]);rcases b.2 with⟨rfl,rfl⟩|⟨d,k,F,rfl,-,-,Q,r,-⟩
  ·clear b q g s l;go_in;go_wp2_with(at_builtin;refine GL _ rfl _ _ _ _ rfl _ _ rfl rfl _ _ D ?_);go_ret;exact⟨j,rfl,by rw[x.out];exact B,z,o⟩
  ·clear b q g s l r;go_in;go_wp2_with(at_builtin;refine GL _ rfl _ _ _ _ rfl _ _ rfl rfl _ _ D ?_)
   all_goals
    go_ret;exact⟨j,rfl,by rw[x.out];exact B,z,o⟩
 ·rcases id b.2 with⟨rfl,rfl⟩|⟨d,k,F,rfl,T,M,Q,r,_⟩
  ·omega
  ·have V:d<w:=(AL.1 M).1;by_cases C:n+1<=k
   ·refine(nH d n k i f xs u w pI b O C (by unfold maxLen at r;omega) (λh=>R (by rw[h];rfl)) g l p).mono ?_;rintro c w'⟨rfl,rfl⟩;have e:Kept w ((w.drew.setCells d (i+1) (xs.drop i)).setCells d i [u]) (jm d):=((Kept.refl w (jm d)).drew.setCells _ _).setCells _ _;refine⟨_,rfl,o5 (w:=w.drew) (show w.drew.ownsRow pI 5 1 _ n xs from b) O C,e.below m ?_ ?_ ?_ (λH c=>by injection c with c;omega),e⟩
    ·rw[FM,FM];rfl
    ·rw[EC,EC];rfl
    ·rw[Ec,Ec];rfl
   ·refine(uG d n k i f xs u w pI b O O P g l p).mono ?_;rintro c w'⟨G,y,S,I,J,K,rfl,rfl⟩;have A:=o6 (e:=5) (u:=u) (zs:=xs.drop i) y m O O I J K rfl;rw[q]at A;have e:Kept w ((((w.alloc (ji y 5)).drew.setCells w i [u]).drew).setCells w (i+1) (xs.drop i)) none:=by
     refine⟨?_,λt e _=>?_⟩
     ·rw[setCells_size,show∀a:jT,a.drew.heap.size=a from λ_=>rfl,setCells_size];show w<=(w.heap.push _).size;simp
     ·rw[Kr _ _ _ _ O,show∀a:jT,a.drew.heap=a.heap from λ_=>rfl,Kr _ _ _ _ O];show(w.heap.push _)[t]?=_;rw[Ff,lg O]
    refine⟨_,rfl,A,e.below m ?_ ?_ ?_ (λH c=>by cases c),e.1,λt o _=>e.2 t o Θ⟩
    ·rw[FM,show∀a:jT,a.drew.os=a.os from λ_=>rfl,FM];rfl
    ·rw[EC,show∀a:jT,a.drew.tape=a.tape from λ_=>rfl,EC];rfl
    ·rw[Ec,show∀a:jT,a.drew.output=a.output from λ_=>rfl,Ec];rfl
def zt(v:ku)(n i f:Nat)(xs:List ku)(u:ku)(w:jT)(pI:Nat)(b:w.ownsRow pI 47 1 v n xs)(m:pI<=w)(hi:i<=n)(P:n<=1000000)(R:v.ownBlock≠jm f)(g:Cm w f 47 [u])
 (l:∀v∈xs,v.oneCell'=jO)(p:u.oneCell'=jO):
 Calls prog 222 #[v,i,fM (jm (Φ f)) 1 1] w λc w'=>∃j,c=iO j/\w'.ownsRow pI 47 1 j (n+1) (XW xs i u)/\Below pI w w'/\Kept w w' v.ownBlock:=by
 have q:xs.length=n:=by simpa using b.1
 by_cases N:i=n
 ·subst N;have s:Rd w (jm (Φ f)) 1 [u]:=g.rd;have L:=Xa Tryz.JL 76 b s (λW E=>by simp at E;subst E;exact p) O U m 1;obtain⟨j,w',D,B,z,o⟩:=L;have x:Hid (XW xs i u=xs++[u]):=Ac (by unfold XW;rw[Dq O,D9 O]);rcases b.2 with⟨rfl,rfl⟩|⟨d,k,F,rfl,-,-,Q,r,-⟩
  ·clear b q g s l;go_in;go_wp2_with(at_builtin;refine GL _ rfl _ _ _ _ rfl _ _ rfl rfl _ _ D ?_);go_ret;exact⟨j,rfl,by rw[x.out];exact B,z,o⟩
  ·clear b q g s l r;go_in;go_wp2_with(at_builtin;refine GL _ rfl _ _ _ _ rfl _ _ rfl rfl _ _ D ?_)
   all_goals
    go_ret;exact⟨j,rfl,by rw[x.out];exact B,z,o⟩
 ·rcases id b.2 with⟨rfl,rfl⟩|⟨d,k,F,rfl,T,M,Q,r,_⟩
  ·omega
  ·have V:d<w:=(AL.1 M).1;by_cases C:n+1<=k
   ·refine(nI d n k i f xs u w pI b O C (by unfold maxLen at r;omega) (λh=>R (by rw[h];rfl)) g l p).mono ?_;rintro c w'⟨rfl,rfl⟩;have e:Kept w ((w.drew.setCells d (i+1) (xs.drop i)).setCells d i [u]) (jm d):=((Kept.refl w (jm d)).drew.setCells _ _).setCells _ _;refine⟨_,rfl,o5 (w:=w.drew) (show w.drew.ownsRow pI 47 1 _ n xs from b) O C,e.below m ?_ ?_ ?_ (λH c=>by injection c with c;omega),e⟩
    ·rw[FM,FM];rfl
    ·rw[EC,EC];rfl
    ·rw[Ec,Ec];rfl
   ·refine(uH d n k i f xs u w pI b O O P g l p).mono ?_;rintro c w'⟨G,y,S,I,J,K,rfl,rfl⟩;have A:=o6 (e:=47) (u:=u) (zs:=xs.drop i) y m O O I J K rfl;rw[q]at A;have e:Kept w ((((w.alloc (ji y 47)).drew.setCells w i [u]).drew).setCells w (i+1) (xs.drop i)) none:=by
     refine⟨?_,λt e _=>?_⟩
     ·rw[setCells_size,show∀a:jT,a.drew.heap.size=a from λ_=>rfl,setCells_size];show w<=(w.heap.push _).size;simp
     ·rw[Kr _ _ _ _ O,show∀a:jT,a.drew.heap=a.heap from λ_=>rfl,Kr _ _ _ _ O];show(w.heap.push _)[t]?=_;rw[Ff,lg O]
    refine⟨_,rfl,A,e.below m ?_ ?_ ?_ (λH c=>by cases c),e.1,λt o _=>e.2 t o Θ⟩
    ·rw[FM,show∀a:jT,a.drew.os=a.os from λ_=>rfl,FM];rfl
    ·rw[EC,show∀a:jT,a.drew.tape=a.tape from λ_=>rfl,EC];rfl
    ·rw[Ec,show∀a:jT,a.drew.output=a.output from λ_=>rfl,Ec];rfl
def uI(g n c i:Nat)(xs:List ku)(w:jT)(pI:Nat)(l:w.ownsRow pI 5 1 (fM (jm (Φ g)) n c) n xs)(hi:i<n)(ah:n<=1000000)(ab:c<=9223372036854775807)(x:∀v∈xs,v.oneCell'=jO):
 Calls prog 215 #[fM (jm (Φ g)) n c,i,gz iU ((i:Int)+1)] w λE w'=>
  E=iO (fM (jm (Φ g)) (n-1) c)/\w'=(w.drew.setCells g i (xs.drop (i+1))).setCells g (n-1) [gz .u8 0]:=by
 have A:xs.length=n:=by simpa using l.1
 have q:∀j v,xs[j]?=jm v->w.cell? (Δ g j)=jm v:=λj v h=>by
  rw[l.cellAt j (Ω ((Cf.1 h).1))];exact h
 have al:n<=c:=(Dk l).1;have I:∃f:Array ku,w.heap[g]?=jm (ji f 5 (0,0))/\f.size=c:=by
  rcases l.2 with⟨F,_⟩|⟨V,U,f,D,_,K,_,_,q,_⟩
  ·cases F
  ·simp only[Value.slice.injEq,Option.some.injEq,Addr.mk.injEq,and_true,true_and]at D;obtain⟨rfl,rfl⟩:=D;exact⟨f,K,O⟩
 obtain⟨f,s,J⟩:=I;have t:∀j,j<n->(w.cell? (Δ g j)).isSome=true:=λj ad=>by
  rw[cell_of_row w g j _ 5 (0,0) s,Gs O];rfl
 have r:∀j,w.frozen? (Δ g j)=false:=λj=>by simp[Ij,s]
 obtain⟨P,L,ao,N,aq⟩:=info_parts Tryz.Jq.hi;obtain⟨b,k⟩:=ε (xs.drop (i+1));have B:b.length=n-(i+1):=by rw[k,AU,A]
 obtain⟨m,W,M⟩:∃m:Addr,(if c=i+1 then jm ((Φ g):Addr)else jm (Δ g (i+1)))=jm m/\Hid (∀a d,b[a]?=jm d->w.drew.cell? (m.add a)=jm d):=by
  by_cases h:c=i+1
  ·refine⟨(Φ g),by simp[h],λa d e=>?_⟩;rw[wK.1 (show b.length=0 by omega)]at e;simp at e
  ·refine⟨(Δ g (i+1)),by simp[h],λa d e=>?_⟩;rw[Addr.add_lit];refine q (i+1+a) d ?_;rw[k,DX]at e;exact e
 have Q:Hid (b.length=(n-(i+1))*1):=by rw[NJ];exact B
 have R:Hid (∀d∈b,d.oneCell'=jO):=by
  intro d e;rw[k]at e;exact x d (IG e)
 have S:Hid (∀a,a<b.length->(w.drew.cell? (Δ g (0+i*1+a))).isSome=jO/\w.drew.frozen? (Δ g (0+i*1+a))=jS):=by
  intro a C;rw[NJ,Du];exact⟨t (i+a) O,r _⟩
 obtain⟨o,p⟩:=ε (w.drew.setCells g (0+i*1) b);have T:∀u,(Builtin.clear_ #[22] u #[fM (jm (Δ g (i+(n-(i+1))))) (n-(i+(n-(i+1)))) (c-(i+(n-(i+1))))]).run prog o=.ok (iJ #[]) (o.setCells g (i+(n-(i+1))) (BJ (n-(i+(n-(i+1)))) (gz .u8 0))):=
  λu=>Ahj o _ _ u _ underlying22 Tryz.zeroValue5 rfl rfl g (i+(n-(i+1))) _ _ O (λa C=>by rw[p];exact Ip _ _ _ _ _ (t _ O)) (λa C=>by rw[p,Ia];exact r _)
 have z:Hid (o=w.drew.setCells g (0+i*1) b):=p;have H:Hid (b=xs.drop (i+1)):=k;have y:Hid (i+(n-(i+1))=n-1):=by show i+(n-(i+1))=n-1;omega
 have G:Hid (n-(i+(n-(i+1)))=1):=by show n-(i+(n-(i+1)))=1;omega
 have ac:i<=c:=O;have ae:i+1<=c:=O;have an:IntKind.i64.wrap ((i:Int)+1)=(i:Int)+1:=by rw[IntKind.wrap_i64];omega
 have X:(0:Int)<=(i:Int)+1:=O;have am:((i:Int)+1).toNat=i+1:=O;have ap:((i:Int)==(i:Int)+1)=false:=ζ O;have Y:(i:Int)+1<=(n:Int):=O;have Z:(i:Int)<=(i:Int)+1:=O;have aa:(n:Int)<=(c:Int):=O;clear p l q t r s J k B x A;go_in;go_wp2_with fail;go_region_law(refine step_append_room rfl (.tmp 22) (.tmp 25) 22 rfl 5 P 1 underlying22 L N g 0 i c (by simp[Act.eval,Act.put]) m (n-(i+1)) (c-(i+1)) b (by simp[Act.eval,Act.put]) Q M.out R O S ?_;rw[<-z.out]);go_wp2;go_ret;refine⟨by rw[<-y.out];rfl,?_⟩;rw[<-y.out,<-H.out,z.out,G.out,Du,NJ];rfl
def zu(v:ku)(n i:Nat)(xs:List ku)(w:jT)(pI:Nat)(c:w.ownsRow pI 5 1 v n xs)(j:pI<=w)(hi:i<n)(l:n<=1000000)(g:∀v∈xs,v.oneCell'=jO):
 Calls prog 215 #[v,i,gz iU ((i:Int)+1)] w λa w'=>∃e,a=iO e/\w'.ownsRow pI 5 1 e (n-1) (sU xs i)/\Below pI w w'/\Kept w w' v.ownBlock:=by
 rcases id c.2 with⟨rfl,rfl⟩|⟨b,f,m,rfl,p,q,r,k,_⟩
 ·omega
 ·refine(uI b n f i xs w pI c hi l (by unfold maxLen at k;omega) g).mono ?_;rintro a w'⟨rfl,rfl⟩;have d:Kept w ((w.drew.setCells b i (xs.drop (i+1))).setCells b (n-1) [gz .u8 0]) (jm b):=((Kept.refl w (jm b)).drew.setCells _ _).setCells _ _;refine⟨_,rfl,ai (w:=w.drew) (show w.drew.ownsRow pI 5 1 _ n xs from c) hi rfl,d.below j ?_ ?_ ?_ (λo a=>by injection a with a;omega),d⟩
  ·rw[FM,FM];rfl
  ·rw[EC,EC];rfl
  ·rw[Ec,Ec];rfl
def uJ(g n c i:Nat)(xs:List ku)(w:jT)(pI:Nat)(l:w.ownsRow pI 47 1 (fM (jm (Φ g)) n c) n xs)(hi:i<n)(ah:n<=1000000)(ab:c<=9223372036854775807)(x:∀v∈xs,v.oneCell'=jO):
 Calls prog 216 #[fM (jm (Φ g)) n c,i,gz iU ((i:Int)+1)] w λE w'=>
  E=iO (fM (jm (Φ g)) (n-1) c)/\w'=(w.drew.setCells g i (xs.drop (i+1))).setCells g (n-1) [gz iV 0]:=by
 have A:xs.length=n:=by simpa using l.1
 have q:∀j v,xs[j]?=jm v->w.cell? (Δ g j)=jm v:=λj v h=>by
  rw[l.cellAt j (Ω ((Cf.1 h).1))];exact h
 have al:n<=c:=(Dk l).1;have I:∃f:Array ku,w.heap[g]?=jm (ji f 47 (0,0))/\f.size=c:=by
  rcases l.2 with⟨F,_⟩|⟨V,U,f,D,_,K,_,_,q,_⟩
  ·cases F
  ·simp only[Value.slice.injEq,Option.some.injEq,Addr.mk.injEq,and_true,true_and]at D;obtain⟨rfl,rfl⟩:=D;exact⟨f,K,O⟩
 obtain⟨f,s,J⟩:=I;have t:∀j,j<n->(w.cell? (Δ g j)).isSome=true:=λj ad=>by
  rw[cell_of_row w g j _ 47 (0,0) s,Gs O];rfl
 have r:∀j,w.frozen? (Δ g j)=false:=λj=>by simp[Ij,s]
 obtain⟨P,L,ao,N,aq⟩:=info_parts Tryz.JL.hi;obtain⟨b,k⟩:=ε (xs.drop (i+1));have B:b.length=n-(i+1):=by rw[k,AU,A]
 obtain⟨m,W,M⟩:∃m:Addr,(if c=i+1 then jm ((Φ g):Addr)else jm (Δ g (i+1)))=jm m/\Hid (∀a d,b[a]?=jm d->w.drew.cell? (m.add a)=jm d):=by
  by_cases h:c=i+1
  ·refine⟨(Φ g),by simp[h],λa d e=>?_⟩;rw[wK.1 (show b.length=0 by omega)]at e;simp at e
  ·refine⟨(Δ g (i+1)),by simp[h],λa d e=>?_⟩;rw[Addr.add_lit];refine q (i+1+a) d ?_;rw[k,DX]at e;exact e
 have Q:Hid (b.length=(n-(i+1))*1):=by rw[NJ];exact B
 have R:Hid (∀d∈b,d.oneCell'=jO):=by
  intro d e;rw[k]at e;exact x d (IG e)
 have S:Hid (∀a,a<b.length->(w.drew.cell? (Δ g (0+i*1+a))).isSome=jO/\w.drew.frozen? (Δ g (0+i*1+a))=jS):=by
  intro a C;rw[NJ,Du];exact⟨t (i+a) O,r _⟩
 obtain⟨o,p⟩:=ε (w.drew.setCells g (0+i*1) b);have T:∀u,(Builtin.clear_ #[76] u #[fM (jm (Δ g (i+(n-(i+1))))) (n-(i+(n-(i+1)))) (c-(i+(n-(i+1))))]).run prog o=.ok (iJ #[]) (o.setCells g (i+(n-(i+1))) (BJ (n-(i+(n-(i+1)))) (gz iV 0))):=
  λu=>Ahj o _ _ u _ underlying76 Tryz.zeroValue47 rfl rfl g (i+(n-(i+1))) _ _ O (λa C=>by rw[p];exact Ip _ _ _ _ _ (t _ O)) (λa C=>by rw[p,Ia];exact r _)
 have z:Hid (o=w.drew.setCells g (0+i*1) b):=p;have H:Hid (b=xs.drop (i+1)):=k;have y:Hid (i+(n-(i+1))=n-1):=by show i+(n-(i+1))=n-1;omega
 have G:Hid (n-(i+(n-(i+1)))=1):=by show n-(i+(n-(i+1)))=1;omega
 have ac:i<=c:=O;have ae:i+1<=c:=O;have an:IntKind.i64.wrap ((i:Int)+1)=(i:Int)+1:=by rw[IntKind.wrap_i64];omega
 have X:(0:Int)<=(i:Int)+1:=O;have am:((i:Int)+1).toNat=i+1:=O;have ap:((i:Int)==(i:Int)+1)=false:=ζ O;have Y:(i:Int)+1<=(n:Int):=O;have Z:(i:Int)<=(i:Int)+1:=O;have aa:(n:Int)<=(c:Int):=O;clear p l q t r s J k B x A;go_in;go_wp2_with fail;go_region_law(refine step_append_room rfl (.tmp 22) (.tmp 25) 76 rfl 47 P 1 underlying76 L N g 0 i c (by simp[Act.eval,Act.put]) m (n-(i+1)) (c-(i+1)) b (by simp[Act.eval,Act.put]) Q M.out R O S ?_;rw[<-z.out]);go_wp2;go_ret;refine⟨by rw[<-y.out];rfl,?_⟩;rw[<-y.out,<-H.out,z.out,G.out,Du,NJ];rfl
def zx(v:ku)(n i:Nat)(xs:List ku)(w:jT)(pI:Nat)(c:w.ownsRow pI 47 1 v n xs)(j:pI<=w)(hi:i<n)(l:n<=1000000)(g:∀v∈xs,v.oneCell'=jO):
 Calls prog 216 #[v,i,gz iU ((i:Int)+1)] w λa w'=>∃e,a=iO e/\w'.ownsRow pI 47 1 e (n-1) (sU xs i)/\Below pI w w'/\Kept w w' v.ownBlock:=by
 rcases id c.2 with⟨rfl,rfl⟩|⟨b,f,m,rfl,p,q,r,k,_⟩
 ·omega
 ·refine(uJ b n f i xs w pI c hi l (by unfold maxLen at k;omega) g).mono ?_;rintro a w'⟨rfl,rfl⟩;have d:Kept w ((w.drew.setCells b i (xs.drop (i+1))).setCells b (n-1) [gz iV 0]) (jm b):=((Kept.refl w (jm b)).drew.setCells _ _).setCells _ _;refine⟨_,rfl,ai (w:=w.drew) (show w.drew.ownsRow pI 47 1 _ n xs from c) hi rfl,d.below j ?_ ?_ ?_ (λo a=>by injection a with a;omega),d⟩
  ·rw[FM,FM];rfl
  ·rw[EC,EC];rfl
  ·rw[Ec,Ec];rfl
def Xt(l:List nC)(x:nC):Nat:=l.countP λa=>decide (a.toNat<x.toNat)
def Ajf(l:List nC)(x:nC):Xt l x<=l.length:=List.countP_le_length
def search_end(l:List nC)(x:nC)(i:Nat)(hi:i<=l.length)(h1:∀a(h:a<l.length),a<i->l[a].toNat<x.toNat)(h2:∀a(h:a<l.length),i<=a->x.toNat<=l[a].toNat):Xt l x=i:=by
 unfold Xt
 conv=>lhs;rw[<-List.take_append_drop i l]
 rw[List.countP_append];have f:(l.take i).countP (λd=>decide (d.toNat<x.toNat))=i:=by
  have:(l.take i).length=i:=by simp;omega
  conv=>rhs;rw[<-this]
  rw[List.countP_eq_length];intro e b;obtain⟨a,c,rfl⟩:=CW b;simp at c;simpa using h1 a O O
 have g:(l.drop i).countP (λd=>decide (d.toNat<x.toNat))=0:=by
  rw[List.countP_eq_zero];intro e b;obtain⟨a,c,rfl⟩:=CW b;simp at c;have:=h2 (i+a) O O;simp;omega
 omega
def Ad6(l:List nC)(x:nC)(i:Nat)(h1:∀a(h:a<l.length),a<i->l[a].toNat<x.toNat)(h2:∀a(h:a<l.length),i<=a->x.toNat<=l[a].toNat)
 (g:∀b c(e:b<l.length)(m:c<l.length),b<c->l[b].toNat<l[c].toNat)(hi:i<l.length)(j:l[i].toNat≠x.toNat):(l.any λk=>k.toNat==x.toNat)=false:=by
 rw[Alc];intro b e;obtain⟨a,f,rfl⟩:=CW e;simp;rcases JO a i with h|h
 ·have:=h1 a f h;omega
 ·rcases JO i a with d|d
  ·have:=g i a hi f d;have:=h2 i hi (Ae _);omega
  ·obtain rfl:a=i:=O;exact j
def zy(l:List nC)(x:nC)(h1:∀a(h:a<l.length),a<l.length->l[a].toNat<x.toNat):(l.any λd=>d.toNat==x.toNat)=false:=by
 rw[Alc];intro e c;obtain⟨a,b,rfl⟩:=CW c;have:=h1 a b b;simp;omega
def Ad7(l:List nC)(x:nC)(i:Nat)(hi:i<l.length)(a:l[i].toNat=x.toNat):(l.any λb=>b.toNat==x.toNat)=true:=by
 rw[List.any_eq_true];exact⟨l[i],BO _,by simpa using a⟩
def Ad8(x:Int)(w:jT):Calls prog 248 #[gz .u8 x] w λa w'=>a=iO jS/\w=w':=by
 go_in;go_wp2;go_ret;exact⟨by simp,rfl⟩
def jy(x:Int)(w:jT):Calls prog 239 #[gz .u8 x] w λa w'=>a=iO jS/\w=w':=by
 go_in;go_wp2;go_ret;exact⟨by simp,rfl⟩
def aJ(x y:Int)(w:jT):Calls prog 238 #[gz .u8 x,gz .u8 y] w λa w'=>a=iO (.bool (decide (x<y)))/\w=w':=by
 go_in;go_wp2_with(go_at_call 248;refine(Ad8 _ _).mono ?_;rintro a w'⟨rfl,rfl⟩);go_ret;exact⟨rfl,rfl⟩
def aK(A:Option Addr)(n c:Nat)(l:List nC)(x:nC)(w:jT)(R:n<=1000000)(h:Bs w A n l)(G:∀u v(P:u<l.length)(Q:v<l.length),u<v->l[u].toNat<l[v].toNat):
 Calls prog 220 #[fM A n c,x] w λk w'=>k=iO (iJ #[gz iU (Xt l x:Nat),.bool (l.any λe=>e.toNat==x.toNat)])/\w=w':=by
 have I:=h.len;subst I;have t:=Ac G;clear G;go_in;go_wp2
 go_loopg [7,8]l.length(λH M N wr=>∃b a:Nat,M=gz iU b/\N=gz iU a/\b<=a/\a<=l.length/\a-b<=H/\wr=w/\(∀d(h:d<l.length),d<b->l[d].toNat<x.toNat)/\(∀d(h:d<l.length),a<=d->x.toNat<=l[d].toNat))
 case atStart=>exact⟨0,l.length,rfl,rfl,Bd _,Ae _,O,rfl,λd _ g=>absurd g (Nat.not_lt_zero _),λd y z=>O⟩
 case round=>
  obtain⟨b,a,rfl,rfl,T,F,S,rfl,y,z⟩:=hrel;have q:=Ac y;have s:=Ac z;clear y z;by_cases U:b<a
  ·obtain⟨E,p,L,rfl,K,B⟩:=h.at (show(b+a)/2<l.length by omega);generalize o:l[(b+a)/2]=e at B;have f:=Ac o;clear o;by_cases i:e.toNat<x.toNat
   ·have C:decide ((e.toNat:Int)<(x.toNat:Int))=true:=by simp;omega
    go_wp2_with(go_at_call 238;refine(aJ _ _ _).mono ?_;rintro k w'⟨rfl,rfl⟩);go_roundg(a-((b+a)/2+1))
    case measure=>omega
    case rel=>
     refine⟨(b+a)/2+1,a,by rw[show((b:Int)+(a:Int))/2+1=(((b+a)/2+1:Nat):Int)by omega],rfl,O,F,Ae _,rfl,λd g V=>?_,s⟩;rcases JO d ((b+a)/2)with m|m
     ·have:=t d ((b+a)/2) g E m;rw[f.out]at this;omega
     ·obtain rfl:d=(b+a)/2:=O;rw[f.out];exact i
   ·have C:decide ((e.toNat:Int)<(x.toNat:Int))=false:=by simp;omega
    go_wp2_with(go_at_call 238;refine(aJ _ _ _).mono ?_;rintro k w'⟨rfl,rfl⟩);go_roundg((b+a)/2-b)
    case measure=>omega
    case rel=>
     refine⟨b,(b+a)/2,rfl,by rw[show((b:Int)+(a:Int))/2=(((b+a)/2:Nat):Int)by omega],O,O,Ae _,rfl,q,λd g W=>?_⟩;rcases JO ((b+a)/2) d with m|m
     ·have:=t ((b+a)/2) d E g m;rw[f.out]at this;omega
     ·obtain rfl:d=(b+a)/2:=O;rw[f.out];omega
  ·have:a=b:=O;subst this;have r:=Ac (search_end l x a F q s);by_cases D:a<l.length
   ·obtain⟨E,p,L,rfl,K,B⟩:=h.at D;generalize o:l[a]=e at B;have f:=Ac o;clear o;by_cases i:e.toNat=x.toNat
    ·have j:=Ac (Ad7 l x a D (by rw[f.out];exact i));have C:((e.toNat:Int)==(x.toNat:Int))=true:=by simp;omega
     clear i;go_wp2_with(go_at_call 239;refine(jy _ _).mono ?_;rintro k w'⟨rfl,rfl⟩);go_ret2;exact⟨by rw[r.out,j.out];rfl,rfl⟩
    ·have j:=Ac (Ad6 l x a q s t D (by rw[f.out];exact i));have C:((e.toNat:Int)==(x.toNat:Int))=false:=ζ O;clear i;go_wp2_with(go_at_call 239;refine(jy _ _).mono ?_;rintro k w'⟨rfl,rfl⟩);go_ret2;exact⟨by rw[r.out,j.out];rfl,rfl⟩
   ·have J:a=l.length:=O;have j:=Ac (zy l x (λd g _=>q d g O));clear J;go_wp2;go_ret2;exact⟨by rw[r.out,j.out];rfl,rfl⟩
def ins{a:Type}(xs:List a)(i:Nat)(u:a):List a:=xs.take i++u::xs.drop i
def del{a:Type}(xs:List a)(i:Nat):List a:=xs.take i++xs.drop (i+1)
def zA{a:Type}(f:a->ku)(xs:List a)(i:Nat)(u:a):XW (xs.map f) i (f u)=(ins xs i u).map f:=by
 simp[XW,ins,OW,MZ]
def zB{a:Type}(f:a->ku)(xs:List a)(i:Nat):sU (xs.map f) i=(del xs i).map f:=by
 simp[sU,del,OW,MZ]
def jA{a:Type}(xs:List a)(i:Nat)(u:a)(h:i<=xs.length):(ins xs i u).length=xs.length+1:=by simp[ins];omega
def jB{a:Type}(xs:List a)(i:Nat)(h:i<xs.length):(del xs i).length=xs.length-1:=by simp[del];omega
def Ue{w:jT}{pI:Nat}{e:TypeId}{A:Option Addr}{c n:Nat}{xs:List ku}(h:w.ownsRow pI e 1 (fM A n c) n xs):∀a,A=jm a->pI<=a.block/\a.block<w:=by
 intro a g;subst g;rcases h.2 with⟨d,_⟩|⟨l,j,k,b,f,i,_⟩
 ·cases d
 ·simp only[Value.slice.injEq,Option.some.injEq]at b;obtain⟨rfl,_⟩:=b;exact⟨f,(AL.1 i).1⟩
def VE{w w':jT}{pI B:Nat}{e:TypeId}{A:Option Addr}{c n:Nat}{xs:List ku}(h:w.ownsRow pI e 1 (fM A n c) n xs)(l:∀b,A=jm b->b.block<B)(m:Below B w w'):w'.ownsRow pI e 1 (fM A n c) n xs:=by
 refine⟨h.1,?_⟩;rcases h.2 with h|⟨d,f,g,a,i,j,k⟩
 ·exact .inl h
 ·refine .inr ⟨d,f,g,a,i,?_,k⟩;injection a with a
  exact(m.block d (l _ a)).trans j
def Ajg(x:Nd)(w:jT)(e:Ending)(w':jT):Prop:=
 ∃a b g c i d j,e=iO (iK #[fM b x.pre.length g,x.val,fM c x.labels.length i,fM d x.kids.length j])/\w.heap.size<=a/\a<=w'.heap.size/\
  (w'.ownsRow w.heap.size 5 1 (fM b x.pre.length g) x.pre.length (x.pre.map bv)/\∀f,b=jm f->f.block<a)/\
  w'.ownsRow a 5 1 (fM c x.labels.length i) x.labels.length (x.labels.map bv)/\w'.ownsRow a 47 1 (fM d x.kids.length j) x.kids.length (x.kids.map wv)/\η w w'
def Nz(w:jT)(t:TypeId)(a b c d f g i j:ku):∃e,e=(w.alloc (ji #[a,b,c,d] t)).alloc (ji #[f,g,i,j] t)/\Cm e w.heap.size t [a,b,c,d]/\Cm e (w.heap.size+1) t [f,g,i,j]/\
 η w e/\e.heap.size=w+2:=by
 refine⟨_,rfl,?_,?_,(mZ.alloc (Ae _) _).alloc Θ _,by simp⟩
 ·have:Cm (w.alloc (ji #[a,b,c,d] t)) w t [a,b,c,d]:=heap_alloc_new w _;exact(Below.heap_alloc _ _ _ Θ).trans this
 ·have:Cm ((w.alloc (ji #[a,b,c,d] t)).alloc (ji #[f,g,i,j] t)) (w.alloc (ji #[a,b,c,d] t)).heap.size t [f,g,i,j]:=heap_alloc_new _ _;simpa using this
def jC(C D E:Option Addr)(a I b J c K:Nat)(x:Nd)(w:jT)(ae:a<=1000000)(ah:b<=1000000)(al:c<=1000000)(h1:Bs w C a x.pre)(h2:Bs w D b x.labels)(h3:Ws w E c x.kids):
 Calls prog 214 #[iK #[fM C a I,x.val,fM D b J,fM E c K]] w (Ajg x w):=by
 have an:=h1.len;have ao:=h2.len;have ap:=h3.len;obtain⟨G,R,l,m,L,a2⟩:=Nz w 211 (fM C a I) (gz iV (x.val.toNat:Int)) (fM D b J) (fM E c K) (fM jw 0 0) (gz iV 0) (fM jw 0 0) (fM jw 0 0);have P:=Ac R;clear R;obtain⟨q,r,s,t,f0,f1,f2,f3⟩:=blk4 l;have a1:w.heap.size<G.heap.size:=O;go_in;go_wp2_with fail;rw[<-P.out];clear P q r s t f0 f1 f2 f3;refine(WX C a I x.pre G ae (h1.below L)).mono ?_;rintro Q M⟨a3,rfl,n,B⟩;obtain⟨d,i,rfl,_,_⟩:=CY n;have V:=Ue n;have S:=B.size;replace l:=l.below B O;replace m:=m.below B O;have A:=τ L B;obtain⟨q,r,s,t,f0,f1,f2,f3⟩:=blk4 l;clear B L;go_wp2_with fail;clear q r s t f0 f1 f2 f3;replace l:=l.Be 0 (fM d a i);replace m:=m.far (g':=w.heap.size) O 0 (fM d a i);replace n:=AV n (g:=w.heap.size) O 0 (fM d a i);replace A:=A.setCell (p:=Δ w 0) (Ae _) (fM d a i);have Y:Hid (∀F,d=jm F->F.block<(M.setCell (Δ w 0) (fM d a i)).heap.size):=Ac (λF am=>by have:=(V F am).2;simpa[DL]using this);replace S:G.heap.size<=(M.setCell (Δ w 0) (fM d a i)).heap.size:=by simpa[DL]using S
 clear V;generalize M.setCell (Δ w.heap.size 0) (fM d a i)=H at*;refine(WX D b J x.labels H ah (h2.below A)).mono ?_;rintro Q W⟨a4,rfl,y,u⟩;obtain⟨e,j,rfl,_,_⟩:=CY y;have T:=u.size;replace l:=l.below u O;replace m:=m.below u O;replace n:=own_below n u;have z:=τ A u;obtain⟨q,r,s,t,f0,f1,f2,f3⟩:=blk4 l;clear u A;go_wp2_with fail;clear q r s t f0 f1 f2 f3;replace l:=l.Be 2 (fM e b j);replace m:=m.far (g':=w.heap.size) O 2 (fM e b j);replace n:=AV n (g:=w.heap.size) O 2 (fM e b j);replace y:=AV y (g:=w.heap.size) O 2 (fM e b j);replace z:=z.setCell (p:=Δ w 2) (Ae _) (fM e b j);replace T:H.heap.size<=(W.setCell (Δ w 2) (fM e b j)).heap.size:=by simpa[DL]using T
 generalize W.setCell (Δ w.heap.size 2) (fM e b j)=ad at*;refine(fH E c K x.kids ad al (h3.below z)).mono ?_;rintro Q N⟨a5,rfl,U,o⟩;obtain⟨f,k,rfl,_,_⟩:=CY U;have aq:=o.size;replace l:=l.below o O;replace m:=m.below o O;replace n:=own_below n o;replace y:=own_below y o;have Z:=τ z o;obtain⟨q,r,s,t,f0,f1,f2,f3⟩:=blk4 l;obtain⟨aL,aM,aR,aW,au,av,aw,az⟩:=blk4 m;clear o z;go_wp2_with fail;clear q r s t f0 f1 f2 f3 aL aM aR aW au av aw az;have X:=(((((m.far (g':=w.heap.size) O 3 (Ad f c k)).Be 0 (Ad d a i)).Be 1 (AA iV (x.val.toNat:Int))).Be 2 (Ad e b j)).Be 3 (Ad f c k));have NM:=(((((Z.setCell (p:=Δ w 3) Θ (Ad f c k)).setCell (p:=Δ (w+1) 0) Θ (Ad d a i)).setCell (p:=Δ (w+1) 1) Θ (AA iV (x.val.toNat:Int))).setCell (p:=Δ (w+1) 2) Θ (Ad e b j)).setCell (p:=Δ (w+1) 3) Θ (Ad f c k));have aa:=(AV (AV (AV (AV (AV n (g:=w.heap.size) O 3 (Ad f c k)) (g:=w.heap.size+1) O 0 (Ad d a i)) (g:=w.heap.size+1) O 1 (AA iV (x.val.toNat:Int))) (g:=w.heap.size+1) O 2 (Ad e b j)) (g:=w.heap.size+1) O 3 (Ad f c k));have ab:=(AV (AV (AV (AV (AV y (g:=w.heap.size) O 3 (Ad f c k)) (g:=w.heap.size+1) O 0 (Ad d a i)) (g:=w.heap.size+1) O 1 (AA iV (x.val.toNat:Int))) (g:=w.heap.size+1) O 2 (Ad e b j)) (g:=w.heap.size+1) O 3 (Ad f c k));have ac:=(AV (AV (AV (AV (AV U (g:=w.heap.size) O 3 (Ad f c k)) (g:=w.heap.size+1) O 0 (Ad d a i)) (g:=w.heap.size+1) O 1 (AA iV (x.val.toNat:Int))) (g:=w.heap.size+1) O 2 (Ad e b j)) (g:=w.heap.size+1) O 3 (Ad f c k));have ar:N.heap.size=(((((N.setCell (Δ w 3) (Ad f c k)).setCell (Δ (w+1) 0) (Ad d a i)).setCell (Δ (w+1) 1) (AA iV (x.val.toNat:Int))).setCell (Δ (w+1) 2) (Ad e b j)).setCell (Δ (w+1) 3) (Ad f c k)).heap.size:=by simp[DL]
 rw[ar]at aq;generalize(((((N.setCell (Δ w.heap.size 3) (Ad f c k)).setCell (Δ (w.heap.size+1) 0) (Ad d a i)).setCell (Δ (w.heap.size+1) 1) (AA iV (x.val.toNat:Int))).setCell (Δ (w.heap.size+1) 2) (Ad e b j)).setCell (Δ (w.heap.size+1) 3) (Ad f c k))=a0 at*;obtain⟨aD,aE,aG,aI,_⟩:=blk4 X;subst an ao ap;refine bodyPost_ret (v:=iK #[(Ad d x.pre.length i),(AA iV (x.val.toNat:Int)),(Ad e x.labels.length j),(Ad f x.kids.length k)]) (by simp[results,results214,go_sem,aD,aE,aG,aI]) rfl ?_;exact⟨H,d,i,e,j,f,k,rfl,O,O,⟨FI aa O,Y⟩,ab,FI ac O,NM⟩
def Az1(l:List nC)(x:nC):Bool:=l.any λa=>a.toNat==x.toNat
def Zo(x:Nd)(a:nC)(b:ni):Bool:=CG x&&decide (a.toNat<16)&& !(b.toNat==0)&& !Az1 x.labels a
def OJ(x:Nd)(a:nC)(b:ni):Nd:={pre:=x.pre,val:=x.val,labels:=ins x.labels (Xt x.labels a) a,kids:=ins x.kids (Xt x.labels a) b}
def RF:Value:=iJ #[iK #[fM jw 0 0,gz iV 0,fM jw 0 0,fM jw 0 0],jS]
def Agx(y:Nd)(pI:Nat)(w':jT)(e:Ending):Prop:=∃a d b f c g,e=iO (iJ #[iK #[fM a y.pre.length d,y.val,fM b y.labels.length f,fM c y.kids.length g],jO])/\
 w'.ownsRow pI 5 1 (fM a y.pre.length d) y.pre.length (y.pre.map bv)/\w'.ownsRow pI 5 1 (fM b y.labels.length f) y.labels.length (y.labels.map bv)/\w'.ownsRow pI 47 1 (fM c y.kids.length g) y.kids.length (y.kids.map wv)
def qc{l:List nC}(h:Es l=jO):∀a b(e:a<l.length)(c:b<l.length),a<b->l[a].toNat<l[b].toNat:=by
 rw[IJ]at h;intro a b e c f;obtain⟨d,rfl⟩:∃d,b=a+1+d:=⟨b-(a+1),O⟩;clear f;induction d with
 |zero=>exact h a c
 |succ d g=>exact Nat.lt_trans (g O) (h (a+1+d) c)
def Agy(j d k:Option Addr)(g r c n i s:Nat)(x:Nd)(a:nC)(f:ni)(w:jT)(P:g<=1000000)(C:c<=1000000)(Q:i<=1000000)(h1:Bs w j g x.pre)(h2:Bs w d c x.labels)(h3:Ws w k i x.kids)(G:Zo x a f=jS):
 Calls prog 191 #[iK #[fM j g r,x.val,fM d c n,fM k i s],a,f] w λD w'=>D=iO RF/\η w w':=by
 obtain⟨B,E,l,m,e,aa⟩:=Nz w 211 (fM j g r) (gz iV (x.val.toNat:Int)) (fM d c n) (fM k i s) (fM jw 0 0) (gz iV 0) (fM jw 0 0) (fM jw 0 0);have A:=Ac E;clear E;obtain⟨I,J,K,L,f0,f1,f2,f3⟩:=blk4 l;have Y:w.heap.size<B:=O;have N:=Ac G;clear G;have Z:a.toNat<256:=a.toNat_lt;go_in;go_wp2_with fail;rw[<-A.out];clear A;refine(Ob j d k g r c n i s x B P C Q (h1.below e) (h2.below e) (h3.below e)).mono ?_;rintro D H⟨rfl,o⟩;clear I J K L f0 f1 f2 f3;replace l:=l.below o O;replace m:=m.below o O;have y:=τ e o;replace h2:=h2.below y;clear o e;obtain⟨I,J,K,L,f0,f1,f2,f3⟩:=blk4 l;obtain⟨ah,al,am,an,ab,ac,ad,ae⟩:=blk4 m;cases b:CG x
 case' true=>
  by_cases R:a.toNat<16
  case' neg=>
   have t1:decide ((16:Int)<=(a.toNat:Int))=true:=by simp;omega
   clear b;go_wp2_with fail
  case' pos=>
   have t1:decide ((16:Int)<=(a.toNat:Int))=false:=by simp;omega
   by_cases q:f.toNat=0
   case' pos=>
    have t2:((f.toNat:Int)==0)=true:=by rw[q];rfl
    clear b q;go_wp2_with fail
   case' neg=>
    have t2:((f.toNat:Int)==0)=false:=ζ O;have t:=aK d c n x.labels a H C h2 (qc ((BD x).1 b).2.2.2.2.1);have F:(x.labels.any λu=>u.toNat==a.toNat)=true:=by
     have:=N.out;unfold Zo Az1 at this;rw[b]at this;cases S:(x.labels.any λu=>u.toNat==a.toNat)with
     |true=>rfl
     |false=>rw[S]at this;simp[R]at this;exact absurd this q
    rw[F]at t;have z:=Ac t;clear t F q b;go_wp2_with(refine z.out.ro ?_;clear z)
 case' false=>
  clear b;go_wp2_with fail
 all_goals
  have M:=((((m.Be 0 (Ad jw 0 0)).Be 1 (AA iV 0)).Be 2 (Ad jw 0 0)).Be 3 (Ad jw 0 0));have NM:=(((y.setCell (p:=Δ (w+1) 0) Θ (Ad jw 0 0)).setCell (p:=Δ (w+1) 1) Θ (AA iV 0)).setCell (p:=Δ (w+1) 2) Θ (Ad jw 0 0)).setCell (p:=Δ (w+1) 3) Θ (Ad jw 0 0);generalize(((H.setCell (Δ (w.heap.size+1) 0) (Ad jw 0 0)).setCell (Δ (w.heap.size+1) 1) (AA iV 0)).setCell (Δ (w.heap.size+1) 2) (Ad jw 0 0)).setCell (Δ (w.heap.size+1) 3) (Ad jw 0 0)=X at*;obtain⟨T,U,V,W,_⟩:=blk4 M;exact bodyPost_ret (v:=RF) (by unfold RF;simp[results,results191,go_sem,T,U,V,W]) rfl ⟨rfl,NM⟩
def zC(N L P:Option Addr)(d Y a S b Z:Nat)(x:Nd)(f:nC)(r:ni)(w:jT)(bX:d<=1000)(_:a<=1000)(bY:b<=1000)(h1:Bs w N d x.pre)(h2:Bs w L a x.labels)(h3:Ws w P b x.kids)(a4:Zo x f r=jO):
 Calls prog 191 #[iK #[fM N d Y,x.val,fM L a S,fM P b Z],f,r] w λB w'=>Agx (OJ x f r) (w+2) w' B/\η w w':=by
 obtain⟨aL,aW,c,e,X,b6⟩:=Nz w 211 (fM N d Y) (gz iV (x.val.toNat:Int)) (fM L a S) (fM P b Z) (fM jw 0 0) (gz iV 0) (fM jw 0 0) (fM jw 0 0);have aE:=Ac aW;clear aW;have am:=h1.len;have bk:=h2.len;have bl:=h3.len;obtain⟨E,F,G,H,f0,f1,f2,f3⟩:=blk4 c;have b2:w.heap.size<aL:=O;have b3:f.toNat<256:=f.toNat_lt;simp only[Zo,Bool.and_eq_true,decide_eq_true_eq,Bool.not_eq_true']at a4;obtain⟨⟨⟨ae,b0⟩,a3⟩,a1⟩:=a4;have ah:=(BD x).1 ae;have t1:decide ((16:Int)<=(f.toNat:Int))=false:=by simp;omega
 have t2:((r.toNat:Int)==0)=false:=by rw[beq_eq_false_iff_ne];rw[beq_eq_false_iff_ne]at a3;omega
 have ar:=Ob N L P d Y a S b Z x aL O O O (h1.below X) (h2.below X) (h3.below X);rw[ae]at ar;have aw:=Ac ar;have az:=Ac (qc ah.2.2.2.2.1);have b5:=Ajf x.labels f;have b4:=ah.2.2.1;clear ae ah ar a3;go_in;go_wp2_with fail;rw[<-aE.out];clear aE;refine aw.mono ?_;rintro B ao⟨rfl,V⟩;clear E F G H f0 f1 f2 f3 aw;replace c:=c.below V O;replace e:=e.below V O;have Q:=τ X V;have bV:w.heap.size+2<=ao:=Ω V.size;replace h1:=h1.below Q;replace h2:=h2.below Q;replace h3:=h3.below Q;have an:=aK L a S x.labels f ao O h2 az;have a2:(x.labels.any λbL=>bL.toNat==f.toNat)=false:=a1;rw[a2]at an;have aD:=Ac an;generalize a5:Xt x.labels f=p at*;have ab:=Ac a5;clear V X a2 a1 an a5 az;obtain⟨E,F,G,H,f0,f1,f2,f3⟩:=blk4 c;go_wp2_with(refine aD.out.ro ?_;clear aD);have a0:=jC N L P d Y a S b Z x ao O O O h1 h2 h3;refine a0.mono ?_;rintro B ap⟨au,g,j,s,z,t,A,rfl,b1,bj,⟨o,a6⟩,C,l,aa⟩;clear E F G H f0 f1 f2 f3 a0 h1 h2 h3 t1 t2;replace c:=c.below aa O;replace e:=e.below aa O;have q:=τ Q aa;have av:=Ac a6;clear aa Q a6;obtain⟨E,F,G,H,f0,f1,f2,f3⟩:=blk4 c;go_wp2_with fail;clear E F G H f0 f1 f2 f3;rw[am]at o;rw[bk]at C;rw[bl]at l;have bo:((((ap.setCell (Δ w 0) (Ad g d j)).setCell (Δ w 1) (AA iV (x.val.toNat:Int))).setCell (Δ w 2) (Ad s a z)).setCell (Δ w 3) (Ad t b A)).heap.size=ap:=by simp[DL]
 replace c:=((((c.Be 0 (Ad g d j)).Be 1 (AA iV (x.val.toNat:Int))).Be 2 (Ad s a z)).Be 3 (Ad t b A));replace e:=((((e.far (g':=w) O 0 (Ad g d j)).far (g':=w) O 1 (AA iV (x.val.toNat:Int))).far (g':=w) O 2 (Ad s a z)).far (g':=w) O 3 (Ad t b A));replace o:=(AV (AV (AV (AV o (g:=w) O 0 (Ad g d j)) (g:=w) O 1 (AA iV (x.val.toNat:Int))) (g:=w) O 2 (Ad s a z)) (g:=w) O 3 (Ad t b A));replace C:=(AV (AV (AV (AV C (g:=w) O 0 (Ad g d j)) (g:=w) O 1 (AA iV (x.val.toNat:Int))) (g:=w) O 2 (Ad s a z)) (g:=w) O 3 (Ad t b A));replace l:=(AV (AV (AV (AV l (g:=w) O 0 (Ad g d j)) (g:=w) O 1 (AA iV (x.val.toNat:Int))) (g:=w) O 2 (Ad s a z)) (g:=w) O 3 (Ad t b A));replace q:=((((q.setCell (p:=Δ w 0) Θ (Ad g d j)).setCell (p:=Δ w 1) Θ (AA iV (x.val.toNat:Int))).setCell (p:=Δ w 2) Θ (Ad s a z)).setCell (p:=Δ w 3) Θ (Ad t b A));generalize((((ap.setCell (Δ w.heap.size 0) (Ad g d j)).setCell (Δ w.heap.size 1) (AA iV (x.val.toNat:Int))).setCell (Δ w.heap.size 2) (Ad s a z)).setCell (Δ w.heap.size 3) (Ad t b A))=u at*;rw[<-bo]at bj⊢;have I:η u (u.alloc (ji #[AA .u8 (f.toNat:Int)] 5)):=mZ.alloc (Ae _) _;have aG:Cm (u.alloc (ji #[AA .u8 (f.toNat:Int)] 5)) u 5 [bv f]:=heap_alloc_new u _;have bR:(u.alloc (ji #[AA .u8 (f.toNat:Int)] 5)).heap.size=u+1:=by simp
 have ba:=Ue C;replace c:=c.ξ I;replace e:=e.ξ I;replace o:=own_below o I;replace C:=own_below C I;replace l:=own_below l I;replace q:=τ q I;clear I;generalize u.alloc (ji #[AA .u8 (f.toNat:Int)] 5)=bh at*;have K:=zq (fM s a z) a p u (x.labels.map bv) (bv f) bh au C O O O (by
  cases s with
  |none=>simp[AY]
  |some ac=>have:=(ba ac rfl).2;simp[AY];omega) aG (JW _) rfl
 rw[zA]at K;have R:=Ac K;clear K ba;refine R.mono ?_;rintro B aq⟨b7,rfl,D,M,a7⟩;obtain⟨i,k,rfl,_,_⟩:=CY D;clear R;have T:=PQ C l U;have bm:=M.size;replace c:=c.below M O;replace e:=e.below M O;replace o:=VE o av M;replace l:=Qj l a7 (λad al B=>T ad B al);replace q:=q.trans (M.mono O);clear T C a7 M aG;obtain⟨E,F,G,H,f0,f1,f2,f3⟩:=blk4 c;go_wp2_with fail;clear E F G H f0 f1 f2 f3;have bB:(aq.setCell (Δ w 2) (Ad i (a+1) k)).heap.size=aq:=by simp[DL]
 replace c:=(c.Be 2 (Ad i (a+1) k));replace e:=(e.far (g':=w) O 2 (Ad i (a+1) k));replace o:=(AV o (g:=w) O 2 (Ad i (a+1) k));replace D:=(AV D (g:=w) O 2 (Ad i (a+1) k));replace l:=(AV l (g:=w) O 2 (Ad i (a+1) k));replace q:=(q.setCell (p:=Δ w 2) Θ (Ad i (a+1) k));generalize(aq.setCell (Δ w.heap.size 2) (Ad i (a+1) k))=y at*;rw[<-bB]at bm⊢;have J:η y (y.alloc (ji #[AA iV (r.toNat:Int)] 47)):=mZ.alloc (Ae _) _;have aI:Cm (y.alloc (ji #[AA iV (r.toNat:Int)] 47)) y 47 [wv r]:=heap_alloc_new y _;have bS:(y.alloc (ji #[AA iV (r.toNat:Int)] 47)).heap.size=y+1:=by simp
 have bb:=Ue l;replace c:=c.ξ J;replace e:=e.ξ J;replace o:=own_below o J;replace D:=own_below D J;replace l:=own_below l J;replace q:=τ q J;clear J;generalize y.alloc (ji #[AA iV (r.toNat:Int)] 47)=bi at*;have K:=zt (fM t b A) b p y (x.kids.map wv) (wv r) bi au l O O O (by
  cases t with
  |none=>simp[AY]
  |some ac=>have:=(bb ac rfl).2;simp[AY];omega) aI (Tz _) rfl
 rw[zA]at K;have R:=Ac K;clear K bb;refine R.mono ?_;rintro B bE⟨b8,rfl,a9,W,a8⟩;obtain⟨m,n,rfl,_,_⟩:=CY a9;clear R;have T:=PQ l D U;replace c:=c.below W O;replace e:=e.below W O;replace o:=VE o av W;replace D:=Qj D a8 (λad al B=>T ad B al);replace q:=q.trans (W.mono O);clear T l a8 W aI;obtain⟨E,F,G,H,f0,f1,f2,f3⟩:=blk4 c;obtain⟨bM,bN,bO,bQ,bp,bq,br,bs⟩:=blk4 e;go_wp2_with fail;clear E F G H f0 f1 f2 f3 bM bN bO bQ bp bq br bs;have bc:=(((((e.far (g':=w) O 3 (Ad m (b+1) n)).Be 0 (Ad g d j)).Be 1 (AA iV (x.val.toNat:Int))).Be 2 (Ad i (a+1) k)).Be 3 (Ad m (b+1) n));have NM:=(((((q.setCell (p:=Δ w 3) Θ (Ad m (b+1) n)).setCell (p:=Δ (w+1) 0) Θ (Ad g d j)).setCell (p:=Δ (w+1) 1) Θ (AA iV (x.val.toNat:Int))).setCell (p:=Δ (w+1) 2) Θ (Ad i (a+1) k)).setCell (p:=Δ (w+1) 3) Θ (Ad m (b+1) n));have bd:=FI (base':=w+2) (AV (AV (AV (AV (AV o (g:=w) O 3 (Ad m (b+1) n)) (g:=w+1) O 0 (Ad g d j)) (g:=w+1) O 1 (AA iV (x.val.toNat:Int))) (g:=w+1) O 2 (Ad i (a+1) k)) (g:=w+1) O 3 (Ad m (b+1) n)) O;have be:=FI (base':=w+2) (AV (AV (AV (AV (AV D (g:=w) O 3 (Ad m (b+1) n)) (g:=w+1) O 0 (Ad g d j)) (g:=w+1) O 1 (AA iV (x.val.toNat:Int))) (g:=w+1) O 2 (Ad i (a+1) k)) (g:=w+1) O 3 (Ad m (b+1) n)) O;have bg:=FI (base':=w+2) (AV (AV (AV (AV (AV a9 (g:=w) O 3 (Ad m (b+1) n)) (g:=w+1) O 0 (Ad g d j)) (g:=w+1) O 1 (AA iV (x.val.toNat:Int))) (g:=w+1) O 2 (Ad i (a+1) k)) (g:=w+1) O 3 (Ad m (b+1) n)) O;generalize(((((bE.setCell (Δ w.heap.size 3) (Ad m (b+1) n)).setCell (Δ (w.heap.size+1) 0) (Ad g d j)).setCell (Δ (w.heap.size+1) 1) (AA iV (x.val.toNat:Int))).setCell (Δ (w.heap.size+1) 2) (Ad i (a+1) k)).setCell (Δ (w.heap.size+1) 3) (Ad m (b+1) n))=bW at*;obtain⟨bt,bw,bx,bA,_⟩:=blk4 bc;have aM:(ins x.labels p f).length=a+1:=by rw[jA _ _ _ O];omega
 have aR:(ins x.kids p r).length=b+1:=by rw[jA _ _ _ O];omega
 refine bodyPost_ret (v:=iJ #[iK #[(Ad g d j),(AA iV (x.val.toNat:Int)),Ad i (a+1) k,Ad m (b+1) n],jO]) (by simp[results,results191,go_sem,bt,bw,bx,bA]) rfl ?_;refine⟨⟨g,j,i,k,m,n,?_,?_,?_,?_⟩,NM⟩
 ·simp only[OJ,ab.out,aM,aR,am]
 ·simp only[OJ,am];exact bd
 ·simp only[OJ,ab.out,aM];exact be
 ·simp only[OJ,ab.out,aR];exact bg
def Agz(l:List nC)(x:nC):Option Nat:=l.findIdx? λa=>a.toNat==x.toNat
def An3(x:Nd)(i:Nat):Nd:={pre:=x.pre,val:=x.val,labels:=del x.labels i,kids:=del x.kids i}
def Ad9(k e l:Option Addr)(i s d n j t:Nat)(x:Nd)(c:nC)(w:jT)(ad:i<=1000000)(ae:d<=1000000)(ah:j<=1000000)(h1:Bs w k i x.pre)(h2:Bs w e d x.labels)(h3:Ws w l j x.kids)(y:Agz x.labels c=jw\/CG x=jS):
 Calls prog 188 #[iK #[fM k i s,x.val,fM e d n,fM l j t],c] w λI w'=>I=iO RF/\η w w':=by
 obtain⟨r,K,V,b,a,am⟩:=Nz w 211 (fM k i s) (gz iV (x.val.toNat:Int)) (fM e d n) (fM l j t) (fM jw 0 0) (gz iV 0) (fM jw 0 0) (fM jw 0 0);have H:=Ac K;clear K;obtain⟨Z,aa,ab,ac,f0,f1,f2,f3⟩:=blk4 V;obtain⟨R,S,T,U,M,N,P,Q⟩:=blk4 b;have L:=WY e d n x.labels c r O (h2.below a);have q:=Ac L;clear L;cases f:Agz x.labels c with
 |none=>
  have g:placeOf (λF=>F.toNat==c.toNat) x.labels= -1:=by rw[placeOf,show x.labels.findIdx? _=jw from f]
  have m:=Ac g;clear g f y;go_in;go_wp2_with(rw[<-H.out];refine q.ro ?_;rw[m.out]);have o:=((((b.Be 0 (Ad jw 0 0)).Be 1 (AA iV 0)).Be 2 (Ad jw 0 0)).Be 3 (Ad jw 0 0));have NM:=(((a.setCell (p:=Δ (w+1) 0) Θ (Ad jw 0 0)).setCell (p:=Δ (w+1) 1) Θ (AA iV 0)).setCell (p:=Δ (w+1) 2) Θ (Ad jw 0 0)).setCell (p:=Δ (w+1) 3) Θ (Ad jw 0 0);generalize(((r.setCell (Δ (w.heap.size+1) 0) (Ad jw 0 0)).setCell (Δ (w.heap.size+1) 1) (AA iV 0)).setCell (Δ (w.heap.size+1) 2) (Ad jw 0 0)).setCell (Δ (w.heap.size+1) 3) (Ad jw 0 0)=X at*;obtain⟨A,B,C,D,_⟩:=blk4 o;exact bodyPost_ret (v:=RF) (by unfold RF;simp[results,results188,go_sem,A,B,C,D]) rfl ⟨rfl,NM⟩
 |some z=>
  have J:CG x=false:=by
   rcases y with h|h
   ·rw[f]at h;cases h
   ·exact h
  have g:placeOf (λF=>F.toNat==c.toNat) x.labels=(z:Int):=by rw[placeOf,show x.labels.findIdx? _=jm z from f]
  have m:=Ac g;have al:decide ((z:Int)<0)=false:=by simp
  have E:=Ob k e l i s d n j t x r O O O (h1.below a) (h2.below a) (h3.below a);rw[J]at E;have G:=Ac E;clear g f y E J;go_in;go_wp2_with(first|(rw[<-H.out];refine q.ro ?_;rw[m.out];clear q m)|(refine G.mono ?_;rintro I Y⟨rfl,u⟩;clear Z aa ab ac f0 f1 f2 f3 R S T U M N P Q G;replace b:=b.below u O;have W:=τ a u;clear u a;obtain⟨R,S,T,U,M,N,P,Q⟩:=blk4 b));have o:=((((b.Be 0 (Ad jw 0 0)).Be 1 (AA iV 0)).Be 2 (Ad jw 0 0)).Be 3 (Ad jw 0 0));have NM:=(((W.setCell (p:=Δ (w+1) 0) Θ (Ad jw 0 0)).setCell (p:=Δ (w+1) 1) Θ (AA iV 0)).setCell (p:=Δ (w+1) 2) Θ (Ad jw 0 0)).setCell (p:=Δ (w+1) 3) Θ (Ad jw 0 0);generalize(((Y.setCell (Δ (w.heap.size+1) 0) (Ad jw 0 0)).setCell (Δ (w.heap.size+1) 1) (AA iV 0)).setCell (Δ (w.heap.size+1) 2) (Ad jw 0 0)).setCell (Δ (w.heap.size+1) 3) (Ad jw 0 0)=X at*;obtain⟨A,B,C,D,_⟩:=blk4 o;exact bodyPost_ret (v:=RF) (by unfold RF;simp[results,results188,go_sem,A,B,C,D]) rfl ⟨rfl,NM⟩
def zD(J F K:Option Addr)(c T a N b V:Nat)(x:Nd)(X:nC)(i:Nat)(w:jT)(bt:c<=1000)(_:a<=1000)(bw:b<=1000)(h1:Bs w J c x.pre)(h2:Bs w F a x.labels)(h3:Ws w K b x.kids)(S:Agz x.labels X=jm i)(aa:CG x=jO):
 Calls prog 188 #[iK #[fM J c T,x.val,fM F a N,fM K b V],X] w λy w'=>Agx (An3 x i) (w+2) w' y/\η w w':=by
 obtain⟨Y,av,d,l,H,bL⟩:=Nz w 211 (fM J c T) (gz iV (x.val.toNat:Int)) (fM F a N) (fM K b V) (fM jw 0 0) (gz iV 0) (fM jw 0 0) (fM jw 0 0);have aq:=Ac av;clear av;have ac:=h1.len;have a8:=h2.len;have a9:=h3.len;obtain⟨z,A,B,C,f0,f1,f2,f3⟩:=blk4 d;have bA:w.heap.size<Y:=O;have bE:=((BD x).1 aa).2.2.1;have az:i<x.labels.length:=by
  unfold Agz at S;rw[List.findIdx?_eq_some_iff_getElem]at S;obtain⟨az,_⟩:=S;exact az
 have aE:placeOf (λbl=>bl.toNat==X.toNat) x.labels=(i:Int):=by rw[placeOf,show x.labels.findIdx? _=jm i from S]
 have an:=Ac aE;have bB:decide ((i:Int)<0)=false:=by simp
 have aD:=WY F a N x.labels X Y O (h2.below H);have am:=Ac aD;have ah:=Ob J F K c T a N b V x Y O O O (h1.below H) (h2.below H) (h3.below H);rw[aa]at ah;have ap:=Ac ah;have bM:IntKind.i64.wrap ((i:Int)+1)=(i:Int)+1:=by rw[IntKind.wrap_i64];omega
 clear aE S aD ah aa;go_in;go_wp2_with fail;rw[<-aq.out];clear aq;refine am.ro ?_;rw[an.out];clear am an;go_wp2_with fail;refine ap.mono ?_;rintro y a0⟨rfl,Q⟩;clear z A B C f0 f1 f2 f3 ap;replace d:=d.below Q O;replace l:=l.below Q O;have L:=τ H Q;have br:w.heap.size+2<=a0:=Ω Q.size;replace h1:=h1.below L;replace h2:=h2.below L;replace h3:=h3.below L;clear Q H;obtain⟨z,A,B,C,f0,f1,f2,f3⟩:=blk4 d;go_wp2_with fail;have aw:=jC J F K c T a N b V x a0 O O O h1 h2 h3;refine aw.mono ?_;rintro y ad⟨al,e,g,q,t,r,u,rfl,bx,a7,⟨o,aG⟩,I,n,W⟩;clear z A B C f0 f1 f2 f3 aw h1 h2 h3;replace d:=d.below W O;replace l:=l.below W O;have s:=τ L W;have ao:=Ac aG;clear W L aG;obtain⟨z,A,B,C,f0,f1,f2,f3⟩:=blk4 d;go_wp2_with fail;clear z A B C f0 f1 f2 f3;rw[ac]at o;rw[a8]at I;rw[a9]at n;have aI:((((ad.setCell (Δ w 0) (Ad e c g)).setCell (Δ w 1) (AA iV (x.val.toNat:Int))).setCell (Δ w 2) (Ad q a t)).setCell (Δ w 3) (Ad r b u)).heap.size=ad:=by simp[DL]
 replace d:=((((d.Be 0 (Ad e c g)).Be 1 (AA iV (x.val.toNat:Int))).Be 2 (Ad q a t)).Be 3 (Ad r b u));replace l:=((((l.far (g':=w) O 0 (Ad e c g)).far (g':=w) O 1 (AA iV (x.val.toNat:Int))).far (g':=w) O 2 (Ad q a t)).far (g':=w) O 3 (Ad r b u));replace o:=(AV (AV (AV (AV o (g:=w) O 0 (Ad e c g)) (g:=w) O 1 (AA iV (x.val.toNat:Int))) (g:=w) O 2 (Ad q a t)) (g:=w) O 3 (Ad r b u));replace I:=(AV (AV (AV (AV I (g:=w) O 0 (Ad e c g)) (g:=w) O 1 (AA iV (x.val.toNat:Int))) (g:=w) O 2 (Ad q a t)) (g:=w) O 3 (Ad r b u));replace n:=(AV (AV (AV (AV n (g:=w) O 0 (Ad e c g)) (g:=w) O 1 (AA iV (x.val.toNat:Int))) (g:=w) O 2 (Ad q a t)) (g:=w) O 3 (Ad r b u));replace s:=((((s.setCell (p:=Δ w 0) Θ (Ad e c g)).setCell (p:=Δ w 1) Θ (AA iV (x.val.toNat:Int))).setCell (p:=Δ w 2) Θ (Ad q a t)).setCell (p:=Δ w 3) Θ (Ad r b u));generalize((((ad.setCell (Δ w.heap.size 0) (Ad e c g)).setCell (Δ w.heap.size 1) (AA iV (x.val.toNat:Int))).setCell (Δ w.heap.size 2) (Ad q a t)).setCell (Δ w.heap.size 3) (Ad r b u))=a5 at*;rw[<-aI]at a7;clear aI;have D:=zu (fM q a t) a i (x.labels.map bv) a5 al I O O O (JW _);rw[zB]at D;have M:=Ac D;clear D;refine M.mono ?_;rintro y ae⟨bN,rfl,E,G,aL⟩;obtain⟨f,j,rfl,_,_⟩:=CY E;clear M;have P:=PQ I n U;have ba:=G.size;replace d:=d.below G O;replace l:=l.below G O;replace o:=VE o ao G;replace n:=Qj n aL (λZ ab y=>P Z y ab);replace s:=s.trans (G.mono O);clear P I aL G;obtain⟨z,A,B,C,f0,f1,f2,f3⟩:=blk4 d;go_wp2_with fail;clear z A B C f0 f1 f2 f3;have aW:(ae.setCell (Δ w 2) (Ad f (a-1) j)).heap.size=ae:=by simp[DL]
 replace d:=(d.Be 2 (Ad f (a-1) j));replace l:=(l.far (g':=w) O 2 (Ad f (a-1) j));replace o:=(AV o (g:=w) O 2 (Ad f (a-1) j));replace E:=(AV E (g:=w) O 2 (Ad f (a-1) j));replace n:=(AV n (g:=w) O 2 (Ad f (a-1) j));replace s:=(s.setCell (p:=Δ w 2) Θ (Ad f (a-1) j));generalize(ae.setCell (Δ w.heap.size 2) (Ad f (a-1) j))=a6 at*;rw[<-aW]at ba;clear aW;have D:=zx (fM r b u) b i (x.kids.map wv) a6 al n O O O (Tz _);rw[zB]at D;have M:=Ac D;clear D;refine M.mono ?_;rintro y bk⟨bO,rfl,aR,R,aM⟩;obtain⟨k,m,rfl,_,_⟩:=CY aR;clear M;have P:=PQ n E U;replace d:=d.below R O;replace l:=l.below R O;replace o:=VE o ao R;replace E:=Qj E aM (λZ ab y=>P Z y ab);replace s:=s.trans (R.mono O);clear P n aM R;obtain⟨z,A,B,C,f0,f1,f2,f3⟩:=blk4 d;obtain⟨bm,bo,bp,bq,bb,bc,bd,be⟩:=blk4 l;go_wp2_with fail;clear z A B C f0 f1 f2 f3 bm bo bp bq bb bc bd be;have a1:=(((((l.far (g':=w) O 3 (Ad k (b-1) m)).Be 0 (Ad e c g)).Be 1 (AA iV (x.val.toNat:Int))).Be 2 (Ad f (a-1) j)).Be 3 (Ad k (b-1) m));have NM:=(((((s.setCell (p:=Δ w 3) Θ (Ad k (b-1) m)).setCell (p:=Δ (w+1) 0) Θ (Ad e c g)).setCell (p:=Δ (w+1) 1) Θ (AA iV (x.val.toNat:Int))).setCell (p:=Δ (w+1) 2) Θ (Ad f (a-1) j)).setCell (p:=Δ (w+1) 3) Θ (Ad k (b-1) m));have a2:=FI (base':=w+2) (AV (AV (AV (AV (AV o (g:=w) O 3 (Ad k (b-1) m)) (g:=w+1) O 0 (Ad e c g)) (g:=w+1) O 1 (AA iV (x.val.toNat:Int))) (g:=w+1) O 2 (Ad f (a-1) j)) (g:=w+1) O 3 (Ad k (b-1) m)) O;have a3:=FI (base':=w+2) (AV (AV (AV (AV (AV E (g:=w) O 3 (Ad k (b-1) m)) (g:=w+1) O 0 (Ad e c g)) (g:=w+1) O 1 (AA iV (x.val.toNat:Int))) (g:=w+1) O 2 (Ad f (a-1) j)) (g:=w+1) O 3 (Ad k (b-1) m)) O;have a4:=FI (base':=w+2) (AV (AV (AV (AV (AV aR (g:=w) O 3 (Ad k (b-1) m)) (g:=w+1) O 0 (Ad e c g)) (g:=w+1) O 1 (AA iV (x.val.toNat:Int))) (g:=w+1) O 2 (Ad f (a-1) j)) (g:=w+1) O 3 (Ad k (b-1) m)) O;generalize(((((bk.setCell (Δ w.heap.size 3) (Ad k (b-1) m)).setCell (Δ (w.heap.size+1) 0) (Ad e c g)).setCell (Δ (w.heap.size+1) 1) (AA iV (x.val.toNat:Int))).setCell (Δ (w.heap.size+1) 2) (Ad f (a-1) j)).setCell (Δ (w.heap.size+1) 3) (Ad k (b-1) m))=bs at*;obtain⟨bg,bh,bi,bj,_⟩:=blk4 a1;have ar:(del x.labels i).length=a-1:=by rw[jB _ _ O];omega
 have au:(del x.kids i).length=b-1:=by rw[jB _ _ O];omega
 refine bodyPost_ret (v:=iJ #[iK #[(Ad e c g),(AA iV (x.val.toNat:Int)),Ad f (a-1) j,Ad k (b-1) m],jO]) (by simp[results,results188,go_sem,bg,bh,bi,bj]) rfl ?_;refine⟨⟨e,g,f,j,k,m,?_,?_,?_,?_⟩,NM⟩
 ·simp only[An3,ar,au,ac]
 ·simp only[An3,ac];exact a2
 ·simp only[An3,ar];exact a3
 ·simp only[An3,au];exact a4
def qf(x:Nd)(b:nC)(a:ni):KN x b a=Zo x b a:=rfl
def Ajh{w a:jT}{pI g:Nat}{e:TypeId}{k l m n:ku}(h:Cm a g e [k,l,m,n])(o:Below pI w a)(j:pI<=g)(b c d f:ku):
 ∃i,i=(((a.setCell (Δ g 0) b).setCell (Δ g 1) c).setCell (Δ g 2) d).setCell (Δ g 3) f/\Cm i g e [b,c,d,f]/\Below pI w i/\Kept a i (jm g):=
 ⟨_,rfl,(((h.Be 0 b).Be 1 c).Be 2 d).Be 3 f,
   (((o.setCell (p:=Δ g 0) j b).setCell (p:=Δ g 1) j c).setCell (p:=Δ g 2) j d).setCell (p:=Δ g 3) j f,
   (((Kept.Be a g 0 b).trans' (Kept.Be _ g 1 c)).trans' (Kept.Be _ g 2 d)).trans' (Kept.Be _ g 3 f)⟩
def N7{w w':jT}{B g k n:Nat}{e:TypeId}{v:ku}{xs:List ku}(h:w.ownsRow B e k v n xs)(b:Kept w w' (jm g))(j:g<B):w'.ownsRow B e k v n xs:=by
 refine FN h b (.inl ?_);rcases h.2 with⟨a,_⟩|⟨f,c,d,a,i,_⟩
 ·subst a;simp[AY]
 ·subst a;simp[AY];omega
section
variable{w w':jT}{pI jb x d p L:Nat}{j:Jm}{G:Nat->Prop}
def Js.of_below{r:Jm×ni×Int}{a:jT}(i:η w a){e:Ending}(h:Js r pI jb x d p L G a e w'):Js r pI jb x d p L G w e w':=by
 obtain⟨c,b,f,g⟩:=h;exact⟨c,b,f,(mW i).trans g⟩
def VF(h:GV w pI jb x d p L j G)(a:Nd)(l m n:Option Addr)(v y z:Nat)(c:nC)(b:ni)(e:Int)(az:a.pre.length<=100)(aD:a.labels.length<=100)(aE:a.kids.length<=100)
 (h1:Bs w l a.pre.length a.pre)(h2:Bs w m a.labels.length a.labels)(h3:Ws w n a.kids.length a.kids)(au:j.made.length<=1000):
 Calls prog 190 #[AB jb,iK #[fM l a.pre.length v,a.val,fM m a.labels.length y,fM n a.kids.length z],c,b,e] w (Js (Hg j a c b e) pI jb x d p L G w):=by
 obtain⟨P,I,aa,ab,ac,ad,r,aG⟩:=Al3 w 211 (fM l a.pre.length v) (gz iV (a.val.toNat:Int)) (fM m a.labels.length y) (fM n a.kids.length z);have A:Cm P w 211 [fM l a.pre.length v,a.val,fM m a.labels.length y,fM n a.kids.length z]:=I▸heap_alloc_new _ _;obtain⟨t,M,B⟩:=l9 I h r;by_cases J:e=0
 ·subst J;have E:=h1.below r;have F:=h2.below r;have H:=h3.below r;clear h1 h2 h3 h I r;cases s:Zo a c b with
  |false=>
   have g:Hid (Hg j a c b 0=(j,0,5)):=Ac (by unfold Hg;rw[lg Θ,qf,s];rfl);have o:=Ac (Agy l m n a.pre.length v a.labels.length y a.kids.length z a c b P O O O E F H s);unfold RF at o;clear s E F H;go_in;go_wp2_with fail;rw[<-t.out];clear t;refine o.mono ?_;rintro e aw⟨rfl,i⟩;have f:=A.ξ i;have C:=Ac (τ B.out i);clear aa ab ac ad A i o;obtain⟨am,an,ao,ap,f0,f1,f2,f3⟩:=Dp f;have D:=Ac f;clear f;go_wp2;go_ret2;refine⟨by rw[g.out];rfl,G,?_,?_⟩
   ·rw[g.out];obtain⟨W,q,-,k,-⟩:=Ajh D C (Ae _) (fM jw 0 0) (gz iV 0) (fM jw 0 0) (fM jw 0 0);rw[<-q];exact M.below k
   ·obtain⟨W,q,-,k,-⟩:=Ajh D C (Ae _) (fM jw 0 0) (gz iV 0) (fM jw 0 0) (fM jw 0 0);rw[<-q];exact mW k
  |true=>
   have g:Hid (Hg j a c b 0=DZ j (OJ a c b)):=Ac (by unfold Hg;rw[lg Θ,qf,s];rfl);have o:=Ac (zC l m n a.pre.length v a.labels.length y a.kids.length z a c b P O O O E F H s);have Q:(OJ a c b).pre.length<=1000/\(OJ a c b).labels.length<=1000/\(OJ a c b).kids.length<=1000:=by
    unfold OJ ins;simp;omega
   generalize OJ a c b=u at*;clear s E F H;go_in;go_wp2_with fail;rw[<-t.out];clear t;refine o.mono ?_;rintro e aw⟨⟨R,X,S,Y,T,Z,rfl,ae,ah,al⟩,i⟩;have f:=A.ξ i;have C:=Ac (τ B.out i);have N:=Ac (And.intro ae (And.intro ah al));clear aa ab ac ad A i o ae ah al;obtain⟨am,an,ao,ap,f0,f1,f2,f3⟩:=Dp f;have D:=Ac f;clear f;go_wp2_with fail;obtain⟨W,q,V,k,K⟩:=Ajh D C (Ae _) (fM R u.pre.length X) (gz iV (u.val.toNat:Int)) (fM S u.labels.length Y) (fM T u.kids.length Z);rw[<-q];have ar:=Ac (Ot (M.below k) u R S T X Y Z Q.1 Q.2.1 Q.2.2 (Dk (N7 N.1 K O)).2 (Dk (N7 N.2.1 K O)).2 (Dk (N7 N.2.2 K O)).2 au);have av:=Ac k;obtain⟨am,an,ao,ap,f0,f1,f2,f3⟩:=Dp V;clear k K V q
   first
    |go_wp2_with fail
    |skip
   refine ar.mono ?_;rintro e aI⟨rfl,U⟩;have aq:=Ac U;clear U;go_wp2;go_ret2;rw[g.out];exact(Js.of_below av ⟨rfl,aq⟩)
 ·have g:Hid (Hg j a c b e=(j,0,e)):=Ac (by unfold Hg;rw[kX J]);have t1:(e !=0)=true:=by rw[bne_iff_ne];exact J
  clear h1 h2 h3 h I r J;go_in;go_wp2_with fail;rw[<-t.out];go_ret2;refine⟨by rw[g.out];rfl,G,?_,mW B⟩;rw[g.out];exact M.below B
end
section
variable{pI jb x d p L:Nat}
def IC{w:jT}{G:Nat->Prop}{A:Option Addr}{l:List nC}(h:MB w G A l.length (l.map bv))(k:Nat)(c:k<l.length):∃a b,A=jm (Δ a b)/\a<w/\w.cell? (Δ a (b+k))=jm (gz .u8 ((l.getD k 0).toNat:Int)):=by
 obtain⟨a,b,d,e,f⟩:=h.1.2 O;refine⟨a,b,d,e,?_⟩;rw[f k c,CP,Ag c,List.getD_eq_getElem?_getD,Ag c];rfl
def Yw:∀(f:Nat)(w:jT)(j:Jm)(G:Nat->Prop)(l:List nC)(a:ni)(A:Option Addr)(c:Nat),GV w pI jb x d p L j G->MB w G A l.length (l.map bv)->l.length<=c->l.length<f->l.length<=100->j.made.length+f<=1000->
 Calls prog 140 #[AB jb,fM A l.length c,a] w (Js (Ld f j l a) pI jb x d p L G w)
 |0,w,j,G,l,a,A,c,h,e,K,M,ab,ac=>absurd M O
 |f+1,w,j,G,l,a,A,c,h,e,K,M,ab,ac=>by
  by_cases I:l.length<=15
  ·have o:Hid (Ld (f+1) j l a=DZ j ⟨l,a,[],[]⟩):=Ac (by rw[Ld,kX I]);have W:=Ac (Ot h ⟨l,a,[],[]⟩ A jw jw c 0 0 (by simp only;omega) Θ Θ e.1 Rd.nil Rd.nil O);have t1:=dT ((l.length:Int)<=15);clear h e;go_in;go_wp2_with fail;refine W.mono ?_;rintro H g⟨rfl,N⟩;have X:=Ac N;clear N;go_wp2;go_ret2;rw[o.out];exact⟨rfl,X⟩
  ·have t1:=dF ((l.length:Int)<=15);obtain⟨i,m,rfl,am,-⟩:=IC e 15 O;have hcut:=e.cut 16 O K;rw[<-MZ,show l.length-16=(l.drop 16).length by simp]at hcut;have b:=Yw f w j G (l.drop 16) a _ (c-16) h hcut (by simp;omega) (by simp;omega) (by simp;omega) O;rw[show(l.drop 16).length=l.length-16 by simp]at b;obtain⟨⟨C,D,u⟩,B⟩:∃ae,Ld f j (l.drop 16) a=ae:=⟨_,rfl⟩;have Q:=Oo f j (l.drop 16) a;have o:Hid (Ld (f+1) j l a=Hg C ⟨l.take 15,0,[],[]⟩ (l.getD 15 0) D u):=Ac (by rw[Ld,lg I,B]);rw[B]at b Q;simp only at Q;have b:Hid (∀q n,n=c-16->q=(if c=16 then jm ((Δ i m):Addr)else jm (Δ i (m+16)))->Calls prog 140 #[AB jb,fM q (l.length-16) n,a] w (Js (C,D,u) pI jb x d p L G w)):=Ac (λq n s t=>by subst s t;exact b);have Z:=Ac e;clear h e hcut B;go_in;go_wp2_with fail
   all_goals(refine(b.out _ _ O (by split<;>first|rfl|omega)).mono ?_)
   all_goals(rintro H g⟨rfl,U,P,z⟩)
   all_goals(clear b)
   all_goals(have v:=Z.moved z)
   all_goals(obtain⟨al,av,r,ah,an⟩:=IC v 15 O)
   all_goals(injection r with r;injection r with s t;subst s t)
   all_goals(have y:(l.take 15).length=15:=by simp;omega)
   all_goals(have R:MB g U (jm (Δ i m)) 15 ((l.take 15).map bv):=by have:=v.take 15 O;rwa [<-OW]at this)
   all_goals(have k:=λ(F:jT)(J:η g F)=>VF (P.below J) ⟨l.take 15,0,[],[]⟩ (jm (Δ i m)) jw jw 15 0 0 (l.getD 15 0) D u (by show(l.take 15).length<=100;omega) Θ Θ (by show Rd F _ (l.take 15).length _;rw[y];exact(R.below J).1) Rd.nil Rd.nil (by show C.made.length<=1000;omega))
   all_goals(replace k:=Ac k)
   all_goals(rw[y]at k)
   all_goals(have Y:=Ac z)
   all_goals(generalize l.getD 15 0=au at*)
   all_goals(generalize l.take 15=ar at*)
   all_goals(clear P z v b y R)
   all_goals(have ad:(15:Int)<(l.length:Int):=O)
   all_goals(have ao:decide ((15:Int)<(l.length:Int))=true:=decide_eq_true ad)
   all_goals(have ap:15<l.length:=O)
   all_goals(have aq:15<=c:=O)
   all_goals(go_wp2_with fail)
   all_goals(go_region_with(go_at_call 190;go_loud(refine(k.out _ (mX g)).mono ?_;rintro H aw⟨rfl,aa⟩)))
   all_goals(obtain⟨V,S,T⟩:=aa)
   all_goals(have E:=Ac (And.intro S (Y.out.trans ((mW (mX g)).trans T))))
   all_goals(clear S T)
   all_goals(go_wp2)
   all_goals(go_ret2)
   all_goals(rw[o.out])
   all_goals(exact⟨rfl,V,E.out.1,E.out.2⟩)
end
section
variable{pI jb x d p L:Nat}
def jf.reads{w:jT}{G:Nat->Prop}{b c d:Option Addr}{p e q j r k:Nat}{v:ku}{a:Nd}(h:jf w G (fM b p e) v (fM c q j) (fM d r k) a):
 MB w G b a.pre.length (a.pre.map bv)/\MB w G c a.labels.length (a.labels.map bv)/\MB w G d a.kids.length (a.kids.map wv)/\a.pre.length<=e:=by
 obtain⟨_,_,_,_,_,_,l,_,m,n,o,s,t,u⟩:=h;injection l with f x g
 injection m with i y z
 injection n with d1 d2 d3
 subst f g i d1;exact⟨s,t,u,o⟩
def MB.nM{w:jT}{G:Nat->Prop}{b off c k n:Nat}{l:List nC}(h:MB w G (jm (Δ b off)) n (l.map bv))(e:n=l.length)(f:k<=l.length)(d:l.length<=c){P:Option Addr}(a:P=(if c=k then jm (Δ b off)else jm (Δ b (off+k)))):
 MB w G P (l.drop k).length ((l.drop k).map bv):=by
 subst e a;have:=h.cut k O d;rw[MZ,AU];exact this
def Aji{w:jT}{j:Jm}{G:Nat->Prop}(h:GV w pI jb x d p L j G)(a:Nd)(f i k:Option Addr)(g m n:Nat)(off r:Int)(lb:nC)(nM:List nC)(A:Option Addr)(c:Nat)(o:ni)
 (P:jf w G (fM f a.pre.length g) (gz iV (a.val.toNat:Int)) (fM i a.labels.length m) (fM k a.kids.length n) a)(a1:a.pre.length<=100)(a2:a.labels.length<=100)(a3:a.kids.length<=100)
 (q:MB w G A nM.length (nM.map bv))(a8:nM.length<=c)(bj:nM.length<=100)(bi:j.made.length<=500)(V:oW a.pre nM=a.pre.length)(T:oW a.pre nM<nM.length):
 Calls prog 142 #[AB jb,iK #[fM f a.pre.length g,a.val,fM i a.labels.length m,fM k a.kids.length n,off,lb,r],fM A nM.length c,o] w (Js (JM j a nM o) pI jb x d p L G w):=by
 have t:η w (w.alloc (ji #[fM f a.pre.length g,a.val,fM i a.labels.length m,fM k a.kids.length n,off,lb,r] 213)):=mZ.alloc (Ae _) _;have s:Cm (w.alloc (ji #[fM f a.pre.length g,a.val,fM i a.labels.length m,fM k a.kids.length n,off,lb,r] 213)) w 213 [fM f a.pre.length g,a.val,fM i a.labels.length m,fM k a.kids.length n,off,lb,r]:=heap_alloc_new _ _;obtain⟨ah,Q⟩:=ε (w.alloc (ji #[fM f a.pre.length g,a.val,fM i a.labels.length m,fM k a.kids.length n,off,lb,r] 213));rw[<-Q]at t s;have ad:=Ac Q;obtain⟨M,W,rfl,bg,-⟩:=IC q _ T;obtain⟨b,u⟩:=ε (oW a.pre nM);rw[<-u]at V T;obtain⟨⟨au,av,am⟩,v⟩:∃a9,Ld (nM.length+1) j (nM.drop (b+1)) o=a9:=⟨_,rfl⟩;have ap:=Oo (nM.length+1) j (nM.drop (b+1)) o;rw[v]at ap;simp only at ap;have aR:Hid (JM j a nM o=Hg au a (nM.getD b 0) av am):=Ac (by rw[JM,<-u,kX V,v]);have J:=Ac (λ(l:jT)(e:η w l)(ae:Option Addr)(Z:Nat)(be:Z=c-(b+1))(a6:ae=(if c=b+1 then jm ((Δ M W):Addr)else jm (Δ M (W+(b+1)))))=>Yw (nM.length+1) l j G (nM.drop (b+1)) o ae Z (h.below e) ((q.below e).nM rfl O a8 a6) (by rw[AU];omega) (by rw[AU];omega) (by rw[AU];omega) O);rw[v,AU]at J;have ab:=Ac (λ(l:jT)(e:η w l)=>NZ f (jm (Δ M W)) a.pre.length nM.length g c a.pre nM l O O (P.reads.1.below e).1 (q.below e).1);rw[<-u]at ab;obtain⟨aM,aW,bb⟩:=l9 P q h.lt;clear h P q v Q;have t1:((b:Int)==(a.pre.length:Int))=true:=by rw[beq_iff_eq];omega
 have bk:IntKind.i64.wrap ((b:Int)+1)=(b:Int)+1:=wrap64 _ O O;obtain⟨y,z,B,C,D,E,H⟩:=Fh s;clear u V;go_in;go_wp2_with fail;rw[<-ad.out];clear ad;refine(ab ah t).mono ?_;rintro al ba⟨rfl,S⟩;have an:=τ t (S.below ah);have I:=s.ξ (S.below _);have aa:=Ac an;have a0:=Ac I;clear s t S y z B C D E H an;obtain⟨y,z,B,C,D,E,H⟩:=Fh I;clear I;go_wp2_with fail
 all_goals(refine(J ba aa _ _ O (by split<;>first|rfl|omega)).mono ?_)
 all_goals(rintro al X⟨rfl,bc,ao,U⟩)
 all_goals(have K:=Ac ((mW (F:=G) aa).trans U))
 all_goals(have aq:=aM.moved K)
 all_goals(obtain⟨aD,aE,aG,-⟩:=aq.reads)
 all_goals(have ar:=aW.moved K)
 all_goals(obtain⟨bd,bo,N,aI,bh⟩:=IC ar b T)
 all_goals(injection N with N;injection N with a4 a5;subst a4 a5)
 all_goals(have R:=λ(l:jT)(e:η X l)=>VF (ao.below e) a f i k g m n (nM.getD b 0) av am a1 a2 a3 (aD.below e).1 (aE.below e).1 (aG.below e).1 (by show au.made.length<=1000;omega))
 all_goals(replace R:=Ac R)
 all_goals(have Y:=a0.touch U.touch (λa7=>Ω (bb _ a7)))
 all_goals(generalize nM.getD b 0=bm at*)
 all_goals(clear ao U aq aD aE aG ar J aI y z B C D E H)
 all_goals(obtain⟨y,z,B,C,D,E,H⟩:=Fh Y)
 all_goals(clear Y)
 all_goals(have bl:(b:Int)<(nM.length:Int):=O)
 all_goals(go_wp2_with fail)
 all_goals(go_region_with(go_at_call 190;go_loud(refine(R.out _ (mX X)).mono ?_;rintro al bp⟨rfl,aL,aw,az⟩)))
 all_goals(have ac:=Ac (And.intro aw (K.out.trans ((mW (mX X)).trans az))))
 all_goals(clear aw az)
 all_goals(go_wp2)
 all_goals(go_ret2)
 all_goals(rw[aR.out])
 all_goals(exact⟨rfl,aL,ac.out.1,ac.out.2⟩)
end
section
variable{pI jb x d p L:Nat}
def An4{w:jT}{j:Jm}{G:Nat->Prop}(h:GV w pI jb x d p L j G)(a:Nd)(D n o:Option Addr)(i q r:Nat)(off Z:Int)(lb:nC)(nM:List nC)(A:Option Addr)(c:Nat)(M:ni)
 (b6:jf w G (fM D a.pre.length i) (gz iV (a.val.toNat:Int)) (fM n a.labels.length q) (fM o a.kids.length r) a)(cW:a.pre.length<=100)(cX:a.labels.length<=100)(cY:a.kids.length<=100)
 (au:MB w G A nM.length (nM.map bv))(cG:nM.length<=c)(c4:nM.length<=100)(c1:j.made.length<=500)(bg:oW a.pre nM<a.pre.length)(bb:oW a.pre nM<nM.length)(az:(DZ j {a with pre:=a.pre.drop (oW a.pre nM+1)}).2.2=0)(H:KN ⟨a.pre.take (oW a.pre nM),0,[],[]⟩ (a.pre.getD (oW a.pre nM) 0) (DZ j {a with pre:=a.pre.drop (oW a.pre nM+1)}).2.1=jO):
 Calls prog 142 #[AB jb,iK #[fM D a.pre.length i,a.val,fM n a.labels.length q,fM o a.kids.length r,off,lb,Z],fM A nM.length c,M] w (Js (JM j a nM M) pI jb x d p L G w):=by
 have av:η w (w.alloc (ji #[fM D a.pre.length i,a.val,fM n a.labels.length q,fM o a.kids.length r,off,lb,Z] 213)):=mZ.alloc (Ae _) _;have ae:Cm (w.alloc (ji #[fM D a.pre.length i,a.val,fM n a.labels.length q,fM o a.kids.length r,off,lb,Z] 213)) w 213 [fM D a.pre.length i,a.val,fM n a.labels.length q,fM o a.kids.length r,off,lb,Z]:=heap_alloc_new _ _;obtain⟨b4,a5⟩:=ε (w.alloc (ji #[fM D a.pre.length i,a.val,fM n a.labels.length q,fM o a.kids.length r,off,lb,Z] 213));rw[<-a5]at av ae;have bV:=Ac a5;obtain⟨s,Y,cl,cF⟩:=b6.reads;obtain⟨l,m,rfl,c2,-⟩:=IC s _ bg;obtain⟨b,aD⟩:=ε (oW a.pre nM);have bQ:=Ac (λ(g:jT)(e:η w g)=>NZ (jm (Δ l m)) A a.pre.length nM.length i c a.pre nM g O O (s.below e).1 (au.below e).1);rw[<-aD]at bg bQ;obtain⟨⟨bi,K,cZ⟩,I⟩:∃bk,DZ j {a with pre:=a.pre.drop (b+1)}=bk:=⟨_,rfl⟩;have cb:=MN j {a with pre:=a.pre.drop (b+1)};rw[I]at cb;simp only at cb;have cV:=Ac I;have aq:=Ac (λ(g:jT)(e:η w g)(S:Option Addr)(al:Nat)(a4:S=(if i=b+1 then jm ((Δ l m):Addr)else jm (Δ l (m+(b+1)))))=>Ot (h.below e) {a with pre:=a.pre.drop (b+1)} S n o al q r (by simp;omega) (by simp only;omega) (by simp only;omega)
  (((s.below e).nM rfl O cF a4).1) (Y.below e).1 (cl.below e).1 O)
 rw[I]at aq;simp only[AU]at aq;obtain⟨cw,bS,cT⟩:=l9 s au h.lt;rw[<-aD]at bb az H;rw[I]at az H;simp only at az H;subst az;obtain⟨⟨aG,ap,ao⟩,aE⟩:∃bk,Ld (nM.length+1) bi (nM.drop (b+1)) M=bk:=⟨_,rfl⟩;have bw:=Oo (nM.length+1) bi (nM.drop (b+1)) M;rw[aE]at bw;simp only at bw;have cx:Hid (JM j a nM M=Hg aG (OJ ⟨a.pre.take b,0,[],[]⟩ (a.pre.getD b 0) K) (nM.getD b 0) ap ao):=Ac (by rw[JM,<-aD,lg O,I];simp only;rw[lg O,lg Θ,kX H,aE];rfl);have cS:=Ac H;have cy:=Ac aE;obtain⟨cm,cn,rfl,c5,-⟩:=IC au _ bb;clear H aE;clear h b6 au I a5 s Y cl;have t1:((b:Int)==(a.pre.length:Int))=false:=ζ O;have c6:IntKind.i64.wrap ((b:Int)+1)=(b:Int)+1:=wrap64 _ O O;have t2:((b:Int)==(nM.length:Int))=false:=ζ O;obtain⟨y,z,B,C,N,P,Q⟩:=Fh ae;clear aD;go_in;go_wp2_with fail;rw[<-bV.out];clear bV;refine(bQ b4 av).mono ?_;rintro ar cR⟨rfl,a9⟩;have b8:=τ av (a9.below b4);have ah:=ae.ξ (a9.below _);obtain⟨dd,cd,b9,bL⟩:=E5 cR 211 [fM (jm (Δ l m)) a.pre.length i,a.val,fM n a.labels.length q,fM o a.kids.length r];have am:=Ac b8;have cA:=Ac ah;obtain⟨y,z,B,C,N,P,Q⟩:=Fh (ah.ξ b9);obtain⟨aa,ab,ac,ad,U,V,W,X⟩:=Dp bL;obtain⟨bm,bo,bp,bq,br,bs,bt⟩:=Fh ah;rw[cd]at y z B C N P Q aa ab ac ad U V W X;clear ae av a9 b8 ah bL b9 cd;go_wp2_with fail
 all_goals(refine(aq _ (am.alloc am.size _) _ _ (by split<;>first|rfl|omega)).mono ?_)
 all_goals(rintro ar f⟨rfl,bM,ba,bc⟩)
 all_goals(have a1:=Ac ((mW (F:=G) (am.alloc am.size _)).trans bc))
 all_goals(have aL:=(cA.out.ξ (mZ.alloc (Ae _) _)).touch bc.touch (λk=>Ω (cT _ k)))
 all_goals(have be:=cw.moved a1.out)
 all_goals(obtain⟨cC,cH,u,cE,a8⟩:=IC be b bg)
 all_goals(injection u with u;injection u with a2 a3;subst a2 a3)
 all_goals(clear y z B C N P Q aa ab ac ad U V W X bm bo bp bq br bs bt aq bc)
 all_goals(have cD:(a.pre.take b).length=b:=by simp;omega)
 all_goals(have cc:MB f bM (jm (Δ l m)) b ((a.pre.take b).map bv):=by have:=be.take b O;rwa [<-OW]at this)
 all_goals(obtain⟨bm,bo,bp,bq,br,bs,bt⟩:=Fh aL)
 all_goals(obtain⟨wt,J⟩:=ε (f.alloc (ji #[fM (jm (Δ l m)) b b,gz iV 0,fM jw 0 0,fM jw 0 0] 211)))
 all_goals(have aR:Cm wt f 211 [fM (jm (Δ l m)) b b,gz iV 0,fM jw 0 0,fM jw 0 0]:=J▸heap_alloc_new _ _)
 all_goals(have aw:η f wt:=J▸ mZ.alloc (Ae _) _)
 all_goals(have bA:=aL.ξ aw)
 all_goals(obtain⟨y,z,B,C,N,P,Q⟩:=Fh bA)
 all_goals(obtain⟨aa,ab,ac,ad,U,V,W,X⟩:=Dp aR)
 all_goals(have cs:=(aw.cell (p:=Δ l (m+b)) cE).trans a8)
 all_goals(rw[J]at y z B C N P Q aa ab ac ad U V W X cs)
 all_goals(have cr:=Ac (λ(g:jT)(e:η f g)=>zC (jm (Δ l m)) jw jw b b 0 0 0 0 ⟨a.pre.take b,0,[],[]⟩ (a.pre.getD b 0) K g O O O (by show Rd g _ _ _;exact(cc.below e).1) Rd.nil Rd.nil cS.out))
 all_goals(have bd:(OJ ⟨a.pre.take b,0,[],[]⟩ (a.pre.getD b 0) K).pre.length<=100/\(OJ ⟨a.pre.take b,0,[],[]⟩ (a.pre.getD b 0) K).labels.length<=100/\(OJ ⟨a.pre.take b,0,[],[]⟩ (a.pre.getD b 0) K).kids.length<=100:=by unfold OJ ins;simp;omega)
 all_goals(generalize OJ ⟨a.pre.take b,0,[],[]⟩ (a.pre.getD b 0) K=t at*)
 all_goals(have aW:=Ac (J▸aw))
 all_goals(have bO:=Ac (J▸aR))
 all_goals(have cu:=Ac ba)
 all_goals(have an:=Ac ba.lt)
 all_goals(generalize a.pre.getD b 0=c9 at*)
 all_goals(generalize a.pre.take b=da at*)
 all_goals(clear ba aL bA aR aw J cD cc be a8)
 all_goals(have c7:(b:Int)<(a.pre.length:Int):=O)
 all_goals(go_wp2_with fail)
 all_goals(go_region_with(go_at_call 191;go_loud(refine(cr.out _ (aW.out.trans (mX _))).mono ?_;rintro ar db⟨⟨bW,cf,bX,cg,bY,ch,rfl,ci,cj,ck⟩,a7⟩;have bN:=(aW.out.trans (mX _)).trans (a7.mono (aW.out.trans (mX _)).size);have aM:=bO.out.ξ ((mX _).trans a7);have bh:=bO.out.lt;have b0:=FI (base':=f+1) ci (by show f+1<=(lY _).heap.size+2;exact AZ bh (dB _ 2));have b1:=FI (base':=f+1) cj (by show f+1<=(lY _).heap.size+2;exact AZ bh (dB _ 2));have b2:=FI (base':=f+1) ck (by show f+1<=(lY _).heap.size+2;exact AZ bh (dB _ 2));clear ci cj ck;obtain⟨cI,cJ,cK,cL,cM,cN,cP,cQ⟩:=Dp aM)))
 all_goals(obtain⟨cB,b5,bE,ce,aI⟩:=Ajh aM bN (Ae _) (fM bW t.pre.length cf) (gz iV (t.val.toNat:Int)) (fM bX t.labels.length cg) (fM bY t.kids.length ch))
 all_goals(have a0:=Ac (And.intro (N7 b0 aI (dC _)) (And.intro (N7 b1 aI (dC _)) (N7 b2 aI (dC _)))))
 all_goals(have bj:=Ac ce)
 all_goals(have cv:=Ac bE)
 all_goals(have cz:=Ac b5)
 all_goals(clear b5 ce aI bE b0 b1 b2 aM bN a7 cr y z B C N P Q aa ab ac ad U V W X bm bo bp bq br bs bt cs)
 all_goals(go_wp2_with fail)
 all_goals(rw[<-cz.out])
 all_goals(have R:=λ(S:Option Addr)(al:Nat)(c0:al=c-(b+1))(a4:S=(if c=b+1 then jm ((Δ cm cn):Addr)else jm (Δ cm (cn+(b+1)))))=>Yw (nM.length+1) cB bi bM (nM.drop (b+1)) M S al (cu.out.below bj.out) (((bS.moved a1.out).below bj.out).nM rfl O cG a4) (by rw[AU];omega) (by rw[AU];omega) (by rw[AU];omega) O)
 all_goals(rw[cy.out,AU]at R)
 all_goals(replace R:=Ac R)
 all_goals(refine(R.out _ _ O (by split<;>first|rfl|omega)).mono ?_)
 all_goals(rintro ar bl⟨rfl,cU,ca,E⟩)
 all_goals(have b3:=Ac (a1.out.trans ((mW bj.out).trans E)))
 all_goals(have bB:=cv.out.touch E.touch (λk=>Ω (an.out _ k)))
 all_goals(have co:=(MB.Qn a0.out.1 (λT b7 _ k=>Ω (an.out T k))).moved E)
 all_goals(have cp:=(MB.Qn a0.out.2.1 (λT b7 _ k=>Ω (an.out T k))).moved E)
 all_goals(have cq:=(MB.Qn a0.out.2.2 (λT b7 _ k=>Ω (an.out T k))).moved E)
 all_goals(obtain⟨cC,cH,u,c3,a8⟩:=IC (bS.moved b3.out) b bb)
 all_goals(injection u with u;injection u with a2 a3;subst a2 a3)
 all_goals(have a6:=λ(g:jT)(e:η bl g)=>VF (ca.below e) t bW bX bY cf cg ch (nM.getD b 0) ap ao bd.1 bd.2.1 bd.2.2 (co.below e).1 (cp.below e).1 (cq.below e).1 (by show aG.made.length<=1000;omega))
 all_goals(replace a6:=Ac a6)
 all_goals(generalize nM.getD b 0=bx at*)
 all_goals(clear ca E co cp cq R cI cJ cK cL cM cN cP cQ)
 all_goals(obtain⟨y,z,B,C,-⟩:=Dp bB)
 all_goals(clear bB)
 all_goals(have c8:(b:Int)<(nM.length:Int):=O)
 all_goals(go_wp2_with fail)
 all_goals(go_region_with(go_at_call 190;go_loud(refine(a6.out _ (mX bl)).mono ?_;rintro ar dc⟨rfl,ct,s,Y⟩)))
 all_goals(have bR:=Ac (And.intro s (b3.out.trans ((mW (mX bl)).trans Y))))
 all_goals(clear s Y)
 all_goals(go_wp2_with fail)
 all_goals(refine bodyPost_ret (v:=iJ #[gz iV ((Hg aG t bx ap ao).2.1.toNat:Int),gz iU (Hg aG t bx ap ao).2.2]) (by simp[results,results142,go_sem]) rfl ?_)
 all_goals(rw[cx.out])
 all_goals(exact⟨rfl,ct,bR.out.1,bR.out.2⟩)
end
section
variable{pI jb x d p L:Nat}
def grow_end{w:jT}{j:Jm}{G:Nat->Prop}(h:GV w pI jb x d p L j G)(a:Nd)(t k l:Option Addr)(i m n:Nat)(off y:Int)(lb:nC)(nM:List nC)(A:Option Addr)(c:Nat)(s:ni)
 (a2:jf w G (fM t a.pre.length i) (gz iV (a.val.toNat:Int)) (fM k a.labels.length m) (fM l a.kids.length n) a)(b2:a.pre.length<=100)(b3:a.labels.length<=100)(b4:a.kids.length<=100)
 (a3:MB w G A nM.length (nM.map bv))(_:nM.length<=c)(b7:nM.length<=100)(b5:j.made.length<=500)(au:oW a.pre nM<a.pre.length)(ao:oW a.pre nM=nM.length):
 Calls prog 142 #[AB jb,iK #[fM t a.pre.length i,a.val,fM k a.labels.length m,fM l a.kids.length n,off,lb,y],fM A nM.length c,s] w (Js (JM j a nM s) pI jb x d p L G w):=by
 have T:η w (w.alloc (ji #[fM t a.pre.length i,a.val,fM k a.labels.length m,fM l a.kids.length n,off,lb,y] 213)):=mZ.alloc (Ae _) _;have J:Cm (w.alloc (ji #[fM t a.pre.length i,a.val,fM k a.labels.length m,fM l a.kids.length n,off,lb,y] 213)) w 213 [fM t a.pre.length i,a.val,fM k a.labels.length m,fM l a.kids.length n,off,lb,y]:=heap_alloc_new _ _;obtain⟨aR,ah⟩:=ε (w.alloc (ji #[fM t a.pre.length i,a.val,fM k a.labels.length m,fM l a.kids.length n,off,lb,y] 213));rw[<-ah]at T J;have aL:=Ac ah;obtain⟨o,v,bd,bL⟩:=a2.reads;obtain⟨e,f,rfl,b6,-⟩:=IC o _ au;obtain⟨b,V⟩:=ε (oW a.pre nM);have aG:=Ac (λ(r:jT)(g:η w r)=>NZ (jm (Δ e f)) A a.pre.length nM.length i c a.pre nM r O O (o.below g).1 (a3.below g).1);rw[<-V]at au aG;obtain⟨⟨bb,bc,a1⟩,W⟩:∃bM,DZ j {a with pre:=a.pre.drop (b+1)}=bM:=⟨_,rfl⟩;have a7:=MN j {a with pre:=a.pre.drop (b+1)};rw[W]at a7;simp only at a7;have P:=Ac (λ(r:jT)(g:η w r)(aM:Option Addr)(bp:Nat)(bB:aM=(if i=b+1 then jm ((Δ e f):Addr)else jm (Δ e (f+(b+1)))))=>Ot (h.below g) {a with pre:=a.pre.drop (b+1)} aM k l bp m n (by simp;omega) (by simp only;omega) (by simp only;omega)
  (((o.below g).nM rfl O bL bB).1) (v.below g).1 (bd.below g).1 O)
 rw[W]at P;simp only[AU]at P;have bs:=Ac o;have b0:=Ac h.lt;rw[<-V]at ao;have bt:Hid (JM j a nM s=Hg bb ⟨a.pre.take b,s,[],[]⟩ (a.pre.getD b 0) bc a1):=Ac (by rw[JM,<-V,lg O,W];simp only[kX ao]);clear h a2 a3 W ah o v bd;have t1:((b:Int)==(a.pre.length:Int))=false:=ζ O;have b8:IntKind.i64.wrap ((b:Int)+1)=(b:Int)+1:=wrap64 _ O O;have t2:((b:Int)==(nM.length:Int))=true:=by rw[beq_iff_eq];omega
 obtain⟨z,B,C,D,E,H,I⟩:=Fh J;clear V ao;go_in;go_wp2_with fail;rw[<-aL.out];clear aL;refine(aG aR T).mono ?_;rintro a0 bX⟨rfl,an⟩;have a4:=τ T (an.below aR);have K:=J.ξ (an.below _);obtain⟨ce,ba,a5,aw⟩:=E5 bX 211 [fM (jm (Δ e f)) a.pre.length i,a.val,fM k a.labels.length m,fM l a.kids.length n];have N:=Ac a4;have bw:=Ac K;obtain⟨z,B,C,D,E,H,I⟩:=Fh (K.ξ a5);obtain⟨aa,ab,ac,ad,Q,R,Y,Z⟩:=Dp aw;obtain⟨bg,bh,bi,bj,bk,bl,bm⟩:=Fh K;rw[ba]at z B C D E H I aa ab ac ad Q R Y Z;clear J T an a4 K aw a5 ba;go_wp2_with fail
 all_goals(refine(P _ (N.alloc N.size _) _ _ (by split<;>first|rfl|omega)).mono ?_)
 all_goals(rintro a0 q⟨rfl,bq,a6,aq⟩)
 all_goals(have aW:=Ac ((mW (F:=G) (N.alloc N.size _)).trans aq))
 all_goals(have M:=(bw.out.ξ (mZ.alloc (Ae _) _)).touch aq.touch (λbE=>Ω (b0 _ bE)))
 all_goals(have ar:=bs.moved aW)
 all_goals(obtain⟨b1,cb,ae,a8,am⟩:=IC ar b au)
 all_goals(injection ae with ae;injection ae with bx bA;subst bx bA)
 all_goals(clear z B C D E H I aa ab ac ad Q R Y Z bg bh bi bj bk bl bm P aq)
 all_goals(have ap:(a.pre.take b).length=b:=by simp;omega)
 all_goals(have a9:MB q bq (jm (Δ e f)) b ((a.pre.take b).map bv):=by have:=ar.take b O;rwa [<-OW]at this)
 all_goals(obtain⟨bg,bh,bi,bj,bk,bl,bm⟩:=Fh M)
 all_goals(obtain⟨wt,X⟩:=ε (q.alloc (ji #[fM (jm (Δ e f)) b b,gz iV 0,fM jw 0 0,fM jw 0 0] 211)))
 all_goals(have az:Cm wt q 211 [fM (jm (Δ e f)) b b,gz iV 0,fM jw 0 0,fM jw 0 0]:=X▸heap_alloc_new _ _)
 all_goals(have al:η q wt:=X▸ mZ.alloc (Ae _) _)
 all_goals(have av:=M.ξ al)
 all_goals(obtain⟨z,B,C,D,E,H,I⟩:=Fh av)
 all_goals(obtain⟨aa,ab,ac,ad,Q,R,Y,Z⟩:=Dp az)
 all_goals(have bY:=(al.cell (p:=Δ e (f+b)) a8).trans am)
 all_goals(rw[X]at z B C D E H I aa ab ac ad Q R Y Z bY)
 all_goals(obtain⟨be,u⟩:=ε (q.alloc (ji #[fM (jm (Δ e f)) b b,s,fM jw 0 0,fM jw 0 0] 211)))
 all_goals(have aD:Cm be q 211 [fM (jm (Δ e f)) b b,s,fM jw 0 0,fM jw 0 0]:=u▸heap_alloc_new _ _)
 all_goals(have U:η q be:=u▸ mZ.alloc (Ae _) _)
 all_goals(obtain⟨bN,bO,bQ,bR,bS,bV,bW⟩:=Fh (M.ξ U))
 all_goals(obtain⟨u0,u1,u2,u3,-⟩:=Dp aD)
 all_goals(have bo:=(U.cell (p:=Δ e (f+b)) a8).trans am)
 all_goals(rw[u]at bN bO bQ bR bS bV bW u0 u1 u2 u3 bo)
 all_goals(have S:=λ(r:jT)(g:η q r)=>VF (a6.below g) ⟨a.pre.take b,s,[],[]⟩ (jm (Δ e f)) jw jw b 0 0 (a.pre.getD b 0) bc a1 (by show(a.pre.take b).length<=100;omega) Θ Θ (by show Rd r _ (a.pre.take b).length _;rw[ap];exact(a9.below g).1) Rd.nil Rd.nil (by show bb.made.length<=1000;omega))
 all_goals(replace S:=Ac S)
 all_goals(rw[ap]at S)
 all_goals(have aE:=Ac (u▸U))
 all_goals(generalize a.pre.getD b 0=ca at*)
 all_goals(generalize a.pre.take b=cc at*)
 all_goals(clear a6 M av az aD al U X u ap a9 ar am)
 all_goals(have b9:(b:Int)<(a.pre.length:Int):=O)
 all_goals(go_wp2_with fail)
 all_goals(go_region_with(go_at_call 190;go_loud(refine(S.out _ (aE.out.trans (mX _))).mono ?_;rintro a0 cd⟨rfl,br,o,v⟩)))
 all_goals(have aI:=Ac (And.intro o (aW.out.trans ((mW (aE.out.trans (mX _))).trans v))))
 all_goals(clear o v)
 all_goals(go_wp2)
 all_goals(go_ret2)
 all_goals(rw[bt.out])
 all_goals(exact⟨rfl,br,aI.out.1,aI.out.2⟩)
def An5{w:jT}{j:Jm}{G:Nat->Prop}(h:GV w pI jb x d p L j G)(a:Nd)(o f g:Option Addr)(e i k:Nat)(off t:Int)(lb:nC)(nM:List nC)(A:Option Addr)(c:Nat)(ah:ni)
 (aE:jf w G (fM o a.pre.length e) (gz iV (a.val.toNat:Int)) (fM f a.labels.length i) (fM g a.kids.length k) a)(bx:a.pre.length<=100)(bA:a.labels.length<=100)(bB:a.kids.length<=100)
 (aG:MB w G A nM.length (nM.map bv))(_:nM.length<=c)(bM:nM.length<=100)(bE:j.made.length<=500)(ae:oW a.pre nM<a.pre.length)(bl:oW a.pre nM<nM.length)(q:(DZ j {a with pre:=a.pre.drop (oW a.pre nM+1)}).2.2≠0):
 Calls prog 142 #[AB jb,iK #[fM o a.pre.length e,a.val,fM f a.labels.length i,fM g a.kids.length k,off,lb,t],fM A nM.length c,ah] w (Js (JM j a nM ah) pI jb x d p L G w):=by
 have P:η w (w.alloc (ji #[fM o a.pre.length e,a.val,fM f a.labels.length i,fM g a.kids.length k,off,lb,t] 213)):=mZ.alloc (Ae _) _;have E:Cm (w.alloc (ji #[fM o a.pre.length e,a.val,fM f a.labels.length i,fM g a.kids.length k,off,lb,t] 213)) w 213 [fM o a.pre.length e,a.val,fM f a.labels.length i,fM g a.kids.length k,off,lb,t]:=heap_alloc_new _ _;obtain⟨aw,ab⟩:=ε (w.alloc (ji #[fM o a.pre.length e,a.val,fM f a.labels.length i,fM g a.kids.length k,off,lb,t] 213));rw[<-ab]at P E;have au:=Ac ab;obtain⟨s,a1,a2,bo⟩:=aE.reads;obtain⟨m,n,rfl,bL,-⟩:=IC s _ ae;obtain⟨b,R⟩:=ε (oW a.pre nM);have aq:=Ac (λ(J:jT)(l:η w J)=>NZ (jm (Δ m n)) A a.pre.length nM.length e c a.pre nM J O O (s.below l).1 (aG.below l).1);rw[<-R]at ae aq;obtain⟨⟨bp,bO,aD⟩,S⟩:∃bq,DZ j {a with pre:=a.pre.drop (b+1)}=bq:=⟨_,rfl⟩;have K:=Ac (λ(J:jT)(l:η w J)(av:Option Addr)(ba:Nat)(bj:av=(if e=b+1 then jm ((Δ m n):Addr)else jm (Δ m (n+(b+1)))))=>Ot (h.below l) {a with pre:=a.pre.drop (b+1)} av f g ba i k (by simp;omega) (by simp only;omega) (by simp only;omega)
  (((s.below l).nM rfl O bo bj).1) (a1.below l).1 (a2.below l).1 O)
 rw[S]at K;simp only[AU]at K;have bd:=Ac s;have bt:=Ac h.lt;rw[<-R]at bl q;rw[S]at q;simp only at q;have ar:Hid (JM j a nM ah=(bp,0,aD)):=Ac (by rw[JM,<-R,lg O,S];simp only;rw[lg O,kX q]);have bR:(aD !=0)=true:=by rw[bne_iff_ne];exact q
 clear q;clear h aE aG S ab s a1 a2;have t1:((b:Int)==(a.pre.length:Int))=false:=ζ O;have bN:IntKind.i64.wrap ((b:Int)+1)=(b:Int)+1:=wrap64 _ O O;have t2:((b:Int)==(nM.length:Int))=false:=ζ O;obtain⟨u,v,y,z,B,C,D⟩:=Fh E;clear R;go_in;go_wp2_with fail;rw[<-au.out];clear au;refine(aq aw P).mono ?_;rintro bg br⟨rfl,ac⟩;have aI:=τ P (ac.below aw);have H:=E.ξ (ac.below _);obtain⟨bS,a0,aL,an⟩:=E5 br 211 [fM (jm (Δ m n)) a.pre.length e,a.val,fM f a.labels.length i,fM g a.kids.length k];have I:=Ac aI;have be:=Ac H;obtain⟨u,v,y,z,B,C,D⟩:=Fh (H.ξ aL);obtain⟨V,W,X,Y,M,N,T,U⟩:=Dp an;obtain⟨a3,a4,a5,a6,a7,a8,a9⟩:=Fh H;rw[a0]at u v y z B C D V W X Y M N T U;clear E P ac aI H an aL a0;go_wp2_with fail
 all_goals(refine(K _ (I.alloc I.size _) _ _ (by split<;>first|rfl|omega)).mono ?_;rintro bg al⟨rfl,bb,aR,ad⟩;have az:=Ac ((mW (F:=G) (I.alloc I.size _)).trans ad);have Z:=(be.out.ξ (mZ.alloc (Ae _) _)).touch ad.touch (λbk=>Ω (bt _ bk)))
 all_goals(have aW:=bd.moved az;obtain⟨bw,bQ,aa,bm,aM⟩:=IC aW b ae;injection aa with aa;injection aa with bh bi;subst bh bi;clear u v y z B C D V W X Y M N T U a3 a4 a5 a6 a7 a8 a9 K ad;obtain⟨a3,a4,a5,a6,a7,a8,a9⟩:=Fh Z;obtain⟨wt,r⟩:=ε (al.alloc (ji #[fM (jm (Δ m n)) b b,gz iV 0,fM jw 0 0,fM jw 0 0] 211));have ao:Cm wt al 211 [fM (jm (Δ m n)) b b,gz iV 0,fM jw 0 0,fM jw 0 0]:=r▸heap_alloc_new _ _;have Q:η al wt:=r▸ mZ.alloc (Ae _) _;have am:=Z.ξ Q;obtain⟨u,v,y,z,B,C,D⟩:=Fh am;obtain⟨V,W,X,Y,M,N,T,U⟩:=Dp ao;have bs:=(Q.cell (p:=Δ m (n+b)) bm).trans aM;rw[r]at u v y z B C D V W X Y M N T U bs;have ap:=Ac (r▸Q);have bc:=Ac aR;clear aR Z am ao Q r aW aM;go_wp2_with fail)
 all_goals(go_ret2)
 all_goals(refine⟨by rw[ar.out];rfl,bb,?_,az.trans (mW ap)⟩)
 all_goals(rw[ar.out];exact bc.below ap)
end
section
variable{pI jb x d p L:Nat}
def Asg{w:jT}{j:Jm}{G:Nat->Prop}(h:GV w pI jb x d p L j G)(a:Nd)(r m n:Option Addr)(g o q:Nat)(off y:Int)(lb:nC)(nM:List nC)(A:Option Addr)(c:Nat)(aq:ni)
 (aR:jf w G (fM r a.pre.length g) (gz iV (a.val.toNat:Int)) (fM m a.labels.length o) (fM n a.kids.length q) a)(b1:a.pre.length<=100)(b2:a.labels.length<=100)(b3:a.kids.length<=100)
 (aW:MB w G A nM.length (nM.map bv))(_:nM.length<=c)(b7:nM.length<=100)(b5:j.made.length<=500)(ap:oW a.pre nM<a.pre.length)(bE:oW a.pre nM<nM.length)(U:(DZ j {a with pre:=a.pre.drop (oW a.pre nM+1)}).2.2=0)(s:KN ⟨a.pre.take (oW a.pre nM),0,[],[]⟩ (a.pre.getD (oW a.pre nM) 0) (DZ j {a with pre:=a.pre.drop (oW a.pre nM+1)}).2.1=jS):
 Calls prog 142 #[AB jb,iK #[fM r a.pre.length g,a.val,fM m a.labels.length o,fM n a.kids.length q,off,lb,y],fM A nM.length c,aq] w (Js (JM j a nM aq) pI jb x d p L G w):=by
 have S:η w (w.alloc (ji #[fM r a.pre.length g,a.val,fM m a.labels.length o,fM n a.kids.length q,off,lb,y] 213)):=mZ.alloc (Ae _) _;have J:Cm (w.alloc (ji #[fM r a.pre.length g,a.val,fM m a.labels.length o,fM n a.kids.length q,off,lb,y] 213)) w 213 [fM r a.pre.length g,a.val,fM m a.labels.length o,fM n a.kids.length q,off,lb,y]:=heap_alloc_new _ _;obtain⟨aI,al⟩:=ε (w.alloc (ji #[fM r a.pre.length g,a.val,fM m a.labels.length o,fM n a.kids.length q,off,lb,y] 213));rw[<-al]at S J;have aE:=Ac al;obtain⟨v,a9,ba,bM⟩:=aR.reads;obtain⟨k,l,rfl,b6,-⟩:=IC v _ ap;obtain⟨b,V⟩:=ε (oW a.pre nM);have az:=Ac (λ(e:jT)(i:η w e)=>NZ (jm (Δ k l)) A a.pre.length nM.length g c a.pre nM e O O (v.below i).1 (aW.below i).1);rw[<-V]at ap az;obtain⟨⟨bN,bO,b4⟩,u⟩:∃bQ,DZ j {a with pre:=a.pre.drop (b+1)}=bQ:=⟨_,rfl⟩;have bY:=Ac u;have N:=Ac (λ(e:jT)(i:η w e)(aG:Option Addr)(bk:Nat)(bx:aG=(if g=b+1 then jm ((Δ k l):Addr)else jm (Δ k (l+(b+1)))))=>Ot (h.below i) {a with pre:=a.pre.drop (b+1)} aG m n bk o q (by simp;omega) (by simp only;omega) (by simp only;omega)
  (((v.below i).nM rfl O bM bx).1) (a9.below i).1 (ba.below i).1 O)
 rw[u]at N;simp only[AU]at N;have bq:=Ac v;have bX:=Ac h.lt;rw[<-V]at bE U s;rw[u]at U s;simp only at U s;subst U;have aD:Hid (JM j a nM aq=(bN,0,5)):=Ac (by rw[JM,<-V,lg O,u];simp only;rw[lg O,lg Θ,lg (by rw[s];exact Bool.false_ne_true)]);have bV:=Ac s;clear s;clear h aR aW u al v a9 ba;have t1:((b:Int)==(a.pre.length:Int))=false:=ζ O;have b8:IntKind.i64.wrap ((b:Int)+1)=(b:Int)+1:=wrap64 _ O O;have t2:((b:Int)==(nM.length:Int))=false:=ζ O;obtain⟨z,B,C,D,E,H,I⟩:=Fh J;clear V;go_in;go_wp2_with fail;rw[<-aE.out];clear aE;refine(az aI S).mono ?_;rintro R bR⟨rfl,am⟩;have a0:=τ S (am.below aI);have K:=J.ξ (am.below _);obtain⟨cl,a7,a2,av⟩:=E5 bR 211 [fM (jm (Δ k l)) a.pre.length g,a.val,fM m a.labels.length o,fM n a.kids.length q];have M:=Ac a0;have br:=Ac K;obtain⟨z,B,C,D,E,H,I⟩:=Fh (K.ξ a2);obtain⟨Y,Z,aa,ab,P,Q,W,X⟩:=Dp av;obtain⟨bc,bd,be,bg,bh,bi,bj⟩:=Fh K;rw[a7]at z B C D E H I Y Z aa ab P Q W X;clear J S am a0 K av a2 a7;go_wp2_with fail
 all_goals(refine(N _ (M.alloc M.size _) _ _ (by split<;>first|rfl|omega)).mono ?_)
 all_goals(rintro R f⟨rfl,aw,a5,an⟩)
 all_goals(have aL:=Ac ((mW (F:=G) (M.alloc M.size _)).trans an))
 all_goals(have ac:=(br.out.ξ (mZ.alloc (Ae _) _)).touch an.touch (λbA=>Ω (bX _ bA)))
 all_goals(have ao:=bq.moved aL)
 all_goals(obtain⟨b0,cb,ah,bL,a3⟩:=IC ao b ap)
 all_goals(injection ah with ah;injection ah with bt bw;subst bt bw)
 all_goals(clear z B C D E H I Y Z aa ab P Q W X bc bd be bg bh bi bj N an)
 all_goals(have bB:(a.pre.take b).length=b:=by simp;omega)
 all_goals(have a6:MB f aw (jm (Δ k l)) b ((a.pre.take b).map bv):=by have:=ao.take b O;rwa [<-OW]at this)
 all_goals(obtain⟨bc,bd,be,bg,bh,bi,bj⟩:=Fh ac)
 all_goals(obtain⟨wt,t⟩:=ε (f.alloc (ji #[fM (jm (Δ k l)) b b,gz iV 0,fM jw 0 0,fM jw 0 0] 211)))
 all_goals(have ad:Cm wt f 211 [fM (jm (Δ k l)) b b,gz iV 0,fM jw 0 0,fM jw 0 0]:=t▸heap_alloc_new _ _)
 all_goals(have T:η f wt:=t▸ mZ.alloc (Ae _) _)
 all_goals(have ar:=ac.ξ T)
 all_goals(obtain⟨z,B,C,D,E,H,I⟩:=Fh ar)
 all_goals(obtain⟨Y,Z,aa,ab,P,Q,W,X⟩:=Dp ad)
 all_goals(have bW:=(T.cell (p:=Δ k (l+b)) bL).trans a3)
 all_goals(rw[t]at z B C D E H I Y Z aa ab P Q W X bW)
 all_goals(have bb:=Ac (λ(e:jT)(i:η f e)=>Agy (jm (Δ k l)) jw jw b b 0 0 0 0 ⟨a.pre.take b,0,[],[]⟩ (a.pre.getD b 0) bO e O O O (by show Rd e _ _ _;exact(a6.below i).1) Rd.nil Rd.nil bV))
 all_goals(unfold RF at bb)
 all_goals(have ae:=Ac (t▸T))
 all_goals(have bm:=Ac (t▸ad))
 all_goals(have bp:=Ac a5)
 all_goals(generalize a.pre.getD b 0=ca at*)
 all_goals(generalize a.pre.take b=cc at*)
 all_goals(clear a5 ac ar ad T t bB a6 ao a3)
 all_goals(have b9:(b:Int)<(a.pre.length:Int):=O)
 all_goals(go_wp2_with fail)
 all_goals(go_region_with(go_at_call 191;go_loud(refine(bb.out _ (ae.out.trans (mX _))).mono ?_;rintro R bS⟨rfl,a1⟩;have bl:=(ae.out.trans (mX _)).trans (a1.mono (ae.out.trans (mX _)).size);have au:=bm.out.ξ ((mX _).trans a1);obtain⟨cd,ce,cf,cg,ch,ci,cj,ck⟩:=Dp au)))
 all_goals(obtain⟨bs,aM,-,a8,-⟩:=Ajh au bl (Ae _) (fM jw 0 0) (gz iV 0) (fM jw 0 0) (fM jw 0 0))
 all_goals(have bo:Hid (∀e,(e=(((bS.setCell (Δ f 0) (fM jw 0 0)).setCell (Δ f 1) (gz iV 0)).setCell (Δ f 2) (fM jw 0 0)).setCell (Δ f 3) (fM jw 0 0))->η f e):=Ac (λe R=>by rw[R,<-aM];exact a8))
 all_goals(clear aM a8 bs)
 all_goals(go_wp2)
 all_goals(go_ret2)
 all_goals(have a4:=bo _ rfl)
 all_goals(refine⟨by rw[aD.out];rfl,aw,?_,aL.out.trans (mW a4)⟩)
 all_goals(rw[aD.out])
 all_goals(exact bp.out.below a4)
end
def Gof(F:Nat->Prop)(jb:Nat)(v:ku)(b:Nat):Prop:=F b\/b=jb\/v.ownBlock=jm b
section
variable{w w':jT}{pI jb x d p L:Nat}{j:Jm}{F G:Nat->Prop}{v:ku}
def QK.move'(h:QK w pI jb x d p L j F v){s':Ms}{a:Nat->Prop}(f:LY w' d p L s' a)(m:AQ F a w w'):QK w' pI jb x d p L {j with s:=s'} a v/\AQ (Gof F jb v) (Gof a jb v) w w':=by
 obtain⟨k,g,i,c⟩:=h.move (G:=Gof F jb v) (λ_=>Iff.rfl) f m;refine⟨g,c.touch,λb e=>c.own b ((i b).2 e)⟩
def zG{b:Type}(l:List b)(k:Nat)(a:k<l.length):l.drop k=l[k]::l.drop (k+1):=List.drop_eq_getElem_cons a
def Uf(r:Ms×Int)(pI jb x d p L:Nat)(j:Jm)(G:Nat->Prop)(w:jT)(e:Ending)(w':jT):Prop:=
 e=iO r.2/\∃a,GV w' pI jb x d p L {j with s:=r.1} a/\AQ G a w w'
def jD(h:GV w pI jb x d p L j G)(e:Int)(am:Int)(P:ni)(A:Option Addr)(c:Nat)(aG:List Int)(a0:j.made.length<=1000)(l:Ms)(f:Int)
 (aD:(e≠0/\l=j.s/\e=f)\/(e=0/\f≠0/\∃y:Nat,am=((8*y:Nat):Int)/\y<8*L/\KG j.s 3 (DD j.s.s.ws y P)=(l,f))):
 Calls prog 141 #[AB jb,e,am,P,fM A aG.length c] w (Uf (Mc l j.made,f) pI jb x d p L j G w):=by
 obtain⟨F,v,i,Q⟩:=h;have aw:G=Gof F jb v:=funext λau=>propext (Q au)
 subst aw;obtain⟨m,u,rfl,aR,-⟩:=CY (FI i.row (Bd _));have D:=i.box.c0;have E:=i.box.c1;have u0:=i.ix.box.c0;obtain⟨t,K⟩:∃t,Mc l j.made=t:=⟨_,rfl⟩;rw[K];have ar:=Ac K;have o:=Ac i;clear i Q K;rcases aD with⟨C,aa,U⟩|⟨rfl,T,y,ae,aI,ab⟩
 case' inl=>
  rw[U]at C⊢;have t1:(f==0)=false:=ζ C;have t2:(f !=0)=true:=by rw[bne_iff_ne];exact C
  have H:Hid (QK w pI jb x d p L {j with s:=l} F (fM m j.made.length u)):=Ac (by rw[aa];exact o);have I:=Ac (AQ.refl (Gof F jb (fM m j.made.length u)) w);clear C o aa U;go_in;go_wp2_with fail
 case' inr=>
  have r:=Sv o.ix.sys y P aI;rw[<-ae,ab]at r;have r:=Ac r;have t2:(f !=0)=true:=by rw[bne_iff_ne];exact T
  clear ae ab T;go_in;go_wp2_with(refine r.out.mono ?_;rintro e a6⟨rfl,aL,ac,X⟩;obtain⟨k,z⟩:=o.move' ac X;have H:=Ac k;have I:=Ac z;clear ac X r u0 o D E z;have E:=k.box.cell 1;simp only[Af,Ai]at E;clear k)
 all_goals
  clear E;go_loopw [35](λN wr=>∃(a:Nat)(n:Nat->Prop)(g:Ms),a<=j.made.length/\N=gz iU (a:Nat)/\Mc g (j.made.drop a)=t/\QK wr pI jb x d p L {j with s:=g} n (fM m j.made.length u)/\AQ (Gof F jb (fM m j.made.length u)) (Gof n jb (fM m j.made.length u)) w wr)(λN _=>j.made.length-(intOf N).toNat)
  case atStart=>exact⟨0,_,l,Bd _,rfl,ar,H,I⟩
  case round=>
   obtain⟨a,n,g,aW,rfl,S,W,Z⟩:=hrel;obtain⟨J,al,b⟩:=l9 Z S W;clear Z S W H I;by_cases M:a<j.made.length
   ·have D:=b.box.cell 0;have u1:=b.ix.box.cell 1;simp only[Af,Ai]at D u1;obtain⟨a4,a5,rfl,a1,R⟩:=(Dk b.row).2.2 O;have B:=R a M;rw[CP,Ag M]at B;replace B:_=jm (AA iU j.made[a]):=B;have V: -9223372036854775808<=j.made[a]/\j.made[a]<=9223372036854775807:=b.mb _ (BO _);have av:Hid (Mc (DT g j.made[a]).1 (j.made.drop (a+1))=t):=Ac (by rw[<-al.out,zG _ _ M];rfl);have ah:=Ac (LZ (q:=g) b.ix.sys j.made[a] V);generalize j.made[a]=aE at*;clear R V;have a3:(a:Int)<(j.made.length:Int):=O;have a2:IntKind.i64.wrap ((a:Int)+1)=(a:Int)+1:=wrap64 _ O O;go_wp2_with(refine ah.out.mono ?_;rintro aM a7⟨rfl,an,ad,Y⟩;obtain⟨k,z⟩:=b.move' ad Y;have ap:=Ac k;have ao:=Ac (J.trans z);clear k z ad Y ah D u1 B b J);exact⟨⟨a+1,an,(DT g aE).1,O,by go_num,av,ap,ao⟩,mz⟩
   ·have az:a=j.made.length:=O;subst az;have aq:Hid (g=t):=Ac (by have:=al.out;rw[Aln]at this;exact this);go_wp2;go_ret;refine⟨rfl,Gof n jb _,?_,J⟩;rw[<-aq.out];exact⟨n,_,b,λ_=>Iff.rfl⟩
def zH(h:GV w pI jb x d p L j G)(B:Int)(i:Nat)(I:B=((8*i:Nat):Int))(ao:i<8*L)(m:ni)(A:Option Addr)(c:Nat)(a:List Int)(W:MB w G A a.length (a.map zv))(al:∀n∈a,-9223372036854775808<=n/\n<=9223372036854775807)(aW:a.length<=1000)(ac:j.made.length<=1000):
 Calls prog 141 #[AB jb,gz iU 0,B,m,fM A a.length c] w (Uf (EP j 0 B m a) pI jb x d p L j G w):=by
 obtain⟨⟨k,e⟩,H⟩:∃aw,KG j.s 3 (DD j.s.s.ws i m)=aw:=⟨_,rfl⟩;have E:EP j 0 B m a=if e=0 then KR k a 0 else(Mc k j.made,e):=by unfold EP;rw[lg Θ,I,show((8*i:Nat):Int).toNat/8=i by omega,H]
 by_cases g:e=0
 case neg=>
  rw[E,lg g];exact jD h 0 B m A c a ac k e (.inr ⟨rfl,g,i,I,ao,H⟩)
 subst g;rw[kX rfl]at E;rw[E];clear E ac;obtain⟨F,v,u,V⟩:=h;have aG:G=Gof F jb v:=funext λaz=>propext (V az)
 subst aG;have r:=Sv u.ix.sys i m ao;rw[<-I,H]at r;obtain⟨r,ar,au,av⟩:=lL r u W al;have J:=u.box.c0;have u0:=u.ix.box.c0;clear u V W al I H;go_in;go_wp2_with(refine r.out.mono ?_;rintro aL a5⟨rfl,aq,am,ad⟩;obtain⟨y,z⟩:=ar.move' am ad;have Q:=Ac y;have R:=Ac z;clear y z am ad r J u0);go_loopw [1,52](λaE M wr=>∃(b:Nat)(o:Nat->Prop)(f:Ms)(e:Int),b<=a.length/\aE=gz iU e/\M=gz iU (b:Nat)/\KR f (a.drop b) e=KR k a 0/\QK wr pI jb x d p L {j with s:=f} o v/\AQ (Gof F jb v) (Gof o jb v) w wr)(λ_ M _=>a.length-(intOf M).toNat)
 case atStart=>exact⟨0,aq,k,0,Bd _,rfl,rfl,rfl,Q,R⟩
 case round=>
  obtain⟨b,o,f,e,aR,rfl,rfl,Z,ab,ah⟩:=hrel;obtain⟨C,ap,l⟩:=l9 ah Z ab;clear ah Z ab Q R;by_cases K:b<a.length
  ·have J:=l.box.cell 0;have u1:=l.ix.box.cell 1;simp only[Af,Ai]at J u1;obtain⟨a3,a4,rfl,a0,X⟩:=(au.moved C).1.2 O;have D:=X b K;rw[CP,Ag K]at D;replace D:_=jm (AA iU a[b]):=D;have aa: -9223372036854775808<=a[b]/\a[b]<=9223372036854775807:=av _ (BO _);have t:Hid (KR (DT f a[b]).1 (a.drop (b+1)) (if e=0 then(DT f a[b]).2 else e)=KR k a 0):=Ac (by rw[<-ap.out,zG _ _ K];rfl);have N:=Ac (LZ (q:=f) l.ix.sys a[b] aa);generalize a[b]=n at*;obtain⟨aD,Y⟩:=ε ((DT f n).2);rw[<-Y]at t N;clear X aa Y;have a2:(b:Int)<(a.length:Int):=O;have a1:IntKind.i64.wrap ((b:Int)+1)=(b:Int)+1:=wrap64 _ O O;go_wp2_with fail;refine N.mono ?_;rintro aM a6⟨rfl,P,an,ae⟩;obtain⟨y,z⟩:=l.move' an ae;have T:=Ac y;have S:=Ac (C.trans z);clear y z an ae N J u1 D l C;by_cases g:e=0
   ·subst g;rw[kX rfl]at t;go_wp2;exact⟨⟨b+1,P,(DT f n).1,aD,O,rfl,by go_num,t,T,S⟩,mz⟩
   ·rw[lg g]at t;have t5:(e==0)=false:=ζ g;go_wp2;exact⟨⟨b+1,P,(DT f n).1,e,O,rfl,by go_num,t,T,S⟩,mz⟩
  ·have aI:b=a.length:=O;subst aI;have U:Hid ((f,e)=KR k a 0):=Ac (by have:=ap.out;rw[Aln]at this;exact this);go_wp2;go_ret;refine⟨by rw[<-U.out];rfl,Gof o jb _,?_,C⟩;rw[<-U.out];exact⟨o,_,l,λ_=>Iff.rfl⟩
def Ug(h:GV w pI jb x d p L j G)(e:Int)(b:Int)(i:Nat)(q:b=((8*i:Nat):Int))(r:i<8*L)(f:ni)(A:Option Addr)(c:Nat)(a:List Int)(m:MB w G A a.length (a.map zv))(n:∀l∈a,-9223372036854775808<=l/\l<=9223372036854775807)(o:a.length<=1000)(k:j.made.length<=1000):
 Calls prog 141 #[AB jb,e,b,f,fM A a.length c] w (Uf (EP j e b f a) pI jb x d p L j G w):=by
 by_cases g:e=0
 ·subst g;exact zH h b i q r f A c a m n o k
 ·rw[show EP j e b f a=(Mc j.s j.made,e)by unfold EP;rw[kX g]];exact jD h e b f A c a k j.s e (.inl ⟨g,rfl,rfl⟩)
end
section
variable{pI jb x d p L:Nat}
def An6{w:jT}{j:Jm}{G:Nat->Prop}(h:GV w pI jb x d p L j G)(a:Nd)(b e f:Option Addr)(g i k:Nat)(off m:Int)(lb:nC)(nM:List nC)(A:Option Addr)(c:Nat)(l:ni)
 (r:jf w G (fM b a.pre.length g) (gz iV (a.val.toNat:Int)) (fM e a.labels.length i) (fM f a.kids.length k) a)(n:a.pre.length<=100)(o:a.labels.length<=100)(q:a.kids.length<=100)
 (s:MB w G A nM.length (nM.map bv))(u:nM.length<=c)(v:nM.length<=100)(t:j.made.length<=500)(H:a.pre≠nM):
 Calls prog 142 #[AB jb,iK #[fM b a.pre.length g,a.val,fM e a.labels.length i,fM f a.kids.length k,off,lb,m],fM A nM.length c,l] w (Js (JM j a nM l) pI jb x d p L G w):=by
 have I:=JY a.pre nM;have J:=LM a.pre nM;by_cases E:oW a.pre nM=a.pre.length
 ·refine Aji h a b e f g i k off m lb nM A c l r n o q s u v t E ?_;rcases JO (oW a.pre nM) nM.length with C|C
  ·exact C
  ·exact absurd (UX _ _ E O) H
 ·have y:oW a.pre nM<a.pre.length:=O;by_cases F:oW a.pre nM=nM.length
  ·exact grow_end h a b e f g i k off m lb nM A c l r n o q s u v t y F
  ·have B:oW a.pre nM<nM.length:=O;by_cases z:(DZ j {a with pre:=a.pre.drop (oW a.pre nM+1)}).2.2=0
   ·cases D:KN ⟨a.pre.take (oW a.pre nM),0,[],[]⟩ (a.pre.getD (oW a.pre nM) 0) (DZ j {a with pre:=a.pre.drop (oW a.pre nM+1)}).2.1
    ·exact Asg h a b e f g i k off m lb nM A c l r n o q s u v t y B z D
    ·exact An4 h a b e f g i k off m lb nM A c l r n o q s u v t y B z D
   ·exact An5 h a b e f g i k off m lb nM A c l r n o q s u v t y B z
end
def GV.done{w e w':jT}{pI jb x d p L:Nat}{j:Jm}{F G c:Nat->Prop}(h:GV w' pI jb x d p L j c)(m:AQ G c e w')(i:η w e)(g:∀a,G a->F a\/w<=a):∃b,pz w' x d p L j.s b/\AQ F b w w':=by
 obtain⟨b,v,n,k⟩:=h;have o:=i.size;refine⟨b,n.ix,(mD i).trans m.touch g,λa l=>?_⟩;rcases m.own a ((k a).2 (.inl l))with f|f
 ·exact g a f
 ·exact .inr O
def uM{w e:jT}{x d p L:Nat}{q:Ms}{F:Nat->Prop}(h:pz e x d p L q F)(n:e=w.alloc (ji #[AB x,fM jw 0 0] 255))(hF:∀a,F a->a<w.heap.size)(o:x<w.heap.size)(m:0<w.heap.size/\1<w.heap.size):
 GV e w.heap.size w.heap.size x d p L ⟨q,[]⟩ (λa=>F a\/a=w.heap.size):=by
 have g:(Ad jw 0 0).ownBlock=none:=rfl;have r:e.ownsRow w.heap.size 3 1 (fM jw 0 0) 0 []:=World.ownsRow_nil _ _ _ _;have i:Cm e w.heap.size 255 [AB x,fM jw 0 0]:=n▸heap_alloc_new _ _;have j:¬F w.heap.size:=λk=>Abz _ (hF _ k)
 refine⟨F,fM jw 0 0,⟨h,i,r,j,Ae _,o,m,(by rw[g];exact λf=>nomatch f),λa c=>(by rw[g]at c;exact nomatch c),λs l=>nomatch l⟩,λa=>⟨λc=>c.elim .inl (λf=>.inr (.inl f)),λc=>?_⟩⟩;rcases c with b|b|b
 ·exact .inl b
 ·exact .inr b
 ·rw[g]at b;exact nomatch b
def N8(r:Ms×Int)(x d p L:Nat)(F:Nat->Prop)(w:jT)(e:Ending)(w':jT):Prop:=
 e=iO r.2/\∃a,pz w' x d p L r.1 a/\AQ F a w w'
section
variable{w:jT}{x d p L:Nat}{s:St}{F:Nat->Prop}{lf:Int}
def Uh(key:nG):key.data.toList.length=key.size:=by rw[Array.length_toList];rfl
def Zq(h:KH (.up (MU lf)) w x d p L s F)(key:nG)(r:key.size<=1000)(e:ni)(i:16<key.size\/e=0\/FC s key=jw):
 Calls prog 95 #[AB x,key,e] w (N8 (OG ⟨.up lf,s⟩ key e) x d p L F w):=by
 have b:=Ac (Jc h key O);have k:=Ac h;have g:=Uh key;by_cases a:16<key.size
 ·have c:Hid (OG ⟨.up lf,s⟩ key e=(⟨.up lf,s⟩,3)):=Ac (by unfold OG;rw[g,kX a]);rw[kX a]at b;clear h i a g;go_in;go_wp2_with(refine b.out.ro ?_;clear b);go_ret;refine⟨by rw[c.out];rfl,F,?_,AQ.refl _ _⟩;rw[c.out];exact k
 ·rw[lg a]at b;by_cases f:e=0
  ·have c:Hid (OG ⟨.up lf,s⟩ key e=(⟨.up lf,s⟩,2)):=Ac (by unfold OG;rw[g,lg a,kX f]);subst f;clear h i a g;go_in;go_wp2_with(refine b.out.ro ?_;clear b);go_ret;refine⟨by rw[c.out];rfl,F,?_,AQ.refl _ _⟩;rw[c.out];exact k
  ·have l:=(i.resolve_left a).resolve_left f;have c:Hid (OG ⟨.up lf,s⟩ key e=(⟨.up lf,s⟩,5)):=Ac (by unfold OG;rw[g,lg a,lg f];simp only[l]);have n:=Ac (Me h key r);have t:=Ac l;have t1:((e.toNat:Int)==0)=false:=by
    rw[beq_eq_false_iff_ne];intro o;exact f (Eb.1 (by simp;omega))
   clear h i a f g l;go_in;go_wp2_with(first|(refine b.out.ro ?_;clear b)|(refine n.mono ?_;rintro o u⟨q,j⟩;rw[t.out]at j;replace j:o=iO (iJ #[fM jw 0 0,fM jw 0 0,gz iU 5]):=j;subst j;have m:=Ac q;clear q n));go_ret;refine⟨by rw[c.out];rfl,F,?_,mW m⟩;rw[c.out];exact k.below m
end
def jE{s:St}:∀(f:Nat)(g:ni)(nM:List nC)(e:nC)(j:Int)(c b:List Pl)(i:List nC),ES s f g nM e j c=jm (b,i)->b.length<=c.length+f
 |0,g,nM,e,j,c,b,i,h=>by
  rw[ES]at h;injection h with h
  injection h with a d
  subst a;omega
 |f+1,g,nM,e,j,c,b,i,h=>by
  rw[ES]at h;split at h
  ·injection h with h
   injection h with a d
   subst a;omega
  ·split at h
   ·cases h
   ·split at h
    ·injection h with h
     injection h with a d
     subst a;simp
    ·split at h
     ·injection h with h
      injection h with a d
      subst a;simp
     ·have:=jE f _ _ _ _ _ _ _ h;simp at this;omega
def SN{s:St}{key:List nC}{a:List Pl}{nM:List nC}(h:FC s key=jm (a,nM)):a.length<=2*key.length+1:=by
 have:=jE _ _ _ _ _ _ _ _ h;simpa using this
def TY.below{w w':jT}{pI:Nat}{A:Option Addr}{l:List nC}(h:TY w pI A l)(k:η w w'):TY w' pI A l:=(Dx.of_below k).rs h
section
variable{w:jT}{x d p L:Nat}{s:St}{F:Nat->Prop}{lf:Int}
def Ajj(h:KH (.up (MU lf)) w x d p L s F)(key:nG)(l:¬16<key.size)(e:ni)(o:e≠0)(g:List Pl)(nM:List nC)(f:FC s key=jm (g,nM))(a:Pl)(b:Dw g nM=jm a):
 Calls prog 95 #[AB x,key,e] w (N8 (OG ⟨.up lf,s⟩ key e) x d p L F w):=by
 have j:=Ac (Jc h key O);rw[lg l]at j;have au:=Ac h;have n:=Uh key;obtain⟨a8,a9,i,E⟩:=h.L0;have aW:16<=L:=Ψ i.fits i.CE;obtain⟨k,S⟩:=V9 i O E f;have U:=SN f;rw[n]at S U;replace S:nM.length<=32:=O;replace U:g.length<=33:=O;have R:∀r∈g,r.nd.pre.length<=1000:=λr az=>Ω (((BD _).1 (k r az).right).1)
 obtain⟨ap,H,aE,av⟩:=lL R (Me h key O) f b;have N:a∈g:=by
  unfold Dw at b;split at b
  ·cases b
  ·rename_i a7 aw;split at b
   ·injection b with b;subst b;exact VW aw
   ·cases b
 have ao:=Ac (k a N);have B:Hid (OG ⟨.up lf,s⟩ key e=Oi ⟨.up lf,s⟩ a e):=Ac (by unfold OG;rw[n,lg l,lg o];simp only[f,b]);clear b N;have t1:((e.toNat:Int)==0)=false:=by
  rw[beq_eq_false_iff_ne];intro c;exact o (Eb.1 (by simp;omega))
 clear h l o f n i E k R;go_in;go_wp2_with(first|(refine j.out.ro ?_;clear j)|(refine H.mono ?_;rintro c bb⟨I,P⟩;rw[aE.out]at P;obtain⟨ba,aR,a3,rfl,G,T,a6⟩:=P;obtain⟨ar,aq,am⟩:=l9 G T I;clear G T I H));refine(IM ar O ap aq.1 O).mono ?_;rintro c aM⟨J,Q⟩;rw[av.out]at Q;obtain⟨a1,a2,a4,a5,rfl,aD⟩:=Q;obtain⟨t,W,u,X,v,Y,c,aG,aI,aL⟩:=aD;simp only[Value.agg.injEq]at c;simp at c;obtain⟨rfl,rfl,rfl,rfl⟩:=c;have an:=Ac (τ am.out J);obtain⟨a0,m,K,y⟩:=E5 aM 213 [fM t a.nd.pre.length W,a.nd.val,fM u a.nd.labels.length X,fM v a.nd.kids.length Y,a.off,a.label,a.word];have z:=Ac (τ an.out K);have C:=Ac (Ud (q:=⟨.up lf,s⟩) (au.below z) a (ao.out) t u v a.nd.pre.length W a.nd.labels.length X a.nd.kids.length Y e);have D:=Ac m;obtain⟨Z,aa,ab,ac,ad,ae,ah⟩:=Fh y;rw[m]at Z aa ab ac ad ae ah;clear aG aI aL J K y m;go_wp2_with(rw[<-D.out];refine C.mono ?_;rintro c bc⟨rfl,al,V,M⟩;have A:=Ac (And.intro V ((mW (F:=F) z).trans M));clear V M Z aa ab ac ad ae ah C D);go_ret;refine⟨by rw[B.out];rfl,al,?_,A.2⟩;rw[B.out];exact A.1
def Ajk(h:KH (.up (MU lf)) w x d p L s F)(key:nG)(B:¬16<key.size)(c:ni)(J:c≠0)(e:List Pl)(nM:List nC)(j:FC s key=jm (e,nM))(K:e=[])(I:Dw e nM=jw):
 Calls prog 95 #[AB x,key,c] w (N8 (OG ⟨.up lf,s⟩ key c) x d p L F w):=by
 have v:=Ac (Jc h key O);rw[lg B]at v;have a8:=Ac h;have E:=Uh key;obtain⟨bB,bE,r,Y⟩:=h.L0;have bo:16<=L:=Ψ r.fits r.CE;obtain⟨aa,aD⟩:=V9 r O Y j;have aI:=SN j;rw[E]at aD aI;replace aD:nM.length<=32:=O;replace aI:e.length<=33:=O;have aw:∀P∈e,P.nd.pre.length<=1000:=λP bd=>Ω (((BD _).1 (aa P bd).right).1)
 obtain⟨a5,ac,bi⟩:=l9 aw (Me h key O) j;have bA:=h.box.lt;obtain⟨a6,ab,a9⟩:=l9 h.sys.tabs.lt h.sys.lt I;obtain⟨⟨n,o,l⟩,H⟩:∃bk,Ld (nM.length+1) ⟨⟨.up lf,s⟩,[]⟩ nM c=bk:=⟨_,rfl⟩;have V:=Ac H;have aW:e.length=0:=by rw[K];rfl
 have U:Hid (OG ⟨.up lf,s⟩ key c=EP n l 72 o []):=Ac (by unfold OG;rw[E,lg B,lg J,j];simp only;rw[I,K];simp only[List.getLast?_nil];rw[H]);clear I K H;have t1:((c.toNat:Int)==0)=false:=by
  rw[beq_eq_false_iff_ne];intro f;exact J (Eb.1 (by simp;omega))
 clear h B J j E r Y aa aw;go_in;go_wp2_with(first|(refine v.out.ro ?_;clear v)|(refine ac.mono ?_;rintro f bm⟨an,av⟩;rw[bi.out]at av;obtain⟨bl,Q,bb,rfl,Z,aE,bg⟩:=av;obtain⟨X,W,a1⟩:=l9 Z aE an;clear Z aE an ac));refine(IM X O a5 W.1 O).mono ?_;rintro f aL⟨D,m⟩;rw[a9.out]at m;replace m:f=iO (iJ #[iK #[fM jw 0 0,gz iV 0,fM jw 0 0,fM jw 0 0,gz iU 0,gz .u8 0,gz iU 0],jS]):=m;subst m;obtain⟨Av,ah,bh⟩:∃Av ah,bl=fM Av e.length ah:=by
  obtain⟨bO,G,_⟩:=X.out;rcases G.2 with⟨A,bc⟩|⟨bt,br,bs,A,_⟩
  ·exact⟨jw,0,by rw[A,bc]⟩
  ·exact⟨_,_,A⟩
 subst bh;have a2:=Ac (τ a1.out D);obtain⟨b,M,u,-⟩:=E5 aL 213 [fM jw 0 0,gz iV 0,fM jw 0 0,fM jw 0 0,gz iU 0,gz .u8 0,gz iU 0];obtain⟨aM,N,z,-⟩:=E5 b 255 [AB x,fM jw 0 0];have aG:b.heap.size=aL+1:=by rw[M];simp
 have S:=Ac (τ a2.out u);have T:=Ac (τ S.out z);have bx:=S.size;have am:=uM (q:=⟨.up lf,s⟩) (a8.below T) N (λa C=>Ω (ab a C)) O (Ω a6.out);have a4:Hid (∀a,(λa=>F a\/a=b) a->F a\/w<=a):=Ac (λa C=>C.imp id (λf=>O));have R:η bm b:=τ D u;have t:=TY.below W R;have az:MB aM (λa=>F a\/a=b) Q nM.length (nM.map bv):=by
  refine MB.below (w:=b) ⟨t.1,λbe bq k i=>?_⟩ z;obtain⟨bM,bN,al,bw,_⟩:=t.1.2 be;rw[al]at k;injection k with k
  subst k;rcases i with i|i
  ·have:=(t.2 _ _ al).1;have:=ab _ i;simp only at this;omega
  ·simp only at i;omega
 have g:=Yw (nM.length+1) aM ⟨⟨.up lf,s⟩,[]⟩ _ nM c Q bb am az bg O O (by simp only[CV];omega);rw[V.out]at g;obtain⟨g,a7,bj,ae⟩:=lL g M N aG;have au:=Oo (nM.length+1) ⟨⟨.up lf,s⟩,[]⟩ nM c;rw[V.out]at au;simp only[CV]at au;rw[aW]at*;clear D u z aG am az t R M N;go_wp2_with fail;rw[<-a7.out,<-bj.out,<-ae.out];refine g.out.mono ?_;rintro f aR⟨rfl,a0,ap,ad⟩;have ao:Calls prog 141 #[AB b,l,gz iU 72,o,fM jw 0 0] aR (Uf (EP n l 72 o []) b b x d p L n a0 aR):=
  Ug ap l 72 9 rfl O o jw 0 [] MB.nil (λbL G=>nomatch G) (Bd _) (by show n.made.length<=1000;omega)
 have y:=Ac ao;have ba:=Ac ad;clear ao ad ap g;go_wp2_with fail
 first
  |refine y.mono ?_
  |(rw[<-ae.out];refine y.mono ?_)
 rintro f bQ⟨rfl,bp,aq,ar⟩;have a3:=Ac (aq.done (ba.trans ar) T a4);clear aq ar y;go_wp2;go_ret;refine⟨by rw[U.out];rfl,?_⟩;rw[U.out];exact a3
end
def jf.mono{w:jT}{G F:Nat->Prop}{a b c d:ku}{e:Nd}(h:jf w G a b c d e)(k:∀b,b<w.heap.size->F b->G b):jf w F a b c d e:=by
 obtain⟨f,j,g,l,i,m,n,o,p,q,u,r,s,t⟩:=h;exact⟨f,j,g,l,i,m,n,o,p,q,u,r.mono k,s.mono k,t.mono k⟩
def Aeb(j:Jm)(x:Nd)(nM:List nC)(e:ni):(JM j x nM e).1.made.length<=j.made.length+nM.length+4:=by
 have i:=λn p=>Oo (nM.length+1) n p e
 have g:=MN j {x with pre:=x.pre.drop (oW x.pre nM+1)};unfold JM;split
 ·have:=i j (nM.drop (oW x.pre nM+1));split;rename_i a b c d;rw[d]at this;have f:=Rf a x (nM.getD (oW x.pre nM) 0) b c;simp only at this;omega
 ·split;rename_i a b c d;rw[d]at g;simp only at g;split
  ·have f:=Rf a ⟨x.pre.take (oW x.pre nM),e,[],[]⟩ (x.pre.getD (oW x.pre nM) 0) b c;omega
  ·split
   ·simp only;omega
   ·split
    ·split;rename_i o k l m;have:=i a (nM.drop (oW x.pre nM+1));rw[m]at this;have f:=Rf o (Ja ⟨x.pre.take (oW x.pre nM),0,[],[]⟩ (x.pre.getD (oW x.pre nM) 0) b) (nM.getD (oW x.pre nM) 0) k l;simp only at this;omega
    ·simp only;omega
section
variable{w:jT}{x d p L:Nat}{s:St}{F:Nat->Prop}{lf:Int}
def An8(h:KH (.up (MU lf)) w x d p L s F)(key:nG)(an:¬16<key.size)(m:ni)(av:m≠0)(c:List Pl)(nM:List nC)(y:FC s key=jm (c,nM))(bs:c≠[])(k:Dw c nM=jw):
 Calls prog 95 #[AB x,key,m] w (N8 (OG ⟨.up lf,s⟩ key m) x d p L F w):=by
 have ad:=Ac (Jc h key O);rw[lg an]at ad;have b7:=Ac h;have aq:=Uh key;obtain⟨cW,cX,U,a5⟩:=h.L0;have cC:16<=L:=Ψ U.fits U.CE;obtain⟨ah,bo⟩:=V9 U O a5 y;have bw:=SN y;rw[aq]at bo bw;replace bo:nM.length<=32:=O;replace bw:c.length<=33:=O;have bl:∀az∈c,az.nd.pre.length<=1000:=λaz M=>Ω (((BD _).1 (ah az M).right).1)
 obtain⟨b0,a7,cj⟩:=l9 bl (Me h key O) y;have cV:=h.box.lt;have b3:=Ac h.sys.tabs.lt;have al:=Ac h.sys.lt;have cM:0<c.length:=List.length_pos_iff.2 bs;obtain⟨a,ar⟩:∃a,c[c.length-1]' O=a:=⟨_,rfl⟩;have K:c.getLast?=jm a:=by rw[List.getLast?_eq_getElem?,Ag O,ar]
 have bi:a.nd.pre≠nM:=by
  intro e;unfold Dw at k;rw[K]at k;simp only at k;rw[kX e]at k;cases k
 obtain⟨ae,bY,cA,b8⟩:=lL (ah a (VW K)) ar bi k;obtain⟨⟨S,T,I⟩,Q⟩:∃cr,JM ⟨⟨.up lf,s⟩,[]⟩ a.nd nM m=cr:=⟨_,rfl⟩;have b1:=Ac Q;have a2:Hid (OG ⟨.up lf,s⟩ key m=EP S I a.word T [a.off]):=Ac (by unfold OG;rw[aq,lg an,lg av,y];simp only;rw[k,K];simp only;rw[Q]);have bh:=Aeb ⟨⟨.up lf,s⟩,[]⟩ a.nd nM m;rw[Q]at bh;simp only[CV]at bh;clear k Q ar K bi;have t1:((m.toNat:Int)==0)=false:=by
  rw[beq_eq_false_iff_ne];intro e;exact av (Eb.1 (by simp;omega))
 clear h an av y aq U a5 ah bl;go_in;go_wp2_with(first|(refine ad.out.ro ?_;clear ad)|(refine a7.mono ?_;rintro e bA⟨bd,bk⟩;rw[cj.out]at bk;obtain⟨c2,aE,cb,rfl,a6,bp,ci⟩:=bk;obtain⟨a4,a3,bQ⟩:=l9 a6 bp bd;clear a6 bp bd a7));refine(IM a4 O b0 a3.1 O).mono ?_;rintro e C⟨J,N⟩;rw[b8.out]at N;replace N:e=iO (iJ #[iK #[fM jw 0 0,gz iV 0,fM jw 0 0,fM jw 0 0,gz iU 0,gz .u8 0,gz iU 0],jS]):=N;subst N;obtain⟨ba,cI,rfl,cL,cK,cd,bc⟩:=a4.at bs;obtain⟨a8,b,cH,cJ,A⟩:=bc (c.length-1) O;rw[show c[c.length-1]' O=a from bY.out]at A;have bR:=Ac (τ bQ.out J);obtain⟨g,R,H,-⟩:=E5 C 213 [fM jw 0 0,gz iV 0,fM jw 0 0,fM jw 0 0,gz iU 0,gz .u8 0,gz iU 0];obtain⟨n,z,r,-⟩:=E5 g 255 [AB x,fM jw 0 0];have bq:g.heap.size=C+1:=by rw[R];simp
 have aW:=Ac (τ bR.out H);have a0:=Ac (τ aW.out r);have cR:=aW.size;have ao:=uM (q:=⟨.up lf,s⟩) (b7.below a0) z (λb u=>Ω (al b u)) O (Ω b3.out);have bV:Hid (∀b,(λb=>F b\/b=g) b->F b\/w<=b):=Ac (λb u=>u.imp id (λe=>O));have ab:η bA g:=τ J H;have Y:=TY.below a3 ab;have t0:((c.length:Int)==0)=false:=ζ O;obtain⟨B,M⟩:=ε (c.length-1);have cS:IntKind.i64.wrap ((c.length:Int) -1)=(B:Int):=(wrap64 _ O O).trans O;have cT:B<c.length:=O;have cU:(B:Int)<(c.length:Int):=O;have aG:η bA n:=τ ab r;obtain⟨D,V,E,W,G,X,e,cl,cm,cn⟩:=A.nd;simp only[Value.agg.injEq]at e;simp at e;obtain⟨rfl,rfl,rfl,rfl⟩:=e;have l:∀j v,[Ad D a.nd.pre.length V,a.nd.val,fM E a.nd.labels.length W,fM G a.nd.kids.length X,a.off,a.label,a.word][j]?=jm v->n.cell? (Δ ba (B*7+j))=jm v:=λj v ce=>by
  rw[aG.cell (p:=Δ ba (B*7+j)) cd,Nat.mul_comm,M];exact A.cells j v ce
 have aD:=l 0 _ rfl;have bB:=l 1 _ rfl;have bE:=l 2 _ rfl;have bL:=l 3 _ rfl;have bM:=l 4 _ rfl;have bN:=l 5 _ rfl;have bO:=l 6 _ rfl;rw[Nat.add_zero]at aD;have bj:jf n (λb=>F b\/b=g) (fM D a.nd.pre.length V) (gz iV (a.nd.val.toNat:Int)) (fM E a.nd.labels.length W) (fM G a.nd.kids.length X) a.nd:=by
  have cp:jf C F _ _ _ _ a.nd:=jf.Azm (A.nd.below J) (λb u _ cc=>Ω (al b cc));have cq:jf C (λb=>F b\/b=g) _ _ _ _ a.nd:=cp.mono (λb u f=>f.elim id (λe=>by first|omega|(simp only at e;omega)));exact cq.moved (mW (τ H r))
 have bm:MB n (λb=>F b\/b=g) aE nM.length (nM.map bv):=by
  refine MB.below (w:=g) ⟨Y.1,λcg a8 i f=>?_⟩ r;obtain⟨c0,c1,a9,cQ,_⟩:=Y.1.2 cg;rw[a9]at i;injection i with i
  subst i;rcases f with f|f
  ·have:=(Y.2 _ _ a9).1;have:=al _ f;simp only at this;omega
  ·simp only at f;omega
 obtain⟨c3,bt,t,aI⟩:=E5 n 213 [fM D a.nd.pre.length V,a.nd.val,fM E a.nd.labels.length W,fM G a.nd.kids.length X,a.off,a.label,a.word];have P:=ae.out;have cD:=((BD _).1 P.right).1;have cE:=P.kids;have cF:=P.labels;have o:=An6 (ao.below t) a.nd D E G V W X a.off a.word a.label nM aE cb m (bj.moved (mW t)) O O O (bm.below t) ci O Θ cA;rw[b1.out]at o;obtain⟨o,bW,b4,co,b5,am⟩:=lN o ao.lt R z bt bq;have br:n.heap.size=C+2:=by rw[z];simp;omega
 obtain⟨b2,b9,bX⟩:=l9 br (τ a0.out t) aI;rw[z,R]at aD bB bE bL bM bN bO;clear J H r bq br ao bm Y ab aG R z bt t aI l A bc cl cm cn bj M P;go_wp2_with fail;rw[<-b4.out,<-co.out,<-b5.out,<-am.out];refine o.out.mono ?_;rintro e Z⟨rfl,aR,ap,au⟩;have aL:=bX.touch au.touch (λf=>Ω (bW _ f));obtain⟨aa,aw,ac,-⟩:=E5 Z 3 [a.off];have aM:Cm aa Z 3 [zv a.off]:=aw▸heap_alloc_new _ _;have bb:MB aa aR (jm (Φ Z)) 1 ([a.off].map zv):=⟨aM.rd,λ_ a8 i f=>by
  injection i with i
  subst i;exact absurd (ap.lt _ f) (Abz _)⟩
 have be:Calls prog 141 #[AB g,I,a.word,T,fM (jm (Φ Z)) 1 1] aa (Uf (EP S I a.word T [a.off]) g g x d p L S aR aa):=by
  obtain⟨ck,cs,cf⟩:=ae.word;obtain⟨cY,cN,cP⟩:=ae.off;exact Ug (ap.below ac) I a.word ck cs cf T _ 1 [a.off] bb (λcZ ch=>by rw[List.mem_singleton]at ch;omega) Θ (by show S.made.length<=1000;omega)
 obtain⟨a1,cB,b6,ca⟩:=lL be (au.trans (mW ac)) aw aL;clear aD bB bE bL bM bN bO au ap ac aM bb be aw o aL;obtain⟨ct,cu,cv,cw,cx,cy,cz⟩:=Fh ca;rw[b2.out]at ct cu cv cw cx cy cz;rw[am.out];go_wp2_with(rw[<-b6.out,<-am.out];refine a1.mono ?_;rintro e c4⟨rfl,cG,bg,bx⟩;have bS:=Ac (bg.done (cB.trans bx) b9 bV);clear bg bx a1);go_ret;refine⟨by rw[a2.out];rfl,?_⟩;rw[a2.out];exact bS
def Aec(h:KH (.up (MU lf)) w x d p L s F)(key:nG)(i:key.size<=1000)(a:ni):
 Calls prog 95 #[AB x,key,a] w (N8 (OG ⟨.up lf,s⟩ key a) x d p L F w):=by
 by_cases c:16<key.size
 ·exact Zq h key i a (.inl c)
 ·by_cases f:a=0
  ·exact Zq h key i a (.inr (.inl f))
  ·cases e:FC s key with
   |none=>exact Zq h key i a (.inr (.inr e))
   |some wr=>
    obtain⟨b,g⟩:=wr;cases j:Dw b g with
    |some l=>exact Ajj h key c a f b g e l j
    |none=>
     by_cases k:b=[]
     ·exact Ajk h key c a f b g e k j
     ·exact An8 h key c a f b g e k j
end
section
variable{len:Mode}{w:jT}{x d p L:Nat}{s:St}{F:Nat->Prop}
def GetPost(r:ni×Int)(w:jT)(e:Ending)(w':jT):Prop:=e=iO (iJ #[r.1,r.2])/\η w w'
def SQ(r:Ms×ni×Int)(x d p L:Nat)(F:Nat->Prop)(w:jT)(e:Ending)(w':jT):Prop:=
 e=iO (iJ #[r.2.1,r.2.2])/\∃a,pz w' x d p L r.1 a/\AQ F a w w'
def qg(h:KH len w x d p L s F)(key:nG)(aW:key.size<=1000):
 Calls prog 57 #[AB x,key] w (GetPost (Ic s key) w):=by
 have e:=Ac (Jc h key O);have u:=Uh key;by_cases q:16<key.size
 ·rw[kX q]at e;have i:Hid (Ic s key=(0,3)):=Ac (by unfold Ic;rw[u,kX q]);go_in;go_wp2_with(refine e.out.ro ?_);go_ret2;exact⟨by rw[i.out];rfl,mZ⟩
 ·rw[lg q]at e;obtain⟨a0,a1,S,aq⟩:=h.L0;have aR:16<=L:=Ψ S.fits S.CE;have k:=Ac (Me h key O);cases l:FC s key with
  |none=>
   have i:Hid (Ic s key=(0,5)):=Ac (by unfold Ic;rw[u,lg q,l]);have C:=Ac l;go_in;go_wp2_with(first|(refine e.out.ro ?_;clear e)|(refine k.mono ?_;rintro b U⟨f,c⟩;rw[C.out]at c;replace c:b=iO (iJ #[fM jw 0 0,fM jw 0 0,gz iU 5]):=c;subst c;have n:=Ac f;clear k f));go_ret2;exact⟨by rw[i.out];rfl,n⟩
  |some wr=>
   obtain⟨V,ao⟩:=wr;obtain⟨ar,am⟩:=V9 S O aq l;have an:=SN l;rw[u]at am an;replace am:ao.length<=32:=O;replace an:V.length<=33:=O;have aG:∀T∈V,T.nd.pre.length<=1000:=λT aE=>Ω (((BD _).1 (ar T aE).right).1)
   have K:=Ac aG;have C:=Ac l;cases A:Dw V ao with
   |none=>
    have i:Hid (Ic s key=(0,7)):=Ac (by unfold Ic;rw[u,lg q,l];simp only;rw[A]);have E:=Ac A;go_in;go_wp2_with(first|(refine e.out.ro ?_;clear e)|(refine k.mono ?_;rintro b U⟨f,c⟩;rw[C.out]at c;obtain⟨ap,ad,ah,rfl,j,m,al⟩:=c;obtain⟨y,v,n⟩:=l9 j m f;clear j m f k)|(refine(IM y O K v.1 O).mono ?_;rintro b D⟨t,g⟩;rw[E.out]at g;replace g:b=iO (iJ #[iK #[fM jw 0 0,gz iV 0,fM jw 0 0,fM jw 0 0,gz iU 0,gz .u8 0,gz iU 0],jS]):=g;subst g;have r:=Ac (τ n.out t);clear t;have o:Hid (η w (D.alloc (ji #[fM jw 0 0,gz iV 0,fM jw 0 0,fM jw 0 0,gz iU 0,gz .u8 0,gz iU 0] 213))):=Ac (r.alloc r.size _)));go_ret2;exact⟨by rw[i.out];rfl,o⟩
   |some a=>
    have E:=Ac A;by_cases B:a.nd.val=0
    ·have i:Hid (Ic s key=(0,7)):=Ac (by unfold Ic;rw[u,lg q,l];simp only;rw[A];simp only;rw[kX B]);have t1:((a.nd.val.toNat:Int)==0)=true:=by rw[B];rfl
     go_in;go_wp2_with(first|(refine e.out.ro ?_;clear e)|(refine k.mono ?_;rintro b U⟨f,c⟩;rw[C.out]at c;obtain⟨ap,ad,ah,rfl,j,m,al⟩:=c;obtain⟨y,v,n⟩:=l9 j m f;clear j m f k));refine(IM y O K v.1 O).mono ?_;rintro b D⟨t,g⟩;rw[E.out]at g;obtain⟨av,aw,az,aD,rfl,N⟩:=g;obtain⟨G,P,H,Q,I,R,b,aI,aL,aM⟩:=N;simp only[Value.agg.injEq]at b;simp at b;obtain⟨rfl,rfl,rfl,rfl⟩:=b;have r:=Ac (τ n.out t);obtain⟨au,z,M,J⟩:=E5 D 213 [fM G a.nd.pre.length P,a.nd.val,fM H a.nd.labels.length Q,fM I a.nd.kids.length R,a.off,a.label,a.word];have o:=Ac (τ r.out M);obtain⟨W,X,Y,Z,aa,ab,ac⟩:=Fh J;rw[z]at W X Y Z aa ab ac;rw[z]at o;go_wp2;go_ret2;have ae:=o.out;rw[B]at ae;exact⟨by rw[i.out];rfl,ae⟩
    ·have t1:((a.nd.val.toNat:Int)==0)=false:=by
      rw[beq_eq_false_iff_ne];intro b;exact B (Eb.1 (by simp;omega))
     have i:Hid (Ic s key=(a.nd.val,0)):=Ac (by unfold Ic;rw[u,lg q,l];simp only;rw[A];simp only;rw[lg B]);go_in;go_wp2_with(first|(refine e.out.ro ?_;clear e)|(refine k.mono ?_;rintro b U⟨f,c⟩;rw[C.out]at c;obtain⟨ap,ad,ah,rfl,j,m,al⟩:=c;obtain⟨y,v,n⟩:=l9 j m f;clear j m f k));refine(IM y O K v.1 O).mono ?_;rintro b D⟨t,g⟩;rw[E.out]at g;obtain⟨av,aw,az,aD,rfl,N⟩:=g;obtain⟨G,P,H,Q,I,R,b,aI,aL,aM⟩:=N;simp only[Value.agg.injEq]at b;simp at b;obtain⟨rfl,rfl,rfl,rfl⟩:=b;have r:=Ac (τ n.out t);obtain⟨au,z,M,J⟩:=E5 D 213 [fM G a.nd.pre.length P,a.nd.val,fM H a.nd.labels.length Q,fM I a.nd.kids.length R,a.off,a.label,a.word];have o:=Ac (τ r.out M);obtain⟨W,X,Y,Z,aa,ab,ac⟩:=Fh J;rw[z]at W X Y Z aa ab ac;rw[z]at o;go_wp2;go_ret2;exact⟨by rw[i.out];rfl,o⟩
def Aed{lf:Int}(h:KH (.up (MU lf)) w x d p L s F)(key:nG)(bo:key.size<=1000)(bc:∀u C a,FC s key=jm (u,C)->Dw u C=jm a->a.nd.val≠0->¬16<key.size->¬a.nd.kids.length=0):
 Calls prog 94 #[AB x,key] w (SQ (Iq ⟨.up lf,s⟩ key) x d p L F w):=by
 have G:=Ac h;have g:=Ac (Jc h key O);have A:=Uh key;by_cases r:16<key.size
 ·rw[kX r]at g;have b:Hid (Iq ⟨.up lf,s⟩ key=(⟨.up lf,s⟩,0,3)):=Ac (by unfold Iq;rw[A,kX r]);go_in;go_wp2_with(refine g.out.ro ?_);go_ret2;refine⟨by rw[b.out];rfl,F,?_,mW  mZ⟩;rw[b.out];exact G.below  mZ
 ·rw[lg r]at g;obtain⟨bq,br,ab,a1⟩:=h.L0;have bm:16<=L:=Ψ ab.fits ab.CE;have o:=Ac (Me h key O);cases k:FC s key with
  |none=>
   have b:Hid (Iq ⟨.up lf,s⟩ key=(⟨.up lf,s⟩,0,5)):=Ac (by unfold Iq;rw[A,lg r,k]);have H:=Ac k;go_in;go_wp2_with(first|(refine g.out.ro ?_;clear g)|(refine o.mono ?_;rintro c ad⟨i,f⟩;rw[H.out]at f;replace f:c=iO (iJ #[fM jw 0 0,fM jw 0 0,gz iU 5]):=f;subst f;have l:=Ac i;clear o i));go_ret2;refine⟨by rw[b.out];rfl,F,?_,mW l⟩;rw[b.out];exact G.below l
  |some wr=>
   obtain⟨u,C⟩:=wr;obtain⟨av,aE⟩:=V9 ab O a1 k;have aI:=SN k;rw[A]at aE aI;replace aE:C.length<=32:=O;replace aI:u.length<=33:=O;have bh:∀ac∈u,ac.nd.pre.length<=1000:=λac be=>Ω (((BD _).1 (av ac be).right).1)
   obtain⟨X,H,a2⟩:=l9 bh k h.sys.lt;cases e:Dw u C with
   |none=>
    have b:Hid (Iq ⟨.up lf,s⟩ key=(⟨.up lf,s⟩,0,7)):=Ac (by unfold Iq;rw[A,lg r,k];simp only;rw[e]);have R:=Ac e;go_in;go_wp2_with(first|(refine g.out.ro ?_;clear g)|(refine o.mono ?_;rintro c ad⟨i,f⟩;rw[H.out]at f;obtain⟨aM,aq,aw,rfl,n,t,aD⟩:=f;obtain⟨E,D,l⟩:=l9 n t i;clear n t i o)|(refine(IM E O X D.1 O).mono ?_;rintro c I⟨z,j⟩;rw[R.out]at j;replace j:c=iO (iJ #[iK #[fM jw 0 0,gz iV 0,fM jw 0 0,fM jw 0 0,gz iU 0,gz .u8 0,gz iU 0],jS]):=j;subst j;have v:=Ac (τ l.out z);clear z;have m:Hid (η w (I.alloc (ji #[fM jw 0 0,gz iV 0,fM jw 0 0,fM jw 0 0,gz iU 0,gz .u8 0,gz iU 0] 213))):=Ac (v.alloc v.size _)));go_ret2;refine⟨by rw[b.out];rfl,F,?_,mW m⟩;rw[b.out];exact G.below m
   |some a=>
    have bg:a∈u:=by
     unfold Dw at e;split at e
     ·cases e
     ·rename_i bp bd;split at e
      ·injection e with e;subst e;exact VW bd
      ·cases e
    have aW:=Ac (av a bg);have R:=Ac e;by_cases B:a.nd.val=0
    ·have b:Hid (Iq ⟨.up lf,s⟩ key=(⟨.up lf,s⟩,0,7)):=Ac (by unfold Iq;rw[A,lg r,k];simp only;rw[e];simp only;rw[kX B]);have t1:((a.nd.val.toNat:Int)==0)=true:=by rw[B];rfl
     go_in;go_wp2_with(first|(refine g.out.ro ?_;clear g)|(refine o.mono ?_;rintro c ad⟨i,f⟩;rw[H.out]at f;obtain⟨aM,aq,aw,rfl,n,t,aD⟩:=f;obtain⟨E,D,l⟩:=l9 n t i;clear n t i o));refine(IM E O X D.1 O).mono ?_;rintro c I⟨z,j⟩;rw[R.out]at j;obtain⟨a6,a7,a8,a9,rfl,Z⟩:=j;obtain⟨J,S,K,T,M,U,c,bj,bk,bl⟩:=Z;simp only[Value.agg.injEq]at c;simp at c;obtain⟨rfl,rfl,rfl,rfl⟩:=c;have v:=Ac (τ l.out z);obtain⟨a5,y,Y,N⟩:=E5 I 213 [fM J a.nd.pre.length S,a.nd.val,fM K a.nd.labels.length T,fM M a.nd.kids.length U,a.off,a.label,a.word];have m:=Ac (τ v.out Y);have au:=Ac y;obtain⟨ae,ah,al,am,an,ao,ap⟩:=Fh N;rw[y]at ae ah al am an ao ap;rw[y]at m;go_wp2;go_ret2;have W:=m.out;rw[B]at W;refine⟨by rw[b.out];rfl,F,?_,mW W⟩;rw[b.out];exact G.below W
    ·have t1:((a.nd.val.toNat:Int)==0)=false:=by
      rw[beq_eq_false_iff_ne];intro c;exact B (Eb.1 (by simp;omega))
     have bb:=bc u C a k e B r;obtain⟨⟨aL,V⟩,aG⟩:∃a3,Oi ⟨.up lf,s⟩ a 0=a3:=⟨_,rfl⟩;have a0:=Ac aG;have b:Hid (Iq ⟨.up lf,s⟩ key=if V=0 then(aL,a.nd.val,0)else(aL,0,V)):=Ac (by unfold Iq;rw[A,lg r];simp only[k,e,lg B,lg bb,if_true,aG]);have t2:((a.nd.kids.length:Int)==0)=false:=ζ O;go_in;go_wp2_with(first|(refine g.out.ro ?_;clear g)|(refine o.mono ?_;rintro c ad⟨i,f⟩;rw[H.out]at f;obtain⟨aM,aq,aw,rfl,n,t,aD⟩:=f;obtain⟨E,D,l⟩:=l9 n t i;clear n t i o));refine(IM E O X D.1 O).mono ?_;rintro c I⟨z,j⟩;rw[R.out]at j;obtain⟨a6,a7,a8,a9,rfl,Z⟩:=j;obtain⟨J,S,K,T,M,U,c,bj,bk,bl⟩:=Z;simp only[Value.agg.injEq]at c;simp at c;obtain⟨rfl,rfl,rfl,rfl⟩:=c;have v:=Ac (τ l.out z);obtain⟨a5,y,Y,N⟩:=E5 I 213 [fM J a.nd.pre.length S,a.nd.val,fM K a.nd.labels.length T,fM M a.nd.kids.length U,a.off,a.label,a.word];have m:=Ac (τ v.out Y);have Q:=Ud (q:=⟨.up lf,s⟩) (G.below m) a (aW.out) J K M a.nd.pre.length S a.nd.labels.length T a.nd.kids.length U 0;rw[a0.out]at Q;have Q:=Ac Q;have au:=Ac y;obtain⟨ae,ah,al,am,an,ao,ap⟩:=Fh N;have a4:=Ac N;rw[y]at ae ah al am an ao ap;go_wp2_with fail;rw[<-au.out];refine Q.out.mono ?_;rintro c bs⟨rfl,ar,bi,az⟩;have P:=Ac (And.intro bi ((mW (F:=F) m).trans az));have aR:=a4.touch az.touch (λba=>Ψ (a2 _ ba) v.size);obtain⟨bt,bw,bx,bA,bB,bE,bL⟩:=Fh aR;by_cases aa:V=0
     ·subst aa;rw[kX rfl]at b;go_wp2;go_ret2;refine⟨by rw[b.out];rfl,ar,?_,P.2⟩;rw[b.out];exact P.1
     ·rw[lg aa]at b;have t9:(V !=0)=true:=by rw[bne_iff_ne];exact aa
      go_wp2;go_ret2;refine⟨by rw[b.out];rfl,ar,?_,P.2⟩;rw[b.out];exact P.1
end
def EH(x d p:Nat)(nK:ni)(vs b:ku)(over:Bool)(a:Int):List Value:=
 [AB d,AB p,AB x,nK,vs,b,over,a]
section
variable{w w':jT}{x d p L:Nat}{s:St}{F:Nat->Prop}
def Fg.load{len:Mode}(h:Fg len w d p L s F)(j:Nat)(e:j<8*L):Calls prog 48 #[AB d,gz iU ((8*j:Nat):Int)] w λa w'=>a=iO (iJ #[gz iV ((s.ws j).toNat:Int),gz iU 0])/\w=w':=by
 obtain⟨o,l,n,k,i,own,h,_⟩:=h;obtain⟨⟨b,c,f,m⟩,g⟩:=h.dev;exact XZ d L s.ws _ _ b c j w h.L1 g f e
def uO(jb:Nat)(xs:List ku)(h:Cm w jb 228 (AB d::xs)):Calls prog 275 #[AB jb] w λa w'=>a=iO jS/\w=w':=by
 have b:=h.p1;clear h;go_in;go_wp2;go_ret;exact⟨rfl,rfl⟩
end
section
variable{w w':jT}{x d p L:Nat}{s:St}{F:Nat->Prop}
structure Wh(w:jT)(jb x d p:Nat)(nK:ni)(vs vd:ku)(over:Bool)(en:Int)(F:Nat->Prop):Prop where
 box:Cm w jb 228 (EH x d p nK vs vd over en)
 out:¬F jb
end
def Yx{d:Type}(er e:Int)(a b c:d):d:=if er=0 then(if e=0 then a else b)else c
def O6{d:Type}{a b c:d}:Yx 0 0 a b c=a:=rfl
def PW{e:Type}{d:Int}{a b c:e}(h:d≠0):Yx 0 d a b c=b:=by unfold Yx;rw[kX rfl,lg h]
def SS{e:Type}{er d:Int}{a b c:e}(h:er≠0):Yx er d a b c=c:=lg h
section
variable{w w':jT}{x d p L:Nat}{s:St}{F:Nat->Prop}
def PX{P m1 y:DJ}{z A:St}{f:Nat->Prop}{g e:jT}{jb:Nat}{nK:ni}{vs m:ku}{i:Int}{a b c n o q:Int}(M:y=m1)(v:A=z)(l:q=c/\n=a/\o=b)(h:KH P w x d p L s F)(u:Wh w jb x d p nK vs m jS i F)(D:∀b,F b->b<w)(I:η w g)(r:AQ F f g e)(j:KH m1 e x d p L z f)
 (_:Cm e (w+1) 388 [gz iV 0,gz iV 0])(E:Cm e jb 228 (EH x d p nK vs m jS i))(Q:w.heap.size+1<g):
 Ending.returned (iJ #[iK #[gz iV a,gz iV b],c])=iO (iJ #[iK #[gz iV n,gz iV o],q])/\∃f,KH y ((e.setCell (Δ (w+1) 0) (gz iV a)).setCell (Δ (w+1) 1) (gz iV b)) x d p L A f/\Wh ((e.setCell (Δ (w+1) 0) (gz iV a)).setCell (Δ (w+1) 1) (gz iV b)) jb x d p nK vs m jS i f/\AQ F f w ((e.setCell (Δ (w+1) 0) (gz iV a)).setCell (Δ (w+1) 1) (gz iV b)):=by
 rw[l.1,l.2.1,l.2.2];subst M v;have k:Touch (·=w+1) e ((e.setCell (Δ (w+1) 0) (gz iV a)).setCell (Δ (w+1) 1) (gz iV b)):=((Touch.refl (·=w+1) e).setCell (p:=Δ (w+1) 0) (.inl rfl) _).setCell (p:=Δ (w+1) 1) (.inl rfl) _;have t:AQ F f w e:=(mW I).trans r;have G:=(t.set (p:=Δ (w+1) 0) (.inr (Nat.le_succ _)) (gz iV a)).set (p:=Δ (w+1) 1) (.inr (Nat.le_succ _)) (gz iV b);have N:¬f (w+1):=λC=>(r.own _ C).elim (λJ=>absurd (D _ J) O) (λv=>O)
 have R:=h.sys.tabs.lt;have S:=h.box.lt;have K:=u.box.lt;exact⟨rfl,f,⟨j.sys.keep k (λb H B=>N (B▸H)) O O,j.box.touch k (by show x≠_;omega),j.out⟩,⟨E.touch k (by show jb≠_;omega),t.out K u.out⟩,G⟩
def Ajl{bY m1 aI br:DJ}(h:KH bY w x d p L s F){jb:Nat}{nK:ni}{vs bw:ku}{bb:Int}(aD:Wh w jb x d p nK vs bw jS bb F)(y:Wr)(_:y.key.size<=16){v:ni}{n e0:Int}(bp:(v.toNat:Int)=n)
 (bo:(e0=7/\n=0/\y.gone=jS)\/(e0=0/\n≠0)){er j:Int}{s1 s2 bt:St}{q:ni}
 (bl:∀a,η w a->Calls prog 57 #[AB x,y.key] a (GetPost (v,e0) a))
 (bc:∀a,η w a->Calls prog 278 #[AB d,AB p,rcV ⟨nK,v,y.gone,y.text⟩] a λk A=>k=iO (iJ #[q,er])/\∃N,Fg m1 A d p L s1 N/\AQ F N a A)
 (be:er=0->∀a N,KH m1 a x d p L s1 N->Calls prog 95 #[AB x,y.key,q] a λk A=>k=iO j/\∃P,KH aI A x d p L s2 P/\AQ N P a A)
 (bd:er=0->j≠0->∀a P,KH aI a x d p L s2 P->Calls prog 98 #[AB p,gz iU (Bz q)] a λk A=>(∃v,k=iO v)/\∃a2,Fg br A d p L bt a2/\AQ P a2 a A):
 Calls prog 276 #[AB jb,OY y] w λk w'=>k=iO (iJ #[iK #[gz iV (Yx er j n 0 0),gz iV (Yx er j (q.toNat:Int) 0 0)],gz iU (Yx er j 0 j er)])/\
  ∃ap,KH (Yx er j aI br m1) w' x d p L (Yx er j s2 bt s1) ap/\Wh w' jb x d p nK vs bw jS bb ap/\AQ F ap w w':=by
 obtain⟨f,V⟩:=ε ((w.alloc (ji #[y.key,y.text,y.gone] 143)).alloc (ji #[gz iV 0,gz iV 0] 388));have ae:η w f:=by rw[V];exact(mZ.alloc (Ae _) _).alloc Θ _
 have M:Cm f w.heap.size 143 [y.key,y.text,y.gone]:=by rw[V];exact(show(Au1 _ _).heap[w.heap.size]?=_ by rw[Au1,Ff,lg Θ];exact heap_alloc_new _ _)
 have a1:Cm f (w.heap.size+1) 388 [gz iV 0,gz iV 0]:=by
  have:=heap_alloc_new (w.alloc (ji #[y.key,y.text,y.gone] 143)) (ji #[gz iV 0,gz iV 0] 388);rw[show(w.alloc (ji #[y.key,y.text,y.gone] 143)).heap.size=w.heap.size+1 by simp,<-V]at this;exact this
 have T:=aD.box.ξ ae;have ab:=Ac (λa(b:η f a)=>bl a (τ ae b));unfold GetPost at ab;obtain⟨a3,bE,bX,H,I,bN,u,a6,a5⟩:=lT bc be bd aD h V ae M a1;have aR:=M.c0;have bA:=M.c1;have aW:=M.c2;have aG:=T.c2;have am:=T.c0;have G:=T.c1;have an:=T.c3;unfold EH at am G aG an;unfold OY;have bM:=Ac bo;clear bo;simp only[bp]at ab;clear h aD ae V M a1 T bl bc be bd;go_in;go_wp2_with fail;rw[<-bN.out];have D:Hid (∀ad,F ad->ad<w.heap.size):=Ac (λad bR=>I.sys.lt ad bR);have e:=Ac (λa(b:Touch F f a)=>And.intro ((H.out.box.ξ u).touch b H.out.out) (And.intro (a6.out.touch b (λW=>absurd (D _ W) O)) (a5.touch b (λW=>absurd (D _ W) O))));have ar:Hid (∀a,Touch F f a->a.cell? (Δ jb 2)=jm (AB x)/\a.cell? (Φ w)=jm (ig y.key)):=Ac (λa b=>⟨(e a b).1.cell 2,(e a b).2.1.cell 0⟩);clear a6 a5;go_region_held3(λw'=>w'.cell? (Δ jb 2)=jm (AB x)/\w'.cell? (Φ w)=jm (ig y.key))(first|exact⟨aG,aR⟩|exact ar _ (mD ah))((first|(go_at_call 57;refine(ab _ (mX _)).mono ?_;rintro k g⟨rfl,bk⟩;have ah:η f g:=(mX f).trans bk)));have bL:=Ac (mD (F:=F) ah);have a4:=Ac ah;obtain⟨z,Q,bQ⟩:=e g bL;replace aR:=Q.c0;replace bA:=Q.c1;replace aW:=Q.c2;replace an:=z.c3;replace am:=z.c0;replace G:=z.c1;unfold EH at am G an;have bV:=z.lt;have bW:=Q.lt;clear z Q bQ bk ah aG ab;rcases bM with⟨rfl,X,al⟩|⟨rfl,X⟩
 case' inl=>have a9:=Ac X;clear X
 case' inr=>have b2:(n==0)=false:=(by rw[beq_eq_false_iff_ne];exact X);clear X;rcases Bool.eq_false_or_eq_true y.gone with al|al
 all_goals(
  have av:=Ac al;clear al;rw[av.out]at aW;go_wp2_with fail)
 all_goals(go_region)
 all_goals(
  obtain⟨r,J⟩:=ε ((g.alloc (ji #[nK,gz iV n,y.gone,y.text] 195)).drew);have K:Cm r g.heap.size 195 [nK,gz iV n,y.gone,y.text]:=by rw[J];exact heap_alloc_new _ _
  have bj:η g r:=by rw[J];exact(mZ.alloc (Ae _) _).drew
  rw[av.out]at J
  try rw[a9.out]at J
  rw[<-J];have R:η f r:=τ a4.out bj;have ba:=Ac R;have aa:=Ac (λa(b:η r a)=>a3 a (τ u.out (τ R b)));unfold rcV at aa;simp only[bp]at aa;have U:¬F g.heap.size:=λW=>absurd (D _ W) (Ψ a4.size u.out.size)
  have au:Hid (∀w',Touch F r w'->w'.cell? (Φ jb)=jm (AB d)/\w'.cell? (Δ jb 1)=jm (AB p)/\w'.cell? (Φ g)=jm (gz iV (nK.toNat:Int))/\w'.cell? (Δ g 1)=jm (gz iV n)/\w'.cell? (Δ g 2)=jm (.bool y.gone)/\w'.cell? (Δ g 3)=jm (ig y.text)):=Ac (λa b=>⟨(e a ((mD R).trans b (λ_=>.inl))).1.cell 0,(e a ((mD R).trans b (λ_=>.inl))).1.cell 1,(K.touch b U).cell 0,(K.touch b U).cell 1,(K.touch b U).cell 2,(K.touch b U).cell 3⟩);have bm:=au r  mP;clear J bj K R am G an aR bA aW bV bW U;go_wp2_with fail;go_region_held3(λw'=>w'.cell? (Φ jb)=jm (AB d)/\w'.cell? (Δ jb 1)=jm (AB p)/\w'.cell? (Φ g)=jm (gz iV (nK.toNat:Int))/\w'.cell? (Δ g 1)=jm (gz iV n)/\w'.cell? (Δ g 2)=jm (.bool y.gone)/\w'.cell? (Δ g 3)=jm (ig y.text))(first|exact bm|exact au _ ((mD (mX r)).trans aw.touch (λ_=>.inl)))((first|(go_at_call 278;refine(aa _ (mX r)).mono ?_;rintro k t⟨rfl,aq,bg,aw⟩))))
 all_goals(
  have Z:AQ F aq f t:=(mW (τ ba.out (mX r))).trans aw;have bs:KH m1 t x d p L s1 aq:=(I.below u).move bg Z;have S:=Ac Z;have a8:=Ac bs;have aE:=ar t Z.touch;clear aw Z bs bg bm aa au ba a3 av)
 all_goals(
  by_cases E:er=0
  ·subst E;have bq:=Ac (λa(b:η t a)=>bE (by first|rfl|trivial) a aq (a8.below b));go_wp2_with fail;go_region_held3(λw'=>w'.cell? (Δ jb 2)=jm (AB x)/\w'.cell? (Φ w)=jm (ig y.key))(first|exact aE|exact ar _ (S.trans ((mW (mX t)).trans az)).touch)((first|(go_at_call 95;refine(bq _ (mX t)).mono ?_;rintro k Y⟨rfl,bB,bi,az⟩)))
   all_goals(
    have C:=Ac (S.trans ((mW (mX t)).trans az));have ac:=Ac bi;clear bi az aE bq;by_cases B:j=0
    ·subst B;have c:=(e Y C.touch).2.2;have aL:=c.c0;have aM:=c.c1;have f0:=c.frozen 0;have f1:=c.frozen 1;have o:=Ac c;clear c;go_wp2_with fail
     first
     |(have i:=(o.Be 0 (gz iV n)).Be 1 (gz iV (q.toNat:Int))
       have l:=i.cell 0;have m:=i.cell 1;simp only[Aq,Aw,Af,Ai]at l m;refine bodyPost_ret (v:=iJ #[iK #[gz iV n,q],gz iU 0]) (by simp[results,results276,go_sem,l,m]) rfl ?_;exact PX O6 O6 ⟨O6,O6,O6⟩ I H D u C ac o (e Y C.touch).1 (e f  mP).2.2.lt)
     |(have i:=(o.Be 0 (gz iV 0)).Be 1 (gz iV (q.toNat:Int))
       have l:=i.cell 0;have m:=i.cell 1;simp only[Aq,Aw,Af,Ai]at l m;refine bodyPost_ret (v:=iJ #[iK #[gz iV 0,q],gz iU 0]) (by simp[results,results276,go_sem,l,m]) rfl ?_;exact PX O6 O6 ⟨O6,O6.trans a9,O6⟩ I H D u C ac o (e Y C.touch).1 (e f  mP).2.2.lt)
    ·have b0:(j==0)=false:=ζ B;have bS:IntKind.i64.wrap (q.toNat:Int)=Bz q:=rfl;have a7:=Ac (λa(b:η Y a)=>bX (by first|rfl|trivial) B a bB (ac.below b));have z:=(e Y C.touch).1;have G:=z.c1;unfold EH at G;clear z;go_wp2_with(refine(a7.out _  mZ).mono ?_;rintro k bx⟨⟨b3,rfl⟩,b1,bh,ao⟩;have bO:=Ac (ac.move bh ao);have a0:=Ac (C.trans ao);clear a7 bh ao G bS;have c:=(e bx a0.touch).2.2;have aL:=c.cell 0;have aM:=c.cell 1;have f0:=c.frozen 0;have f1:=c.frozen 1;simp only[Af,Ai]at aL aM;have o:=Ac c;clear c);have i:=(o.Be 0 (gz iV 0)).Be 1 (gz iV 0);have l:=i.cell 0;have m:=i.cell 1;simp only[Aq,Aw,Af,Ai]at l m;refine bodyPost_ret (v:=iJ #[iK #[gz iV 0,gz iV 0],j]) (by simp[results,results276,go_sem,l,m]) rfl ?_;exact PX (PW B) (PW B) ⟨(PW B),(PW B),(PW B)⟩ I H D u a0 bO o (e bx a0.touch).1 (e f  mP).2.2.lt
   )
  ·have b0:(er==0)=false:=ζ E;clear aE;have c:=(e t S.touch).2.2;have aL:=c.c0;have aM:=c.c1;have f0:=c.frozen 0;have f1:=c.frozen 1;have o:=Ac c;clear c;go_wp2_with fail;have i:=(o.Be 0 (gz iV 0)).Be 1 (gz iV 0);have l:=i.cell 0;have m:=i.cell 1;simp only[Aq,Aw,Af,Ai]at l m;refine bodyPost_ret (v:=iJ #[iK #[gz iV 0,gz iV 0],er]) (by simp[results,results276,go_sem,l,m]) rfl ?_;exact PX (SS E) (SS E) ⟨(SS E),(SS E),(SS E)⟩ I H D u S a8 o (e t S.touch).1 (e f  mP).2.2.lt
  )
end
section
variable{w w':jT}{x d p L:Nat}{s:St}{F:Nat->Prop}
def qh{R:DJ}(h:KH R w x d p L s F){jb:Nat}{nK:ni}{vs ah:ku}{aa:Int}(P:Wh w jb x d p nK vs ah jS aa F)(y:Wr){e0:Int}(ae:(e0=7/\y.gone=jO)\/(e0≠0/\e0≠7))
 (ac:∀a,η w a->Calls prog 57 #[AB x,y.key] a (GetPost (0,e0) a)):
 Calls prog 276 #[AB jb,OY y] w λZ w'=>Z=iO (iJ #[iK #[gz iV 0,gz iV 0],gz iU (if e0=7 then 0 else e0)])/\
  ∃J,KH R w' x d p L s J/\Wh w' jb x d p nK vs ah jS aa J/\AQ F J w w':=by
 obtain⟨b,l⟩:=ε ((w.alloc (ji #[y.key,y.text,y.gone] 143)).alloc (ji #[gz iV 0,gz iV 0] 388));have D:η w b:=by rw[l];exact(mZ.alloc (Ae _) _).alloc Θ _
 have i:Cm b w 143 [y.key,y.text,y.gone]:=by rw[l];exact(χ _ _ Θ).trans (heap_alloc_new _ _)
 have S:Cm b (w+1) 388 [gz iV 0,gz iV 0]:=by
  have:=heap_alloc_new (w.alloc (ji #[y.key,y.text,y.gone] 143)) (ji #[gz iV 0,gz iV 0] 388);rw[show(w.alloc (ji #[y.key,y.text,y.gone] 143)).heap.size=w+1 by simp,<-l]at this;exact this
 have k:=P.box.ξ D;have K:=Ac (λa(e:η b a)=>ac a (τ D e));unfold GetPost at K;obtain⟨Y,o,r,ap,t,V,U⟩:=lQ ae P h l D i S;have al:=i.c0;have av:=i.c1;have am:=i.c2;have Q:=k.c2;have G:=k.c0;have H:=k.c1;have I:=k.c3;unfold EH at G H Q I;unfold OY;clear h P D l i S k ac ae;go_in;go_wp2_with fail;rw[<-ap.out];have A:Hid (∀C,F C->C<w):=Ac (λC au=>r.sys.lt C au);have c:=Ac (λa(e:Touch F b a)=>And.intro ((o.out.box.ξ t.out).touch e o.out.out) (And.intro (V.out.touch e (λN=>absurd (A _ N) O)) (U.touch e (λN=>absurd (A _ N) O))));have ao:Hid (∀a,Touch F b a->a.cell? (Δ jb 2)=jm (AB x)/\a.cell? (Φ w)=jm (ig y.key)):=Ac (λa e=>⟨(c a e).1.cell 2,(c a e).2.1.cell 0⟩);clear V U;go_region_held3(λw'=>w'.cell? (Δ jb 2)=jm (AB x)/\w'.cell? (Φ w)=jm (ig y.key))(first|exact⟨Q,al⟩|exact ao _ (mD E))((first|(go_at_call 57;refine(K _ (mX _)).mono ?_;rintro Z f⟨rfl,ab⟩;have E:η b f:=(mX b).trans ab)));have q:=Ac (mD (F:=F) E);have T:=Ac E;obtain⟨u,z,aq⟩:=c f q.out;replace al:=z.c0;replace av:=z.c1;replace am:=z.c2;replace I:=u.c3;replace G:=u.c0;replace H:=u.c1;unfold EH at G H I;clear u z aq ab E Q K;have W:Hid (AQ F F b f):=Ac (mW T.out);have X:Hid (KH R f x d p L s F):=Ac ((r.below t.out).below T.out);have g:=(c f q.out).2.2;have aw:=g.c0;have az:=g.c1;have f0:=g.frozen 0;have f1:=g.frozen 1;have B:=Ac g;clear g G H I;rcases Y.out with⟨rfl,ad⟩|⟨ar,M⟩
 ·rw[ad]at am;clear ad;go_wp2_with fail;have j:=(B.Be 0 (gz iV 0)).Be 1 (gz iV 0);have m:=j.cell 0;have n:=j.cell 1;simp only[Aq,Aw,Af,Ai]at m n;refine bodyPost_ret (v:=iJ #[iK #[gz iV 0,gz iV 0],gz iU 0]) (by simp[results,results276,go_sem,m,n]) rfl ?_;exact PX rfl rfl ⟨rfl,rfl,rfl⟩ r.out o.out A.out t.out W.out X.out B.out (c f q.out).1 (c b  mP).2.2.lt
 ·have t0:(e0==0)=false:=ζ ar;have t7:(e0==7)=false:=ζ M;have t8:(7==e0)=false:=by rw[beq_eq_false_iff_ne];exact Ne.symm M
  have an:Hid ((if e0=7 then 0 else e0)=e0):=Ac (lg M);clear Y;go_wp2_with fail;have j:=(B.Be 0 (gz iV 0)).Be 1 (gz iV 0);have m:=j.cell 0;have n:=j.cell 1;simp only[Aq,Aw,Af,Ai]at m n;refine bodyPost_ret (v:=iJ #[iK #[gz iV 0,gz iV 0],e0]) (by simp[results,results276,go_sem,m,n]) rfl ?_;exact PX rfl rfl ⟨by first|rfl|exact an.out,rfl,rfl⟩ r.out o.out A.out t.out W.out X.out B.out (c f q.out).1 (c b  mP).2.2.lt
end
