import Derived.Lib.AppendZerosOnto
import Derived.Lib.Overlaps
import Derived.Deep.MidRow
import Derived.Test.YtkimaejoeapmnaaGreatDoorH06
set_option linter.defProp false
set_option maxHeartbeats 32000000
set_option maxRecDepth 100000
open List renaming getElem?_eq_some_iff->Cc,length_drop->AV,getElem?_drop->Dl,mem_of_mem_drop->Hg,length_cons->BB,length_nil->Du,getElem?_eq_getElem->Af,length_take->Dw,getElem?_take->CW,take_of_length_le->FM,drop_of_length_le->Rk,length_eq_zero_iff->mM,replicate->BC
open Array renaming getElem?_eq_getElem->FI,append_assoc->zy,getElem?_append_left->bW,getElem?_eq_some_iff->AB,getElem?_push->FH
open Go.World renaming frozen?->GL,shape?->VS,isSome_setCells->GM,cell?_setCells_out->JK,frozen?_setCells->Gs,cell?_alloc_at->Jn,frozen?_alloc_at->mJ,cell?_alloc_past->Dc
open Nat renaming zero_add->DR,min_def->KH,mul_one->KZ
open Go.Lib renaming run_overlaps_apart->uC,run_append_grow_zeros->jl,wpList_append_run->FX,run_clear_slice->Abk
open Go.Value renaming int->Au,cells->uU
namespace Go.Proofs.YtkimaejoeapmnaaGreatDoor
open Go.RowKit
open Go.Proofs.Tryz
def wp_copy_runI{P:Program}(w:World){o:Oper}{a:Act}{K:Act->World->Prop}{Q:Exit->Act->World->Prop}(d s:Operand)(t t':TypeId)
 (ho:o.op= .call {callee:= .builtin .copy,args:= #[d,s],argTypes:= #[t,t']})(v u:Value)(hd:a.eval d=v)(hs:a.eval s=u){v':Value}{w':World}
 (hr:(Builtin.copy_ #[t,t'] o.type #[v,u]).run P w= .ok v' w')(h:K (a.put o.dst v') w'):o.wp P a w K Q:=by
 unfold Oper.wp execOp;simp only [ho,resolve,invoke,builtin,Sem.run_bind,Sem.run_pure,Result.andThen_ok,List.map_toArray,List.map_cons,List.map_nil,hd,hs,hr];exact h
def wpList_copy_runI{P:Program}(w:World){ops:Array Oper}{rest:List Oper}{o:Oper}{a:Act}{Q:Exit->Act->World->Prop}(hgd:o.guard=none)(d s:Operand)(t t':TypeId)
 (ho:o.op= .call {callee:= .builtin .copy,args:= #[d,s],argTypes:= #[t,t']})(v u:Value)(hd:a.eval d=v)(hs:a.eval s=u){v':Value}{w':World}
 (hr:(Builtin.copy_ #[t,t'] o.type #[v,u]).run P w= .ok v' w')(h:wpList P ops Q rest (a.put o.dst v') w'):wpList P ops Q (o::rest) a w:=
 wpList_plain hgd λ_ hK=>wp_copy_runI w d s t t' ho v u hd hs hr (hK _ _ h)
def step_copy_runI{P:Program}{ops:Array Oper}{o:Oper}{a:Act}{w:World}{K:Act->World->Prop}{Q:Exit->Act->World->Prop}{E:Prop}
 (hg:o.guard=none)(d x:Operand)(dT sT:TypeId)(hop:o.op=Op.call {callee:=Callee.builtin Builtin.copy,args:= #[d,x],argTypes:= #[dT,sT]})
 (v u:Value)(hd:a.eval d=v)(hx:a.eval x=u){v':Value}{w':World}(hr:(Builtin.copy_ #[dT,sT] o.type #[v,u]).run P w= .ok v' w')(hK:K (a.put o.dst v') w'):
 if Region.wanted o (yielded ops a.tmps)=true then Oper.wp P o a w K Q else E:=by
 have hw:Region.wanted o (yielded ops a.tmps)=true:=by simp [Region.wanted,hg]
 rw [if_pos hw];unfold Oper.wp;simp [execOp,hop,resolve,invoke,builtin,hd,hx,hr,Result.andThen];exact hK
def dP(g n c i vb:Nat)(xs:List Value)(u:Value)(w:World)(base:Nat)(hown:w.ownsRow base 5 1 (.slice (some (Φ g)) n c) n xs)(hi:i<n)(hroom:n+1<=c)(hc:c<=9223372036854775807)(hvb:vb≠g)(hv:CS w vb 5 [u])
 (h1c:∀v∈xs,v.oneCell'=true)(h1v:u.oneCell'=true):
 Calls prog 190 #[.slice (some (Φ g)) n c,.int .i64 i,.slice (some (Φ vb)) 1 1] w λe w'=>
  e= .returned (.slice (some (Φ g)) (n+1) c)/\w'=(w.drew.setCells g (i+1) (xs.drop i)).setCells g i [u]:=by
 have hcl:xs.length=n:=by simpa using hown.1
 have hcs:∀j v,xs[j]? =some v->w.cell? (Δ g j)=some v:=λj v h=>by
  rw [hown.cellAt j (Ω ((Cc.1 h).1))];exact h
 have hblk:∃cur:Array Value,w.heap[g]? =some (.cells cur 5 (0,0))/\cur.size=c:=by
  rcases hown.2 with⟨h2,_⟩| ⟨g',cap,cur,hvv,_,hg,_,_,hcs,_⟩
  ·cases h2
  ·simp only [Value.slice.injEq,Option.some.injEq,Addr.mk.injEq,and_true,true_and]at hvv;obtain⟨rfl,rfl⟩:=hvv;exact⟨cur,hg,O⟩
 obtain⟨cur,hgc,hcsz⟩:=hblk;have hsp:∀j,j<n+1->(w.cell? (Δ g j)).isSome=true:=λj hj=>by
  rw [cell_of_row w g j _ 5 (0,0) hgc,FI O];rfl
 have hfz:∀j,w.frozen? (Δ g j)=false:=λj=>by simp [GL,hgc]
 have hsb:w.shape? g=some (5,c):=by simp [VS,hgc,hcsz]
 have hsa:w.shape? vb=some (5,1):=by unfold CS at hv;simp [VS,hv]
 have hfa:∀j,w.frozen? (Δ vb j)=false:=λj=>hv.frozen j
 have hvs:∀j v,[u][j]? =some v->w.cell? (Δ vb (0+j))=some v:=λj v h=>by rw [hv.cell,DR];exact h
 have hz2:¬((i:Int)=(n:Int)):=O
 have hsz:(prog.info? 5).map (·.size)=some 1:=by
  obtain⟨i0,hi0,h0,h1,h2⟩:=info_parts Tryz.Gq.hi;rw [hi0];simp [h1]
 have hov:∀lb cb,(callFunc 204 #[.slice (some (Φ vb)) 1 1,.slice (some (Δ g (i+1))) lb cb]).run prog w= .ok (.value (.bool false)) w:=λlb cb=>by
  rw [run_callFunc_extern func204 Γ Γ Γ (e:=Extern.SlicesOverlaps.overlaps #[22,22] #[4]) Γ,
   uC w 22 4 5 underlying22 1 Tryz.Gq.PY (Φ vb) (Δ g (i+1)) 1 1 lb cb hvb 5 5 1 c hsa hsb O (hfa 0) (hfa 1)]
  rfl
 have hdl:(xs.drop i).length=n-i:=by rw [AV,hcl]
 have hw1:IntKind.i64.wrap ((i:Int)+1)=(i:Int)+1:=by rw [IntKind.wrap_i64];omega
 have hb1:(0:Int)<=(i:Int)+1:=O
 have hin:i<=n:=O
 have htn:((i:Int)+1).toNat=i+1:=O
 have hb2:¬(c=i+1):=O
 have hb3:(i:Int)<=(n:Int)+1:=O
 have hb4:¬(c=i):=O
 have hcp1:∀ty dc sc,(Builtin.copy_ #[22,22] ty #[.slice (some (Δ g (i+1))) (n-i) dc,.slice (some (Δ g i)) (n+1-i) sc]).run prog w.drew= .ok (goInt (xs.drop i).length) (w.drew.setCells g (i+1) (xs.drop i)):=λty dc sc=>
  run_copy_cells w.drew _ _ ty 5 g (i+1) (n-i) dc (Δ g i) (n+1-i) sc (xs.drop i) underlying22 hsz (by rw [hdl];simp only [KH];split<;>omega)
   (λj v hj=>by rw [Addr.add_lit];exact hcs (i+j) v (by rwa [Dl]at hj))
   (λj hj=>hsp _ O) (λj hj=>hfz _) (λv hv=>h1c v (Hg hv))
 obtain⟨W1,hW1⟩:∃W1,W1=w.drew.setCells g (i+1) (xs.drop i):=⟨_,rfl⟩;have hsp1:∀k,k<n+1->(W1.cell? (Δ g k)).isSome=true:=λk hk=>by
  rw [hW1];exact GM g _ _ _ _ (hsp k hk)
 have hcp2:∀(W:World),(∀x,W.cell? x=W1.cell? x)->(∀x,W.frozen? x=W1.frozen? x)->∀ty dc,(Builtin.copy_ #[22,22] ty #[.slice (some (Δ g i)) (n+1-i) dc,.slice (some (Φ vb)) 1 1]).run prog W= .ok (goInt [u].length) (W.setCells g i [u]):=λW hWc hWf ty dc=>
  run_copy_cells W _ _ ty 5 g i (n+1-i) dc (Φ vb) 1 1 [u] underlying22 hsz (by simp only [KH,BB,Du];split<;>omega)
   (λj v hj=>by
    rw [Addr.add_lit,hWc,hW1,JK g _ _ _ _ (λh _=>absurd h hvb)];exact hvs j v hj)
   (λj hj=>by rw [hWc];exact hsp1 _ (by simp at hj;omega)) (λj hj=>by rw [hWf,hW1,Gs];exact hfz _) (λv hv=>by simp at hv;subst hv;exact h1v)
 rw [<-hW1]at hcp1;clear hown hcs hsp hfz hsb hsa hfa hvs hv h1c hgc hcsz hsp1 hsz hcl hdl;go_enter func190,ntmps190
 go_wp2_with(simp only [hov])
 go_region_law(refine step_copy_runI rfl _ _ 22 22 rfl _ _ (by simp [Act.eval,Act.put]) (by simp [Act.eval,Act.put]) (hcp1 _ _ _) ?_)
 go_wp2_with(at_builtin;refine wpList_copy_runI _ rfl _ _ 22 22 rfl _ _ rfl rfl (hcp2 _ (λ_=>rfl) (λ_=>rfl) _ _) ?_)
 go_ret;exact⟨rfl,rfl⟩
def dQ(g n c i vb:Nat)(xs:List Value)(u:Value)(w:World)(base:Nat)(hown:w.ownsRow base 28 1 (.slice (some (Φ g)) n c) n xs)(hi:i<n)(hroom:n+1<=c)(hc:c<=9223372036854775807)(hvb:vb≠g)(hv:CS w vb 28 [u])
 (h1c:∀v∈xs,v.oneCell'=true)(h1v:u.oneCell'=true):
 Calls prog 191 #[.slice (some (Φ g)) n c,.int .i64 i,.slice (some (Φ vb)) 1 1] w λe w'=>
  e= .returned (.slice (some (Φ g)) (n+1) c)/\w'=(w.drew.setCells g (i+1) (xs.drop i)).setCells g i [u]:=by
 have hcl:xs.length=n:=by simpa using hown.1
 have hcs:∀j v,xs[j]? =some v->w.cell? (Δ g j)=some v:=λj v h=>by
  rw [hown.cellAt j (Ω ((Cc.1 h).1))];exact h
 have hblk:∃cur:Array Value,w.heap[g]? =some (.cells cur 28 (0,0))/\cur.size=c:=by
  rcases hown.2 with⟨h2,_⟩| ⟨g',cap,cur,hvv,_,hg,_,_,hcs,_⟩
  ·cases h2
  ·simp only [Value.slice.injEq,Option.some.injEq,Addr.mk.injEq,and_true,true_and]at hvv;obtain⟨rfl,rfl⟩:=hvv;exact⟨cur,hg,O⟩
 obtain⟨cur,hgc,hcsz⟩:=hblk;have hsp:∀j,j<n+1->(w.cell? (Δ g j)).isSome=true:=λj hj=>by
  rw [cell_of_row w g j _ 28 (0,0) hgc,FI O];rfl
 have hfz:∀j,w.frozen? (Δ g j)=false:=λj=>by simp [GL,hgc]
 have hsb:w.shape? g=some (28,c):=by simp [VS,hgc,hcsz]
 have hsa:w.shape? vb=some (28,1):=by unfold CS at hv;simp [VS,hv]
 have hfa:∀j,w.frozen? (Δ vb j)=false:=λj=>hv.frozen j
 have hvs:∀j v,[u][j]? =some v->w.cell? (Δ vb (0+j))=some v:=λj v h=>by rw [hv.cell,DR];exact h
 have hz2:¬((i:Int)=(n:Int)):=O
 have hsz:(prog.info? 28).map (·.size)=some 1:=by
  obtain⟨i0,hi0,h0,h1,h2⟩:=info_parts Tryz.Jp.hi;rw [hi0];simp [h1]
 have hov:∀lb cb,(callFunc 206 #[.slice (some (Φ vb)) 1 1,.slice (some (Δ g (i+1))) lb cb]).run prog w= .ok (.value (.bool false)) w:=λlb cb=>by
  rw [run_callFunc_extern func206 Γ Γ Γ (e:=Extern.SlicesOverlaps.overlaps #[91,91] #[4]) Γ,
   uC w 91 4 28 underlying91 1 Tryz.Jp.PY (Φ vb) (Δ g (i+1)) 1 1 lb cb hvb 28 28 1 c hsa hsb O (hfa 0) (hfa 1)]
  rfl
 have hdl:(xs.drop i).length=n-i:=by rw [AV,hcl]
 have hw1:IntKind.i64.wrap ((i:Int)+1)=(i:Int)+1:=by rw [IntKind.wrap_i64];omega
 have hb1:(0:Int)<=(i:Int)+1:=O
 have hin:i<=n:=O
 have htn:((i:Int)+1).toNat=i+1:=O
 have hb2:¬(c=i+1):=O
 have hb3:(i:Int)<=(n:Int)+1:=O
 have hb4:¬(c=i):=O
 have hcp1:∀ty dc sc,(Builtin.copy_ #[91,91] ty #[.slice (some (Δ g (i+1))) (n-i) dc,.slice (some (Δ g i)) (n+1-i) sc]).run prog w.drew= .ok (goInt (xs.drop i).length) (w.drew.setCells g (i+1) (xs.drop i)):=λty dc sc=>
  run_copy_cells w.drew _ _ ty 28 g (i+1) (n-i) dc (Δ g i) (n+1-i) sc (xs.drop i) underlying91 hsz (by rw [hdl];simp only [KH];split<;>omega)
   (λj v hj=>by rw [Addr.add_lit];exact hcs (i+j) v (by rwa [Dl]at hj))
   (λj hj=>hsp _ O) (λj hj=>hfz _) (λv hv=>h1c v (Hg hv))
 obtain⟨W1,hW1⟩:∃W1,W1=w.drew.setCells g (i+1) (xs.drop i):=⟨_,rfl⟩;have hsp1:∀k,k<n+1->(W1.cell? (Δ g k)).isSome=true:=λk hk=>by
  rw [hW1];exact GM g _ _ _ _ (hsp k hk)
 have hcp2:∀(W:World),(∀x,W.cell? x=W1.cell? x)->(∀x,W.frozen? x=W1.frozen? x)->∀ty dc,(Builtin.copy_ #[91,91] ty #[.slice (some (Δ g i)) (n+1-i) dc,.slice (some (Φ vb)) 1 1]).run prog W= .ok (goInt [u].length) (W.setCells g i [u]):=λW hWc hWf ty dc=>
  run_copy_cells W _ _ ty 28 g i (n+1-i) dc (Φ vb) 1 1 [u] underlying91 hsz (by simp only [KH,BB,Du];split<;>omega)
   (λj v hj=>by
    rw [Addr.add_lit,hWc,hW1,JK g _ _ _ _ (λh _=>absurd h hvb)];exact hvs j v hj)
   (λj hj=>by rw [hWc];exact hsp1 _ (by simp at hj;omega)) (λj hj=>by rw [hWf,hW1,Gs];exact hfz _) (λv hv=>by simp at hv;subst hv;exact h1v)
 rw [<-hW1]at hcp1;clear hown hcs hsp hfz hsb hsa hfa hvs hv h1c hgc hcsz hsp1 hsz hcl hdl;go_enter func191,ntmps191
 go_wp2_with(simp only [hov])
 go_region_law(refine step_copy_runI rfl _ _ 91 91 rfl _ _ (by simp [Act.eval,Act.put]) (by simp [Act.eval,Act.put]) (hcp1 _ _ _) ?_)
 go_wp2_with(at_builtin;refine wpList_copy_runI _ rfl _ _ 91 91 rfl _ _ rfl rfl (hcp2 _ (λ_=>rfl) (λ_=>rfl) _ _) ?_)
 go_ret;exact⟨rfl,rfl⟩
def kQ(g n c i vb:Nat)(xs:List Value)(u:Value)(w:World)(base:Nat)(hown:w.ownsRow base 5 1 (.slice (some (Φ g)) n c) n xs)(hi:i<n)(hroom:c<n+1)(hn:n<=1000000)(hv:CS w vb 5 [u])
 (h1c:∀v∈xs,v.oneCell'=true)(h1v:u.oneCell'=true):
 Calls prog 190 #[.slice (some (Φ g)) n c,.int .i64 i,.slice (some (Φ vb)) 1 1] w λe w'=>∃G ROW,n+1<=G/\G<=maxLen/\ROW.size=G/\(∀j,j<i->ROW[j]? =xs[j]?)/\
  e= .returned (.slice (some (Φ w.heap.size)) (n+1) G)/\
  w'=(((w.alloc (.cells ROW 5)).drew.setCells w.heap.size i [u]).drew).setCells w.heap.size (i+1) (xs.drop i):=by
 have hcl:xs.length=n:=by simpa using hown.1
 have hcs:∀j v,xs[j]? =some v->w.cell? (Δ g j)=some v:=λj v h=>by
  rw [hown.cellAt j (Ω ((Cc.1 h).1))];exact h
 have hnc:n<=c:=(CP hown).1;have hvs:∀j v,[u][j]? =some v->w.cell? (Δ vb (0+j))=some v:=λj v h=>by rw [hv.cell,DR];exact h
 have hvw:vb<w.heap.size:=hv.lt;have hbw:g<w.heap.size:=block_lt_of_cell (hcs 0 _ (Af O));obtain⟨i0,hi0,hz0,hzs,hzb⟩:=info_parts Tryz.Gq.hi;have hz2:¬((i:Int)=(n:Int)):=O
 have hz3:(c:Int)<(n:Int)+1:=O
 have hsz:(prog.info? 5).map (·.size)=some 1:=by rw [hi0];simp [hzs]
 have hkk:(n:Int)+1- (i:Int)=((n+1-i:Nat):Int):=O
 have hik:i+(n+1-i)=n+1:=O
 have hold:(Builtin.firstCells i0.size i (.slice (some (Φ g)) i c)).run prog w.drew= .ok (xs.take i).toArray w.drew:=by
  rw [hzs];exact run_firstCells_some w.drew 1 i (Φ g) i c (xs.take i) (by rw [Dw];omega) (λj v hj=>by
   rw [Addr.add_lit,DR];rw [CW]at hj;split at hj
   ·exact hcs j v hj
   ·cases hj)
 have hrz:∀ty,(Builtin.append_ #[22,3] ty #[.slice (some (Φ g)) i c,.int .i64 ((n:Int)+1- (i:Int))]).run prog w=
  .ok (.slice (some (Φ w.heap.size)) (n+1) (grownCap w (n+1) c 5)) (w.drew.alloc (.cells ((xs.take i).toArray++Builtin.zeroCells (Au .u8 0).cells (n+1-i)++Builtin.zeroCells (Au .u8 0).cells (grownCap w (n+1) c 5- (n+1))) 5)):=λty=>by
  have h:=jl w 22 3 ty 5 i0 _ .i64 .i64 underlying22 underlying3 hi0 hz0 (some (Φ g)) i c (xs.take i) hold (n+1-i) O O O O (by rw [hzb];omega) (by rw [hzb,hik];exact growslice_fits hroom O);rw [hik]at h;rw [hkk];exact h
 obtain⟨G,hG⟩:∃G,G=grownCap w (n+1) c 5:=⟨_,rfl⟩;obtain⟨ROW,hROW⟩:∃ROW:Array Value,ROW=(xs.take i).toArray++Builtin.zeroCells (Au .u8 0).cells (n+1-i)++Builtin.zeroCells (Au .u8 0).cells (G- (n+1)):=⟨_,rfl⟩;rw [<-hG]at hrz;rw [<-hROW]at hrz;have hGn:n+1<=G:=by rw [hG];exact grownCap_ge w _ _ _
 have hGm:G<=maxLen:=by rw [hG];exact grownCap_le_maxLen w (n+1) c 5 (by unfold maxLen;omega)
 have hRl:ROW.size=G:=by
  rw [hROW];simp [Builtin.zeroCells,uU];omega
 have hR0:∀j,j<i->ROW[j]? =xs[j]? :=λj hj=>by
  rw [hROW,zy,bW (by simp;omega)];simp [hj]
 obtain⟨W1,hW1⟩:∃W1,W1=w.drew.alloc (.cells ROW 5):=⟨_,rfl⟩;rw [<-hW1]at hrz;have hN:∀j,j<n+1->(W1.cell? (Δ w.heap.size j)).isSome=true:=λj hj=>by
  rw [hW1,Jn (w:=w.drew) ROW _ w.heap.size j rfl,FI O];rfl
 have hNf:∀j,W1.frozen? (Δ w.heap.size j)=false:=λj=>by rw [hW1];exact mJ (w:=w.drew) ROW _ w.heap.size j rfl
 have hOb:∀j v,w.cell? (Δ g j)=some v->W1.cell? (Δ g j)=some v:=λj v h=>by rw [hW1,Dc (w:=w.drew) _ g j hbw];exact h
 have hOv:∀j v,w.cell? (Δ vb j)=some v->W1.cell? (Δ vb j)=some v:=λj v h=>by rw [hW1,Dc (w:=w.drew) _ vb j hvw];exact h
 have hcpA:∀(W:World),(∀x,W.cell? x=W1.cell? x)->(∀x,W.frozen? x=W1.frozen? x)->∀ty dc,(Builtin.copy_ #[22,22] ty #[.slice (some (Δ w.heap.size i)) (n+1-i) dc,.slice (some (Φ vb)) 1 1]).run prog W= .ok (goInt [u].length) (W.setCells w.heap.size i [u]):=λW hWc hWf ty dc=>
  run_copy_cells W _ _ ty 5 w.heap.size i (n+1-i) dc (Φ vb) 1 1 [u] underlying22 hsz (by simp only [KH,BB,Du];split<;>omega)
   (λj v hj=>by rw [Addr.add_lit,hWc];exact hOv _ v (hvs j v hj))
   (λj hj=>by rw [hWc];exact hN _ (by simp at hj;omega)) (λj hj=>by rw [hWf];exact hNf _) (λv hv=>by simp at hv;subst hv;exact h1v)
 have hG63:G<=9223372036854775807:=by unfold maxLen at hGm;omega
 have hGi:¬(G=i):=O
 have hGim:¬(G=i+1):=O
 have hci:¬(c=i):=O
 have hbN:g≠w.heap.size:=O
 have hdl:(xs.drop i).length=n-i:=by rw [AV,hcl]
 have hcpB:∀(W:World),(∀x,W.cell? x=(W1.setCells w.heap.size i [u]).cell? x)->(∀x,W.frozen? x=(W1.setCells w.heap.size i [u]).frozen? x)->∀ty dc sc,(Builtin.copy_ #[22,22] ty #[.slice (some (Δ w.heap.size (i+1))) (n-i) dc,.slice (some (Δ g i)) (n-i) sc]).run prog W= .ok (goInt (xs.drop i).length) (W.setCells w.heap.size (i+1) (xs.drop i)):=λW hWc hWf ty dc sc=>
  run_copy_cells W _ _ ty 5 w.heap.size (i+1) (n-i) dc (Δ g i) (n-i) sc (xs.drop i) underlying22 hsz (by rw [hdl];simp only [KH];split<;>omega)
   (λj v hj=>by
    rw [Addr.add_lit,hWc,JK _ _ _ _ _ (λh _=>absurd h hbN)];exact hOb _ v (hcs (i+j) v (by rwa [Dl]at hj)))
   (λj hj=>by rw [hWc];exact GM _ _ _ _ _ (hN _ O))
   (λj hj=>by rw [hWf,Gs];exact hNf _) (λv hv=>h1c v (Hg hv))
 subst hW1;have hE1:∀x,((w.alloc (.cells ROW 5)).drew).cell? x=(w.drew.alloc (.cells ROW 5)).cell? x:=λx=>rfl
 have hE2:∀x,((w.alloc (.cells ROW 5)).drew).frozen? x=(w.drew.alloc (.cells ROW 5)).frozen? x:=λx=>rfl
 have hF1:∀x,(((w.alloc (.cells ROW 5)).drew.setCells w.heap.size i [u]).drew).cell? x=((w.drew.alloc (.cells ROW 5)).setCells w.heap.size i [u]).cell? x:=λx=>rfl
 have hF2:∀x,(((w.alloc (.cells ROW 5)).drew.setCells w.heap.size i [u]).drew).frozen? x=((w.drew.alloc (.cells ROW 5)).setCells w.heap.size i [u]).frozen? x:=λx=>rfl
 have hw1:IntKind.i64.wrap ((i:Int)+1)=(i:Int)+1:=by rw [IntKind.wrap_i64];omega
 have hb1:(0:Int)<=(i:Int)+1:=O
 have hin:i<=n:=O
 have htn:((i:Int)+1).toNat=i+1:=O
 have hb3:(i:Int)<=(n:Int):=O
 have Avi:i<=c:=O
 refine Calls.mono (R:=λe w'=>e= .returned (.slice (some (Φ w.heap.size)) (n+1) G)/\w'=(((w.alloc (.cells ROW 5)).drew.setCells w.heap.size i [u]).drew).setCells w.heap.size (i+1) (xs.drop i)) ?_ (λe w' h=>⟨G,ROW,hGn,hGm,hRl,hR0,h⟩);clear hkk hik hold hROW hG hRl hR0 hown hcs hnc hvs hv h1c hN hNf hOb hOv hi0 hz0 hzs hzb hsz hcl hdl hGm;go_enter func190,ntmps190
 go_wp2_with(first
  | (at_builtin;refine FX _ rfl _ _ _ _ rfl _ _ rfl rfl _ _ (hrz _) ?_)
  | (at_builtin;refine wpList_copy_runI _ rfl _ _ 22 22 rfl _ _ rfl rfl (hcpA _ hE1 hE2 _ _) ?_)
  | (at_builtin;refine wpList_copy_runI _ rfl _ _ 22 22 rfl _ _ rfl rfl (hcpB _ (λ_=>rfl) (λ_=>rfl) _ _ _) ?_))
 go_region_law(refine step_copy_runI rfl _ _ 22 22 rfl (.slice (some (Δ w.heap.size (i+1))) (n-i) (G- (i+1))) (.slice (some (Δ g i)) (n-i) (c-i)) (by simp [Act.eval,Act.put]) (by simp [Act.eval,Act.put]) (hcpB _ hF1 hF2 3 (G- (i+1)) (c-i)) ?_)
 go_wp2;go_ret;exact⟨rfl,rfl⟩
def kR(g n c i vb:Nat)(xs:List Value)(u:Value)(w:World)(base:Nat)(hown:w.ownsRow base 28 1 (.slice (some (Φ g)) n c) n xs)(hi:i<n)(hroom:c<n+1)(hn:n<=1000000)(hv:CS w vb 28 [u])
 (h1c:∀v∈xs,v.oneCell'=true)(h1v:u.oneCell'=true):
 Calls prog 191 #[.slice (some (Φ g)) n c,.int .i64 i,.slice (some (Φ vb)) 1 1] w λe w'=>∃G ROW,n+1<=G/\G<=maxLen/\ROW.size=G/\(∀j,j<i->ROW[j]? =xs[j]?)/\
  e= .returned (.slice (some (Φ w.heap.size)) (n+1) G)/\
  w'=(((w.alloc (.cells ROW 28)).drew.setCells w.heap.size i [u]).drew).setCells w.heap.size (i+1) (xs.drop i):=by
 have hcl:xs.length=n:=by simpa using hown.1
 have hcs:∀j v,xs[j]? =some v->w.cell? (Δ g j)=some v:=λj v h=>by
  rw [hown.cellAt j (Ω ((Cc.1 h).1))];exact h
 have hnc:n<=c:=(CP hown).1;have hvs:∀j v,[u][j]? =some v->w.cell? (Δ vb (0+j))=some v:=λj v h=>by rw [hv.cell,DR];exact h
 have hvw:vb<w.heap.size:=hv.lt;have hbw:g<w.heap.size:=block_lt_of_cell (hcs 0 _ (Af O));obtain⟨i0,hi0,hz0,hzs,hzb⟩:=info_parts Tryz.Jp.hi;have hz2:¬((i:Int)=(n:Int)):=O
 have hz3:(c:Int)<(n:Int)+1:=O
 have hsz:(prog.info? 28).map (·.size)=some 1:=by rw [hi0];simp [hzs]
 have hkk:(n:Int)+1- (i:Int)=((n+1-i:Nat):Int):=O
 have hik:i+(n+1-i)=n+1:=O
 have hold:(Builtin.firstCells i0.size i (.slice (some (Φ g)) i c)).run prog w.drew= .ok (xs.take i).toArray w.drew:=by
  rw [hzs];exact run_firstCells_some w.drew 1 i (Φ g) i c (xs.take i) (by rw [Dw];omega) (λj v hj=>by
   rw [Addr.add_lit,DR];rw [CW]at hj;split at hj
   ·exact hcs j v hj
   ·cases hj)
 have hrz:∀ty,(Builtin.append_ #[91,3] ty #[.slice (some (Φ g)) i c,.int .i64 ((n:Int)+1- (i:Int))]).run prog w=
  .ok (.slice (some (Φ w.heap.size)) (n+1) (grownCap w (n+1) c 28)) (w.drew.alloc (.cells ((xs.take i).toArray++Builtin.zeroCells (Au .u64 0).cells (n+1-i)++Builtin.zeroCells (Au .u64 0).cells (grownCap w (n+1) c 28- (n+1))) 28)):=λty=>by
  have h:=jl w 91 3 ty 28 i0 _ .i64 .i64 underlying91 underlying3 hi0 hz0 (some (Φ g)) i c (xs.take i) hold (n+1-i) O O O O (by rw [hzb];omega) (by rw [hzb,hik];exact growslice_fits hroom O);rw [hik]at h;rw [hkk];exact h
 obtain⟨G,hG⟩:∃G,G=grownCap w (n+1) c 28:=⟨_,rfl⟩;obtain⟨ROW,hROW⟩:∃ROW:Array Value,ROW=(xs.take i).toArray++Builtin.zeroCells (Au .u64 0).cells (n+1-i)++Builtin.zeroCells (Au .u64 0).cells (G- (n+1)):=⟨_,rfl⟩;rw [<-hG]at hrz;rw [<-hROW]at hrz;have hGn:n+1<=G:=by rw [hG];exact grownCap_ge w _ _ _
 have hGm:G<=maxLen:=by rw [hG];exact grownCap_le_maxLen w (n+1) c 28 (by unfold maxLen;omega)
 have hRl:ROW.size=G:=by
  rw [hROW];simp [Builtin.zeroCells,uU];omega
 have hR0:∀j,j<i->ROW[j]? =xs[j]? :=λj hj=>by
  rw [hROW,zy,bW (by simp;omega)];simp [hj]
 obtain⟨W1,hW1⟩:∃W1,W1=w.drew.alloc (.cells ROW 28):=⟨_,rfl⟩;rw [<-hW1]at hrz;have hN:∀j,j<n+1->(W1.cell? (Δ w.heap.size j)).isSome=true:=λj hj=>by
  rw [hW1,Jn (w:=w.drew) ROW _ w.heap.size j rfl,FI O];rfl
 have hNf:∀j,W1.frozen? (Δ w.heap.size j)=false:=λj=>by rw [hW1];exact mJ (w:=w.drew) ROW _ w.heap.size j rfl
 have hOb:∀j v,w.cell? (Δ g j)=some v->W1.cell? (Δ g j)=some v:=λj v h=>by rw [hW1,Dc (w:=w.drew) _ g j hbw];exact h
 have hOv:∀j v,w.cell? (Δ vb j)=some v->W1.cell? (Δ vb j)=some v:=λj v h=>by rw [hW1,Dc (w:=w.drew) _ vb j hvw];exact h
 have hcpA:∀(W:World),(∀x,W.cell? x=W1.cell? x)->(∀x,W.frozen? x=W1.frozen? x)->∀ty dc,(Builtin.copy_ #[91,91] ty #[.slice (some (Δ w.heap.size i)) (n+1-i) dc,.slice (some (Φ vb)) 1 1]).run prog W= .ok (goInt [u].length) (W.setCells w.heap.size i [u]):=λW hWc hWf ty dc=>
  run_copy_cells W _ _ ty 28 w.heap.size i (n+1-i) dc (Φ vb) 1 1 [u] underlying91 hsz (by simp only [KH,BB,Du];split<;>omega)
   (λj v hj=>by rw [Addr.add_lit,hWc];exact hOv _ v (hvs j v hj))
   (λj hj=>by rw [hWc];exact hN _ (by simp at hj;omega)) (λj hj=>by rw [hWf];exact hNf _) (λv hv=>by simp at hv;subst hv;exact h1v)
 have hG63:G<=9223372036854775807:=by unfold maxLen at hGm;omega
 have hGi:¬(G=i):=O
 have hGim:¬(G=i+1):=O
 have hci:¬(c=i):=O
 have hbN:g≠w.heap.size:=O
 have hdl:(xs.drop i).length=n-i:=by rw [AV,hcl]
 have hcpB:∀(W:World),(∀x,W.cell? x=(W1.setCells w.heap.size i [u]).cell? x)->(∀x,W.frozen? x=(W1.setCells w.heap.size i [u]).frozen? x)->∀ty dc sc,(Builtin.copy_ #[91,91] ty #[.slice (some (Δ w.heap.size (i+1))) (n-i) dc,.slice (some (Δ g i)) (n-i) sc]).run prog W= .ok (goInt (xs.drop i).length) (W.setCells w.heap.size (i+1) (xs.drop i)):=λW hWc hWf ty dc sc=>
  run_copy_cells W _ _ ty 28 w.heap.size (i+1) (n-i) dc (Δ g i) (n-i) sc (xs.drop i) underlying91 hsz (by rw [hdl];simp only [KH];split<;>omega)
   (λj v hj=>by
    rw [Addr.add_lit,hWc,JK _ _ _ _ _ (λh _=>absurd h hbN)];exact hOb _ v (hcs (i+j) v (by rwa [Dl]at hj)))
   (λj hj=>by rw [hWc];exact GM _ _ _ _ _ (hN _ O))
   (λj hj=>by rw [hWf,Gs];exact hNf _) (λv hv=>h1c v (Hg hv))
 subst hW1;have hE1:∀x,((w.alloc (.cells ROW 28)).drew).cell? x=(w.drew.alloc (.cells ROW 28)).cell? x:=λx=>rfl
 have hE2:∀x,((w.alloc (.cells ROW 28)).drew).frozen? x=(w.drew.alloc (.cells ROW 28)).frozen? x:=λx=>rfl
 have hF1:∀x,(((w.alloc (.cells ROW 28)).drew.setCells w.heap.size i [u]).drew).cell? x=((w.drew.alloc (.cells ROW 28)).setCells w.heap.size i [u]).cell? x:=λx=>rfl
 have hF2:∀x,(((w.alloc (.cells ROW 28)).drew.setCells w.heap.size i [u]).drew).frozen? x=((w.drew.alloc (.cells ROW 28)).setCells w.heap.size i [u]).frozen? x:=λx=>rfl
 have hw1:IntKind.i64.wrap ((i:Int)+1)=(i:Int)+1:=by rw [IntKind.wrap_i64];omega
 have hb1:(0:Int)<=(i:Int)+1:=O
 have hin:i<=n:=O
 have htn:((i:Int)+1).toNat=i+1:=O
 have hb3:(i:Int)<=(n:Int):=O
 have Avi:i<=c:=O
 refine Calls.mono (R:=λe w'=>e= .returned (.slice (some (Φ w.heap.size)) (n+1) G)/\w'=(((w.alloc (.cells ROW 28)).drew.setCells w.heap.size i [u]).drew).setCells w.heap.size (i+1) (xs.drop i)) ?_ (λe w' h=>⟨G,ROW,hGn,hGm,hRl,hR0,h⟩);clear hkk hik hold hROW hG hRl hR0 hown hcs hnc hvs hv h1c hN hNf hOb hOv hi0 hz0 hzs hzb hsz hcl hdl hGm;go_enter func191,ntmps191
 go_wp2_with(first
  | (at_builtin;refine FX _ rfl _ _ _ _ rfl _ _ rfl rfl _ _ (hrz _) ?_)
  | (at_builtin;refine wpList_copy_runI _ rfl _ _ 91 91 rfl _ _ rfl rfl (hcpA _ hE1 hE2 _ _) ?_)
  | (at_builtin;refine wpList_copy_runI _ rfl _ _ 91 91 rfl _ _ rfl rfl (hcpB _ (λ_=>rfl) (λ_=>rfl) _ _ _) ?_))
 go_region_law(refine step_copy_runI rfl _ _ 91 91 rfl (.slice (some (Δ w.heap.size (i+1))) (n-i) (G- (i+1))) (.slice (some (Δ g i)) (n-i) (c-i)) (by simp [Act.eval,Act.put]) (by simp [Act.eval,Act.put]) (hcpB _ hF1 hF2 3 (G- (i+1)) (c-i)) ?_)
 go_wp2;go_ret;exact⟨rfl,rfl⟩
def qH(v:Value)(n i vb:Nat)(xs:List Value)(u:Value)(w:World)(base:Nat)(hown:w.ownsRow base 5 1 v n xs)(hbase:base<=w.heap.size)(hi:i<=n)(hn:n<=1000000)(hvb:v.ownBlock≠some vb)(hv:CS w vb 5 [u])
 (h1c:∀v∈xs,v.oneCell'=true)(h1v:u.oneCell'=true):
 Calls prog 190 #[v,.int .i64 i,.slice (some (Φ vb)) 1 1] w λe w'=>∃v',e= .returned v'/\w'.ownsRow base 5 1 v' (n+1) (Vl xs i u)/\Below base w w'/\Kept w w' v.ownBlock:=by
 have hcl:xs.length=n:=by simpa using hown.1
 by_cases hin:i=n
 ·subst hin;have hrd:Rd w (some (Φ vb)) 1 [u]:=hv.rd;have happ:=Un Tryz.Gq 22 hown hrd (λy hy=>by simp at hy;subst hy;exact h1v) O U hbase 1;obtain⟨v',w',hrun,hown',hb',hk'⟩:=happ;have Ag5:Hid (Vl xs i u=xs++[u]):=Lib.hid (by unfold Vl;rw [FM O,Rk O]);rcases hown.2 with⟨rfl,rfl⟩| ⟨g,cap,cur,rfl, -, -,hnc,hcm, -⟩
  ·clear hown hcl hv hrd h1c;go_enter func190,ntmps190
   go_wp2_with(at_builtin;refine FX _ rfl _ _ _ _ rfl _ _ rfl rfl _ _ hrun ?_)
   go_ret;exact⟨v',rfl,by rw [Ag5.out];exact hown',hb',hk'⟩
  ·clear hown hcl hv hrd h1c hcm;go_enter func190,ntmps190
   go_wp2_with(at_builtin;refine FX _ rfl _ _ _ _ rfl _ _ rfl rfl _ _ hrun ?_)
   all_goals
    go_ret;exact⟨v',rfl,by rw [Ag5.out];exact hown',hb',hk'⟩
 ·rcases id hown.2 with⟨rfl,rfl⟩| ⟨g,cap,cur,rfl,hbg,hg,hnc,hcm,_⟩
  ·omega
  ·have hgw:g<w.heap.size:=(AB.1 hg).1;by_cases hroom:n+1<=cap
   ·refine(dP g n cap i vb xs u w base hown O hroom (by unfold maxLen at hcm;omega) (λh=>hvb (by rw [h];rfl)) hv h1c h1v).mono ?_;rintro e w'⟨rfl,rfl⟩;have hk:Kept w ((w.drew.setCells g (i+1) (xs.drop i)).setCells g i [u]) (some g):=((Kept.refl w (some g)).drew.setCells _ _).setCells _ _;refine⟨_,rfl,fF (w:=w.drew) (show w.drew.ownsRow base 5 1 _ n xs from hown) O hroom,hk.below hbase ?_ ?_ ?_ (λg' e=>by injection e with e;omega),hk⟩
    ·rw [ET,ET];rfl
    ·rw [Ee,Ee];rfl
    ·rw [DD,DD];rfl
   ·refine(kQ g n cap i vb xs u w base hown O O hn hv h1c h1v).mono ?_;rintro e w'⟨G,ROW,hG,hGm,hR,hR0,rfl,rfl⟩;have ho:=fG (e:=5) (u:=u) (zs:=xs.drop i) ROW hbase O O hGm hR hR0 rfl;rw [hcl]at ho;have hk:Kept w ((((w.alloc (.cells ROW 5)).drew.setCells w.heap.size i [u]).drew).setCells w.heap.size (i+1) (xs.drop i)) none:=by
     refine⟨?_,λk hk _=> ?_⟩
     ·rw [setCells_size,show∀W:World,W.drew.heap.size=W.heap.size from λ_=>rfl,setCells_size];show w.heap.size<=(w.heap.push _).size;simp
     ·rw [Jg _ _ _ _ O,show∀W:World,W.drew.heap=W.heap from λ_=>rfl,Jg _ _ _ _ O];show(w.heap.push _)[k]? =_;rw [FH,if_neg O]
    refine⟨_,rfl,ho,hk.below hbase ?_ ?_ ?_ (λg' e=>by cases e),hk.1,λk hk' _=>hk.2 k hk' Θ⟩
    ·rw [ET,show∀W:World,W.drew.os=W.os from λ_=>rfl,ET];rfl
    ·rw [Ee,show∀W:World,W.drew.tape=W.tape from λ_=>rfl,Ee];rfl
    ·rw [DD,show∀W:World,W.drew.output=W.output from λ_=>rfl,DD];rfl
def qI(v:Value)(n i vb:Nat)(xs:List Value)(u:Value)(w:World)(base:Nat)(hown:w.ownsRow base 28 1 v n xs)(hbase:base<=w.heap.size)(hi:i<=n)(hn:n<=1000000)(hvb:v.ownBlock≠some vb)(hv:CS w vb 28 [u])
 (h1c:∀v∈xs,v.oneCell'=true)(h1v:u.oneCell'=true):
 Calls prog 191 #[v,.int .i64 i,.slice (some (Φ vb)) 1 1] w λe w'=>∃v',e= .returned v'/\w'.ownsRow base 28 1 v' (n+1) (Vl xs i u)/\Below base w w'/\Kept w w' v.ownBlock:=by
 have hcl:xs.length=n:=by simpa using hown.1
 by_cases hin:i=n
 ·subst hin;have hrd:Rd w (some (Φ vb)) 1 [u]:=hv.rd;have happ:=Un Tryz.Jp 91 hown hrd (λy hy=>by simp at hy;subst hy;exact h1v) O U hbase 1;obtain⟨v',w',hrun,hown',hb',hk'⟩:=happ;have Ag5:Hid (Vl xs i u=xs++[u]):=Lib.hid (by unfold Vl;rw [FM O,Rk O]);rcases hown.2 with⟨rfl,rfl⟩| ⟨g,cap,cur,rfl, -, -,hnc,hcm, -⟩
  ·clear hown hcl hv hrd h1c;go_enter func191,ntmps191
   go_wp2_with(at_builtin;refine FX _ rfl _ _ _ _ rfl _ _ rfl rfl _ _ hrun ?_)
   go_ret;exact⟨v',rfl,by rw [Ag5.out];exact hown',hb',hk'⟩
  ·clear hown hcl hv hrd h1c hcm;go_enter func191,ntmps191
   go_wp2_with(at_builtin;refine FX _ rfl _ _ _ _ rfl _ _ rfl rfl _ _ hrun ?_)
   all_goals
    go_ret;exact⟨v',rfl,by rw [Ag5.out];exact hown',hb',hk'⟩
 ·rcases id hown.2 with⟨rfl,rfl⟩| ⟨g,cap,cur,rfl,hbg,hg,hnc,hcm,_⟩
  ·omega
  ·have hgw:g<w.heap.size:=(AB.1 hg).1;by_cases hroom:n+1<=cap
   ·refine(dQ g n cap i vb xs u w base hown O hroom (by unfold maxLen at hcm;omega) (λh=>hvb (by rw [h];rfl)) hv h1c h1v).mono ?_;rintro e w'⟨rfl,rfl⟩;have hk:Kept w ((w.drew.setCells g (i+1) (xs.drop i)).setCells g i [u]) (some g):=((Kept.refl w (some g)).drew.setCells _ _).setCells _ _;refine⟨_,rfl,fF (w:=w.drew) (show w.drew.ownsRow base 28 1 _ n xs from hown) O hroom,hk.below hbase ?_ ?_ ?_ (λg' e=>by injection e with e;omega),hk⟩
    ·rw [ET,ET];rfl
    ·rw [Ee,Ee];rfl
    ·rw [DD,DD];rfl
   ·refine(kR g n cap i vb xs u w base hown O O hn hv h1c h1v).mono ?_;rintro e w'⟨G,ROW,hG,hGm,hR,hR0,rfl,rfl⟩;have ho:=fG (e:=28) (u:=u) (zs:=xs.drop i) ROW hbase O O hGm hR hR0 rfl;rw [hcl]at ho;have hk:Kept w ((((w.alloc (.cells ROW 28)).drew.setCells w.heap.size i [u]).drew).setCells w.heap.size (i+1) (xs.drop i)) none:=by
     refine⟨?_,λk hk _=> ?_⟩
     ·rw [setCells_size,show∀W:World,W.drew.heap.size=W.heap.size from λ_=>rfl,setCells_size];show w.heap.size<=(w.heap.push _).size;simp
     ·rw [Jg _ _ _ _ O,show∀W:World,W.drew.heap=W.heap from λ_=>rfl,Jg _ _ _ _ O];show(w.heap.push _)[k]? =_;rw [FH,if_neg O]
    refine⟨_,rfl,ho,hk.below hbase ?_ ?_ ?_ (λg' e=>by cases e),hk.1,λk hk' _=>hk.2 k hk' Θ⟩
    ·rw [ET,show∀W:World,W.drew.os=W.os from λ_=>rfl,ET];rfl
    ·rw [Ee,show∀W:World,W.drew.tape=W.tape from λ_=>rfl,Ee];rfl
    ·rw [DD,show∀W:World,W.drew.output=W.output from λ_=>rfl,DD];rfl
def kS(g n c i:Nat)(xs:List Value)(w:World)(base:Nat)(hown:w.ownsRow base 5 1 (.slice (some (Φ g)) n c) n xs)(hi:i<n)(hn:n<=1000000)(hc:c<=9223372036854775807)(h1c:∀v∈xs,v.oneCell'=true):
 Calls prog 186 #[.slice (some (Φ g)) n c,.int .i64 i,.int .i64 ((i:Int)+1)] w λe w'=>
  e= .returned (.slice (some (Φ g)) (n-1) c)/\w'=(w.drew.setCells g i (xs.drop (i+1))).setCells g (n-1) [.int .u8 0]:=by
 have hcl:xs.length=n:=by simpa using hown.1
 have hcs:∀j v,xs[j]? =some v->w.cell? (Δ g j)=some v:=λj v h=>by
  rw [hown.cellAt j (Ω ((Cc.1 h).1))];exact h
 have hnc:n<=c:=(CP hown).1;have hblk:∃cur:Array Value,w.heap[g]? =some (.cells cur 5 (0,0))/\cur.size=c:=by
  rcases hown.2 with⟨h2,_⟩| ⟨g',cap,cur,hvv,_,hg,_,_,hcs,_⟩
  ·cases h2
  ·simp only [Value.slice.injEq,Option.some.injEq,Addr.mk.injEq,and_true,true_and]at hvv;obtain⟨rfl,rfl⟩:=hvv;exact⟨cur,hg,O⟩
 obtain⟨cur,hgc,hcsz⟩:=hblk;have hsp:∀j,j<n->(w.cell? (Δ g j)).isSome=true:=λj hj=>by
  rw [cell_of_row w g j _ 5 (0,0) hgc,FI O];rfl
 have hfz:∀j,w.frozen? (Δ g j)=false:=λj=>by simp [GL,hgc]
 obtain⟨i0,hi0,hz0,hzs,hzb⟩:=info_parts Tryz.Gq.hi;obtain⟨news,hnews⟩:∃news,news=xs.drop (i+1):=⟨_,rfl⟩;have hlen:news.length=n- (i+1):=by rw [hnews,AV,hcl]
 obtain⟨A,hA,hsrc⟩:∃A:Addr,(if c=i+1 then some ((Φ g):Addr)else some (Δ g (i+1)))=some A/\Hid (∀t u,news[t]? =some u->w.drew.cell? (A.add t)=some u):=by
  by_cases h:c=i+1
  ·refine⟨(Φ g),by simp [h],λt u hu=> ?_⟩;rw [mM.1 (show news.length=0 by omega)]at hu;simp at hu
  ·refine⟨(Δ g (i+1)),by simp [h],λt u hu=> ?_⟩;rw [Addr.add_lit];refine hcs (i+1+t) u ?_;rw [hnews,Dl]at hu;exact hu
 have s1:Hid (news.length=(n- (i+1))*1):=by rw [KZ];exact hlen
 have s2:Hid (∀u∈news,u.oneCell'=true):=by
  intro u hu;rw [hnews]at hu;exact h1c u (Hg hu)
 have s3:Hid (∀t,t<news.length->(w.drew.cell? (Δ g (0+i*1+t))).isSome=true/\w.drew.frozen? (Δ g (0+i*1+t))=false):=by
  intro t ht;rw [KZ,DR];exact⟨hsp (i+t) O,hfz _⟩
 obtain⟨W1,hW1⟩:∃W1,W1=w.drew.setCells g (0+i*1) news:=⟨_,rfl⟩;have Avj:∀ty,(Builtin.clear_ #[22] ty #[.slice (some (Δ g (i+(n- (i+1))))) (n- (i+(n- (i+1)))) (c- (i+(n- (i+1))))]).run prog W1= .ok (.tuple #[]) (W1.setCells g (i+(n- (i+1))) (BC (n- (i+(n- (i+1)))) (.int .u8 0))):=
  λty=>Abk W1 _ _ ty _ underlying22 Tryz.zeroValue5 rfl rfl g (i+(n- (i+1))) _ _ O (λt ht=>by rw [hW1];exact GM _ _ _ _ _ (hsp _ O)) (λt ht=>by rw [hW1,Gs];exact hfz _)
 have hW:Hid (W1=w.drew.setCells g (0+i*1) news):=hW1;have hN:Hid (news=xs.drop (i+1)):=hnews;have hL:Hid (i+(n- (i+1))=n-1):=by show i+(n- (i+1))=n-1;omega
 have hL1:Hid (n- (i+(n- (i+1)))=1):=by show n- (i+(n- (i+1)))=1;omega
 have hic:i<=c:=O
 have hjc:i+1<=c:=O
 have hw1:IntKind.i64.wrap ((i:Int)+1)=(i:Int)+1:=by rw [IntKind.wrap_i64];omega
 have hb1:(0:Int)<=(i:Int)+1:=O
 have htn:((i:Int)+1).toNat=i+1:=O
 have hz2:((i:Int)==(i:Int)+1)=false:=by rw [beq_eq_false_iff_ne];omega
 have hb3:(i:Int)+1<=(n:Int):=O
 have hb4:(i:Int)<=(i:Int)+1:=O
 have hb5:(n:Int)<=(c:Int):=O
 clear hW1 hown hcs hsp hfz hgc hcsz hnews hlen h1c hcl;go_enter func186,ntmps186
 go_wp2_with fail
 go_region_law(refine step_append_room rfl (.tmp 22) (.tmp 25) 22 rfl 5 i0 1 underlying22 hi0 hzs g 0 i c (by simp [Act.eval,Act.put]) A (n- (i+1)) (c- (i+1)) news (by simp [Act.eval,Act.put]) s1.out hsrc.out s2.out O s3.out ?_;rw [<-hW.out])
 go_wp2;go_ret;refine⟨by rw [<-hL.out];rfl,?_⟩;rw [<-hL.out,<-hN.out,hW.out,hL1.out,DR,KZ];rfl
def qJ(v:Value)(n i:Nat)(xs:List Value)(w:World)(base:Nat)(hown:w.ownsRow base 5 1 v n xs)(hbase:base<=w.heap.size)(hi:i<n)(hn:n<=1000000)(h1c:∀v∈xs,v.oneCell'=true):
 Calls prog 186 #[v,.int .i64 i,.int .i64 ((i:Int)+1)] w λe w'=>∃v',e= .returned v'/\w'.ownsRow base 5 1 v' (n-1) (jG xs i)/\Below base w w'/\Kept w w' v.ownBlock:=by
 rcases id hown.2 with⟨rfl,rfl⟩| ⟨g,cap,cur,rfl,hbg,hg,hnc,hcm,_⟩
 ·omega
 ·refine(kS g n cap i xs w base hown hi hn (by unfold maxLen at hcm;omega) h1c).mono ?_;rintro e w'⟨rfl,rfl⟩;have hk:Kept w ((w.drew.setCells g i (xs.drop (i+1))).setCells g (n-1) [.int .u8 0]) (some g):=((Kept.refl w (some g)).drew.setCells _ _).setCells _ _;refine⟨_,rfl,X9 (w:=w.drew) (show w.drew.ownsRow base 5 1 _ n xs from hown) hi rfl,hk.below hbase ?_ ?_ ?_ (λg' e=>by injection e with e;omega),hk⟩
  ·rw [ET,ET];rfl
  ·rw [Ee,Ee];rfl
  ·rw [DD,DD];rfl
def kT(g n c i:Nat)(xs:List Value)(w:World)(base:Nat)(hown:w.ownsRow base 28 1 (.slice (some (Φ g)) n c) n xs)(hi:i<n)(hn:n<=1000000)(hc:c<=9223372036854775807)(h1c:∀v∈xs,v.oneCell'=true):
 Calls prog 187 #[.slice (some (Φ g)) n c,.int .i64 i,.int .i64 ((i:Int)+1)] w λe w'=>
  e= .returned (.slice (some (Φ g)) (n-1) c)/\w'=(w.drew.setCells g i (xs.drop (i+1))).setCells g (n-1) [.int .u64 0]:=by
 have hcl:xs.length=n:=by simpa using hown.1
 have hcs:∀j v,xs[j]? =some v->w.cell? (Δ g j)=some v:=λj v h=>by
  rw [hown.cellAt j (Ω ((Cc.1 h).1))];exact h
 have hnc:n<=c:=(CP hown).1;have hblk:∃cur:Array Value,w.heap[g]? =some (.cells cur 28 (0,0))/\cur.size=c:=by
  rcases hown.2 with⟨h2,_⟩| ⟨g',cap,cur,hvv,_,hg,_,_,hcs,_⟩
  ·cases h2
  ·simp only [Value.slice.injEq,Option.some.injEq,Addr.mk.injEq,and_true,true_and]at hvv;obtain⟨rfl,rfl⟩:=hvv;exact⟨cur,hg,O⟩
 obtain⟨cur,hgc,hcsz⟩:=hblk;have hsp:∀j,j<n->(w.cell? (Δ g j)).isSome=true:=λj hj=>by
  rw [cell_of_row w g j _ 28 (0,0) hgc,FI O];rfl
 have hfz:∀j,w.frozen? (Δ g j)=false:=λj=>by simp [GL,hgc]
 obtain⟨i0,hi0,hz0,hzs,hzb⟩:=info_parts Tryz.Jp.hi;obtain⟨news,hnews⟩:∃news,news=xs.drop (i+1):=⟨_,rfl⟩;have hlen:news.length=n- (i+1):=by rw [hnews,AV,hcl]
 obtain⟨A,hA,hsrc⟩:∃A:Addr,(if c=i+1 then some ((Φ g):Addr)else some (Δ g (i+1)))=some A/\Hid (∀t u,news[t]? =some u->w.drew.cell? (A.add t)=some u):=by
  by_cases h:c=i+1
  ·refine⟨(Φ g),by simp [h],λt u hu=> ?_⟩;rw [mM.1 (show news.length=0 by omega)]at hu;simp at hu
  ·refine⟨(Δ g (i+1)),by simp [h],λt u hu=> ?_⟩;rw [Addr.add_lit];refine hcs (i+1+t) u ?_;rw [hnews,Dl]at hu;exact hu
 have s1:Hid (news.length=(n- (i+1))*1):=by rw [KZ];exact hlen
 have s2:Hid (∀u∈news,u.oneCell'=true):=by
  intro u hu;rw [hnews]at hu;exact h1c u (Hg hu)
 have s3:Hid (∀t,t<news.length->(w.drew.cell? (Δ g (0+i*1+t))).isSome=true/\w.drew.frozen? (Δ g (0+i*1+t))=false):=by
  intro t ht;rw [KZ,DR];exact⟨hsp (i+t) O,hfz _⟩
 obtain⟨W1,hW1⟩:∃W1,W1=w.drew.setCells g (0+i*1) news:=⟨_,rfl⟩;have Avj:∀ty,(Builtin.clear_ #[91] ty #[.slice (some (Δ g (i+(n- (i+1))))) (n- (i+(n- (i+1)))) (c- (i+(n- (i+1))))]).run prog W1= .ok (.tuple #[]) (W1.setCells g (i+(n- (i+1))) (BC (n- (i+(n- (i+1)))) (.int .u64 0))):=
  λty=>Abk W1 _ _ ty _ underlying91 Tryz.zeroValue28 rfl rfl g (i+(n- (i+1))) _ _ O (λt ht=>by rw [hW1];exact GM _ _ _ _ _ (hsp _ O)) (λt ht=>by rw [hW1,Gs];exact hfz _)
 have hW:Hid (W1=w.drew.setCells g (0+i*1) news):=hW1;have hN:Hid (news=xs.drop (i+1)):=hnews;have hL:Hid (i+(n- (i+1))=n-1):=by show i+(n- (i+1))=n-1;omega
 have hL1:Hid (n- (i+(n- (i+1)))=1):=by show n- (i+(n- (i+1)))=1;omega
 have hic:i<=c:=O
 have hjc:i+1<=c:=O
 have hw1:IntKind.i64.wrap ((i:Int)+1)=(i:Int)+1:=by rw [IntKind.wrap_i64];omega
 have hb1:(0:Int)<=(i:Int)+1:=O
 have htn:((i:Int)+1).toNat=i+1:=O
 have hz2:((i:Int)==(i:Int)+1)=false:=by rw [beq_eq_false_iff_ne];omega
 have hb3:(i:Int)+1<=(n:Int):=O
 have hb4:(i:Int)<=(i:Int)+1:=O
 have hb5:(n:Int)<=(c:Int):=O
 clear hW1 hown hcs hsp hfz hgc hcsz hnews hlen h1c hcl;go_enter func187,ntmps187
 go_wp2_with fail
 go_region_law(refine step_append_room rfl (.tmp 22) (.tmp 25) 91 rfl 28 i0 1 underlying91 hi0 hzs g 0 i c (by simp [Act.eval,Act.put]) A (n- (i+1)) (c- (i+1)) news (by simp [Act.eval,Act.put]) s1.out hsrc.out s2.out O s3.out ?_;rw [<-hW.out])
 go_wp2;go_ret;refine⟨by rw [<-hL.out];rfl,?_⟩;rw [<-hL.out,<-hN.out,hW.out,hL1.out,DR,KZ];rfl
def qK(v:Value)(n i:Nat)(xs:List Value)(w:World)(base:Nat)(hown:w.ownsRow base 28 1 v n xs)(hbase:base<=w.heap.size)(hi:i<n)(hn:n<=1000000)(h1c:∀v∈xs,v.oneCell'=true):
 Calls prog 187 #[v,.int .i64 i,.int .i64 ((i:Int)+1)] w λe w'=>∃v',e= .returned v'/\w'.ownsRow base 28 1 v' (n-1) (jG xs i)/\Below base w w'/\Kept w w' v.ownBlock:=by
 rcases id hown.2 with⟨rfl,rfl⟩| ⟨g,cap,cur,rfl,hbg,hg,hnc,hcm,_⟩
 ·omega
 ·refine(kT g n cap i xs w base hown hi hn (by unfold maxLen at hcm;omega) h1c).mono ?_;rintro e w'⟨rfl,rfl⟩;have hk:Kept w ((w.drew.setCells g i (xs.drop (i+1))).setCells g (n-1) [.int .u64 0]) (some g):=((Kept.refl w (some g)).drew.setCells _ _).setCells _ _;refine⟨_,rfl,X9 (w:=w.drew) (show w.drew.ownsRow base 28 1 _ n xs from hown) hi rfl,hk.below hbase ?_ ?_ ?_ (λg' e=>by injection e with e;omega),hk⟩
  ·rw [ET,ET];rfl
  ·rw [Ee,Ee];rfl
  ·rw [DD,DD];rfl
