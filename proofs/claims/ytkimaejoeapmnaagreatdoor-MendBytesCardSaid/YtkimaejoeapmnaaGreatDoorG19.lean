import Derived.Lib.AppendZerosOnto
import Derived.Lib.Overlaps
import Derived.Deep.MidRow
import Derived.Test.YtkimaejoeapmnaaGreatDoorG06
set_option maxHeartbeats 32000000
set_option maxRecDepth 100000
open List renaming getElem?_eq_some_iff->Cb,length_drop->AV,getElem?_drop->Dl,mem_of_mem_drop->GZ,length_cons->BJ,length_nil->Dt,getElem?_eq_getElem->Af,length_take->DC,getElem?_take->CS,take_of_length_le->FK,drop_of_length_le->QL,length_eq_zero_iff->kJ,replicate->BB
open Array renaming getElem?_eq_getElem->FH,append_assoc->xW,getElem?_append_left->aj,getElem?_eq_some_iff->AB,getElem?_push->FD
open Go.World renaming frozen?->GG,shape?->Vo,isSome_setCells->GH,cell?_setCells_out->JB,frozen?_setCells->Gl,cell?_alloc_at->Ja,frozen?_alloc_at->kH,cell?_alloc_past->CY
open Nat renaming zero_add->Dw,min_def->Ko,mul_one->KG
open Go.Lib renaming run_overlaps_apart->rH,run_append_grow_zeros->gI,wpList_append_run->FP,run_clear_slice->Aaf
open Go.Value renaming int->Au,cells->sJ
namespace Go.Proofs.YtkimaejoeapmnaaGreatDoor
open Go.RowKit
theorem wp_copy_runI{P:Program}(w:World){o:Oper}{a:Act}{K:Act->World->Prop}{Q:Exit->Act->World->Prop}(d s:Operand)(t t':TypeId)
 (ho:o.op= .call {callee:= .builtin .copy,args:= #[d,s],argTypes:= #[t,t']})(v u:Value)(hd:a.eval d=v)(hs:a.eval s=u){v':Value}{w':World}
 (hr:(Builtin.copy_ #[t,t'] o.type #[v,u]).run P w= .ok v' w')(h:K (a.put o.dst v') w'):o.wp P a w K Q:=by
 unfold Oper.wp execOp;simp only [ho,resolve,invoke,builtin,Sem.run_bind,Sem.run_pure,Result.andThen_ok,List.map_toArray,List.map_cons,List.map_nil,hd,hs,hr];exact h
theorem wpList_copy_runI{P:Program}(w:World){ops:Array Oper}{rest:List Oper}{o:Oper}{a:Act}{Q:Exit->Act->World->Prop}(hgd:o.guard=none)(d s:Operand)(t t':TypeId)
 (ho:o.op= .call {callee:= .builtin .copy,args:= #[d,s],argTypes:= #[t,t']})(v u:Value)(hd:a.eval d=v)(hs:a.eval s=u){v':Value}{w':World}
 (hr:(Builtin.copy_ #[t,t'] o.type #[v,u]).run P w= .ok v' w')(h:wpList P ops Q rest (a.put o.dst v') w'):wpList P ops Q (o::rest) a w:=
 wpList_plain hgd fun _ hK=>wp_copy_runI w d s t t' ho v u hd hs hr (hK _ _ h)
theorem step_copy_runI{P:Program}{ops:Array Oper}{o:Oper}{a:Act}{w:World}{K:Act->World->Prop}{Q:Exit->Act->World->Prop}{E:Prop}
 (hg:o.guard=none)(d x:Operand)(dT sT:TypeId)(hop:o.op=Op.call {callee:=Callee.builtin Builtin.copy,args:= #[d,x],argTypes:= #[dT,sT]})
 (v u:Value)(hd:a.eval d=v)(hx:a.eval x=u){v':Value}{w':World}(hr:(Builtin.copy_ #[dT,sT] o.type #[v,u]).run P w= .ok v' w')(hK:K (a.put o.dst v') w'):
 if Region.wanted o (yielded ops a.tmps)=true then Oper.wp P o a w K Q else E:=by
 have hw:Region.wanted o (yielded ops a.tmps)=true:=by simp [Region.wanted,hg]
 rw [if_pos hw];unfold Oper.wp;simp [execOp,hop,resolve,invoke,builtin,hd,hx,hr,Result.andThen];exact hK
theorem bC(g n c i vb:Nat)(xs:List Value)(u:Value)(w:World)(base:Nat)(hown:w.ownsRow base 5 1 (.slice (some ⟨g,0,none⟩) n c) n xs)(hi:i<n)(hroom:n+1<=c)(hc:c<=9223372036854775807)(hvb:vb≠g)(hv:CG w vb 5 [u])
 (h1c:∀v∈xs,v.oneCell'=true)(h1v:u.oneCell'=true):
 Calls Tryz.prog 190 #[.slice (some ⟨g,0,none⟩) n c,.int .i64 i,.slice (some ⟨vb,0,none⟩) 1 1] w fun e w'=>
  e= .returned (.slice (some ⟨g,0,none⟩) (n+1) c)/\w'=(w.drew.setCells g (i+1) (xs.drop i)).setCells g i [u]:=by
 have hcl:xs.length=n:=by simpa using hown.1
 have hcs:∀j v,xs[j]? =some v->w.cell? ⟨g,j,none⟩=some v:=fun j v h=>by
  rw [hown.cellAt j (by have:=(Cb.1 h).1;omega)];exact h
 have hblk:∃cur:Array Value,w.heap[g]? =some (.cells cur 5 (0,0))/\cur.size=c:=by
  rcases hown.2 with⟨h2,_⟩| ⟨g',cap,cur,hvv,_,hg,_,_,hcs,_⟩
  ·cases h2
  ·simp only [Value.slice.injEq,Option.some.injEq,Addr.mk.injEq,and_true,true_and]at hvv;obtain⟨rfl,rfl⟩:=hvv;exact⟨cur,hg,by omega⟩
 obtain⟨cur,hgc,hcsz⟩:=hblk;have hsp:∀j,j<n+1->(w.cell? ⟨g,j,none⟩).isSome=true:=fun j hj=>by
  rw [cell_of_row w g j _ 5 (0,0) hgc,FH (by omega)];rfl
 have hfz:∀j,w.frozen? ⟨g,j,none⟩=false:=fun j=>by simp [GG,hgc]
 have hsb:w.shape? g=some (5,c):=by simp [Vo,hgc,hcsz]
 have hsa:w.shape? vb=some (5,1):=by unfold CG at hv;simp [Vo,hv]
 have hfa:∀j,w.frozen? ⟨vb,j,none⟩=false:=fun j=>hv.frozen j
 have hvs:∀j v,[u][j]? =some v->w.cell? ⟨vb,0+j,none⟩=some v:=fun j v h=>by rw [hv.cell,Dw];exact h
 have hz2:¬((i:Int)=(n:Int)):=by omega
 have hsz:(Tryz.prog.info? 5).map (·.size)=some 1:=by
  obtain⟨i0,hi0,h0,h1,h2⟩:=info_parts Tryz.Gi.hi;rw [hi0];simp [h1]
 have hov:∀lb cb,(callFunc 204 #[.slice (some ⟨vb,0,none⟩) 1 1,.slice (some ⟨g,i+1,none⟩) lb cb]).run Tryz.prog w= .ok (.value (.bool false)) w:=fun lb cb=>by
  rw [run_callFunc_extern Tryz.func204 (by kernel_rfl) (by kernel_rfl) (by kernel_rfl) (e:=Extern.SlicesOverlaps.overlaps #[22,22] #[4]) (by kernel_rfl),
   rH w 22 4 5 Tryz.underlying22 1 Tryz.Gi.PE ⟨vb,0,none⟩ ⟨g,i+1,none⟩ 1 1 lb cb hvb 5 5 1 c hsa hsb (by omega) (hfa 0) (hfa 1)]
  rfl
 have hdl:(xs.drop i).length=n-i:=by rw [AV,hcl]
 have hw1:IntKind.i64.wrap ((i:Int)+1)=(i:Int)+1:=by rw [IntKind.wrap_i64];omega
 have hb1:(0:Int)<=(i:Int)+1:=by omega
 have hin:i<=n:=by omega
 have htn:((i:Int)+1).toNat=i+1:=by omega
 have hb2:¬(c=i+1):=by omega
 have hb3:(i:Int)<=(n:Int)+1:=by omega
 have hb4:¬(c=i):=by omega
 have hcp1:∀ty dc sc,(Builtin.copy_ #[22,22] ty #[.slice (some ⟨g,i+1,none⟩) (n-i) dc,.slice (some ⟨g,i,none⟩) (n+1-i) sc]).run Tryz.prog w.drew= .ok (goInt (xs.drop i).length) (w.drew.setCells g (i+1) (xs.drop i)):=fun ty dc sc=>
  run_copy_cells w.drew _ _ ty 5 g (i+1) (n-i) dc ⟨g,i,none⟩ (n+1-i) sc (xs.drop i) Tryz.underlying22 hsz (by rw [hdl];simp only [Ko];split<;>omega)
   (fun j v hj=>by rw [Addr.add_lit];exact hcs (i+j) v (by rwa [Dl]at hj))
   (fun j hj=>hsp _ (by omega)) (fun j hj=>hfz _) (fun v hv=>h1c v (GZ hv))
 obtain⟨W1,hW1⟩:∃W1,W1=w.drew.setCells g (i+1) (xs.drop i):=⟨_,rfl⟩;have hsp1:∀k,k<n+1->(W1.cell? ⟨g,k,none⟩).isSome=true:=fun k hk=>by
  rw [hW1];exact GH g _ _ _ _ (hsp k hk)
 have hcp2:∀(W:World),(∀x,W.cell? x=W1.cell? x)->(∀x,W.frozen? x=W1.frozen? x)->∀ty dc,(Builtin.copy_ #[22,22] ty #[.slice (some ⟨g,i,none⟩) (n+1-i) dc,.slice (some ⟨vb,0,none⟩) 1 1]).run Tryz.prog W= .ok (goInt [u].length) (W.setCells g i [u]):=fun W hWc hWf ty dc=>
  run_copy_cells W _ _ ty 5 g i (n+1-i) dc ⟨vb,0,none⟩ 1 1 [u] Tryz.underlying22 hsz (by simp only [Ko,BJ,Dt];split<;>omega)
   (fun j v hj=>by
    rw [Addr.add_lit,hWc,hW1,JB g _ _ _ _ (fun h _=>absurd h hvb)];exact hvs j v hj)
   (fun j hj=>by rw [hWc];exact hsp1 _ (by simp at hj;omega)) (fun j hj=>by rw [hWf,hW1,Gl];exact hfz _) (fun v hv=>by simp at hv;subst hv;exact h1v)
 rw [<-hW1]at hcp1;clear hown hcs hsp hfz hsb hsa hfa hvs hv h1c hgc hcsz hsp1 hsz hcl hdl;go_enter Tryz.func190,Tryz.ntmps190
 go_wp2_with(simp only [hov])
 go_region_law(refine step_copy_runI rfl _ _ 22 22 rfl _ _ (by simp [Act.eval,Act.put]) (by simp [Act.eval,Act.put]) (hcp1 _ _ _) ?_)
 go_wp2_with(at_builtin;refine wpList_copy_runI _ rfl _ _ 22 22 rfl _ _ rfl rfl (hcp2 _ (fun _=>rfl) (fun _=>rfl) _ _) ?_)
 go_ret;exact⟨rfl,rfl⟩
theorem bD(g n c i vb:Nat)(xs:List Value)(u:Value)(w:World)(base:Nat)(hown:w.ownsRow base 28 1 (.slice (some ⟨g,0,none⟩) n c) n xs)(hi:i<n)(hroom:n+1<=c)(hc:c<=9223372036854775807)(hvb:vb≠g)(hv:CG w vb 28 [u])
 (h1c:∀v∈xs,v.oneCell'=true)(h1v:u.oneCell'=true):
 Calls Tryz.prog 191 #[.slice (some ⟨g,0,none⟩) n c,.int .i64 i,.slice (some ⟨vb,0,none⟩) 1 1] w fun e w'=>
  e= .returned (.slice (some ⟨g,0,none⟩) (n+1) c)/\w'=(w.drew.setCells g (i+1) (xs.drop i)).setCells g i [u]:=by
 have hcl:xs.length=n:=by simpa using hown.1
 have hcs:∀j v,xs[j]? =some v->w.cell? ⟨g,j,none⟩=some v:=fun j v h=>by
  rw [hown.cellAt j (by have:=(Cb.1 h).1;omega)];exact h
 have hblk:∃cur:Array Value,w.heap[g]? =some (.cells cur 28 (0,0))/\cur.size=c:=by
  rcases hown.2 with⟨h2,_⟩| ⟨g',cap,cur,hvv,_,hg,_,_,hcs,_⟩
  ·cases h2
  ·simp only [Value.slice.injEq,Option.some.injEq,Addr.mk.injEq,and_true,true_and]at hvv;obtain⟨rfl,rfl⟩:=hvv;exact⟨cur,hg,by omega⟩
 obtain⟨cur,hgc,hcsz⟩:=hblk;have hsp:∀j,j<n+1->(w.cell? ⟨g,j,none⟩).isSome=true:=fun j hj=>by
  rw [cell_of_row w g j _ 28 (0,0) hgc,FH (by omega)];rfl
 have hfz:∀j,w.frozen? ⟨g,j,none⟩=false:=fun j=>by simp [GG,hgc]
 have hsb:w.shape? g=some (28,c):=by simp [Vo,hgc,hcsz]
 have hsa:w.shape? vb=some (28,1):=by unfold CG at hv;simp [Vo,hv]
 have hfa:∀j,w.frozen? ⟨vb,j,none⟩=false:=fun j=>hv.frozen j
 have hvs:∀j v,[u][j]? =some v->w.cell? ⟨vb,0+j,none⟩=some v:=fun j v h=>by rw [hv.cell,Dw];exact h
 have hz2:¬((i:Int)=(n:Int)):=by omega
 have hsz:(Tryz.prog.info? 28).map (·.size)=some 1:=by
  obtain⟨i0,hi0,h0,h1,h2⟩:=info_parts Tryz.Je.hi;rw [hi0];simp [h1]
 have hov:∀lb cb,(callFunc 206 #[.slice (some ⟨vb,0,none⟩) 1 1,.slice (some ⟨g,i+1,none⟩) lb cb]).run Tryz.prog w= .ok (.value (.bool false)) w:=fun lb cb=>by
  rw [run_callFunc_extern Tryz.func206 (by kernel_rfl) (by kernel_rfl) (by kernel_rfl) (e:=Extern.SlicesOverlaps.overlaps #[91,91] #[4]) (by kernel_rfl),
   rH w 91 4 28 Tryz.underlying91 1 Tryz.Je.PE ⟨vb,0,none⟩ ⟨g,i+1,none⟩ 1 1 lb cb hvb 28 28 1 c hsa hsb (by omega) (hfa 0) (hfa 1)]
  rfl
 have hdl:(xs.drop i).length=n-i:=by rw [AV,hcl]
 have hw1:IntKind.i64.wrap ((i:Int)+1)=(i:Int)+1:=by rw [IntKind.wrap_i64];omega
 have hb1:(0:Int)<=(i:Int)+1:=by omega
 have hin:i<=n:=by omega
 have htn:((i:Int)+1).toNat=i+1:=by omega
 have hb2:¬(c=i+1):=by omega
 have hb3:(i:Int)<=(n:Int)+1:=by omega
 have hb4:¬(c=i):=by omega
 have hcp1:∀ty dc sc,(Builtin.copy_ #[91,91] ty #[.slice (some ⟨g,i+1,none⟩) (n-i) dc,.slice (some ⟨g,i,none⟩) (n+1-i) sc]).run Tryz.prog w.drew= .ok (goInt (xs.drop i).length) (w.drew.setCells g (i+1) (xs.drop i)):=fun ty dc sc=>
  run_copy_cells w.drew _ _ ty 28 g (i+1) (n-i) dc ⟨g,i,none⟩ (n+1-i) sc (xs.drop i) Tryz.underlying91 hsz (by rw [hdl];simp only [Ko];split<;>omega)
   (fun j v hj=>by rw [Addr.add_lit];exact hcs (i+j) v (by rwa [Dl]at hj))
   (fun j hj=>hsp _ (by omega)) (fun j hj=>hfz _) (fun v hv=>h1c v (GZ hv))
 obtain⟨W1,hW1⟩:∃W1,W1=w.drew.setCells g (i+1) (xs.drop i):=⟨_,rfl⟩;have hsp1:∀k,k<n+1->(W1.cell? ⟨g,k,none⟩).isSome=true:=fun k hk=>by
  rw [hW1];exact GH g _ _ _ _ (hsp k hk)
 have hcp2:∀(W:World),(∀x,W.cell? x=W1.cell? x)->(∀x,W.frozen? x=W1.frozen? x)->∀ty dc,(Builtin.copy_ #[91,91] ty #[.slice (some ⟨g,i,none⟩) (n+1-i) dc,.slice (some ⟨vb,0,none⟩) 1 1]).run Tryz.prog W= .ok (goInt [u].length) (W.setCells g i [u]):=fun W hWc hWf ty dc=>
  run_copy_cells W _ _ ty 28 g i (n+1-i) dc ⟨vb,0,none⟩ 1 1 [u] Tryz.underlying91 hsz (by simp only [Ko,BJ,Dt];split<;>omega)
   (fun j v hj=>by
    rw [Addr.add_lit,hWc,hW1,JB g _ _ _ _ (fun h _=>absurd h hvb)];exact hvs j v hj)
   (fun j hj=>by rw [hWc];exact hsp1 _ (by simp at hj;omega)) (fun j hj=>by rw [hWf,hW1,Gl];exact hfz _) (fun v hv=>by simp at hv;subst hv;exact h1v)
 rw [<-hW1]at hcp1;clear hown hcs hsp hfz hsb hsa hfa hvs hv h1c hgc hcsz hsp1 hsz hcl hdl;go_enter Tryz.func191,Tryz.ntmps191
 go_wp2_with(simp only [hov])
 go_region_law(refine step_copy_runI rfl _ _ 91 91 rfl _ _ (by simp [Act.eval,Act.put]) (by simp [Act.eval,Act.put]) (hcp1 _ _ _) ?_)
 go_wp2_with(at_builtin;refine wpList_copy_runI _ rfl _ _ 91 91 rfl _ _ rfl rfl (hcp2 _ (fun _=>rfl) (fun _=>rfl) _ _) ?_)
 go_ret;exact⟨rfl,rfl⟩
theorem jl(g n c i vb:Nat)(xs:List Value)(u:Value)(w:World)(base:Nat)(hown:w.ownsRow base 5 1 (.slice (some ⟨g,0,none⟩) n c) n xs)(hi:i<n)(hroom:c<n+1)(hn:n<=1000000)(hv:CG w vb 5 [u])
 (h1c:∀v∈xs,v.oneCell'=true)(h1v:u.oneCell'=true):
 Calls Tryz.prog 190 #[.slice (some ⟨g,0,none⟩) n c,.int .i64 i,.slice (some ⟨vb,0,none⟩) 1 1] w fun e w'=>∃G ROW,n+1<=G/\G<=maxLen/\ROW.size=G/\(∀j,j<i->ROW[j]? =xs[j]?)/\
  e= .returned (.slice (some ⟨w.heap.size,0,none⟩) (n+1) G)/\
  w'=(((w.alloc (.cells ROW 5)).drew.setCells w.heap.size i [u]).drew).setCells w.heap.size (i+1) (xs.drop i):=by
 have hcl:xs.length=n:=by simpa using hown.1
 have hcs:∀j v,xs[j]? =some v->w.cell? ⟨g,j,none⟩=some v:=fun j v h=>by
  rw [hown.cellAt j (by have:=(Cb.1 h).1;omega)];exact h
 have hnc:n<=c:=(CB hown).1;have hvs:∀j v,[u][j]? =some v->w.cell? ⟨vb,0+j,none⟩=some v:=fun j v h=>by rw [hv.cell,Dw];exact h
 have hvw:vb<w.heap.size:=hv.lt;have hbw:g<w.heap.size:=block_lt_of_cell (hcs 0 _ (Af (by omega)));obtain⟨i0,hi0,hz0,hzs,hzb⟩:=info_parts Tryz.Gi.hi;have hz2:¬((i:Int)=(n:Int)):=by omega
 have hz3:(c:Int)<(n:Int)+1:=by omega
 have hsz:(Tryz.prog.info? 5).map (·.size)=some 1:=by rw [hi0];simp [hzs]
 have hkk:(n:Int)+1- (i:Int)=((n+1-i:Nat):Int):=by omega
 have hik:i+(n+1-i)=n+1:=by omega
 have hold:(Builtin.firstCells i0.size i (.slice (some ⟨g,0,none⟩) i c)).run Tryz.prog w.drew= .ok (xs.take i).toArray w.drew:=by
  rw [hzs];exact run_firstCells_some w.drew 1 i ⟨g,0,none⟩ i c (xs.take i) (by rw [DC];omega) (fun j v hj=>by
   rw [Addr.add_lit,Dw];rw [CS]at hj;split at hj
   ·exact hcs j v hj
   ·cases hj)
 have hrz:∀ty,(Builtin.append_ #[22,3] ty #[.slice (some ⟨g,0,none⟩) i c,.int .i64 ((n:Int)+1- (i:Int))]).run Tryz.prog w=
  .ok (.slice (some ⟨w.heap.size,0,none⟩) (n+1) (grownCap w (n+1) c 5)) (w.drew.alloc (.cells ((xs.take i).toArray++Builtin.zeroCells (Au .u8 0).cells (n+1-i)++Builtin.zeroCells (Au .u8 0).cells (grownCap w (n+1) c 5- (n+1))) 5)):=fun ty=>by
  have h:=gI w 22 3 ty 5 i0 _ .i64 .i64 Tryz.underlying22 Tryz.underlying3 hi0 hz0 (some ⟨g,0,none⟩) i c (xs.take i) hold (n+1-i) (by omega) (by omega) (by omega) (by omega) (by rw [hzb];omega) (by rw [hzb,hik];exact growslice_fits hroom (by omega));rw [hik]at h;rw [hkk];exact h
 obtain⟨G,hG⟩:∃G,G=grownCap w (n+1) c 5:=⟨_,rfl⟩;obtain⟨ROW,hROW⟩:∃ROW:Array Value,ROW=(xs.take i).toArray++Builtin.zeroCells (Au .u8 0).cells (n+1-i)++Builtin.zeroCells (Au .u8 0).cells (G- (n+1)):=⟨_,rfl⟩;rw [<-hG]at hrz;rw [<-hROW]at hrz;have hGn:n+1<=G:=by rw [hG];exact grownCap_ge w _ _ _
 have hGm:G<=maxLen:=by rw [hG];exact grownCap_le_maxLen w (n+1) c 5 (by unfold maxLen;omega)
 have hRl:ROW.size=G:=by
  rw [hROW];simp [Builtin.zeroCells,sJ];omega
 have hR0:∀j,j<i->ROW[j]? =xs[j]? :=fun j hj=>by
  rw [hROW,xW,aj (by simp;omega)];simp [hj]
 obtain⟨W1,hW1⟩:∃W1,W1=w.drew.alloc (.cells ROW 5):=⟨_,rfl⟩;rw [<-hW1]at hrz;have hN:∀j,j<n+1->(W1.cell? ⟨w.heap.size,j,none⟩).isSome=true:=fun j hj=>by
  rw [hW1,Ja (w:=w.drew) ROW _ w.heap.size j rfl,FH (by omega)];rfl
 have hNf:∀j,W1.frozen? ⟨w.heap.size,j,none⟩=false:=fun j=>by rw [hW1];exact kH (w:=w.drew) ROW _ w.heap.size j rfl
 have hOb:∀j v,w.cell? ⟨g,j,none⟩=some v->W1.cell? ⟨g,j,none⟩=some v:=fun j v h=>by rw [hW1,CY (w:=w.drew) _ g j hbw];exact h
 have hOv:∀j v,w.cell? ⟨vb,j,none⟩=some v->W1.cell? ⟨vb,j,none⟩=some v:=fun j v h=>by rw [hW1,CY (w:=w.drew) _ vb j hvw];exact h
 have hcpA:∀(W:World),(∀x,W.cell? x=W1.cell? x)->(∀x,W.frozen? x=W1.frozen? x)->∀ty dc,(Builtin.copy_ #[22,22] ty #[.slice (some ⟨w.heap.size,i,none⟩) (n+1-i) dc,.slice (some ⟨vb,0,none⟩) 1 1]).run Tryz.prog W= .ok (goInt [u].length) (W.setCells w.heap.size i [u]):=fun W hWc hWf ty dc=>
  run_copy_cells W _ _ ty 5 w.heap.size i (n+1-i) dc ⟨vb,0,none⟩ 1 1 [u] Tryz.underlying22 hsz (by simp only [Ko,BJ,Dt];split<;>omega)
   (fun j v hj=>by rw [Addr.add_lit,hWc];exact hOv _ v (hvs j v hj))
   (fun j hj=>by rw [hWc];exact hN _ (by simp at hj;omega)) (fun j hj=>by rw [hWf];exact hNf _) (fun v hv=>by simp at hv;subst hv;exact h1v)
 have hG63:G<=9223372036854775807:=by unfold maxLen at hGm;omega
 have hGi:¬(G=i):=by omega
 have hGim:¬(G=i+1):=by omega
 have hci:¬(c=i):=by omega
 have hbN:g≠w.heap.size:=by omega
 have hdl:(xs.drop i).length=n-i:=by rw [AV,hcl]
 have hcpB:∀(W:World),(∀x,W.cell? x=(W1.setCells w.heap.size i [u]).cell? x)->(∀x,W.frozen? x=(W1.setCells w.heap.size i [u]).frozen? x)->∀ty dc sc,(Builtin.copy_ #[22,22] ty #[.slice (some ⟨w.heap.size,i+1,none⟩) (n-i) dc,.slice (some ⟨g,i,none⟩) (n-i) sc]).run Tryz.prog W= .ok (goInt (xs.drop i).length) (W.setCells w.heap.size (i+1) (xs.drop i)):=fun W hWc hWf ty dc sc=>
  run_copy_cells W _ _ ty 5 w.heap.size (i+1) (n-i) dc ⟨g,i,none⟩ (n-i) sc (xs.drop i) Tryz.underlying22 hsz (by rw [hdl];simp only [Ko];split<;>omega)
   (fun j v hj=>by
    rw [Addr.add_lit,hWc,JB _ _ _ _ _ (fun h _=>absurd h hbN)];exact hOb _ v (hcs (i+j) v (by rwa [Dl]at hj)))
   (fun j hj=>by rw [hWc];exact GH _ _ _ _ _ (hN _ (by omega)))
   (fun j hj=>by rw [hWf,Gl];exact hNf _) (fun v hv=>h1c v (GZ hv))
 subst hW1;have hE1:∀x,((w.alloc (.cells ROW 5)).drew).cell? x=(w.drew.alloc (.cells ROW 5)).cell? x:=fun x=>rfl
 have hE2:∀x,((w.alloc (.cells ROW 5)).drew).frozen? x=(w.drew.alloc (.cells ROW 5)).frozen? x:=fun x=>rfl
 have hF1:∀x,(((w.alloc (.cells ROW 5)).drew.setCells w.heap.size i [u]).drew).cell? x=((w.drew.alloc (.cells ROW 5)).setCells w.heap.size i [u]).cell? x:=fun x=>rfl
 have hF2:∀x,(((w.alloc (.cells ROW 5)).drew.setCells w.heap.size i [u]).drew).frozen? x=((w.drew.alloc (.cells ROW 5)).setCells w.heap.size i [u]).frozen? x:=fun x=>rfl
 have hw1:IntKind.i64.wrap ((i:Int)+1)=(i:Int)+1:=by rw [IntKind.wrap_i64];omega
 have hb1:(0:Int)<=(i:Int)+1:=by omega
 have hin:i<=n:=by omega
 have htn:((i:Int)+1).toNat=i+1:=by omega
 have hb3:(i:Int)<=(n:Int):=by omega
 have At7:i<=c:=by omega
 refine Calls.mono (R:=fun e w'=>e= .returned (.slice (some ⟨w.heap.size,0,none⟩) (n+1) G)/\w'=(((w.alloc (.cells ROW 5)).drew.setCells w.heap.size i [u]).drew).setCells w.heap.size (i+1) (xs.drop i)) ?_ (fun e w' h=>⟨G,ROW,hGn,hGm,hRl,hR0,h⟩);clear hkk hik hold hROW hG hRl hR0 hown hcs hnc hvs hv h1c hN hNf hOb hOv hi0 hz0 hzs hzb hsz hcl hdl hGm;go_enter Tryz.func190,Tryz.ntmps190
 go_wp2_with(first
  | (at_builtin;refine FP _ rfl _ _ _ _ rfl _ _ rfl rfl _ _ (hrz _) ?_)
  | (at_builtin;refine wpList_copy_runI _ rfl _ _ 22 22 rfl _ _ rfl rfl (hcpA _ hE1 hE2 _ _) ?_)
  | (at_builtin;refine wpList_copy_runI _ rfl _ _ 22 22 rfl _ _ rfl rfl (hcpB _ (fun _=>rfl) (fun _=>rfl) _ _ _) ?_))
 go_region_law(refine step_copy_runI rfl _ _ 22 22 rfl (.slice (some ⟨w.heap.size,i+1,none⟩) (n-i) (G- (i+1))) (.slice (some ⟨g,i,none⟩) (n-i) (c-i)) (by simp [Act.eval,Act.put]) (by simp [Act.eval,Act.put]) (hcpB _ hF1 hF2 3 (G- (i+1)) (c-i)) ?_)
 go_wp2;go_ret;exact⟨rfl,rfl⟩
theorem jo(g n c i vb:Nat)(xs:List Value)(u:Value)(w:World)(base:Nat)(hown:w.ownsRow base 28 1 (.slice (some ⟨g,0,none⟩) n c) n xs)(hi:i<n)(hroom:c<n+1)(hn:n<=1000000)(hv:CG w vb 28 [u])
 (h1c:∀v∈xs,v.oneCell'=true)(h1v:u.oneCell'=true):
 Calls Tryz.prog 191 #[.slice (some ⟨g,0,none⟩) n c,.int .i64 i,.slice (some ⟨vb,0,none⟩) 1 1] w fun e w'=>∃G ROW,n+1<=G/\G<=maxLen/\ROW.size=G/\(∀j,j<i->ROW[j]? =xs[j]?)/\
  e= .returned (.slice (some ⟨w.heap.size,0,none⟩) (n+1) G)/\
  w'=(((w.alloc (.cells ROW 28)).drew.setCells w.heap.size i [u]).drew).setCells w.heap.size (i+1) (xs.drop i):=by
 have hcl:xs.length=n:=by simpa using hown.1
 have hcs:∀j v,xs[j]? =some v->w.cell? ⟨g,j,none⟩=some v:=fun j v h=>by
  rw [hown.cellAt j (by have:=(Cb.1 h).1;omega)];exact h
 have hnc:n<=c:=(CB hown).1;have hvs:∀j v,[u][j]? =some v->w.cell? ⟨vb,0+j,none⟩=some v:=fun j v h=>by rw [hv.cell,Dw];exact h
 have hvw:vb<w.heap.size:=hv.lt;have hbw:g<w.heap.size:=block_lt_of_cell (hcs 0 _ (Af (by omega)));obtain⟨i0,hi0,hz0,hzs,hzb⟩:=info_parts Tryz.Je.hi;have hz2:¬((i:Int)=(n:Int)):=by omega
 have hz3:(c:Int)<(n:Int)+1:=by omega
 have hsz:(Tryz.prog.info? 28).map (·.size)=some 1:=by rw [hi0];simp [hzs]
 have hkk:(n:Int)+1- (i:Int)=((n+1-i:Nat):Int):=by omega
 have hik:i+(n+1-i)=n+1:=by omega
 have hold:(Builtin.firstCells i0.size i (.slice (some ⟨g,0,none⟩) i c)).run Tryz.prog w.drew= .ok (xs.take i).toArray w.drew:=by
  rw [hzs];exact run_firstCells_some w.drew 1 i ⟨g,0,none⟩ i c (xs.take i) (by rw [DC];omega) (fun j v hj=>by
   rw [Addr.add_lit,Dw];rw [CS]at hj;split at hj
   ·exact hcs j v hj
   ·cases hj)
 have hrz:∀ty,(Builtin.append_ #[91,3] ty #[.slice (some ⟨g,0,none⟩) i c,.int .i64 ((n:Int)+1- (i:Int))]).run Tryz.prog w=
  .ok (.slice (some ⟨w.heap.size,0,none⟩) (n+1) (grownCap w (n+1) c 28)) (w.drew.alloc (.cells ((xs.take i).toArray++Builtin.zeroCells (Au .u64 0).cells (n+1-i)++Builtin.zeroCells (Au .u64 0).cells (grownCap w (n+1) c 28- (n+1))) 28)):=fun ty=>by
  have h:=gI w 91 3 ty 28 i0 _ .i64 .i64 Tryz.underlying91 Tryz.underlying3 hi0 hz0 (some ⟨g,0,none⟩) i c (xs.take i) hold (n+1-i) (by omega) (by omega) (by omega) (by omega) (by rw [hzb];omega) (by rw [hzb,hik];exact growslice_fits hroom (by omega));rw [hik]at h;rw [hkk];exact h
 obtain⟨G,hG⟩:∃G,G=grownCap w (n+1) c 28:=⟨_,rfl⟩;obtain⟨ROW,hROW⟩:∃ROW:Array Value,ROW=(xs.take i).toArray++Builtin.zeroCells (Au .u64 0).cells (n+1-i)++Builtin.zeroCells (Au .u64 0).cells (G- (n+1)):=⟨_,rfl⟩;rw [<-hG]at hrz;rw [<-hROW]at hrz;have hGn:n+1<=G:=by rw [hG];exact grownCap_ge w _ _ _
 have hGm:G<=maxLen:=by rw [hG];exact grownCap_le_maxLen w (n+1) c 28 (by unfold maxLen;omega)
 have hRl:ROW.size=G:=by
  rw [hROW];simp [Builtin.zeroCells,sJ];omega
 have hR0:∀j,j<i->ROW[j]? =xs[j]? :=fun j hj=>by
  rw [hROW,xW,aj (by simp;omega)];simp [hj]
 obtain⟨W1,hW1⟩:∃W1,W1=w.drew.alloc (.cells ROW 28):=⟨_,rfl⟩;rw [<-hW1]at hrz;have hN:∀j,j<n+1->(W1.cell? ⟨w.heap.size,j,none⟩).isSome=true:=fun j hj=>by
  rw [hW1,Ja (w:=w.drew) ROW _ w.heap.size j rfl,FH (by omega)];rfl
 have hNf:∀j,W1.frozen? ⟨w.heap.size,j,none⟩=false:=fun j=>by rw [hW1];exact kH (w:=w.drew) ROW _ w.heap.size j rfl
 have hOb:∀j v,w.cell? ⟨g,j,none⟩=some v->W1.cell? ⟨g,j,none⟩=some v:=fun j v h=>by rw [hW1,CY (w:=w.drew) _ g j hbw];exact h
 have hOv:∀j v,w.cell? ⟨vb,j,none⟩=some v->W1.cell? ⟨vb,j,none⟩=some v:=fun j v h=>by rw [hW1,CY (w:=w.drew) _ vb j hvw];exact h
 have hcpA:∀(W:World),(∀x,W.cell? x=W1.cell? x)->(∀x,W.frozen? x=W1.frozen? x)->∀ty dc,(Builtin.copy_ #[91,91] ty #[.slice (some ⟨w.heap.size,i,none⟩) (n+1-i) dc,.slice (some ⟨vb,0,none⟩) 1 1]).run Tryz.prog W= .ok (goInt [u].length) (W.setCells w.heap.size i [u]):=fun W hWc hWf ty dc=>
  run_copy_cells W _ _ ty 28 w.heap.size i (n+1-i) dc ⟨vb,0,none⟩ 1 1 [u] Tryz.underlying91 hsz (by simp only [Ko,BJ,Dt];split<;>omega)
   (fun j v hj=>by rw [Addr.add_lit,hWc];exact hOv _ v (hvs j v hj))
   (fun j hj=>by rw [hWc];exact hN _ (by simp at hj;omega)) (fun j hj=>by rw [hWf];exact hNf _) (fun v hv=>by simp at hv;subst hv;exact h1v)
 have hG63:G<=9223372036854775807:=by unfold maxLen at hGm;omega
 have hGi:¬(G=i):=by omega
 have hGim:¬(G=i+1):=by omega
 have hci:¬(c=i):=by omega
 have hbN:g≠w.heap.size:=by omega
 have hdl:(xs.drop i).length=n-i:=by rw [AV,hcl]
 have hcpB:∀(W:World),(∀x,W.cell? x=(W1.setCells w.heap.size i [u]).cell? x)->(∀x,W.frozen? x=(W1.setCells w.heap.size i [u]).frozen? x)->∀ty dc sc,(Builtin.copy_ #[91,91] ty #[.slice (some ⟨w.heap.size,i+1,none⟩) (n-i) dc,.slice (some ⟨g,i,none⟩) (n-i) sc]).run Tryz.prog W= .ok (goInt (xs.drop i).length) (W.setCells w.heap.size (i+1) (xs.drop i)):=fun W hWc hWf ty dc sc=>
  run_copy_cells W _ _ ty 28 w.heap.size (i+1) (n-i) dc ⟨g,i,none⟩ (n-i) sc (xs.drop i) Tryz.underlying91 hsz (by rw [hdl];simp only [Ko];split<;>omega)
   (fun j v hj=>by
    rw [Addr.add_lit,hWc,JB _ _ _ _ _ (fun h _=>absurd h hbN)];exact hOb _ v (hcs (i+j) v (by rwa [Dl]at hj)))
   (fun j hj=>by rw [hWc];exact GH _ _ _ _ _ (hN _ (by omega)))
   (fun j hj=>by rw [hWf,Gl];exact hNf _) (fun v hv=>h1c v (GZ hv))
 subst hW1;have hE1:∀x,((w.alloc (.cells ROW 28)).drew).cell? x=(w.drew.alloc (.cells ROW 28)).cell? x:=fun x=>rfl
 have hE2:∀x,((w.alloc (.cells ROW 28)).drew).frozen? x=(w.drew.alloc (.cells ROW 28)).frozen? x:=fun x=>rfl
 have hF1:∀x,(((w.alloc (.cells ROW 28)).drew.setCells w.heap.size i [u]).drew).cell? x=((w.drew.alloc (.cells ROW 28)).setCells w.heap.size i [u]).cell? x:=fun x=>rfl
 have hF2:∀x,(((w.alloc (.cells ROW 28)).drew.setCells w.heap.size i [u]).drew).frozen? x=((w.drew.alloc (.cells ROW 28)).setCells w.heap.size i [u]).frozen? x:=fun x=>rfl
 have hw1:IntKind.i64.wrap ((i:Int)+1)=(i:Int)+1:=by rw [IntKind.wrap_i64];omega
 have hb1:(0:Int)<=(i:Int)+1:=by omega
 have hin:i<=n:=by omega
 have htn:((i:Int)+1).toNat=i+1:=by omega
 have hb3:(i:Int)<=(n:Int):=by omega
 have At7:i<=c:=by omega
 refine Calls.mono (R:=fun e w'=>e= .returned (.slice (some ⟨w.heap.size,0,none⟩) (n+1) G)/\w'=(((w.alloc (.cells ROW 28)).drew.setCells w.heap.size i [u]).drew).setCells w.heap.size (i+1) (xs.drop i)) ?_ (fun e w' h=>⟨G,ROW,hGn,hGm,hRl,hR0,h⟩);clear hkk hik hold hROW hG hRl hR0 hown hcs hnc hvs hv h1c hN hNf hOb hOv hi0 hz0 hzs hzb hsz hcl hdl hGm;go_enter Tryz.func191,Tryz.ntmps191
 go_wp2_with(first
  | (at_builtin;refine FP _ rfl _ _ _ _ rfl _ _ rfl rfl _ _ (hrz _) ?_)
  | (at_builtin;refine wpList_copy_runI _ rfl _ _ 91 91 rfl _ _ rfl rfl (hcpA _ hE1 hE2 _ _) ?_)
  | (at_builtin;refine wpList_copy_runI _ rfl _ _ 91 91 rfl _ _ rfl rfl (hcpB _ (fun _=>rfl) (fun _=>rfl) _ _ _) ?_))
 go_region_law(refine step_copy_runI rfl _ _ 91 91 rfl (.slice (some ⟨w.heap.size,i+1,none⟩) (n-i) (G- (i+1))) (.slice (some ⟨g,i,none⟩) (n-i) (c-i)) (by simp [Act.eval,Act.put]) (by simp [Act.eval,Act.put]) (hcpB _ hF1 hF2 3 (G- (i+1)) (c-i)) ?_)
 go_wp2;go_ret;exact⟨rfl,rfl⟩
theorem o6(v:Value)(n i vb:Nat)(xs:List Value)(u:Value)(w:World)(base:Nat)(hown:w.ownsRow base 5 1 v n xs)(hbase:base<=w.heap.size)(hi:i<=n)(hn:n<=1000000)(hvb:v.ownBlock≠some vb)(hv:CG w vb 5 [u])
 (h1c:∀v∈xs,v.oneCell'=true)(h1v:u.oneCell'=true):
 Calls Tryz.prog 190 #[v,.int .i64 i,.slice (some ⟨vb,0,none⟩) 1 1] w fun e w'=>∃v',e= .returned v'/\w'.ownsRow base 5 1 v' (n+1) (UA xs i u)/\Below base w w'/\Kept w w' v.ownBlock:=by
 have hcl:xs.length=n:=by simpa using hown.1
 by_cases hin:i=n
 ·subst hin;have hrd:Rd w (some ⟨vb,0,none⟩) 1 [u]:=hv.rd;have happ:=TM Tryz.Gi 22 hown hrd (fun y hy=>by simp at hy;subst hy;exact h1v) (by omega) (by decide) hbase 1;obtain⟨v',w',hrun,hown',hb',hk'⟩:=happ;have Aft:Hid (UA xs i u=xs++[u]):=Lib.hid (by unfold UA;rw [FK (by omega),QL (by omega)]);rcases hown.2 with⟨rfl,rfl⟩| ⟨g,cap,cur,rfl, -, -,hnc,hcm, -⟩
  ·clear hown hcl hv hrd h1c;go_enter Tryz.func190,Tryz.ntmps190
   go_wp2_with(at_builtin;refine FP _ rfl _ _ _ _ rfl _ _ rfl rfl _ _ hrun ?_)
   go_ret;exact⟨v',rfl,by rw [Aft.out];exact hown',hb',hk'⟩
  ·clear hown hcl hv hrd h1c hcm;go_enter Tryz.func190,Tryz.ntmps190
   go_wp2_with(at_builtin;refine FP _ rfl _ _ _ _ rfl _ _ rfl rfl _ _ hrun ?_)
   all_goals
    go_ret;exact⟨v',rfl,by rw [Aft.out];exact hown',hb',hk'⟩
 ·rcases id hown.2 with⟨rfl,rfl⟩| ⟨g,cap,cur,rfl,hbg,hg,hnc,hcm,_⟩
  ·omega
  ·have hgw:g<w.heap.size:=(AB.1 hg).1;by_cases hroom:n+1<=cap
   ·refine(bC g n cap i vb xs u w base hown (by omega) hroom (by unfold maxLen at hcm;omega) (fun h=>hvb (by rw [h];rfl)) hv h1c h1v).mono ?_;rintro e w'⟨rfl,rfl⟩;have hk:Kept w ((w.drew.setCells g (i+1) (xs.drop i)).setCells g i [u]) (some g):=((Kept.refl w (some g)).drew.setCells _ _).setCells _ _;refine⟨_,rfl,cZ (w:=w.drew) (show w.drew.ownsRow base 5 1 _ n xs from hown) (by omega) hroom,hk.below hbase ?_ ?_ ?_ (fun g' e=>by injection e with e;omega),hk⟩
    ·rw [EN,EN];rfl
    ·rw [DZ,DZ];rfl
    ·rw [D8,D8];rfl
   ·refine(jl g n cap i vb xs u w base hown (by omega) (by omega) hn hv h1c h1v).mono ?_;rintro e w'⟨G,ROW,hG,hGm,hR,hR0,rfl,rfl⟩;have ho:=df (e:=5) (u:=u) (zs:=xs.drop i) ROW hbase (by omega) (by omega) hGm hR hR0 rfl;rw [hcl]at ho;have hk:Kept w ((((w.alloc (.cells ROW 5)).drew.setCells w.heap.size i [u]).drew).setCells w.heap.size (i+1) (xs.drop i)) none:=by
     refine⟨?_,fun k hk _=> ?_⟩
     ·rw [setCells_size,show∀W:World,W.drew.heap.size=W.heap.size from fun _=>rfl,setCells_size];show w.heap.size<=(w.heap.push _).size;simp
     ·rw [IU _ _ _ _ (by omega),show∀W:World,W.drew.heap=W.heap from fun _=>rfl,IU _ _ _ _ (by omega)];show(w.heap.push _)[k]? =_;rw [FD,if_neg (by omega)]
    refine⟨_,rfl,ho,hk.below hbase ?_ ?_ ?_ (fun g' e=>by cases e),hk.1,fun k hk' _=>hk.2 k hk' (by simp)⟩
    ·rw [EN,show∀W:World,W.drew.os=W.os from fun _=>rfl,EN];rfl
    ·rw [DZ,show∀W:World,W.drew.tape=W.tape from fun _=>rfl,DZ];rfl
    ·rw [D8,show∀W:World,W.drew.output=W.output from fun _=>rfl,D8];rfl
theorem oC(v:Value)(n i vb:Nat)(xs:List Value)(u:Value)(w:World)(base:Nat)(hown:w.ownsRow base 28 1 v n xs)(hbase:base<=w.heap.size)(hi:i<=n)(hn:n<=1000000)(hvb:v.ownBlock≠some vb)(hv:CG w vb 28 [u])
 (h1c:∀v∈xs,v.oneCell'=true)(h1v:u.oneCell'=true):
 Calls Tryz.prog 191 #[v,.int .i64 i,.slice (some ⟨vb,0,none⟩) 1 1] w fun e w'=>∃v',e= .returned v'/\w'.ownsRow base 28 1 v' (n+1) (UA xs i u)/\Below base w w'/\Kept w w' v.ownBlock:=by
 have hcl:xs.length=n:=by simpa using hown.1
 by_cases hin:i=n
 ·subst hin;have hrd:Rd w (some ⟨vb,0,none⟩) 1 [u]:=hv.rd;have happ:=TM Tryz.Je 91 hown hrd (fun y hy=>by simp at hy;subst hy;exact h1v) (by omega) (by decide) hbase 1;obtain⟨v',w',hrun,hown',hb',hk'⟩:=happ;have Aft:Hid (UA xs i u=xs++[u]):=Lib.hid (by unfold UA;rw [FK (by omega),QL (by omega)]);rcases hown.2 with⟨rfl,rfl⟩| ⟨g,cap,cur,rfl, -, -,hnc,hcm, -⟩
  ·clear hown hcl hv hrd h1c;go_enter Tryz.func191,Tryz.ntmps191
   go_wp2_with(at_builtin;refine FP _ rfl _ _ _ _ rfl _ _ rfl rfl _ _ hrun ?_)
   go_ret;exact⟨v',rfl,by rw [Aft.out];exact hown',hb',hk'⟩
  ·clear hown hcl hv hrd h1c hcm;go_enter Tryz.func191,Tryz.ntmps191
   go_wp2_with(at_builtin;refine FP _ rfl _ _ _ _ rfl _ _ rfl rfl _ _ hrun ?_)
   all_goals
    go_ret;exact⟨v',rfl,by rw [Aft.out];exact hown',hb',hk'⟩
 ·rcases id hown.2 with⟨rfl,rfl⟩| ⟨g,cap,cur,rfl,hbg,hg,hnc,hcm,_⟩
  ·omega
  ·have hgw:g<w.heap.size:=(AB.1 hg).1;by_cases hroom:n+1<=cap
   ·refine(bD g n cap i vb xs u w base hown (by omega) hroom (by unfold maxLen at hcm;omega) (fun h=>hvb (by rw [h];rfl)) hv h1c h1v).mono ?_;rintro e w'⟨rfl,rfl⟩;have hk:Kept w ((w.drew.setCells g (i+1) (xs.drop i)).setCells g i [u]) (some g):=((Kept.refl w (some g)).drew.setCells _ _).setCells _ _;refine⟨_,rfl,cZ (w:=w.drew) (show w.drew.ownsRow base 28 1 _ n xs from hown) (by omega) hroom,hk.below hbase ?_ ?_ ?_ (fun g' e=>by injection e with e;omega),hk⟩
    ·rw [EN,EN];rfl
    ·rw [DZ,DZ];rfl
    ·rw [D8,D8];rfl
   ·refine(jo g n cap i vb xs u w base hown (by omega) (by omega) hn hv h1c h1v).mono ?_;rintro e w'⟨G,ROW,hG,hGm,hR,hR0,rfl,rfl⟩;have ho:=df (e:=28) (u:=u) (zs:=xs.drop i) ROW hbase (by omega) (by omega) hGm hR hR0 rfl;rw [hcl]at ho;have hk:Kept w ((((w.alloc (.cells ROW 28)).drew.setCells w.heap.size i [u]).drew).setCells w.heap.size (i+1) (xs.drop i)) none:=by
     refine⟨?_,fun k hk _=> ?_⟩
     ·rw [setCells_size,show∀W:World,W.drew.heap.size=W.heap.size from fun _=>rfl,setCells_size];show w.heap.size<=(w.heap.push _).size;simp
     ·rw [IU _ _ _ _ (by omega),show∀W:World,W.drew.heap=W.heap from fun _=>rfl,IU _ _ _ _ (by omega)];show(w.heap.push _)[k]? =_;rw [FD,if_neg (by omega)]
    refine⟨_,rfl,ho,hk.below hbase ?_ ?_ ?_ (fun g' e=>by cases e),hk.1,fun k hk' _=>hk.2 k hk' (by simp)⟩
    ·rw [EN,show∀W:World,W.drew.os=W.os from fun _=>rfl,EN];rfl
    ·rw [DZ,show∀W:World,W.drew.tape=W.tape from fun _=>rfl,DZ];rfl
    ·rw [D8,show∀W:World,W.drew.output=W.output from fun _=>rfl,D8];rfl
theorem jq(g n c i:Nat)(xs:List Value)(w:World)(base:Nat)(hown:w.ownsRow base 5 1 (.slice (some ⟨g,0,none⟩) n c) n xs)(hi:i<n)(hn:n<=1000000)(hc:c<=9223372036854775807)(h1c:∀v∈xs,v.oneCell'=true):
 Calls Tryz.prog 186 #[.slice (some ⟨g,0,none⟩) n c,.int .i64 i,.int .i64 ((i:Int)+1)] w fun e w'=>
  e= .returned (.slice (some ⟨g,0,none⟩) (n-1) c)/\w'=(w.drew.setCells g i (xs.drop (i+1))).setCells g (n-1) [.int .u8 0]:=by
 have hcl:xs.length=n:=by simpa using hown.1
 have hcs:∀j v,xs[j]? =some v->w.cell? ⟨g,j,none⟩=some v:=fun j v h=>by
  rw [hown.cellAt j (by have:=(Cb.1 h).1;omega)];exact h
 have hnc:n<=c:=(CB hown).1;have hblk:∃cur:Array Value,w.heap[g]? =some (.cells cur 5 (0,0))/\cur.size=c:=by
  rcases hown.2 with⟨h2,_⟩| ⟨g',cap,cur,hvv,_,hg,_,_,hcs,_⟩
  ·cases h2
  ·simp only [Value.slice.injEq,Option.some.injEq,Addr.mk.injEq,and_true,true_and]at hvv;obtain⟨rfl,rfl⟩:=hvv;exact⟨cur,hg,by omega⟩
 obtain⟨cur,hgc,hcsz⟩:=hblk;have hsp:∀j,j<n->(w.cell? ⟨g,j,none⟩).isSome=true:=fun j hj=>by
  rw [cell_of_row w g j _ 5 (0,0) hgc,FH (by omega)];rfl
 have hfz:∀j,w.frozen? ⟨g,j,none⟩=false:=fun j=>by simp [GG,hgc]
 obtain⟨i0,hi0,hz0,hzs,hzb⟩:=info_parts Tryz.Gi.hi;obtain⟨news,hnews⟩:∃news,news=xs.drop (i+1):=⟨_,rfl⟩;have hlen:news.length=n- (i+1):=by rw [hnews,AV,hcl]
 obtain⟨A,hA,hsrc⟩:∃A:Addr,(if c=i+1 then some (⟨g,0,none⟩:Addr)else some ⟨g,i+1,none⟩)=some A/\Hid (∀t u,news[t]? =some u->w.drew.cell? (A.add t)=some u):=by
  by_cases h:c=i+1
  ·refine⟨⟨g,0,none⟩,by simp [h],fun t u hu=> ?_⟩;rw [kJ.1 (show news.length=0 by omega)]at hu;simp at hu
  ·refine⟨⟨g,i+1,none⟩,by simp [h],fun t u hu=> ?_⟩;rw [Addr.add_lit];refine hcs (i+1+t) u ?_;rw [hnews,Dl]at hu;exact hu
 have s1:Hid (news.length=(n- (i+1))*1):=by rw [KG];exact hlen
 have s2:Hid (∀u∈news,u.oneCell'=true):=by
  intro u hu;rw [hnews]at hu;exact h1c u (GZ hu)
 have s3:Hid (∀t,t<news.length->(w.drew.cell? ⟨g,0+i*1+t,none⟩).isSome=true/\w.drew.frozen? ⟨g,0+i*1+t,none⟩=false):=by
  intro t ht;rw [KG,Dw];exact⟨hsp (i+t) (by omega),hfz _⟩
 obtain⟨W1,hW1⟩:∃W1,W1=w.drew.setCells g (0+i*1) news:=⟨_,rfl⟩;have At8:∀ty,(Builtin.clear_ #[22] ty #[.slice (some ⟨g,i+(n- (i+1)),none⟩) (n- (i+(n- (i+1)))) (c- (i+(n- (i+1))))]).run Tryz.prog W1= .ok (.tuple #[]) (W1.setCells g (i+(n- (i+1))) (BB (n- (i+(n- (i+1)))) (.int .u8 0))):=
  fun ty=>Aaf W1 _ _ ty _ Tryz.underlying22 Tryz.zeroValue5 rfl rfl g (i+(n- (i+1))) _ _ (by omega) (fun t ht=>by rw [hW1];exact GH _ _ _ _ _ (hsp _ (by omega))) (fun t ht=>by rw [hW1,Gl];exact hfz _)
 have hW:Hid (W1=w.drew.setCells g (0+i*1) news):=hW1;have hN:Hid (news=xs.drop (i+1)):=hnews;have hL:Hid (i+(n- (i+1))=n-1):=by show i+(n- (i+1))=n-1;omega
 have hL1:Hid (n- (i+(n- (i+1)))=1):=by show n- (i+(n- (i+1)))=1;omega
 have hic:i<=c:=by omega
 have hjc:i+1<=c:=by omega
 have hw1:IntKind.i64.wrap ((i:Int)+1)=(i:Int)+1:=by rw [IntKind.wrap_i64];omega
 have hb1:(0:Int)<=(i:Int)+1:=by omega
 have htn:((i:Int)+1).toNat=i+1:=by omega
 have hz2:((i:Int)==(i:Int)+1)=false:=by rw [beq_eq_false_iff_ne];omega
 have hb3:(i:Int)+1<=(n:Int):=by omega
 have hb4:(i:Int)<=(i:Int)+1:=by omega
 have hb5:(n:Int)<=(c:Int):=by omega
 clear hW1 hown hcs hsp hfz hgc hcsz hnews hlen h1c hcl;go_enter Tryz.func186,Tryz.ntmps186
 go_wp2_with fail
 go_region_law(refine step_append_room rfl (.tmp 22) (.tmp 25) 22 rfl 5 i0 1 Tryz.underlying22 hi0 hzs g 0 i c (by simp [Act.eval,Act.put]) A (n- (i+1)) (c- (i+1)) news (by simp [Act.eval,Act.put]) s1.out hsrc.out s2.out (by omega) s3.out ?_;rw [<-hW.out])
 go_wp2;go_ret;refine⟨by rw [<-hL.out];rfl,?_⟩;rw [<-hL.out,<-hN.out,hW.out,hL1.out,Dw,KG];rfl
theorem oD(v:Value)(n i:Nat)(xs:List Value)(w:World)(base:Nat)(hown:w.ownsRow base 5 1 v n xs)(hbase:base<=w.heap.size)(hi:i<n)(hn:n<=1000000)(h1c:∀v∈xs,v.oneCell'=true):
 Calls Tryz.prog 186 #[v,.int .i64 i,.int .i64 ((i:Int)+1)] w fun e w'=>∃v',e= .returned v'/\w'.ownsRow base 5 1 v' (n-1) (iw xs i)/\Below base w w'/\Kept w w' v.ownBlock:=by
 rcases id hown.2 with⟨rfl,rfl⟩| ⟨g,cap,cur,rfl,hbg,hg,hnc,hcm,_⟩
 ·omega
 ·refine(jq g n cap i xs w base hown hi hn (by unfold maxLen at hcm;omega) h1c).mono ?_;rintro e w'⟨rfl,rfl⟩;have hk:Kept w ((w.drew.setCells g i (xs.drop (i+1))).setCells g (n-1) [.int .u8 0]) (some g):=((Kept.refl w (some g)).drew.setCells _ _).setCells _ _;refine⟨_,rfl,WU (w:=w.drew) (show w.drew.ownsRow base 5 1 _ n xs from hown) hi rfl,hk.below hbase ?_ ?_ ?_ (fun g' e=>by injection e with e;omega),hk⟩
  ·rw [EN,EN];rfl
  ·rw [DZ,DZ];rfl
  ·rw [D8,D8];rfl
theorem jr(g n c i:Nat)(xs:List Value)(w:World)(base:Nat)(hown:w.ownsRow base 28 1 (.slice (some ⟨g,0,none⟩) n c) n xs)(hi:i<n)(hn:n<=1000000)(hc:c<=9223372036854775807)(h1c:∀v∈xs,v.oneCell'=true):
 Calls Tryz.prog 187 #[.slice (some ⟨g,0,none⟩) n c,.int .i64 i,.int .i64 ((i:Int)+1)] w fun e w'=>
  e= .returned (.slice (some ⟨g,0,none⟩) (n-1) c)/\w'=(w.drew.setCells g i (xs.drop (i+1))).setCells g (n-1) [.int .u64 0]:=by
 have hcl:xs.length=n:=by simpa using hown.1
 have hcs:∀j v,xs[j]? =some v->w.cell? ⟨g,j,none⟩=some v:=fun j v h=>by
  rw [hown.cellAt j (by have:=(Cb.1 h).1;omega)];exact h
 have hnc:n<=c:=(CB hown).1;have hblk:∃cur:Array Value,w.heap[g]? =some (.cells cur 28 (0,0))/\cur.size=c:=by
  rcases hown.2 with⟨h2,_⟩| ⟨g',cap,cur,hvv,_,hg,_,_,hcs,_⟩
  ·cases h2
  ·simp only [Value.slice.injEq,Option.some.injEq,Addr.mk.injEq,and_true,true_and]at hvv;obtain⟨rfl,rfl⟩:=hvv;exact⟨cur,hg,by omega⟩
 obtain⟨cur,hgc,hcsz⟩:=hblk;have hsp:∀j,j<n->(w.cell? ⟨g,j,none⟩).isSome=true:=fun j hj=>by
  rw [cell_of_row w g j _ 28 (0,0) hgc,FH (by omega)];rfl
 have hfz:∀j,w.frozen? ⟨g,j,none⟩=false:=fun j=>by simp [GG,hgc]
 obtain⟨i0,hi0,hz0,hzs,hzb⟩:=info_parts Tryz.Je.hi;obtain⟨news,hnews⟩:∃news,news=xs.drop (i+1):=⟨_,rfl⟩;have hlen:news.length=n- (i+1):=by rw [hnews,AV,hcl]
 obtain⟨A,hA,hsrc⟩:∃A:Addr,(if c=i+1 then some (⟨g,0,none⟩:Addr)else some ⟨g,i+1,none⟩)=some A/\Hid (∀t u,news[t]? =some u->w.drew.cell? (A.add t)=some u):=by
  by_cases h:c=i+1
  ·refine⟨⟨g,0,none⟩,by simp [h],fun t u hu=> ?_⟩;rw [kJ.1 (show news.length=0 by omega)]at hu;simp at hu
  ·refine⟨⟨g,i+1,none⟩,by simp [h],fun t u hu=> ?_⟩;rw [Addr.add_lit];refine hcs (i+1+t) u ?_;rw [hnews,Dl]at hu;exact hu
 have s1:Hid (news.length=(n- (i+1))*1):=by rw [KG];exact hlen
 have s2:Hid (∀u∈news,u.oneCell'=true):=by
  intro u hu;rw [hnews]at hu;exact h1c u (GZ hu)
 have s3:Hid (∀t,t<news.length->(w.drew.cell? ⟨g,0+i*1+t,none⟩).isSome=true/\w.drew.frozen? ⟨g,0+i*1+t,none⟩=false):=by
  intro t ht;rw [KG,Dw];exact⟨hsp (i+t) (by omega),hfz _⟩
 obtain⟨W1,hW1⟩:∃W1,W1=w.drew.setCells g (0+i*1) news:=⟨_,rfl⟩;have At8:∀ty,(Builtin.clear_ #[91] ty #[.slice (some ⟨g,i+(n- (i+1)),none⟩) (n- (i+(n- (i+1)))) (c- (i+(n- (i+1))))]).run Tryz.prog W1= .ok (.tuple #[]) (W1.setCells g (i+(n- (i+1))) (BB (n- (i+(n- (i+1)))) (.int .u64 0))):=
  fun ty=>Aaf W1 _ _ ty _ Tryz.underlying91 Tryz.zeroValue28 rfl rfl g (i+(n- (i+1))) _ _ (by omega) (fun t ht=>by rw [hW1];exact GH _ _ _ _ _ (hsp _ (by omega))) (fun t ht=>by rw [hW1,Gl];exact hfz _)
 have hW:Hid (W1=w.drew.setCells g (0+i*1) news):=hW1;have hN:Hid (news=xs.drop (i+1)):=hnews;have hL:Hid (i+(n- (i+1))=n-1):=by show i+(n- (i+1))=n-1;omega
 have hL1:Hid (n- (i+(n- (i+1)))=1):=by show n- (i+(n- (i+1)))=1;omega
 have hic:i<=c:=by omega
 have hjc:i+1<=c:=by omega
 have hw1:IntKind.i64.wrap ((i:Int)+1)=(i:Int)+1:=by rw [IntKind.wrap_i64];omega
 have hb1:(0:Int)<=(i:Int)+1:=by omega
 have htn:((i:Int)+1).toNat=i+1:=by omega
 have hz2:((i:Int)==(i:Int)+1)=false:=by rw [beq_eq_false_iff_ne];omega
 have hb3:(i:Int)+1<=(n:Int):=by omega
 have hb4:(i:Int)<=(i:Int)+1:=by omega
 have hb5:(n:Int)<=(c:Int):=by omega
 clear hW1 hown hcs hsp hfz hgc hcsz hnews hlen h1c hcl;go_enter Tryz.func187,Tryz.ntmps187
 go_wp2_with fail
 go_region_law(refine step_append_room rfl (.tmp 22) (.tmp 25) 91 rfl 28 i0 1 Tryz.underlying91 hi0 hzs g 0 i c (by simp [Act.eval,Act.put]) A (n- (i+1)) (c- (i+1)) news (by simp [Act.eval,Act.put]) s1.out hsrc.out s2.out (by omega) s3.out ?_;rw [<-hW.out])
 go_wp2;go_ret;refine⟨by rw [<-hL.out];rfl,?_⟩;rw [<-hL.out,<-hN.out,hW.out,hL1.out,Dw,KG];rfl
theorem oG(v:Value)(n i:Nat)(xs:List Value)(w:World)(base:Nat)(hown:w.ownsRow base 28 1 v n xs)(hbase:base<=w.heap.size)(hi:i<n)(hn:n<=1000000)(h1c:∀v∈xs,v.oneCell'=true):
 Calls Tryz.prog 187 #[v,.int .i64 i,.int .i64 ((i:Int)+1)] w fun e w'=>∃v',e= .returned v'/\w'.ownsRow base 28 1 v' (n-1) (iw xs i)/\Below base w w'/\Kept w w' v.ownBlock:=by
 rcases id hown.2 with⟨rfl,rfl⟩| ⟨g,cap,cur,rfl,hbg,hg,hnc,hcm,_⟩
 ·omega
 ·refine(jr g n cap i xs w base hown hi hn (by unfold maxLen at hcm;omega) h1c).mono ?_;rintro e w'⟨rfl,rfl⟩;have hk:Kept w ((w.drew.setCells g i (xs.drop (i+1))).setCells g (n-1) [.int .u64 0]) (some g):=((Kept.refl w (some g)).drew.setCells _ _).setCells _ _;refine⟨_,rfl,WU (w:=w.drew) (show w.drew.ownsRow base 28 1 _ n xs from hown) hi rfl,hk.below hbase ?_ ?_ ?_ (fun g' e=>by injection e with e;omega),hk⟩
  ·rw [EN,EN];rfl
  ·rw [DZ,DZ];rfl
  ·rw [D8,D8];rfl
