import Derived.RegionTactic
import Derived.IntWalk
import Derived.BigQuiet
import Derived.Test.YtbkpiojejmhfcaaGreatDoorG05
import Derived.Test.YtbkpiojejmhfcaaGreatDoorG11
namespace Go.Proofs.YtbkpiojejmhfcaaGreatDoor
open Go.RowKit
structure Bk where
 ats:Nat→UInt64
 ops:Nat→Bool
 mks:Nat→Mk
 many:Nat
 st:Nat→Value
 nt:Nat
def BkAt(w:World)(bk:Nat)(b:Bk):Prop:=
 ∃cur:Array Value,w.heap[bk]? =some (.cells cur 208 (0,0))∧cur.size=58∧(∀i,i<8→cur[i]? =some (wv (b.ats i)))∧(∀i,i<8→cur[8+i]? =some (.bool (b.ops i)))∧
  (∀i,i<16→cur[16+i*2]? =some (wv (b.mks i).1)∧cur[16+i*2+1]? =some (.int .i64 ((b.mks i).2:Int)))∧cur[48]? =some (.int .i64 (b.many:Int))∧(∀i,i<8→cur[49+i]? =some (b.st i))∧cur[57]? =some (.map (some b.nt))
section
variable{w w':World}{bk:Nat}{b:Bk}
theorem BkAt.lt(h:BkAt w bk b):bk<w.heap.size:=by
 obtain⟨cur,h1,_⟩:=h
 exact(Array.getElem?_eq_some_iff.1 h1).1
theorem BkAt.keep(h:BkAt w bk b)(k:w'.heap[bk]? =w.heap[bk]?):BkAt w' bk b:=by
 obtain⟨cur,h1,h2⟩:=h
 exact⟨cur,k.trans h1,h2⟩
theorem BkAt.below(h:BkAt w bk b)(k:Below w.heap.size w w'):BkAt w' bk b:=h.keep (k.block _ h.lt)
theorem BkAt.touch{F:Nat→Prop}(h:BkAt w bk b)(t:Touch F w w')(hn:¬F bk):BkAt w' bk b:=h.keep (t.block _ h.lt hn)
theorem BkAt.frozen(h:BkAt w bk b)(i:Nat):w.frozen? ⟨bk,i,none⟩=false:=by
 obtain⟨cur,h1,_⟩:=h
 simp [World.frozen?,h1]
theorem BkAt.cellAt(h:BkAt w bk b)(i:Nat)(hi:i<8):w.cell? ⟨bk,i,none⟩=some (.int .u64 ((b.ats i).toNat:Int)):=by
 obtain⟨cur,h1,_,h3,_⟩:=h
 rw [cell_of_row w bk i cur _ (0,0) h1,h3 i hi];rfl
theorem BkAt.cellOp(h:BkAt w bk b)(i:Nat)(hi:i<8):w.cell? ⟨bk,8+i,none⟩=some (.bool (b.ops i)):=by
 obtain⟨cur,h1,_,_,h4,_⟩:=h
 rw [cell_of_row w bk (8+i) cur _ (0,0) h1,h4 i hi]
theorem BkAt.cellMk(h:BkAt w bk b)(i:Nat)(hi:i<16):w.cell? ⟨bk,16+i*2,none⟩=some (.int .u64 ((b.mks i).1.toNat:Int))∧w.cell? ⟨bk,16+i*2+1,none⟩=some (.int .i64 ((b.mks i).2:Int)):=by
 obtain⟨cur,h1,_,_,_,h5,_⟩:=h
 rw [cell_of_row w bk (16+i*2) cur _ (0,0) h1,cell_of_row w bk (16+i*2+1) cur _ (0,0) h1,(h5 i hi).1,(h5 i hi).2]
 exact⟨rfl,rfl⟩
theorem BkAt.cellMany(h:BkAt w bk b):w.cell? ⟨bk,48,none⟩=some (.int .i64 (b.many:Int)):=by
 obtain⟨cur,h1,_,_,_,_,h6,_⟩:=h
 rw [cell_of_row w bk 48 cur _ (0,0) h1,h6]
theorem BkAt.cellSt(h:BkAt w bk b)(i:Nat)(hi:i<8):w.cell? ⟨bk,49+i,none⟩=some (b.st i):=by
 obtain⟨cur,h1,_,_,_,_,_,h7,_⟩:=h
 rw [cell_of_row w bk (49+i) cur _ (0,0) h1,h7 i hi]
theorem BkAt.cellNt(h:BkAt w bk b):w.cell? ⟨bk,57,none⟩=some (.map (some b.nt)):=by
 obtain⟨cur,h1,_,_,_,_,_,_,h8⟩:=h
 rw [cell_of_row w bk 57 cur _ (0,0) h1,h8]
theorem set_cur{cur:Array Value}{i:Nat}{v:Value}(hi:i<cur.size)(k:Nat):(cur.setIfInBounds i v)[k]? =if k=i then some v else cur[k]? :=by
 rw [Array.getElem?_setIfInBounds]
 by_cases e:i=k
 ·subst e;rw [if_pos rfl,if_pos rfl,if_pos hi]
 ·rw [if_neg e,if_neg (fun h=>e h.symm)]
theorem BkAt.setAt(h:BkAt w bk b)(i:Nat)(hi:i<8)(x:UInt64):BkAt (w.setCell ⟨bk,i,none⟩ (.int .u64 (x.toNat:Int))) bk {b with ats:=fun k=>if k=i then x else b.ats k}:=by
 obtain⟨cur,h1,h2,h3,h4,h5,h6,h7,h8⟩:=h
 have key:=fun k=>set_cur (cur:=cur) (i:=i) (v:= .int .u64 (x.toNat:Int)) (by omega) k
 refine⟨_,setCell_cur _ h1,by simpa using h2,fun k hk=> ?_,fun k hk=> ?_,fun k hk=>⟨?_,?_⟩,?_,fun k hk=> ?_,?_⟩
 ·rw [key];dsimp only;split
  ·rfl
  ·exact h3 k hk
 ·rw [key,if_neg (by omega)];exact h4 k hk
 ·rw [key,if_neg (by omega)];exact(h5 k hk).1
 ·rw [key,if_neg (by omega)];exact(h5 k hk).2
 ·rw [key,if_neg (by omega)];exact h6
 ·rw [key,if_neg (by omega)];exact h7 k hk
 ·rw [key,if_neg (by omega)];exact h8
theorem BkAt.setOp(h:BkAt w bk b)(i:Nat)(hi:i<8)(x:Bool):BkAt (w.setCell ⟨bk,8+i,none⟩ (.bool x)) bk {b with ops:=fun k=>if k=i then x else b.ops k}:=by
 obtain⟨cur,h1,h2,h3,h4,h5,h6,h7,h8⟩:=h
 have key:=fun k=>set_cur (cur:=cur) (i:=8+i) (v:= .bool x) (by omega) k
 refine⟨_,setCell_cur _ h1,by simpa using h2,fun k hk=> ?_,fun k hk=> ?_,fun k hk=>⟨?_,?_⟩,?_,fun k hk=> ?_,?_⟩
 ·rw [key,if_neg (by omega)];exact h3 k hk
 ·rw [key];dsimp only
  by_cases e:k=i
  ·rw [if_pos (by omega),if_pos e]
  ·rw [if_neg (by omega),if_neg e];exact h4 k hk
 ·rw [key,if_neg (by omega)];exact(h5 k hk).1
 ·rw [key,if_neg (by omega)];exact(h5 k hk).2
 ·rw [key,if_neg (by omega)];exact h6
 ·rw [key,if_neg (by omega)];exact h7 k hk
 ·rw [key,if_neg (by omega)];exact h8
theorem BkAt.setMk(h:BkAt w bk b)(i:Nat)(hi:i<16)(m:Mk):BkAt ((w.setCell ⟨bk,16+i*2,none⟩ (.int .u64 (m.1.toNat:Int))).setCell ⟨bk,16+i*2+1,none⟩ (.int .i64 (m.2:Int))) bk {b with mks:=fun k=>if k=i then m else b.mks k}:=by
 obtain⟨cur,h1,h2,h3,h4,h5,h6,h7,h8⟩:=h
 have key:=fun k=>set_cur (cur:=cur) (i:=16+i*2) (v:= .int .u64 (m.1.toNat:Int)) (by omega) k
 have key2:=fun k=>set_cur (cur:=cur.setIfInBounds (16+i*2) (.int .u64 (m.1.toNat:Int))) (i:=16+i*2+1) (v:= .int .i64 (m.2:Int)) (by simp;omega) k
 refine⟨_,setCell_cur _ (setCell_cur _ h1),by simpa using h2,fun k hk=> ?_,fun k hk=> ?_,fun k hk=>⟨?_,?_⟩,?_,fun k hk=> ?_,?_⟩
 ·rw [key2,if_neg (by omega),key,if_neg (by omega)];exact h3 k hk
 ·rw [key2,if_neg (by omega),key,if_neg (by omega)];exact h4 k hk
 ·rw [key2,if_neg (by omega),key];dsimp only
  by_cases e:k=i
  ·rw [if_pos (by omega),if_pos e];rfl
  ·rw [if_neg (by omega),if_neg e];exact(h5 k hk).1
 ·rw [key2];dsimp only
  by_cases e:k=i
  ·rw [if_pos (by omega),if_pos e]
  ·rw [if_neg (by omega),key,if_neg (by omega),if_neg e];exact(h5 k hk).2
 ·rw [key2,if_neg (by omega),key,if_neg (by omega)];exact h6
 ·rw [key2,if_neg (by omega),key,if_neg (by omega)];exact h7 k hk
 ·rw [key2,if_neg (by omega),key,if_neg (by omega)];exact h8
theorem BkAt.setMany(h:BkAt w bk b)(n:Nat):BkAt (w.setCell ⟨bk,48,none⟩ (.int .i64 (n:Int))) bk {b with many:=n}:=by
 obtain⟨cur,h1,h2,h3,h4,h5,h6,h7,h8⟩:=h
 have key:=fun k=>set_cur (cur:=cur) (i:=48) (v:= .int .i64 (n:Int)) (by omega) k
 refine⟨_,setCell_cur _ h1,by simpa using h2,fun k hk=> ?_,fun k hk=> ?_,fun k hk=>⟨?_,?_⟩,?_,fun k hk=> ?_,?_⟩
 ·rw [key,if_neg (by omega)];exact h3 k hk
 ·rw [key,if_neg (by omega)];exact h4 k hk
 ·rw [key,if_neg (by omega)];exact(h5 k hk).1
 ·rw [key,if_neg (by omega)];exact(h5 k hk).2
 ·rw [key,if_pos rfl]
 ·rw [key,if_neg (by omega)];exact h7 k hk
 ·rw [key,if_neg (by omega)];exact h8
theorem BkAt.setSt(h:BkAt w bk b)(i:Nat)(hi:i<8)(x:Value):BkAt (w.setCell ⟨bk,49+i,none⟩ x) bk {b with st:=fun k=>if k=i then x else b.st k}:=by
 obtain⟨cur,h1,h2,h3,h4,h5,h6,h7,h8⟩:=h
 have key:=fun k=>set_cur (cur:=cur) (i:=49+i) (v:=x) (by omega) k
 refine⟨_,setCell_cur _ h1,by simpa using h2,fun k hk=> ?_,fun k hk=> ?_,fun k hk=>⟨?_,?_⟩,?_,fun k hk=> ?_,?_⟩
 ·rw [key,if_neg (by omega)];exact h3 k hk
 ·rw [key,if_neg (by omega)];exact h4 k hk
 ·rw [key,if_neg (by omega)];exact(h5 k hk).1
 ·rw [key,if_neg (by omega)];exact(h5 k hk).2
 ·rw [key,if_neg (by omega)];exact h6
 ·rw [key];dsimp only
  by_cases e:k=i
  ·rw [if_pos (by omega),if_pos e]
  ·rw [if_neg (by omega),if_neg e];exact h7 k hk
 ·rw [key,if_neg (by omega)];exact h8
def swapM(f:Nat→Mk)(i j k:Nat):Mk:=if k=i then f j else if k=j then f i else f k
def keyM(f:Nat→Mk)(k:Nat):Nat:=(f k).1.toNat
theorem keyM_swap(f:Nat→Mk)(i j:Nat):keyM (swapM f i j)=swapF (keyM f) i j:=by
 funext k
 unfold keyM swapM swapF
 split
 ·rfl
 ·split<;>rfl
theorem pileLen(h:BkAt w bk b):Calls Tryz.prog 282 #[.pointer (some ⟨bk,16,none⟩)] w fun e w'=>e= .returned (.int .i64 (b.many:Int))∧w=w':=by
 have c:=h.cellMany
 clear h
 go_enter Tryz.func282,Tryz.ntmps282
 go_wp2
 go_ret
 exact⟨rfl,rfl⟩
set_option maxHeartbeats 2000000 in
theorem pileLess(h:BkAt w bk b)(i j:Nat)(hi:i<16)(hj:j<16):Calls Tryz.prog 283 #[.pointer (some ⟨bk,16,none⟩),.int .i64 (i:Int),.int .i64 (j:Int)] w fun e w'=>e= .returned (.bool (decide (keyM b.mks i<keyM b.mks j)))∧Dr w w':=by
 have ci:=(h.cellMk i hi).1
 have cj:=(h.cellMk j hj).1
 have HK:Hid (decide (keyM b.mks i<keyM b.mks j)=decide ((b.mks i).1.toNat<(b.mks j).1.toNat)):=Lib.hid rfl
 generalize(b.mks i).1=x at*
 generalize(b.mks j).1=y at*
 clear h
 go_enter Tryz.func283,Tryz.ntmps283
 go_wp2_with fail
 go_quiet(fail)
 go_wp2_with fail
 rw [HK.out]
 go_ret
 exact⟨rfl,_,rfl⟩
end
section
variable{w w':World}{bk:Nat}{b:Bk}
theorem Bk.swap_ij(f:Nat→Mk)(i j:Nat):(fun k=>if k=j then f i else(fun k=>if k=i then f j else f k) k)=swapM f i j:=by
 funext k
 unfold swapM
 by_cases h1:k=i
 ·by_cases h2:k=j
  ·rw [if_pos h2,if_pos h1,←h1,←h2]
  ·rw [if_neg h2,if_pos h1];dsimp only;rw [if_pos h1]
 ·by_cases h2:k=j
  ·rw [if_pos h2,if_neg h1,if_pos h2]
  ·rw [if_neg h2,if_neg h1,if_neg h2];dsimp only;rw [if_neg h1]
theorem Bk.swap_ji(f:Nat→Mk)(i j:Nat):(fun k=>if k=i then f j else(fun k=>if k=j then f i else f k) k)=swapM f i j:=by
 funext k
 unfold swapM
 by_cases h1:k=i
 ·simp only [if_pos h1]
 ·simp only [if_neg h1]
theorem BkAt.dr(h:BkAt w bk b)(k:Dr w w'):BkAt w' bk b:=h.below (k.below _)
set_option maxHeartbeats 4000000 in
set_option maxRecDepth 100000 in
theorem pileSwap(h:BkAt w bk b)(i j:Nat)(hi:i<16)(hj:j<16):Calls Tryz.prog 286 #[.pointer (some ⟨bk,16,none⟩),.int .i64 (i:Int),.int .i64 (j:Int)] w fun e w'=>e= .returned (.tuple #[])∧BkAt w' bk {b with mks:=swapM b.mks i j}∧Touch (fun k=>k=bk) w w':=by
 have HS:Hid (∀W,Dr w W→BkAt ((((W.setCell ⟨bk,16+i*2,none⟩ (.int .u64 ((b.mks j).1.toNat:Int))).setCell ⟨bk,16+i*2+1,none⟩ (.int .i64 ((b.mks j).2:Int))).setCell ⟨bk,16+j*2,none⟩ (.int .u64 ((b.mks i).1.toNat:Int))).setCell ⟨bk,16+j*2+1,none⟩ (.int .i64 ((b.mks i).2:Int))) bk {b with mks:=swapM b.mks i j}∧
  Touch (fun k=>k=bk) w ((((W.setCell ⟨bk,16+i*2,none⟩ (.int .u64 ((b.mks j).1.toNat:Int))).setCell ⟨bk,16+i*2+1,none⟩ (.int .i64 ((b.mks j).2:Int))).setCell ⟨bk,16+j*2,none⟩ (.int .u64 ((b.mks i).1.toNat:Int))).setCell ⟨bk,16+j*2+1,none⟩ (.int .i64 ((b.mks i).2:Int)))):=Lib.hid (fun W k=>by
  have h1:=((h.dr k).setMk i hi (b.mks j)).setMk j hj (b.mks i)
  simp only [Bk.swap_ij]at h1
  exact⟨h1,((((Touch.of_below (F:=fun k=>k=bk) (k.below _)).setCell (p:=⟨bk,16+i*2,none⟩) (.inl rfl) _).setCell (p:=⟨bk,16+i*2+1,none⟩) (.inl rfl) _).setCell (p:=⟨bk,16+j*2,none⟩) (.inl rfl) _).setCell (p:=⟨bk,16+j*2+1,none⟩) (.inl rfl) _⟩)
 have HS2:Hid (∀W,Dr w W→BkAt ((((W.setCell ⟨bk,16+j*2,none⟩ (.int .u64 ((b.mks i).1.toNat:Int))).setCell ⟨bk,16+j*2+1,none⟩ (.int .i64 ((b.mks i).2:Int))).setCell ⟨bk,16+i*2,none⟩ (.int .u64 ((b.mks j).1.toNat:Int))).setCell ⟨bk,16+i*2+1,none⟩ (.int .i64 ((b.mks j).2:Int))) bk {b with mks:=swapM b.mks i j}∧
  Touch (fun k=>k=bk) w ((((W.setCell ⟨bk,16+j*2,none⟩ (.int .u64 ((b.mks i).1.toNat:Int))).setCell ⟨bk,16+j*2+1,none⟩ (.int .i64 ((b.mks i).2:Int))).setCell ⟨bk,16+i*2,none⟩ (.int .u64 ((b.mks j).1.toNat:Int))).setCell ⟨bk,16+i*2+1,none⟩ (.int .i64 ((b.mks j).2:Int)))):=Lib.hid (fun W k=>by
  have h1:=((h.dr k).setMk j hj (b.mks i)).setMk i hi (b.mks j)
  simp only [Bk.swap_ji]at h1
  exact⟨h1,((((Touch.of_below (F:=fun k=>k=bk) (k.below _)).setCell (p:=⟨bk,16+j*2,none⟩) (.inl rfl) _).setCell (p:=⟨bk,16+j*2+1,none⟩) (.inl rfl) _).setCell (p:=⟨bk,16+i*2,none⟩) (.inl rfl) _).setCell (p:=⟨bk,16+i*2+1,none⟩) (.inl rfl) _⟩)
 have e1:=h.cellMk i hi
 have e2:=h.cellMk j hj
 obtain⟨i0,i1⟩:=e1
 obtain⟨j0,j1⟩:=e2
 have fi0:=h.frozen (16+i*2)
 have fi1:=h.frozen (16+i*2+1)
 have fj0:=h.frozen (16+j*2)
 have fj1:=h.frozen (16+j*2+1)
 have hA:=h.setMk i hi (b.mks j)
 have hB:=h.setMk j hj (b.mks i)
 obtain⟨kA0,kA1⟩:=hA.cellMk j hj
 obtain⟨kB0,kB1⟩:=hB.cellMk i hi
 have gA0:=hA.frozen (16+j*2)
 have gA1:=hA.frozen (16+j*2+1)
 have gB0:=hB.frozen (16+i*2)
 have gB1:=hB.frozen (16+i*2+1)
 have bi:(i:Int)<16:=by omega
 have bj:(j:Int)<16:=by omega
 clear hA hB h
 go_enter Tryz.func286,Tryz.ntmps286
 go_wp2_with fail
 go_region
 all_goals(go_wp2_with fail)
 all_goals(go_end0)
 all_goals(first
  | exact⟨rfl,(HS.out w (Dr.refl w)).1.dr (Dr.drew _),(HS.out w (Dr.refl w)).2.drew⟩
  | exact⟨rfl,(HS2.out w (Dr.refl w)).1.dr (Dr.drew _),(HS2.out w (Dr.refl w)).2.drew⟩)
theorem assertMark(x y:Int)(w:World):(Instr.typeAssert (.iface 199 (.agg #[.int .u64 x,.int .i64 y])) 20 199 true).run Tryz.prog w= .ok (.tuple #[.agg #[.int .u64 x,.int .i64 y],.bool true]) w:=by kernel_rfl
def mkV(m:Mk):Value:= .agg #[.int .u64 (m.1.toNat:Int),.int .i64 (m.2:Int)]
set_option maxHeartbeats 4000000 in
set_option maxRecDepth 100000 in
theorem pilePush(h:BkAt w bk b)(m:Mk)(hn:b.many<16):Calls Tryz.prog 285 #[.pointer (some ⟨bk,16,none⟩),.iface 199 (mkV m)] w fun e w'=>e= .returned (.tuple #[])∧BkAt w' bk {b with mks:=fun k=>if k=b.many then m else b.mks k,many:=b.many+1}∧Touch (fun k=>k=bk) w w':=by
 have ta:=assertMark (m.1.toNat:Int) (m.2:Int)
 unfold mkV
 have cm:=h.cellMany
 have fm:=h.frozen 48
 obtain⟨i0,i1⟩:=h.cellMk b.many hn
 have g0:=h.frozen (16+b.many*2)
 have g1:=h.frozen (16+b.many*2+1)
 have h2:=h.setMk b.many hn m
 have cm2:=h2.cellMany
 have fm2:=h2.frozen 48
 have HF:Hid (BkAt (((w.setCell ⟨bk,16+b.many*2,none⟩ (.int .u64 (m.1.toNat:Int))).setCell ⟨bk,16+b.many*2+1,none⟩ (.int .i64 (m.2:Int))).setCell ⟨bk,48,none⟩ (.int .i64 ((b.many+1:Nat):Int))) bk {b with mks:=fun k=>if k=b.many then m else b.mks k,many:=b.many+1}∧
  Touch (fun k=>k=bk) w (((w.setCell ⟨bk,16+b.many*2,none⟩ (.int .u64 (m.1.toNat:Int))).setCell ⟨bk,16+b.many*2+1,none⟩ (.int .i64 (m.2:Int))).setCell ⟨bk,48,none⟩ (.int .i64 ((b.many+1:Nat):Int)))):=
  Lib.hid ⟨h2.setMany (b.many+1),(((Touch.refl (fun k=>k=bk) w).setCell (p:=⟨bk,16+b.many*2,none⟩) (.inl rfl) _).setCell (p:=⟨bk,16+b.many*2+1,none⟩) (.inl rfl) _).setCell (p:=⟨bk,48,none⟩) (.inl rfl) _⟩
 have hbk:=h.lt
 obtain⟨n,hnd⟩:∃n,n=b.many:=⟨_,rfl⟩
 simp only [←hnd]at cm i0 i1 g0 g1 hn cm2 fm2 HF⊢
 rw [show((n+1:Nat):Int)=(n:Int)+1 by omega]at HF
 have bi:(n:Int)<16:=by omega
 have hwn:IntKind.i64.wrap ((n:Int)+1)=(n:Int)+1:=IntWalk.i64_in _ (by omega)
 clear h h2 hnd
 go_enter Tryz.func285,Tryz.ntmps285
 go_wp2_with fail
 go_region
 all_goals(go_wp2_with fail)
 all_goals(go_end0)
 all_goals(exact⟨rfl,(HF.out.1.below ((Below.refl _ _).alloc (Nat.le_refl _) _)).dr (Dr.drew _),(HF.out.2.alloc _).drew⟩)
set_option maxHeartbeats 4000000 in
set_option maxRecDepth 100000 in
theorem pilePop(h:BkAt w bk b)(n:Nat)(hn:b.many=n+1)(h16:n<16):Calls Tryz.prog 284 #[.pointer (some ⟨bk,16,none⟩)] w fun e w'=>e= .returned (.iface 199 (mkV (b.mks n)))∧BkAt w' bk {b with many:=n}∧Touch (fun k=>k=bk) w w':=by
 have cm:=h.cellMany
 have fm:=h.frozen 48
 have h2:=h.setMany n
 have cm2:=h2.cellMany
 obtain⟨i0,i1⟩:=h2.cellMk n h16
 have HF:Hid (BkAt (w.setCell ⟨bk,48,none⟩ (.int .i64 (n:Int))) bk {b with many:=n}∧Touch (fun k=>k=bk) w (w.setCell ⟨bk,48,none⟩ (.int .i64 (n:Int)))):=
  Lib.hid ⟨h2,(Touch.refl (fun k=>k=bk) w).setCell (p:=⟨bk,48,none⟩) (.inl rfl) _⟩
 rw [hn,show((n+1:Nat):Int)=(n:Int)+1 by omega]at cm
 have bi:(n:Int)<16:=by omega
 have hwn:IntKind.i64.wrap ((n:Int)+1-1)=(n:Int):=by rw [show(n:Int)+1-1=(n:Int)by omega];exact IntWalk.i64_in _ (by omega)
 unfold mkV
 simp only at i0 i1 cm2
 clear h h2 hn
 go_enter Tryz.func284,Tryz.ntmps284
 go_wp2_with fail
 go_quiet(fail)
 go_wp2_with fail
 go_ret
 exact⟨rfl,HF.out.1.dr (Dr.one _ _),HF.out.2.trans (Touch.of_below (F:=fun k=>k=bk) ((Dr.one _ _).below _)) (fun _ h=> .inl h)⟩
end
theorem pmeth_Push(f:Nat)(a:Addr)(w:World):(method (f+1) 280 (.pointer (some a)) "Push").run Tryz.prog w= .ok (285,.pointer (some a)) w:=by kernel_rfl
theorem pmeth_Pop(f:Nat)(a:Addr)(w:World):(method (f+1) 280 (.pointer (some a)) "Pop").run Tryz.prog w= .ok (284,.pointer (some a)) w:=by kernel_rfl
theorem pmeth_Len(f:Nat)(a:Addr)(w:World):(method (f+1) 280 (.pointer (some a)) "Len").run Tryz.prog w= .ok (282,.pointer (some a)) w:=by kernel_rfl
theorem pmeth_Less(f:Nat)(a:Addr)(w:World):(method (f+1) 280 (.pointer (some a)) "Less").run Tryz.prog w= .ok (283,.pointer (some a)) w:=by kernel_rfl
theorem pmeth_Swap(f:Nat)(a:Addr)(w:World):(method (f+1) 280 (.pointer (some a)) "Swap").run Tryz.prog w= .ok (286,.pointer (some a)) w:=by kernel_rfl
def InM(f:Nat→Mk)(n:Nat)(m:Mk):Prop:=∃k,k<n∧f k=m
theorem inM_swap{f:Nat→Mk}{n i j:Nat}(hi:i<n)(hj:j<n)(m:Mk):InM (swapM f i j) n m↔InM f n m:=by
 constructor
 ·rintro⟨k,hk,e⟩
  unfold swapM at e
  split at e
  ·exact⟨j,hj,e⟩
  ·split at e
   ·exact⟨i,hi,e⟩
   ·exact⟨k,hk,e⟩
 ·rintro⟨k,hk,e⟩
  by_cases h1:k=i
  ·subst h1
   refine⟨j,hj,?_⟩
   unfold swapM
   by_cases h2:j=k
   ·subst h2;rw [if_pos rfl];exact e
   ·rw [if_neg h2,if_pos rfl];exact e
  ·by_cases h2:k=j
   ·subst h2
    exact⟨i,hi,by unfold swapM;rw [if_pos rfl];exact e⟩
   ·exact⟨k,hk,by unfold swapM;rw [if_neg h1,if_neg h2];exact e⟩
section
variable{w:World}{bk n:Nat}{b:Bk}
set_option maxHeartbeats 2000000 in
set_option maxRecDepth 100000 in
theorem pileUp(j:Nat)(h:BkAt w bk b)(hj:j<n)(hn1:n≤16)(hH:HeapUp (keyM b.mks) j n):
 Calls Tryz.prog 201 #[.iface 280 (.pointer (some ⟨bk,16,none⟩)),.int .i64 (j:Int)] w fun e w'=>e= .returned (.tuple #[])∧
  ∃f,(∀m,InM f n m↔InM b.mks n m)∧HeapTo (keyM f) n∧BkAt w' bk {b with mks:=f}∧Touch (fun k=>k=bk) w w':=by
 have mL:=fun f W=>pmeth_Less f ⟨bk,16,none⟩ W
 have mS:=fun f W=>pmeth_Swap f ⟨bk,16,none⟩ W
 go_enter Tryz.func201,Tryz.ntmps201
 go_wp2_with fail
 go_loopw [1](fun i wr=>∃(k:Nat)(f:Nat→Mk),k<n∧i= .int .i64 (k:Nat)∧(∀m,InM f n m↔InM b.mks n m)∧HeapUp (keyM f) k n∧BkAt wr bk {b with mks:=f}∧Touch (fun k=>k=bk) w wr)(fun i _=>(intOf i).toNat)
 case atStart=>exact⟨j,b.mks,hj,rfl,fun _=>Iff.rfl,hH,h,Touch.refl _ _⟩
 case round=>
  obtain⟨k,l',hk,rfl,hp,hHk,ho,ht⟩:=hrel
  clear h hj hH
  by_cases h0:k=0
  ·subst h0
   go_wp2_with fail
   go_end0
   exact⟨rfl,l',hp,heapUp_end hHk (fun h=>absurd h (by omega)),ho,ht⟩
  ·have HHk:=Lib.hid hHk
   have HO:=Lib.hid ho
   have HPm:=Lib.hid hp
   have HT:=Lib.hid ht
   clear hHk ho hp ht
   obtain⟨i,hi⟩:∃i,(k-1)/2=i:=⟨_,rfl⟩
   have hik:i<k:=by omega
   have e1:((k:Int) -1)/2=(i:Int):=by omega
   have t1:((i:Int)==(k:Int))=false:=by rw [beq_eq_false_iff_ne];omega
   have HLess:=Lib.hid (pileLess HO.out k i (by omega) (by omega))
   simp only at HLess
   by_cases hlt:keyM l' k<keyM l' i
   ·rw [decide_eq_true hlt]at HLess
    have H1:=Lib.hid hlt
    clear hlt
    go_wp2_with fail
    refine HLess.out.mono ?_
    rintro e w2⟨rfl,hd⟩
    have ho2:=HO.out.below (hd.below _)
    have HSw:=Lib.hid (pileSwap ho2 i k (by omega) (by omega))
    simp only at HSw
    clear ho2 HLess
    go_wp2_with fail
    refine HSw.out.mono ?_
    rintro e w3⟨rfl,hO3,hT3⟩
    have HO3:=Lib.hid hO3
    have HT3:=Lib.hid ((HT.out.trans (Touch.of_below (F:=fun k=>k=bk) (hd.below _)) (fun _ h=> .inl h)).trans hT3 (fun _ h=> .inl h))
    clear hO3 hT3
    go_wp2_with fail
    go_roundw
    case rel=>
     refine⟨i,swapM l' i k,by omega,rfl,fun m=>(inM_swap (by omega) hk m).trans (HPm.out m),?_,HO3.out,HT3.out⟩
     rw [keyM_swap]
     exact heapUp_swap HHk.out (by omega) hk hi H1.out
    case measure=>simp [intOf];omega
   ·rw [decide_eq_false hlt]at HLess
    have H1:=Lib.hid hlt
    clear hlt
    go_wp2_with fail
    refine HLess.out.mono ?_
    rintro e w2⟨rfl,hd⟩
    go_wp2_with fail
    go_end0
    exact⟨rfl,l',HPm.out,heapUp_end HHk.out (fun _=>by have:=H1.out;rw [←hi]at this;omega),HO.out.below (hd.below _),HT.out.trans (Touch.of_below (F:=fun k=>k=bk) (hd.below _)) (fun _ h=> .inl h)⟩
end
section
variable{w:World}{bk:Nat}{b:Bk}
set_option maxHeartbeats 4000000 in
set_option maxRecDepth 100000 in
theorem pileDown(n:Nat)(h:BkAt w bk b)(hn1:n≤15)(hH:HeapBut (keyM b.mks) 0 n):
 Calls Tryz.prog 240 #[.iface 280 (.pointer (some ⟨bk,16,none⟩)),.int .i64 0,.int .i64 (n:Int)] w fun e w'=>(∃b,e= .returned (.bool b))∧
  ∃f,(∀m,InM f n m↔InM b.mks n m)∧HeapTo (keyM f) n∧(∀k,n≤k→f k=b.mks k)∧BkAt w' bk {b with mks:=f}∧Touch (fun k=>k=bk) w w':=by
 have mL:=fun f W=>pmeth_Less f ⟨bk,16,none⟩ W
 have mS:=fun f W=>pmeth_Swap f ⟨bk,16,none⟩ W
 go_enter Tryz.func240,Tryz.ntmps240
 go_wp2_with fail
 go_loopw [7](fun i wr=>∃(k:Nat)(f:Nat→Mk),(k=0∨k<n)∧i= .int .i64 (k:Nat)∧(∀m,InM f n m↔InM b.mks n m)∧HeapBut (keyM f) k n∧(∀k,n≤k→f k=b.mks k)∧BkAt wr bk {b with mks:=f}∧Touch (fun k=>k=bk) w wr)(fun i _=>n- (intOf i).toNat)
 case atStart=>exact⟨0,b.mks,.inl rfl,rfl,fun _=>Iff.rfl,hH,fun _ _=>rfl,h,Touch.refl _ _⟩
 case round=>
  obtain⟨i,l',hi,rfl,hp,hHk,hk,ho,ht⟩:=hrel
  have HHk:=Lib.hid hHk
  have HO:=Lib.hid ho
  have HPm:=Lib.hid hp
  have HT:=Lib.hid ht
  have HK:=Lib.hid hk
  have iB:i≤n:=by omega
  clear h hH hHk ho hp ht hk
  have t3:decide (2*(i:Int)+1<0)=false:=decide_eq_false (by omega)
  by_cases h1:n≤2*i+1
  ·have t1:decide ((n:Int)≤2*(i:Int)+1)=true:=decide_eq_true (by omega)
   go_wp2_with fail
   go_ret
   exact⟨⟨_,rfl⟩,l',HPm.out,heapBut_end HHk.out (fun k h0 hk hp=>by omega),HK.out,HO.out,HT.out⟩
  ·have t1:decide ((n:Int)≤2*(i:Int)+1)=false:=decide_eq_false (by omega)
   obtain⟨j1,hj1⟩:∃j1,2*i+1=j1:=⟨_,rfl⟩
   obtain⟨j2,hj2⟩:∃j2,j1+1=j2:=⟨_,rfl⟩
   have e1:2*(i:Int)+1=(j1:Int):=by omega
   have e2:(j1:Int)+1=(j2:Int):=by omega
   have t4:decide ((n:Int)≤(j1:Int))=false:=decide_eq_false (by omega)
   have t5:decide ((j1:Int)<0)=false:=decide_eq_false (by omega)
   have J1:Hid (2*i+1=j1):=Lib.hid hj1
   have J2:Hid (2*i+2=j2):=Lib.hid (by omega)
   have j1n:j1<n:=by omega
   clear t1 t3 hj1 hj2
   by_cases h2:j2<n
   ·have t2:decide ((j2:Int)<(n:Int))=true:=decide_eq_true (by omega)
    by_cases h4:keyM l' j2<keyM l' j1
    ·have H2:=Lib.hid h4
     clear h4
     have HLs:=Lib.hid (pileLess HO.out j2 j1 (by omega) (by omega))
     simp only at HLs
     rw [decide_eq_true H2.out]at HLs
     go_wp2_with fail
     refine HLs.out.mono ?_
     rintro e w2⟨rfl,hd⟩
     have ho2:=HO.out.below (hd.below _)
     have ht2:=HT.out.trans (Touch.of_below (F:=fun k=>k=bk) (hd.below _)) (fun _ h=> .inl h)
     clear HLs
     have HO2:=Lib.hid ho2
     have HT2:=Lib.hid ht2
     clear ho2 ht2
     have hj1:j2<n:=by omega
     have hj2:(j2-1)/2=i:=by have:=J1.out;have:=J2.out;omega
     have HM:Hid (∀k,0<k→k<n→(k-1)/2=i→keyM l' j2≤keyM l' k):=Lib.hid (fun k h0 hk hp=>by
      have hk2:k=j1∨k=j2:=by have:=J1.out;have:=J2.out;omega
      rcases hk2 with rfl| rfl
      ·have:=H2.out;omega
      ·exact Nat.le_refl _)
     have HLi:=Lib.hid (pileLess HO2.out j2 i (by omega) (by omega))
     simp only at HLi
     by_cases h3:keyM l' j2<keyM l' i
     ·have H3:=Lib.hid h3
      rw [decide_eq_true h3]at HLi
      clear h3
      go_wp2_with fail
      refine HLi.out.mono ?_
      rintro e w3⟨rfl,hd3⟩
      have ho3:=HO2.out.below (hd3.below _)
      have ht3:=HT2.out.trans (Touch.of_below (F:=fun k=>k=bk) (hd3.below _)) (fun _ h=> .inl h)
      have HSw:=Lib.hid (pileSwap ho3 i j2 (by omega) (by omega))
      simp only at HSw
      have HT3:=Lib.hid ht3
      clear ho3 ht3 HLi
      go_wp2_with fail
      refine HSw.out.mono ?_
      rintro e w4⟨rfl,ho4,ht4⟩
      have HO4:=Lib.hid ho4
      have HT4:=Lib.hid (HT3.out.trans ht4 (fun _ h=> .inl h))
      clear ho4 ht4 HSw
      go_wp2_with fail
      go_roundw
      case rel=>
       refine⟨j2,swapM l' i j2,.inr hj1,rfl,fun m=>(inM_swap (by omega) hj1 m).trans (HPm.out m),?_,fun k hk=> ?_,HO4.out,HT4.out⟩
       ·rw [keyM_swap]
        exact heapBut_swap HHk.out (by omega) hj1 hj2 HM.out H3.out
       ·unfold swapM
        rw [if_neg (by omega),if_neg (by omega)]
        exact HK.out k hk
      case measure=>simp [intOf];omega
     ·have H3:=Lib.hid h3
      rw [decide_eq_false h3]at HLi
      clear h3
      go_wp2_with fail
      refine HLi.out.mono ?_
      rintro e w3⟨rfl,hd3⟩
      have ho3:=HO2.out.below (hd3.below _)
      have ht3:=HT2.out.trans (Touch.of_below (F:=fun k=>k=bk) (hd3.below _)) (fun _ h=> .inl h)
      go_wp2_with fail
      go_ret
      exact⟨⟨_,rfl⟩,l',HPm.out,heapBut_end HHk.out (fun k h0 hk hp=>by have:=HM.out k h0 hk hp;have:=H3.out;omega),HK.out,ho3,ht3⟩
    ·have H2:=Lib.hid h4
     clear h4
     have HLs:=Lib.hid (pileLess HO.out j2 j1 (by omega) (by omega))
     simp only at HLs
     rw [decide_eq_false H2.out]at HLs
     go_wp2_with fail
     refine HLs.out.mono ?_
     rintro e w2⟨rfl,hd⟩
     have ho2:=HO.out.below (hd.below _)
     have ht2:=HT.out.trans (Touch.of_below (F:=fun k=>k=bk) (hd.below _)) (fun _ h=> .inl h)
     clear HLs
     have HO2:=Lib.hid ho2
     have HT2:=Lib.hid ht2
     clear ho2 ht2
     have hj1:j1<n:=by omega
     have hj2:(j1-1)/2=i:=by have:=J1.out;have:=J2.out;omega
     have HM:Hid (∀k,0<k→k<n→(k-1)/2=i→keyM l' j1≤keyM l' k):=Lib.hid (fun k h0 hk hp=>by
      have hk2:k=j1∨k=j2:=by have:=J1.out;have:=J2.out;omega
      rcases hk2 with rfl| rfl
      ·exact Nat.le_refl _
      ·have:=H2.out;omega)
     have HLi:=Lib.hid (pileLess HO2.out j1 i (by omega) (by omega))
     simp only at HLi
     by_cases h3:keyM l' j1<keyM l' i
     ·have H3:=Lib.hid h3
      rw [decide_eq_true h3]at HLi
      clear h3
      go_wp2_with fail
      refine HLi.out.mono ?_
      rintro e w3⟨rfl,hd3⟩
      have ho3:=HO2.out.below (hd3.below _)
      have ht3:=HT2.out.trans (Touch.of_below (F:=fun k=>k=bk) (hd3.below _)) (fun _ h=> .inl h)
      have HSw:=Lib.hid (pileSwap ho3 i j1 (by omega) (by omega))
      simp only at HSw
      have HT3:=Lib.hid ht3
      clear ho3 ht3 HLi
      go_wp2_with fail
      refine HSw.out.mono ?_
      rintro e w4⟨rfl,ho4,ht4⟩
      have HO4:=Lib.hid ho4
      have HT4:=Lib.hid (HT3.out.trans ht4 (fun _ h=> .inl h))
      clear ho4 ht4 HSw
      go_wp2_with fail
      go_roundw
      case rel=>
       refine⟨j1,swapM l' i j1,.inr hj1,rfl,fun m=>(inM_swap (by omega) hj1 m).trans (HPm.out m),?_,fun k hk=> ?_,HO4.out,HT4.out⟩
       ·rw [keyM_swap]
        exact heapBut_swap HHk.out (by omega) hj1 hj2 HM.out H3.out
       ·unfold swapM
        rw [if_neg (by omega),if_neg (by omega)]
        exact HK.out k hk
      case measure=>simp [intOf];omega
     ·have H3:=Lib.hid h3
      rw [decide_eq_false h3]at HLi
      clear h3
      go_wp2_with fail
      refine HLi.out.mono ?_
      rintro e w3⟨rfl,hd3⟩
      have ho3:=HO2.out.below (hd3.below _)
      have ht3:=HT2.out.trans (Touch.of_below (F:=fun k=>k=bk) (hd3.below _)) (fun _ h=> .inl h)
      go_wp2_with fail
      go_ret
      exact⟨⟨_,rfl⟩,l',HPm.out,heapBut_end HHk.out (fun k h0 hk hp=>by have:=HM.out k h0 hk hp;have:=H3.out;omega),HK.out,ho3,ht3⟩
   ·have t2:decide ((j2:Int)<(n:Int))=false:=decide_eq_false (by omega)
    have ho2:=HO.out
    have ht2:=HT.out
    have HO2:=Lib.hid ho2
    have HT2:=Lib.hid ht2
    clear ho2 ht2
    have hj1:j1<n:=by omega
    have hj2:(j1-1)/2=i:=by have:=J1.out;have:=J2.out;omega
    have HM:Hid (∀k,0<k→k<n→(k-1)/2=i→keyM l' j1≤keyM l' k):=Lib.hid (fun k h0 hk hp=>by
     have hk2:k=j1∨k=j2:=by have:=J1.out;have:=J2.out;omega
     rcases hk2 with rfl| rfl
     ·exact Nat.le_refl _
     ·omega)
    have HLi:=Lib.hid (pileLess HO2.out j1 i (by omega) (by omega))
    simp only at HLi
    by_cases h3:keyM l' j1<keyM l' i
    ·have H3:=Lib.hid h3
     rw [decide_eq_true h3]at HLi
     clear h3
     go_wp2_with fail
     refine HLi.out.mono ?_
     rintro e w3⟨rfl,hd3⟩
     have ho3:=HO2.out.below (hd3.below _)
     have ht3:=HT2.out.trans (Touch.of_below (F:=fun k=>k=bk) (hd3.below _)) (fun _ h=> .inl h)
     have HSw:=Lib.hid (pileSwap ho3 i j1 (by omega) (by omega))
     simp only at HSw
     have HT3:=Lib.hid ht3
     clear ho3 ht3 HLi
     go_wp2_with fail
     refine HSw.out.mono ?_
     rintro e w4⟨rfl,ho4,ht4⟩
     have HO4:=Lib.hid ho4
     have HT4:=Lib.hid (HT3.out.trans ht4 (fun _ h=> .inl h))
     clear ho4 ht4 HSw
     go_wp2_with fail
     go_roundw
     case rel=>
      refine⟨j1,swapM l' i j1,.inr hj1,rfl,fun m=>(inM_swap (by omega) hj1 m).trans (HPm.out m),?_,fun k hk=> ?_,HO4.out,HT4.out⟩
      ·rw [keyM_swap]
       exact heapBut_swap HHk.out (by omega) hj1 hj2 HM.out H3.out
      ·unfold swapM
       rw [if_neg (by omega),if_neg (by omega)]
       exact HK.out k hk
     case measure=>simp [intOf];omega
    ·have H3:=Lib.hid h3
     rw [decide_eq_false h3]at HLi
     clear h3
     go_wp2_with fail
     refine HLi.out.mono ?_
     rintro e w3⟨rfl,hd3⟩
     have ho3:=HO2.out.below (hd3.below _)
     have ht3:=HT2.out.trans (Touch.of_below (F:=fun k=>k=bk) (hd3.below _)) (fun _ h=> .inl h)
     go_wp2_with fail
     go_ret
     exact⟨⟨_,rfl⟩,l',HPm.out,heapBut_end HHk.out (fun k h0 hk hp=>by have:=HM.out k h0 hk hp;have:=H3.out;omega),HK.out,ho3,ht3⟩
theorem heapUp_push{f:Nat→Mk}{n:Nat}(m:Mk)(h:HeapTo (keyM f) n):HeapUp (keyM fun k=>if k=n then m else f k) n (n+1):=by
 have key:∀k,k<n→keyM (fun k=>if k=n then m else f k) k=keyM f k:=fun k hk=>by unfold keyM;dsimp only;rw [if_neg (by omega)]
 refine⟨fun k h0 hk hne=> ?_,fun h0 k hk0 hk hp=>by omega⟩
 rw [key k (by omega),key _ (by omega)]
 exact h k h0 (by omega)
set_option maxHeartbeats 2000000 in
set_option maxRecDepth 100000 in
theorem pileHeapPush(m:Mk)(h:BkAt w bk b)(hn:b.many<16)(hH:HeapTo (keyM b.mks) b.many):
 Calls Tryz.prog 158 #[.iface 280 (.pointer (some ⟨bk,16,none⟩)),.iface 199 (mkV m)] w fun e w'=>e= .returned (.tuple #[])∧
  ∃f,(∀k,InM f (b.many+1) k↔InM b.mks b.many k∨k=m)∧HeapTo (keyM f) (b.many+1)∧BkAt w' bk {b with mks:=f,many:=b.many+1}∧Touch (fun k=>k=bk) w w':=by
 have mP:=fun f W=>pmeth_Push f ⟨bk,16,none⟩ W
 have mL:=fun f W=>pmeth_Len f ⟨bk,16,none⟩ W
 have HS:=Lib.hid (pilePush h m hn)
 have HU:=Lib.hid (heapUp_push m hH)
 obtain⟨n,hnd⟩:∃n,n=b.many:=⟨_,rfl⟩
 simp only [←hnd]at HS HU hn⊢
 unfold mkV at HS⊢
 clear h hH
 go_enter Tryz.func158,Tryz.ntmps158
 go_wp2_with fail
 refine HS.out.mono ?_
 rintro e w1⟨rfl,ho1,ht1⟩
 have HN:=Lib.hid (pileLen ho1)
 have HUp:=Lib.hid (pileUp n ho1 (by omega:n<n+1) (by omega) HU.out)
 simp only at HN HUp
 rw [show((n+1:Nat):Int)=(n:Int)+1 by omega]at HN
 have HT1:=Lib.hid ht1
 have hw1:IntKind.i64.wrap ((n:Int)+1-1)=(n:Int):=by rw [show(n:Int)+1-1=(n:Int)by omega];exact IntWalk.i64_in _ (by omega)
 clear ho1 ht1 HS hnd
 go_wp2_with fail
 refine HN.out.mono ?_
 rintro e w'⟨rfl,rfl⟩
 go_wp2_with fail
 refine HUp.out.mono ?_
 rintro e w2⟨rfl,f,hp,hh,ho2,ht2⟩
 go_wp2_with fail
 go_end0
 refine⟨rfl,f,fun k=>(hp k).trans ⟨?_,?_⟩,hh,ho2,HT1.out.trans ht2 (fun _ h=> .inl h)⟩
 ·rintro⟨i,hi,e⟩
  dsimp only at e
  by_cases hin:i=n
  ·rw [if_pos hin]at e;exact .inr e.symm
  ·rw [if_neg hin]at e;exact .inl ⟨i,by omega,e⟩
 ·rintro(⟨i,hi,e⟩| rfl)
  ·exact⟨i,by omega,by dsimp only;rw [if_neg (by omega)];exact e⟩
  ·exact⟨n,by omega,by dsimp only;rw [if_pos rfl]⟩
set_option maxHeartbeats 2000000 in
set_option maxRecDepth 100000 in
theorem pileHeapPop(h:BkAt w bk b)(n:Nat)(hn:b.many=n+1)(h16:n<16)(hH:HeapTo (keyM b.mks) (n+1)):
 Calls Tryz.prog 209 #[.iface 280 (.pointer (some ⟨bk,16,none⟩))] w fun e w'=>e= .returned (.iface 199 (mkV (b.mks 0)))∧
  ∃f,(∀k,InM f n k→InM b.mks (n+1) k)∧(∀k,k≠b.mks 0→InM b.mks (n+1) k→InM f n k)∧HeapTo (keyM f) n∧BkAt w' bk {b with mks:=f,many:=n}∧Touch (fun k=>k=bk) w w':=by
 have mP:=fun f W=>pmeth_Pop f ⟨bk,16,none⟩ W
 have mL:=fun f W=>pmeth_Len f ⟨bk,16,none⟩ W
 have mS:=fun f W=>pmeth_Swap f ⟨bk,16,none⟩ W
 have HN:=Lib.hid (pileLen h)
 have HS:=Lib.hid (pileSwap h 0 n (by omega) h16)
 rw [hn,show((n+1:Nat):Int)=(n:Int)+1 by omega]at HN
 rw [show((0:Nat):Int)=0 from rfl]at HS
 have hk1:HeapBut (keyM (swapM b.mks 0 n)) 0 n:=by
  rw [keyM_swap]
  exact heapBut_start hH
 have HK1:=Lib.hid hk1
 have HN2:=Lib.hid hn
 have hw1:IntKind.i64.wrap ((n:Int)+1-1)=(n:Int):=by rw [show(n:Int)+1-1=(n:Int)by omega];exact IntWalk.i64_in _ (by omega)
 clear h hH hk1 hn
 go_enter Tryz.func209,Tryz.ntmps209
 go_wp2_with fail
 refine HN.out.mono ?_
 rintro e w'⟨rfl,rfl⟩
 go_wp2_with fail
 refine HS.out.mono ?_
 rintro e w1⟨rfl,ho1,ht1⟩
 have HD:=Lib.hid (pileDown n ho1 (by omega) HK1.out)
 simp only at HD
 have HT1:=Lib.hid ht1
 clear HN HS ho1 ht1
 go_wp2_with fail
 refine HD.out.mono ?_
 rintro e w2⟨⟨bb,rfl⟩,f,hp2,hh2,hk2,ho2,ht2⟩
 have HPop:=Lib.hid (pilePop ho2 n HN2.out h16)
 simp only at HPop
 have hfn:f n=b.mks 0:=by
  rw [hk2 n (Nat.le_refl _)]
  unfold swapM
  by_cases e:n=0
  ·subst e;rw [if_pos rfl]
  ·rw [if_neg e,if_pos rfl]
 rw [hfn]at HPop
 have HH2:=Lib.hid hh2
 have HP2:=Lib.hid hp2
 have HT2:=Lib.hid (HT1.out.trans ht2 (fun _ h=> .inl h))
 clear ho2 ht2 hk2 hh2 hp2 HD hfn
 unfold mkV at HPop
 go_wp2_with fail
 refine HPop.out.mono ?_
 rintro e w3⟨rfl,ho3,ht3⟩
 go_wp2_with fail
 go_ret
 refine⟨rfl,f,fun k hk=> ?_,fun k hne hk=> ?_,HH2.out,ho3,HT2.out.trans ht3 (fun _ h=> .inl h)⟩
 ·obtain⟨i,hi,e⟩:=(HP2.out k).1 hk
  have h2:InM (swapM b.mks 0 n) (n+1) k:=⟨i,by omega,e⟩
  exact(inM_swap (by omega) (by omega) k).1 h2
 ·obtain⟨i,hi,e⟩:=(inM_swap (f:=b.mks) (n:=n+1) (i:=0) (j:=n) (by omega) (by omega) k).2 hk
  refine(HP2.out k).2 ⟨i,?_,e⟩
  by_cases hin:i=n
  ·exfalso
   subst hin
   unfold swapM at e
   by_cases e0:i=0
   ·rw [if_pos e0,e0]at e;exact hne e.symm
   ·rw [if_neg e0,if_pos rfl]at e;exact hne e.symm
  ·omega
end
def Bk.wt(b:Bk):Wt:={ats:=b.ats,ops:=b.ops}
structure PileB(b:Bk):Prop where
 heap:HeapTo (keyM b.mks) b.many
 ids:∀m,InM b.mks b.many m→m.2<8
 has:∀i,i<8→b.ops i=true→InM b.mks b.many (b.ats i,i)
 len:b.many≤16
section
variable{w w':World}{bk:Nat}{b:Bk}
set_option maxHeartbeats 2000000 in
theorem watchHas(h:BkAt w bk b)(id:Int):Calls Tryz.prog 166 #[.pointer (some ⟨bk,0,none⟩),.int .i64 id] w fun e w'=>e= .returned (.bool (hasW8 b.wt id))∧w=w':=by
 by_cases h1:0≤id
 ·have t1:decide (0≤id)=true:=decide_eq_true h1
  by_cases h2:id<8
  ·have t2:decide (id<8)=true:=decide_eq_true h2
   obtain⟨i,rfl⟩:∃i:Nat,id=(i:Int):=⟨id.toNat,by omega⟩
   have c:=h.cellOp i (by omega)
   have HV:Hid (hasW8 b.wt (i:Int)=b.ops i):=Lib.hid (by unfold hasW8;rw [t1,t2];rfl)
   generalize b.ops i=o at*
   clear h
   go_enter Tryz.func166,Tryz.ntmps166
   go_wp2
   go_ret
   exact⟨by rw [HV.out];rfl,rfl⟩
  ·have t2:decide (id<8)=false:=decide_eq_false h2
   have HV:Hid (hasW8 b.wt id=false):=Lib.hid (by unfold hasW8;rw [t1,t2];rfl)
   clear h
   go_enter Tryz.func166,Tryz.ntmps166
   go_wp2
   go_ret
   exact⟨by rw [HV.out];rfl,rfl⟩
 ·have t1:decide (0≤id)=false:=decide_eq_false h1
  have HV:Hid (hasW8 b.wt id=false):=Lib.hid (by unfold hasW8;rw [t1];rfl)
  clear h
  go_enter Tryz.func166,Tryz.ntmps166
  go_wp2
  go_ret
  exact⟨by rw [HV.out];rfl,rfl⟩
theorem has_nat{t:Wt}{id:Int}(h:hasW8 t id=true):∃i:Nat,id=(i:Int)∧i<8∧t.ops i=true:=by
 unfold hasW8 at h
 simp only [Bool.and_eq_true,decide_eq_true_eq]at h
 exact⟨id.toNat,by omega,by omega,h.2.2⟩
def atV(t:Wt)(id:Int):Value:=if hasW8 t id=true then .tuple #[.int .u64 ((t.ats id.toNat).toNat:Int),.bool true]else .tuple #[.int .u64 0,.bool false]
theorem watchAt(h:BkAt w bk b)(id:Int):Calls Tryz.prog 105 #[.pointer (some ⟨bk,0,none⟩),.int .i64 id] w fun e w'=>e= .returned (atV b.wt id)∧w=w':=by
 have HH:=Lib.hid (watchHas h id)
 cases hh:hasW8 b.wt id with
 | false=>
   rw [hh]at HH
   have HV:Hid (atV b.wt id= .tuple #[.int .u64 0,.bool false]):=Lib.hid (by unfold atV;rw [if_neg (by rw [hh];exact Bool.false_ne_true)])
   clear h hh
   go_enter Tryz.func105,Tryz.ntmps105
   go_wp2_with fail
   refine HH.out.mono ?_
   rintro e w1⟨rfl,rfl⟩
   go_wp2_with fail
   go_ret2
   exact⟨by rw [HV.out];rfl,rfl⟩
 | true=>
   rw [hh]at HH
   have HV:Hid (atV b.wt id= .tuple #[.int .u64 ((b.ats id.toNat).toNat:Int),.bool true]):=Lib.hid (by unfold atV;rw [if_pos hh];rfl)
   obtain⟨i,rfl,hi,_⟩:=has_nat hh
   have c:=h.cellAt i hi
   rw [Int.toNat_natCast]at HV
   have bi:(i:Int)<8:=by omega
   clear h hh
   go_enter Tryz.func105,Tryz.ntmps105
   go_wp2_with fail
   refine HH.out.mono ?_
   rintro e w1⟨rfl,rfl⟩
   go_wp2_with fail
   go_ret2
   exact⟨by rw [HV.out];rfl,rfl⟩
def firstNo(t:Wt):Int:=match openW t with
 | some i=>(i:Int)
 | none=> -1
set_option maxHeartbeats 2000000 in
theorem indexBool(h:BkAt w bk b):Calls Tryz.prog 156 #[.slice (some ⟨bk,8,none⟩) 8 8,.bool false] w fun e w'=>e= .returned (.int .i64 (firstNo b.wt))∧w=w':=by
 go_enter Tryz.func156,Tryz.ntmps156
 go_wp2_with fail
 go_loop [8](fun i=>∃k:Nat,k≤8∧i= .int .i64 (k:Nat)∧∀t,t<k→b.ops t=true)(fun i=>8- (intOf i).toNat)
 case atStart=>exact⟨0,by omega,rfl,fun t ht=>absurd ht (by omega)⟩
 case round=>
  obtain⟨k,hk,rfl,hno⟩:=hrel
  have HNo:=Lib.hid hno
  clear hno
  by_cases hlt:k<8
  ·have c:=h.cellOp k hlt
   have bi:(k:Int)<8:=by omega
   cases ho:b.ops k with
   | false=>
     have HV:Hid (firstNo b.wt=(k:Int)):=Lib.hid (by
      unfold firstNo openW
      have:(List.range 8).find? (fun i=> !b.wt.ops i)=some k:=List.find?_eq_some_iff_getElem.2 ⟨by show(!b.ops k)=true;rw [ho];rfl,k,by simpa using hlt,List.getElem_range ..,fun j hj=>by
       rw [List.getElem_range];show(!!b.ops j)=true;rw [HNo.out j hj];rfl⟩
      rw [this])
     rw [ho]at c
     clear ho
     go_wp2
     go_ret
     exact⟨by rw [HV.out];rfl,rfl⟩
   | true=>
     have HN:Hid (∀t,t<k+1→b.ops t=true):=Lib.hid (fun t ht=>by
      by_cases e:t=k
      ·subst e;exact ho
      ·exact HNo.out t (by omega))
     rw [ho]at c
     clear ho
     go_wp2
     go_round
     case rel=>exact⟨k+1,by omega,by go_num,HN.out⟩
     case measure=>simp [intOf];omega
  ·have hk8:k=8:=by omega
   subst hk8
   have HV:Hid (firstNo b.wt= -1):=Lib.hid (by
    unfold firstNo openW
    rw [List.find?_eq_none.2 (fun x hx=>by simp [Bk.wt,HNo.out x (List.mem_range.1 hx)])])
   go_wp2
   go_ret
   exact⟨by rw [HV.out];rfl,rfl⟩
end
theorem openW_some{t:Wt}{i:Nat}(h:openW t=some i):i<8∧t.ops i=false:=by
 unfold openW at h
 have h1:=List.mem_of_find?_eq_some h
 have h2:=List.find?_some h
 exact⟨List.mem_range.1 h1,by simpa using h2⟩
section
variable{w w':World}{bk:Nat}{b:Bk}
theorem watchOpen_none(h:BkAt w bk b)(ho:openW b.wt=none)(x:Int):Calls Tryz.prog 100 #[.pointer (some ⟨bk,0,none⟩),.int .u64 x] w fun e w'=>e= .returned (.tuple #[.int .i64 0,.int .i64 6])∧w=w':=by
 have HI:=Lib.hid (indexBool h)
 have hf:firstNo b.wt= -1:=by unfold firstNo;rw [ho]
 rw [hf]at HI
 clear h ho hf
 go_enter Tryz.func100,Tryz.ntmps100
 go_wp2_with fail
 refine HI.out.mono ?_
 rintro e w1⟨rfl,rfl⟩
 go_wp2_with fail
 go_ret2
 exact⟨rfl,rfl⟩
structure Opened(b b':Bk)(i:Nat)(x:UInt64):Prop where
 ats:b'.ats=updF b.ats i x
 ops:b'.ops=updF b.ops i true
 st:b'.st=b.st
 nt:b'.nt=b.nt
 many:b'.many=b.many+1
 pile:PileB b'
set_option maxHeartbeats 4000000 in
set_option maxRecDepth 100000 in
theorem watchOpen(h:BkAt w bk b)(hP:PileB b){i:Nat}(ho:openW b.wt=some i)(hm:b.many<16)(x:UInt64):
 Calls Tryz.prog 100 #[.pointer (some ⟨bk,0,none⟩),.int .u64 (x.toNat:Int)] w fun e w'=>e= .returned (.tuple #[.int .i64 (i:Int),.int .i64 0])∧
  ∃b',Opened b b' i x∧BkAt w' bk b'∧Touch (fun k=>k=bk) w w':=by
 obtain⟨hi,hno⟩:=openW_some ho
 have HI:=Lib.hid (indexBool h)
 have hf:firstNo b.wt=(i:Int):=by unfold firstNo;rw [ho]
 rw [hf]at HI
 have bi:(i:Int)<8:=by omega
 have g0:=h.frozen i
 have g1:=h.frozen (8+i)
 have c0:=h.cellAt i hi
 have c1:=h.cellOp i hi
 have hlt:=h.lt
 have HA:Hid (∀W,W=(w.setCell ⟨bk,i,none⟩ (.int .u64 (x.toNat:Int))).setCell ⟨bk,8+i,none⟩ (.bool true)∨W=(w.setCell ⟨bk,8+i,none⟩ (.bool true)).setCell ⟨bk,i,none⟩ (.int .u64 (x.toNat:Int))→
  BkAt W.drew bk {b with ats:=updF b.ats i x,ops:=updF b.ops i true}∧Touch (fun k=>k=bk) w W.drew):=Lib.hid (by
  rintro W(rfl| rfl)
  ·exact⟨((h.setAt i hi x).setOp i hi true).dr (Dr.drew _),(((Touch.refl (fun k=>k=bk) w).setCell (p:=⟨bk,i,none⟩) (.inl rfl) _).setCell (p:=⟨bk,8+i,none⟩) (.inl rfl) _).drew⟩
  ·exact⟨((h.setOp i hi true).setAt i hi x).dr (Dr.drew _),(((Touch.refl (fun k=>k=bk) w).setCell (p:=⟨bk,8+i,none⟩) (.inl rfl) _).setCell (p:=⟨bk,i,none⟩) (.inl rfl) _).drew⟩)
 have HP:=Lib.hid hP
 have HM:=Lib.hid hm
 have HB:=Lib.hid hi
 have HNo:=Lib.hid hno
 clear h ho hf hP hm hno
 go_enter Tryz.func100,Tryz.ntmps100
 go_wp2_with fail
 refine HI.out.mono ?_
 rintro e w1⟨rfl,rfl⟩
 go_wp2_with fail
 go_region
 all_goals(
  first
   | (obtain⟨W2,hW2⟩:∃W2,W2=((w.setCell ⟨bk,i,none⟩ (.int .u64 (x.toNat:Int))).setCell ⟨bk,8+i,none⟩ (.bool true)).drew:=⟨_,rfl⟩
      rw [←hW2]
      have hAA:=HA.out _ (.inl rfl)
      rw [←hW2]at hAA
      clear hW2)
   | (obtain⟨W2,hW2⟩:∃W2,W2=((w.setCell ⟨bk,8+i,none⟩ (.bool true)).setCell ⟨bk,i,none⟩ (.int .u64 (x.toNat:Int))).drew:=⟨_,rfl⟩
      rw [←hW2]
      have hAA:=HA.out _ (.inr rfl)
      rw [←hW2]at hAA
      clear hW2)
  obtain⟨hbk,ht⟩:=hAA
  have cm:=hbk.cellMany
  have HPu:=Lib.hid (pileHeapPush (x,i) hbk (by dsimp only;exact HM.out) (by dsimp only;exact HP.out.heap))
  have HT:=Lib.hid ht
  have tm:decide ((b.many:Int)=16)=false:=decide_eq_false (by have:=HM.out;omega)
  have tm2:decide (b.many=16)=false:=decide_eq_false (by have:=HM.out;omega)
  have tm3:¬b.many=16:=(by have:=HM.out;omega)
  dsimp only at cm HPu
  unfold mkV at HPu
  clear hbk ht g0 g1 c0 c1 hlt
  go_wp2_with fail
  refine HPu.out.mono ?_
  rintro e w3⟨rfl,f,hin,hh,hb3,ht3⟩
  go_wp2_with fail
  go_ret2
  refine⟨rfl,{b with ats:=updF b.ats i x,ops:=updF b.ops i true,mks:=f,many:=b.many+1},⟨rfl,rfl,rfl,rfl,rfl,hh,?_,?_,?_⟩,hb3,HT.out.trans ht3 (fun _ h=> .inl h)⟩
  ·intro m hm
   rcases(hin m).1 hm with h| rfl
   ·exact HP.out.ids m h
   ·exact HB.out
  ·intro k hk hop
   refine(hin _).2 ?_
   simp only [updF]at hop⊢
   by_cases e:k=i
   ·rw [if_pos e,e];exact .inr rfl
   ·rw [if_neg e];rw [if_neg e]at hop;exact .inl (HP.out.has k hk hop)
  ·have:=HM.out;dsimp only;omega)
structure Closed(b b':Bk)(i:Nat):Prop where
 ats:b'.ats=updF b.ats i 0
 ops:b'.ops=updF b.ops i false
 st:b'.st=b.st
 nt:b'.nt=b.nt
 many:b'.many=b.many
 pile:PileB b'
set_option maxHeartbeats 4000000 in
set_option maxRecDepth 100000 in
theorem watchClose(h:BkAt w bk b)(hP:PileB b){i:Nat}(hi:i<8)(ho:b.ops i=true):
 Calls Tryz.prog 109 #[.pointer (some ⟨bk,0,none⟩),.int .i64 (i:Int)] w fun e w'=>e= .returned (.int .i64 0)∧
  ∃b',Closed b b' i∧BkAt w' bk b'∧Touch (fun k=>k=bk) w w':=by
 have HH:=Lib.hid (watchHas h (i:Int))
 have hh:hasW8 b.wt (i:Int)=true:=by
  unfold hasW8
  simp only [Bool.and_eq_true,decide_eq_true_eq]
  exact⟨by omega,by omega,ho⟩
 rw [hh]at HH
 have bi:(i:Int)<8:=by omega
 have g0:=h.frozen i
 have g1:=h.frozen (8+i)
 have c0:=h.cellAt i hi
 have c1:=h.cellOp i hi
 have hlt:=h.lt
 have HA:Hid (∀W,W=(w.setCell ⟨bk,i,none⟩ (.int .u64 0)).setCell ⟨bk,8+i,none⟩ (.bool false)∨W=(w.setCell ⟨bk,8+i,none⟩ (.bool false)).setCell ⟨bk,i,none⟩ (.int .u64 0)→
  BkAt W.drew bk {b with ats:=updF b.ats i 0,ops:=updF b.ops i false}∧Touch (fun k=>k=bk) w W.drew):=Lib.hid (by
  rintro W(rfl| rfl)
  ·exact⟨((h.setAt i hi 0).setOp i hi false).dr (Dr.drew _),(((Touch.refl (fun k=>k=bk) w).setCell (p:=⟨bk,i,none⟩) (.inl rfl) _).setCell (p:=⟨bk,8+i,none⟩) (.inl rfl) _).drew⟩
  ·exact⟨((h.setOp i hi false).setAt i hi 0).dr (Dr.drew _),(((Touch.refl (fun k=>k=bk) w).setCell (p:=⟨bk,8+i,none⟩) (.inl rfl) _).setCell (p:=⟨bk,i,none⟩) (.inl rfl) _).drew⟩)
 have HP:=Lib.hid hP
 clear h hP ho hh
 go_enter Tryz.func109,Tryz.ntmps109
 go_wp2_with fail
 refine HH.out.mono ?_
 rintro e w1⟨rfl,rfl⟩
 go_wp2_with fail
 go_region
 all_goals(
  first
   | (obtain⟨W2,hW2⟩:∃W2,W2=((w.setCell ⟨bk,i,none⟩ (.int .u64 0)).setCell ⟨bk,8+i,none⟩ (.bool false)).drew:=⟨_,rfl⟩
      rw [←hW2]
      have hAA:=HA.out _ (.inl rfl)
      rw [←hW2]at hAA
      clear hW2)
   | (obtain⟨W2,hW2⟩:∃W2,W2=((w.setCell ⟨bk,8+i,none⟩ (.bool false)).setCell ⟨bk,i,none⟩ (.int .u64 0)).drew:=⟨_,rfl⟩
      rw [←hW2]
      have hAA:=HA.out _ (.inr rfl)
      rw [←hW2]at hAA
      clear hW2)
  obtain⟨hbk,ht⟩:=hAA
  clear g0 g1 c0 c1 hlt
  go_wp2_with fail
  go_ret
  refine⟨rfl,{b with ats:=updF b.ats i 0,ops:=updF b.ops i false},⟨rfl,rfl,rfl,rfl,rfl,HP.out.heap,HP.out.ids,?_,HP.out.len⟩,hbk,ht⟩
  intro k hk hop
  simp only [updF]at hop⊢
  by_cases e:k=i
  ·rw [if_pos e]at hop;exact absurd hop (by decide)
  ·rw [if_neg e]at hop⊢;exact HP.out.has k hk hop)
def liveB(b:Bk)(m:Mk):Bool:=b.ops m.2&&decide (b.ats m.2=m.1)
set_option maxHeartbeats 4000000 in
theorem watchLive(h:BkAt w bk b)(m:Mk)(hm:m.2<8):Calls Tryz.prog 170 #[.pointer (some ⟨bk,0,none⟩),mkV m] w fun e w'=>e= .returned (.bool (liveB b m))∧Below w.heap.size w w':=by
 have bi:(m.2:Int)<8:=by omega
 have c0:=h.cellAt m.2 hm
 have c1:=h.cellOp m.2 hm
 have hlt:=h.lt
 unfold mkV
 cases ho:b.ops m.2 with
 | false=>
   have HV:Hid (liveB b m=false):=Lib.hid (by unfold liveB;rw [ho];rfl)
   rw [ho]at c1
   clear h ho
   go_enter Tryz.func170,Tryz.ntmps170
   go_wp2_with fail
   go_quiet(fail)
   go_wp2_with fail
   go_ret
   exact⟨by rw [HV.out];rfl,((Below.refl _ _).alloc (Nat.le_refl _) _).trans ((Dr.one _ _).below _)⟩
 | true=>
   rw [ho]at c1
   have HV:Hid (liveB b m=(((b.ats m.2).toNat:Int)==(m.1.toNat:Int))):=Lib.hid (by
    unfold liveB
    rw [ho,Bool.true_and]
    by_cases he:b.ats m.2=m.1
    ·rw [decide_eq_true he,he];exact(beq_self_eq_true _).symm
    ·rw [decide_eq_false he];exact(beq_eq_false_iff_ne.2 (fun e=>he (UInt64.toNat_inj.1 (by omega)))).symm)
   clear h ho
   go_enter Tryz.func170,Tryz.ntmps170
   go_wp2_with fail
   go_quiet(fail)
   go_wp2_with fail
   go_ret
   exact⟨by rw [HV.out];rfl,((Below.refl _ _).alloc (Nat.le_refl _) _).trans ((Dr.one _ _).below _)⟩
end
section
variable{w w':World}{bk:Nat}{b:Bk}
structure Dropped(b b':Bk):Prop where
 ats:b'.ats=b.ats
 ops:b'.ops=b.ops
 st:b'.st=b.st
 nt:b'.nt=b.nt
 many:b'.many≤b.many
 pile:PileB b'
theorem watchDrop(h:BkAt w bk b)(hP:PileB b)(n:Nat)(hn:b.many=n+1)(hl:liveB b (b.mks 0)=false):
 Calls Tryz.prog 169 #[.pointer (some ⟨bk,0,none⟩)] w fun e w'=>e= .returned (.tuple #[])∧
  ∃b',Dropped b b'∧b'.many=n∧BkAt w' bk b'∧Touch (fun k=>k=bk) w w':=by
 have HQ:=Lib.hid (pileHeapPop h n hn (by have:=hP.len;omega) (by have:=hP.heap;rwa [hn]at this))
 have HP:=Lib.hid hP
 have HN:=Lib.hid hn
 have HL:=Lib.hid hl
 clear h hP hn hl
 go_enter Tryz.func169,Tryz.ntmps169
 go_wp2_with fail
 refine HQ.out.mono ?_
 rintro e w1⟨rfl,f,h1,h2,hh,hb,ht⟩
 go_wp2_with fail
 go_end0
 refine⟨rfl,{b with mks:=f,many:=n},⟨rfl,rfl,rfl,rfl,?_,hh,?_,?_,?_⟩,rfl,hb,ht⟩
 ·have:=HN.out;dsimp only;omega
 ·intro m hm;exact HP.out.ids m (HN.out▸h1 m hm)
 ·intro i hi ho
  refine h2 _ (fun e=> ?_) (HN.out▸HP.out.has i hi ho)
  have hl:=HL.out
  rw [←e]at hl
  unfold liveB at hl
  rw [show b.ops (b.ats i,i).2=true from ho,Bool.true_and,decide_eq_true (rfl:b.ats (b.ats i,i).2=(b.ats i,i).1)]at hl
  exact absurd hl (by decide)
 ·have:=HP.out.len;have:=HN.out;dsimp only;omega
def manyOf(w:World)(bk:Nat):Nat:=(intOf ((w.cell? ⟨bk,48,none⟩).getD undef)).toNat
theorem manyOf_at(h:BkAt w bk b):manyOf w bk=b.many:=by
 unfold manyOf
 rw [h.cellMany]
 simp [intOf]
theorem callFn_drop(l:Array Value)(W:World):(callFunc 169 l).run Tryz.prog W= .ok (.enter 169 l) W:=by
 simp [callFunc,Tryz.func169,Tryz.f169]
set_option maxHeartbeats 4000000 in
set_option maxRecDepth 100000 in
theorem watchLeast(h:BkAt w bk b)(hP:PileB b)(x:UInt64):
 Calls Tryz.prog 110 #[.pointer (some ⟨bk,0,none⟩),.int .u64 (x.toNat:Int)] w fun e w'=>e= .returned (.int .u64 ((leastW b.wt x).toNat:Int))∧
  ∃b',Dropped b b'∧BkAt w' bk b'∧Touch (fun k=>k=bk) w w':=by
 have hmf:∀(fn:Fn)(first cap:Array Value)(w:World),(Instr.makeFunc fn first cap).run Tryz.prog w= .ok (.func fn first cap) w:=fun _ _ _ _=>rfl
 have hcf:=fun l W=>callFn_drop l W
 have HH:=Lib.hid h
 have HP:=Lib.hid hP
 clear h hP
 go_enter Tryz.func110,Tryz.ntmps110
 go_wp2_with fail
 go_loopw [](fun wr=>∃b',Dropped b b'∧BkAt wr bk b'∧Touch (fun k=>k=bk) w wr)(fun wr=>manyOf wr bk)
 case atStart=>exact⟨b,⟨rfl,rfl,rfl,rfl,Nat.le_refl _,HP.out⟩,HH.out,Touch.refl _ _⟩
 case round=>
  obtain⟨b',hD,hb,ht⟩:=hrel
  have HD:=Lib.hid hD
  have HT:=Lib.hid ht
  have hwt:Hid (b.wt=b'.wt):=Lib.hid (by unfold Bk.wt;rw [hD.ats,hD.ops])
  have cm:=hb.cellMany
  have HB:=Lib.hid hb
  have HMo:=Lib.hid (manyOf_at hb)
  clear hD ht HH
  cases hm:b'.many with
  | zero=>
    rw [hm]at cm
    have HV:Hid (leastW b.wt x=x):=Lib.hid (by
     rw [hwt.out]
     refine least_none fun i hi=> ?_
     cases ho:isOpen b'.wt i with
     | false=>rfl
     | true=>
       obtain⟨k,hk,_⟩:=HD.out.pile.has i hi ho
       rw [hm]at hk;exact absurd hk (by omega))
    clear hb hm
    rw [show((0:Nat):Int)=0 from rfl]at cm
    go_wp2_with fail
    go_ret
    exact⟨by rw [HV.out];rfl,b',HD.out,HB.out,HT.out⟩
  | succ n=>
    rw [hm,show((n+1:Nat):Int)=(n:Int)+1 by omega]at cm
    have t1:decide (0<(n:Int)+1)=true:=decide_eq_true (by omega)
    have t2:decide ((n:Int)+1=0)=false:=decide_eq_false (by omega)
    have t3:((n:Int)+1==0)=false:=beq_eq_false_iff_ne.2 (by omega)
    obtain⟨c0,c1⟩:=hb.cellMk 0 (by omega)
    have HL:=Lib.hid (watchLive hb (b'.mks 0) (HD.out.pile.ids _ ⟨0,by omega,rfl⟩))
    unfold mkV at HL
    have HM:=Lib.hid hm
    clear hb hm
    cases hl:liveB b' (b'.mks 0)with
    | true=>
      rw [hl]at HL
      have HV:Hid (leastW b.wt x=(b'.mks 0).1):=Lib.hid (by
       rw [hwt.out]
       have hl2:=hl
       unfold liveB at hl2
       simp only [Bool.and_eq_true,decide_eq_true_eq]at hl2
       refine least_is ⟨(b'.mks 0).2,HD.out.pile.ids _ ⟨0,by rw [HM.out];omega,rfl⟩,hl2.1,hl2.2⟩ fun i hi ho=> ?_
       obtain⟨k,hk,e⟩:=HD.out.pile.has i hi ho
       have:=heap_least HD.out.pile.heap k hk
       unfold keyM at this
       rw [e]at this
       exact this)
      clear hl
      go_wp2_with fail
      refine HL.out.mono ?_
      rintro e w1⟨rfl,hb1⟩
      have HB1:=Lib.hid (HB.out.below hb1)
      have cm1:=HB1.out.cellMany
      obtain⟨d0,d1⟩:=HB1.out.cellMk 0 (by omega)
      rw [HM.out,show((n+1:Nat):Int)=(n:Int)+1 by omega]at cm1
      have HB2:=Lib.hid hb1
      clear hb1
      go_wp2_with fail
      go_ret
      exact⟨by rw [HV.out];rfl,b',HD.out,HB1.out,HT.out.trans (Touch.of_below HB2.out) (fun _ h=> .inl h)⟩
    | false=>
      rw [hl]at HL
      have HLf:=Lib.hid hl
      clear hl
      go_wp2_with fail
      refine HL.out.mono ?_
      rintro e w1⟨rfl,hb1⟩
      have HDr:=Lib.hid (watchDrop (HB.out.below hb1) HD.out.pile n HM.out HLf.out)
      have HB2:=Lib.hid hb1
      clear hb1 cm c0 c1
      go_wp2_with fail
      refine HDr.out.mono ?_
      rintro e w2⟨rfl,b2,hd2,hn2,hbk2,ht2⟩
      go_wp2_with fail
      go_roundw
      case rel=>exact⟨b2,⟨hd2.ats.trans HD.out.ats,hd2.ops.trans HD.out.ops,hd2.st.trans HD.out.st,hd2.nt.trans HD.out.nt,Nat.le_trans hd2.many HD.out.many,hd2.pile⟩,hbk2,(HT.out.trans (Touch.of_below HB2.out) (fun _ h=> .inl h)).trans ht2 (fun _ h=> .inl h)⟩
      case measure=>rw [HMo.out,HM.out,manyOf_at hbk2,hn2];omega
end
end Go.Proofs.YtbkpiojejmhfcaaGreatDoor
