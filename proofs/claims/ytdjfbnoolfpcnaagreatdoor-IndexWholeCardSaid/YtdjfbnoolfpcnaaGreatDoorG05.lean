import Derived.Deep.RegionWith
import Derived.IntWalk
import Derived.Lib.TrailingZeros
import Derived.Test.YtdjfbnoolfpcnaaGreatDoorG01
import Derived.Test.YtdjfbnoolfpcnaaGreatDoorG04
namespace Go.Proofs.YtdjfbnoolfpcnaaGreatDoor
open Go.RowKit
set_option maxHeartbeats 2000000 in
theorem fence_line_no(g i:Nat)(w:World)(z3:w.cell? ⟨g,66*i+65,none⟩=some (.int .i64 0)):
 Calls Tryz.prog 127 #[.pointer (some ⟨g,66*i,none⟩)] w fun e w'=>e= .returned (.tuple #[])∧w=w':=by
 go_enter Tryz.func127,Tryz.ntmps127;go_wp2;go_end0;exact⟨rfl,rfl⟩
theorem slice_ch(A:Option Addr)(n c:Nat)(hn:n≤1000000):∃D,∀W,(Instr.slice 99 (.slice A n c) (some (.int .i64 (n:Int))) none none).run Tryz.prog W= .ok (.slice D 0 (c-n)) W:=by
 obtain⟨i,hi,hz0,hz1,hz2⟩:∃i,Tryz.prog.info? 140=some i∧i.zero=some (.agg #[.int .i64 0,.int .u64 0])∧i.size=2∧i.bytes=16:=by
  have hI:(Tryz.prog.info? 140).map (fun i=>(i.zero,i.size,i.bytes))=some (some (.agg #[.int .i64 0,.int .u64 0]),2,16):=by kernel_rfl
  exact info_parts hI
 refine⟨if c=n then A else A.map (·.add (n*2)),fun W=> ?_⟩;have e2:=run_sliceBound (P:=Tryz.prog) (w:=W) .i64 (n:Int) n .sliceB (by omega) (by omega);have e3:(sizeOf 140).run Tryz.prog W= .ok 2 W:=by simp [sizeOf,typeInfo,hi,hz1]
 simp [Instr.slice,run_underlying Tryz.underlying99,Instr.sliceBounds,e2]
set_option maxHeartbeats 2000000 in
set_option maxRecDepth 100000 in
theorem fence_line(g i n c:Nat)(A:Option Addr)(w:World)(hn:n≤1000000)(z1:w.cell? ⟨g,66*i+64,none⟩=some (.slice A n c))(z3:w.cell? ⟨g,66*i+65,none⟩=some (.int .i64 ((n:Int)+1)))
 (f1:w.frozen? ⟨g,66*i+64,none⟩=false)(f2:w.frozen? ⟨g,66*i+65,none⟩=false):
 Calls Tryz.prog 127 #[.pointer (some ⟨g,66*i,none⟩)] w fun e w'=>e= .returned (.tuple #[])∧∃B w1,Below w.heap.size w w1∧w'=(w1.setCell ⟨g,66*i+64,none⟩ (.slice B 0 0)).setCell ⟨g,66*i+65,none⟩ (.int .i64 0):=by
 have hglt:g<w.heap.size:=World.block_lt_of_cell? w _ z1;obtain⟨D,hD⟩:=slice_ch A n c hn;have b1:IntKind.i64.wrap ((n:Int)+1-1)=(n:Int):=by rw [Int.add_sub_cancel];exact IntWalk.i64_in _ (by omega)
 have b2:IntKind.i64.wrap (n:Int)=(n:Int):=IntWalk.i64_in _ (by omega);have t1:decide ((0:Int)<(n:Int)+1)=true:=decide_eq_true (by omega);go_enter Tryz.func127,Tryz.ntmps127
 go_wp2_with fail
 go_region_with(go_at_call 158;go_loud(refine(clone_none _ _ _).mono ?_;rintro e w1⟨B,rfl,hb1⟩;have k1:=(hb1.cell (p:=⟨g,66*i+64,none⟩) hglt).trans z1;have k2:=(hb1.frozen (p:=⟨g,66*i+64,none⟩) hglt).trans f1;have k3:=(hb1.cell (p:=⟨g,66*i+65,none⟩) hglt).trans z3;have k4:=(hb1.frozen (p:=⟨g,66*i+65,none⟩) hglt).trans f2))
 all_goals(go_wp2_with fail)
 all_goals(go_end0)
 all_goals(exact⟨rfl,B,w1,⟨hb1.os,hb1.tape,hb1.output,hb1.size,hb1.block⟩,rfl⟩)
def lenF(k:Nat)(len:Mode)(mark:Nat→Nat):Mode:=⟨fun i=>if i<k∧mark i≠0 then []else len.chg i,len.lf⟩
def markF(k:Nat)(mark:Nat→Nat)(i:Nat):Nat:=if i<k then 0 else mark i
def hbF(k:Nat)(mark:Nat→Nat)(hb:Nat→Option Nat)(i:Nat):Option Nat:=if i<k∧mark i≠0 then none else hb i
theorem lenF_zero(len:Mode)(mark:Nat→Nat):lenF 0 len mark=len:=by
 cases len;rfl
theorem markF_zero(mark:Nat→Nat):markF 0 mark=mark:=by funext i;simp [markF]
theorem hbF_zero(mark:Nat→Nat)(hb:Nat→Option Nat):hbF 0 mark hb=hb:=by funext i;simp [hbF]
theorem lenF_no(k:Nat)(len:Mode)(mark:Nat→Nat)(h:mark k=0):lenF (k+1) len mark=lenF k len mark:=by
 unfold lenF;congr 1;funext i;by_cases e:i=k
 ·subst e;simp [h]
 ·simp only [show(i<k+1)=(i<k)by apply propext;omega]
theorem markF_no(k:Nat)(mark:Nat→Nat)(h:mark k=0):markF (k+1) mark=markF k mark:=by
 funext i;unfold markF;by_cases e:i=k
 ·subst e;simp [h]
 ·simp only [show(i<k+1)=(i<k)by apply propext;omega]
theorem hbF_no(k:Nat)(mark:Nat→Nat)(hb:Nat→Option Nat)(h:mark k=0):hbF (k+1) mark hb=hbF k mark hb:=by
 funext i;unfold hbF;by_cases e:i=k
 ·subst e;simp [h]
 ·simp only [show(i<k+1)=(i<k)by apply propext;omega]
theorem lenF_yes(k:Nat)(len:Mode)(mark:Nat→Nat)(h:mark k≠0):lenF (k+1) len mark=(lenF k len mark).wipe k:=by
 unfold lenF Mode.wipe;congr 1;funext i;by_cases e:i=k
 ·subst e;simp [h]
 ·simp only [show(i<k+1)=(i<k)by apply propext;omega,if_neg e]
theorem markF_yes(k:Nat)(mark:Nat→Nat):markF (k+1) mark=fun i=>if i=k then 0 else markF k mark i:=by
 funext i;unfold markF;by_cases e:i=k
 ·subst e;simp
 ·simp only [show(i<k+1)=(i<k)by apply propext;omega,if_neg e]
theorem hbF_yes(k:Nat)(mark:Nat→Nat)(hb:Nat→Option Nat)(h:mark k≠0):hbF (k+1) mark hb=fun i=>if i=k then none else hbF k mark hb i:=by
 funext i;unfold hbF;by_cases e:i=k
 ·subst e;simp [h]
 ·simp only [show(i<k+1)=(i<k)by apply propext;omega,if_neg e]
theorem fence_at(d L:Nat)(ws:Nat→UInt64)(len:Mode)(mark:Nat→Nat)(g:Nat)(hb:Nat→Option Nat)(k:Nat)(w:World)(hk:k<L)(h:DevRep w d L ws (lenF k len mark) (markF k mark) g (hbF k mark hb))
 (hm:mark k=0∨mark k=len k+1)(hlen:len k≤1000000):
 Calls Tryz.prog 127 #[.pointer (some ⟨g,66*k,none⟩)] w fun e w'=>e= .returned (.tuple #[])∧
  DevRep w' d L ws (lenF (k+1) len mark) (markF (k+1) mark) g (hbF (k+1) mark hb)∧Touch (fun b=>b=g) w w':=by
 obtain⟨cur,hg,hs,h1,h2⟩:=h.blk;obtain⟨A,c,e1,e2,hc⟩:=h2 k hk;have l1:(lenF k len mark).len k=len k:=by simp [lenF,Mode.len]
 have m1:markF k mark k=mark k:=by simp [markF]
 rw [l1]at e1;rw [m1]at e2;have z1:w.cell? ⟨g,66*k+64,none⟩=some (.slice A (len k) c):=by rw [cell_of_row w g _ cur _ (0,0) hg];exact e1
 have z3:w.cell? ⟨g,66*k+65,none⟩=some (.int .i64 (mark k:Int)):=by rw [cell_of_row w g _ cur _ (0,0) hg];exact e2
 have f1:w.frozen? ⟨g,66*k+64,none⟩=false:=by simp [World.frozen?,hg]
 have f2:w.frozen? ⟨g,66*k+65,none⟩=false:=by simp [World.frozen?,hg]
 by_cases h0:mark k=0
 ·rw [h0]at z3;refine(fence_line_no g k w z3).mono ?_;rintro e w'⟨rfl,rfl⟩;refine⟨rfl,?_,Touch.refl _ _⟩;rw [lenF_no _ _ _ h0,markF_no _ _ h0,hbF_no _ _ _ h0];exact h
 ·have hm':mark k=len k+1:=hm.resolve_left h0;rw [hm',Int.natCast_add]at z3;refine(fence_line g k (len k) c A w hlen z1 z3 f1 f2).mono ?_;rintro e w'⟨rfl,B,w1,hb1,rfl⟩;refine⟨rfl,?_,Touch.setCell (F:=fun b=>b=g) (Touch.setCell (F:=fun b=>b=g) (Touch.of_below hb1) (p:=⟨g,66*k+64,none⟩) (.inl rfl) _) (p:=⟨g,66*k+65,none⟩) (.inl rfl) _⟩;rw [lenF_yes _ _ _ h0,markF_yes,hbF_yes _ _ _ h0];exact h.clear hk hb1 B
set_option maxHeartbeats 2000000 in
theorem fence_dev(d L:Nat)(ws:Nat→UInt64)(len:Mode)(mark:Nat→Nat)(g:Nat)(hb:Nat→Option Nat)(w:World)(hL:L≤1024)(hL0:0<L)(hu:len.lf≠0)(h:DevRep w d L ws len mark g hb)
 (hm:∀i,i<L→mark i=0∨mark i=len i+1)(hlen:∀i,i<L→len i≤1000000):
 Calls Tryz.prog 88 #[.pointer (some ⟨d,0,none⟩)] w fun e w'=>e= .returned (.int .i64 0)∧
  DevRep w' d L ws (lenF L len mark).tick (markF L mark) g (hbF L mark hb)∧Touch (devOwn d L g hb) w w':=by
 obtain⟨st,hbx⟩:=h.box;have hlfr:=h.lfr;rw [decide_eq_false hu]at hbx;obtain⟨y0,y1,y2,y3,f0,f1,f2,f3⟩:=blk4' hbx;have ha:=ask_ok d L g 0 1 (.int .i64 len.lf) (.int .i64 st) w hL hbx (by omega) (by decide) (by decide) (by decide);have HA:=Lib.hid ha;have H:=Lib.hid h;have HM:=Lib.hid hm;have HL:=Lib.hid hlen;clear ha h hbx hm hlen;go_enter Tryz.func88,Tryz.ntmps88
 go_wp2_with fail
 refine HA.out.mono ?_;rintro e w'⟨rfl,rfl⟩;clear HA
 go_wp2_with fail
 clear y0 y1 y2 y3 f0 f1 f2 f3
 go_loopw [15](fun i wr=>∃k:Nat,k≤L∧i= .int .i64 k∧DevRep wr d L ws (lenF k len mark) (markF k mark) g (hbF k mark hb)∧Touch (fun b=>b=g) w wr)(fun i _=>L- (intOf i).toNat)
 case atStart=>exact⟨0,Nat.zero_le _,rfl,by rw [lenF_zero,markF_zero,hbF_zero];exact H.out,Touch.refl _ _⟩
 case round=>
  obtain⟨k,hk,rfl,hr,ht⟩:=hrel;obtain⟨st2,hbx2⟩:=hr.box;rw [show decide ((lenF k len mark).lf=0)=false from decide_eq_false hu]at hbx2;obtain⟨y0,y1,y2,y3,f0,f1,f2,f3⟩:=blk4' hbx2;by_cases hlt:k<L
  ·have HF:=Lib.hid (fence_at d L ws len mark g hb k wr hlt hr (HM.out k hlt) (HL.out k hlt));have HT:=Lib.hid ht;clear hr ht hbx2
   go_wp2_with fail
   rw [show k*66=66*k by omega];refine HF.out.mono ?_;rintro e w2⟨rfl,hr2,ht2⟩;have ht3:=HT.out.trans ht2 (fun b hb'=> .inl hb');clear HF HT y0 y1 y2 y3 f0 f1 f2 f3 ht2
   go_wp2_with fail
   go_roundw
   case rel=>exact⟨k+1,by omega,by go_num,hr2,ht3⟩
   case measure=>simp [intOf];omega
  ·have hkn:k=L:=by omega
   subst hkn;have HD:=Lib.hid (done_dev d g k len.lf st2 wr hu hlfr hbx2);have HR:=Lib.hid hr;have HT:=Lib.hid ht;clear hr ht hbx2
   go_wp2_with fail
   refine HD.out.mono ?_;rintro e w2⟨rfl,ht6,st',hB6⟩;clear HD y0 y1 y2 y3 f0 f1 f2 f3
   go_wp2_with fail
   go_ret;exact⟨rfl,HR.out.step ht6 hB6,(HT.out.mono (fun b e=> .inr (.inl e))).trans ht6 (fun b h=> .inl (.inl h))⟩
def zeroLine:Array Value:=(List.replicate 64 (Value.int .u8 0)++[Value.slice none 0 0,Value.int .i64 0]).toArray
theorem Tryz.zeroOfLine:(Tryz.prog.info? 101).bind (fun i=>i.zero.map (fun z=>(z.cells,i.size,i.bytes)))=some (zeroLine,66,96):=by kernel_rfl
theorem zero_bytes(i:Nat):leBytes (lineW (fun _=>0) i)=List.replicate 64 0:=by
 have:lineW (fun _=>0) i=List.replicate 8 0:=by
  apply List.ext_getElem
  ·simp [lineW]
  ·intro t h1 h2;rw [lineW_get,List.getElem_replicate]
 rw [this];decide
theorem made_line(L i k:Nat)(hi:i<L)(hk:k<66):(madeCells zeroLine (L*66))[66*i+k]? =zeroLine[k]? :=by
 have hs:zeroLine.size=66:=rfl;have:66*i+k<L*66:=by omega
 unfold madeCells;rw [Array.getElem?_map,hs];simp only [Array.getElem?_range,this,if_true,Option.map_some];rw [show(66*i+k)%66=k by omega,getElem!_pos zeroLine k (by rw [hs];exact hk),Array.getElem?_eq_getElem (by rw [hs];exact hk)]
theorem DevRep.made{w:World}{d g L:Nat}{st:Int}(hd:Blk w d 93 [.slice (some ⟨g,0,none⟩) L L,.bool false,.int .i64 (-1),.int .i64 st])(hne:g≠d)(hg:w.heap[g]? =some (.cells (madeCells zeroLine (L*66)) 101 (0,0))):
 DevRep w d L (fun _=>0) M0 (fun _=>0) g (fun _=>none):=by
 refine⟨⟨st,hd⟩,by decide,hne,⟨_,hg,by rw [size_madeCells];omega,fun i hi k hk=> ?_,fun i hi=>⟨none,0,?_,?_,.inl ⟨rfl,rfl,rfl⟩⟩⟩,fun i hi h hh=>(by cases hh),fun i j hi hj hij h hh=>(by cases hh),fun i hi=>Nat.zero_le _⟩
 ·rw [made_line L i k hi (by omega),zero_bytes,List.getElem?_replicate,if_pos hk];show(List.replicate 64 (Value.int .u8 0)++[Value.slice none 0 0,Value.int .i64 0]).toArray[k]? =_;rw [List.getElem?_toArray,List.getElem?_append_left (by simpa using hk),List.getElem?_replicate,if_pos hk];rfl
 ·rw [made_line L i 64 hi (by decide)];rfl
 ·rw [made_line L i 65 hi (by decide)];rfl
set_option maxHeartbeats 1000000 in
set_option maxRecDepth 100000 in
theorem new_dev(L:Nat)(w:World)(hL0:1≤L)(hL:L≤1024):
 Calls Tryz.prog 41 #[.int .i64 (L:Int)] w fun e w'=>∃d g,e= .returned (.pointer (some ⟨d,0,none⟩))∧
  DevRep w' d L (fun _=>0) M0 (fun _=>0) g (fun _=>none)∧w.heap.size≤d∧w.heap.size≤g∧Below w.heap.size w w':=by
 obtain⟨i0,z,hi,hz0,hz1,hz2,hz3⟩:∃i z,Tryz.prog.info? 101=some i∧i.zero=some z∧i.size=66∧i.bytes=96∧z.cells=zeroLine:=by
  have h:=Tryz.zeroOfLine;cases hh:Tryz.prog.info? 101 with
  | none=>rw [hh]at h;cases h
  | some i=>
    rw [hh]at h;cases hz:i.zero with
    | none=>simp [hz]at h
    | some z=>simp [hz]at h;exact⟨i,z,rfl,hz,h.2.1,h.2.2,h.1⟩
 go_enter Tryz.func41,Tryz.ntmps41
 go_wp2_with(at_make;refine wpList_make_full _ rfl _ _ 91 rfl w.heap.size 101 i0 z 66 Tryz.underlying91 hi hz0 hz1 .i64 .i64 _ _ L rfl rfl rfl rfl (by rw [hz2];omega) (by unfold maxLen;omega) (Nat.le_refl _) ?_;intro w0 hown0 hgrow0)
 have hb0:Below w.heap.size w w0:=(Below.refl _ _).grown hgrow0 (Nat.le_refl _) (by simp);rw [hz3]at hown0;have hg:w0.heap[w.heap.size]? =some (.cells (madeCells zeroLine (L*66)) 101 (0,0)):=by
  rcases hown0.2 with⟨h,_⟩| ⟨g,cap,cur,h,_,hgg,_,_,hcs,ht⟩
  ·cases h
  ·simp only [Value.slice.injEq,Option.some.injEq,Addr.mk.injEq,and_true,true_and]at h;obtain⟨rfl,rfl⟩:=h;rw [List.take_of_length_le (by rw [Array.length_toList];omega)]at ht;rw [hgg,Array.toList_inj.1 ht]
 have hsz:w.heap.size<w0.heap.size:=(Array.getElem?_eq_some_iff.1 hg).1;clear hgrow0 hown0;go_ret;refine⟨w0.heap.size,w.heap.size,rfl,DevRep.made (heap_alloc_new w0 _) (by omega) ((heap_alloc_old w0 _ hsz).trans hg),by omega,Nat.le_refl _,hb0.alloc (by omega) _⟩
theorem store_mk(d:Nat)(off x:Int)(w:World):
 Calls Tryz.prog 86 #[.pointer (some ⟨d,0,none⟩),.int .i64 off,.int .u64 x] w fun e w'=>e= .returned (.func (.func 122) #[] #[.pointer (some ⟨w.heap.size,0,none⟩),.pointer (some ⟨w.heap.size+1,0,none⟩),.pointer (some ⟨w.heap.size+1+1,0,none⟩)])∧
  w'=((w.alloc (.cells #[.pointer (some ⟨d,0,none⟩)] 31)).alloc (.cells #[.int .i64 off] 3)).alloc (.cells #[.int .u64 x] 23):=by
 go_enter Tryz.func86,Tryz.ntmps86;go_wp2;go_ret;exact⟨rfl,rfl⟩
theorem flush_mk(d:Nat)(off:Int)(w:World):
 Calls Tryz.prog 87 #[.pointer (some ⟨d,0,none⟩),.int .i64 off] w fun e w'=>e= .returned (.func (.func 124) #[] #[.pointer (some ⟨w.heap.size,0,none⟩),.pointer (some ⟨w.heap.size+1,0,none⟩)])∧
  w'=(w.alloc (.cells #[.pointer (some ⟨d,0,none⟩)] 31)).alloc (.cells #[.int .i64 off] 3):=by
 go_enter Tryz.func87,Tryz.ntmps87;go_wp2;go_ret;exact⟨rfl,rfl⟩
set_option maxHeartbeats 1000000 in
theorem within_ok(d L g off n:Nat)(v1 v2 v3:Value)(w:World)(hL0:1≤L)(hL:L≤1024)(h:Blk w d 93 [.slice (some ⟨g,0,none⟩) L L,v1,v2,v3])(h8:off%8=0)(hn:off+8*n≤L*64):
 Calls Tryz.prog 99 #[.pointer (some ⟨d,0,none⟩),.int .i64 (off:Int),.int .i64 (n:Int)] w fun e w'=>e= .returned (.int .i64 0)∧w=w':=by
 have hs:=size_dev d L g v1 v2 v3 w hL h;have HS:=Lib.hid hs;obtain⟨N,hN⟩:∃N,N=L*64:=⟨_,rfl⟩;rw [←hN]at hs HS hn;have t1:((N:Int)==0)=false:=by rw [beq_eq_false_iff_ne];omega
 have t2:decide ((off:Int)<0)=false:=decide_eq_false (by omega);have t3:decide ((N:Int)<(off:Int))=false:=decide_eq_false (by omega);have t4:((off:Int)%8 !=0)=false:=by
  have:(off:Int)%8=0:=by omega
  rw [this];rfl
 have t5:decide ((n:Int)<0)=false:=decide_eq_false (by omega);have t6:decide (((N:Int) - (off:Int))/8<(n:Int))=false:=decide_eq_false (by omega);have hN2:N≤65536:=by omega
 have hle:off≤N:=by omega
 clear hs h;go_enter Tryz.func99,Tryz.ntmps99
 go_wp2_with fail
 refine HS.out.mono ?_;rintro e w'⟨rfl,rfl⟩;clear HS hN
 go_wp2_with fail
 go_ret;exact⟨rfl,rfl⟩
theorem step_store{Q:Int→World→Prop}(b1 b2 b3:Nat)(D:Value)(off x:Int)(w:World)(h1:w.cell? ⟨b1,0,none⟩=some D)(hD:∃A,D= .pointer A)(h2:w.cell? ⟨b2,0,none⟩=some (.int .i64 off))(h3:w.cell? ⟨b3,0,none⟩=some (.int .u64 x))
 (hc:Calls Tryz.prog 123 #[D,.int .i64 off,.int .u64 x] w fun e w'=>∃c:Int,e= .returned (.int .i64 c)∧Q c w'):
 Calls Tryz.prog 122 #[.pointer (some ⟨b1,0,none⟩),.pointer (some ⟨b2,0,none⟩),.pointer (some ⟨b3,0,none⟩)] w fun e w'=>∃c:Int,e= .returned (.int .i64 c)∧Q c w':=by
 obtain⟨A,rfl⟩:=hD;have HC:=Lib.hid hc;clear hc;go_enter Tryz.func122,Tryz.ntmps122
 go_wp2_with fail
 refine HC.out.mono ?_;rintro e w'⟨c,rfl,hq⟩
 go_wp2_with fail
 go_ret;exact⟨c,rfl,hq⟩
theorem step_flush{Q:Int→World→Prop}(b1 b2:Nat)(D:Value)(off:Int)(w:World)(h1:w.cell? ⟨b1,0,none⟩=some D)(hD:∃A,D= .pointer A)(h2:w.cell? ⟨b2,0,none⟩=some (.int .i64 off))
 (hc:Calls Tryz.prog 125 #[D,.int .i64 off] w fun e w'=>∃c:Int,e= .returned (.int .i64 c)∧Q c w'):
 Calls Tryz.prog 124 #[.pointer (some ⟨b1,0,none⟩),.pointer (some ⟨b2,0,none⟩)] w fun e w'=>∃c:Int,e= .returned (.int .i64 c)∧Q c w':=by
 obtain⟨A,rfl⟩:=hD;have HC:=Lib.hid hc;clear hc;go_enter Tryz.func124,Tryz.ntmps124
 go_wp2_with fail
 refine HC.out.mono ?_;rintro e w'⟨c,rfl,hq⟩
 go_wp2_with fail
 go_ret;exact⟨c,rfl,hq⟩
set_option maxHeartbeats 2000000 in
set_option maxRecDepth 20000 in
theorem run_steps(A:Option Addr)(n c:Nat)(Fs:Nat→Nat)(firsts caps:Nat→Array Value)(I:Nat→World→Prop)(J:World→Prop)(w:World)(hn:n≤1000000)(h0:I 0 w)
 (hf:∀k,k<n→∀W,(callFunc (Fs k) (firsts k++caps k)).run Tryz.prog W= .ok (.enter (Fs k) (firsts k++caps k)) W)
 (hrd:∀k W,I k W→Rd W A n ((List.range n).map fun k=>Value.func (.func (Fs k)) (firsts k) (caps k)))
 (hst:∀k W,k<n→I k W→Calls Tryz.prog (Fs k) (firsts k++caps k) W fun e w'=>∃c:Int,e= .returned (.int .i64 c)∧((c=0∧I (k+1) w')∨(c=12∧J w'))):
 Calls Tryz.prog 85 #[.slice A n c] w fun e w'=>∃c:Int,e= .returned (.int .i64 c)∧((c=0∧I n w')∨(c=12∧J w')):=by
 have HRD:=Lib.hid hrd;have HST:=Lib.hid hst;have HFF:=Lib.hid hf;clear hrd hst hf;go_enter Tryz.func85,Tryz.ntmps85
 go_wp2_with fail
 go_loopw [8](fun i wr=>∃k:Nat,k≤n∧i= .int .i64 k∧I k wr)(fun i _=>n- (intOf i).toNat)
 case atStart=>exact⟨0,Nat.zero_le _,rfl,h0⟩
 case round=>
  obtain⟨k,hk,rfl,hI⟩:=hrel;by_cases hlt:k<n
  ·obtain⟨b,off,rfl,hb,hcl⟩:=(HRD.out k wr hI).2 (by omega);have hc:=hcl k hlt;simp only [List.getElem?_map,List.getElem?_range hlt,Option.map_some]at hc;have hcall:=HST.out k wr hlt hI;have HC:=Lib.hid hcall;have hcf:=HFF.out k hlt;clear hcl hcall h0
   go_wp2_with fail
   refine HC.out.mono ?_;rintro e w2⟨c,rfl,⟨rfl,hI2⟩| ⟨rfl,hJ⟩⟩
   ·clear HC hc hcf
    go_wp2_with fail
    go_roundw
    case rel=>exact⟨k+1,by omega,by go_num,hI2⟩
    case measure=>simp [intOf];omega
   ·clear HC hc hcf
    go_wp2_with fail
    go_ret;exact⟨12,rfl,.inr ⟨rfl,hJ⟩⟩
  ·have hkn:k=n:=by omega
   subst hkn
   go_wp2_with fail
   go_ret;exact⟨0,rfl,.inl ⟨rfl,hI⟩⟩
def Dv(w0:World)(d L g:Nat)(hb0:Nat→Option Nat)(ws:Nat→UInt64)(len:Mode)(mark:Nat→Nat)(W:World):Prop:=
 ∃hb,(∀b,devOwn d L g hb b→devOwn d L g hb0 b∨w0.heap.size≤b)∧DevRep W d L ws len mark g hb∧Touch (devOwn d L g hb0) w0 W
theorem Dv.start{w0 W:World}{d L g:Nat}{hb0:Nat→Option Nat}{ws:Nat→UInt64}{len:Mode}{mark:Nat→Nat}(h:DevRep w0 d L ws len mark g hb0)(hb:Below w0.heap.size w0 W):Dv w0 d L g hb0 ws len mark W:=
 ⟨hb0,fun _ h=> .inl h,h.below hb,Touch.of_below hb⟩
theorem store_in{w0 W:World}{d L g:Nat}{hb0:Nat→Option Nat}{ws:Nat→UInt64}{len:Mode}{mark:Nat→Nat}(h:Dv w0 d L g hb0 ws len mark W)(hL:L≤1024)(hu:len.lf≠0)(j:Nat)(x:UInt64)(hj:j<8*L)(hlen:len (j/8)≤1000000):
 Calls Tryz.prog 123 #[.pointer (some ⟨d,0,none⟩),.int .i64 ((8*j:Nat):Int),.int .u64 (x.toNat:Int)] W fun e w'=>e= .returned (.int .i64 0)∧
  ∃len':Mode,(len'=len∨len'=len.note (j/8) (8*(j%8),ws j))∧Dv w0 d L g hb0 (fun i=>if i=j then x else ws i) len'.tick mark w':=by
 obtain⟨hb,ho,hr,ht⟩:=h;by_cases he:ws j=x
 ·subst he;refine(store_same d L ws len mark g hb j W hL hu hr hj).mono ?_;rintro e w'⟨rfl,hr2,ht2⟩;refine⟨rfl,len,.inl rfl,hb,ho,?_,ht.trans ht2 (fun b h=>ho b h)⟩;rw [show(fun i=>if i=j then ws j else ws i)=ws by funext i;by_cases e:i=j<;>simp [e]];exact hr2
 ·refine(store_new d L ws len mark g hb j x W hL hu hr hj he hlen).mono ?_;rintro e w'⟨rfl,g2,hg2,hr2,ht2⟩;refine⟨rfl,_,.inr rfl,_,fun b hb'=> ?_,hr2,ht.trans ht2 (fun b h=>ho b h)⟩;rcases hb' with h| h| ⟨i,hi,h⟩
  ·exact .inl (.inl h)
  ·exact .inl (.inr (.inl h))
  ·change(if i=j/8 then some g2 else hb i)=some b at h;by_cases e:i=j/8
   ·rw [if_pos e]at h;injection h with h
    subst h;rcases hg2 with hg2| hg2
    ·exact ho _ (.inr (.inr ⟨j/8,by omega,hg2⟩))
    ·exact .inr (Nat.le_trans ht.size hg2)
   ·rw [if_neg e]at h;exact ho _ (.inr (.inr ⟨i,hi,h⟩))
theorem flush_in{w0 W:World}{d L g:Nat}{hb0:Nat→Option Nat}{ws:Nat→UInt64}{len:Mode}{mark:Nat→Nat}(h:Dv w0 d L g hb0 ws len mark W)(hL:L≤1024)(hu:len.lf≠0)(off:Nat)(hj:off<64*L)(hlen:len (off/64)≤1000001):
 Calls Tryz.prog 125 #[.pointer (some ⟨d,0,none⟩),.int .i64 (off:Int)] W fun e w'=>e= .returned (.int .i64 0)∧
  Dv w0 d L g hb0 ws len.tick (fun k=>if k=off/64 then len (off/64)+1 else mark k) w':=by
 obtain⟨hb,ho,hr,ht⟩:=h;refine(flush_dev d L ws len mark g hb off W hL hu hr hj hlen).mono ?_;rintro e w'⟨rfl,hr2,ht2⟩;exact⟨rfl,hb,ho,hr2,ht.trans ht2 (fun b h=>ho b h)⟩
theorem fence_in{w0 W:World}{d L g:Nat}{hb0:Nat→Option Nat}{ws:Nat→UInt64}{len:Mode}{mark:Nat→Nat}(h:Dv w0 d L g hb0 ws len mark W)(hL:L≤1024)(hL0:0<L)(hu:len.lf≠0)
 (hm:∀i,i<L→mark i=0∨mark i=len i+1)(hlen:∀i,i<L→len i≤1000000):
 Calls Tryz.prog 88 #[.pointer (some ⟨d,0,none⟩)] W fun e w'=>e= .returned (.int .i64 0)∧
  Dv w0 d L g hb0 ws (lenF L len mark).tick (markF L mark) w':=by
 obtain⟨hb,ho,hr,ht⟩:=h;refine(fence_dev d L ws len mark g hb W hL hL0 hu hr hm hlen).mono ?_;rintro e w'⟨rfl,hr2,ht2⟩;refine⟨rfl,_,fun b hb'=> ?_,hr2,ht.trans ht2 (fun b h=>ho b h)⟩;rcases hb' with h| h| ⟨i,hi,h⟩
 ·exact .inl (.inl h)
 ·exact .inl (.inr (.inl h))
 ·unfold hbF at h;by_cases e:i<L∧mark i≠0
  ·rw [if_pos e]at h;cases h
  ·rw [if_neg e]at h;exact ho _ (.inr (.inr ⟨i,hi,h⟩))
theorem Dv.downBlk{w0 W:World}{d L g:Nat}{hb0:Nat→Option Nat}{ws:Nat→UInt64}{len:Mode}{mark:Nat→Nat}(h:Dv w0 d L g hb0 ws len mark W)(hd:len.lf=0):∃v2 v3,Blk W d 93 [.slice (some ⟨g,0,none⟩) L L,.bool true,v2,v3]:=by
 obtain⟨hb,ho,hr,ht⟩:=h;obtain⟨st,hbx⟩:=hr.box;rw [decide_eq_true hd]at hbx;exact⟨_,_,hbx⟩
theorem putWs_nil(ws:Nat→UInt64)(j:Nat):putWs ws j []=ws:=by
 funext i;unfold putWs;rw [if_neg (by simp)]
theorem putWs_step(ws:Nat→UInt64)(j:Nat)(xs:List UInt64)(k:Nat)(hk:k<xs.length):(fun i=>if i=j+k then xs[k]else putWs ws j (xs.take k) i)=putWs ws j (xs.take (k+1)):=by
 funext i;unfold putWs;simp only [List.length_take,Nat.min_eq_left (Nat.le_of_lt hk),Nat.min_eq_left (show k+1≤xs.length from hk),List.getD_eq_getElem?_getD,List.getElem?_take];by_cases e:i=j+k
 ·subst e;rw [if_pos rfl,if_pos (by omega),if_pos (by omega),Nat.add_sub_cancel_left,List.getElem?_eq_getElem hk];rfl
 ·rw [if_neg e];by_cases h:j≤i∧i<j+k
  ·rw [if_pos h,if_pos (by omega),if_pos (by omega),if_pos (by omega)]
  ·rw [if_neg h,if_neg (by omega)]
theorem putWs_part(ws:Nat→UInt64)(j:Nat)(xs:List UInt64)(k q:Nat):putWs ws j (xs.take k) q=ws q∨putWs ws j (xs.take k) q=putWs ws j xs q:=by
 unfold putWs;simp only [List.length_take,List.getD_eq_getElem?_getD,List.getElem?_take];by_cases h:j≤q∧q<j+min k xs.length
 ·right;rw [if_pos h,if_pos (by omega),if_pos (by omega)]
 ·left;rw [if_neg h]
theorem putWs_one(ws:Nat→UInt64)(j:Nat)(x:UInt64):putWs ws j [x]=put1 ws j x:=by
 funext i;unfold putWs put1;by_cases e:i=j
 ·subst e;rw [if_pos (by simp),if_pos rfl,Nat.sub_self];rfl
 ·rw [if_neg (by simp;omega),if_neg e]
def lfN(lf:Int)(k:Nat):Int:=if lf<0 then lf else lf-k
theorem lfN_zero(lf:Int):lfN lf 0=lf:=by unfold lfN;split<;>omega
theorem lfN_end(k:Nat):lfN (-1) k= -1:=rfl
theorem lfN_step{len:Mode}{lf:Int}{k:Nat}(h:len.lf=lfN lf k)(hu:len.lf≠0)(hk:lf<0∨(k:Int)≤lf):len.tick.lf=lfN lf (k+1)∧(lf<0∨((k+1:Nat):Int)≤lf):=by
 show(if 0<len.lf then len.lf-1 else len.lf)=_∧_;rw [h]at hu⊢;unfold lfN at hu⊢;by_cases h0:lf<0
 ·simp only [if_pos h0];rw [if_neg (by omega)];exact⟨rfl,.inl h0⟩
 ·simp only [if_neg h0]at hu⊢;rw [if_pos (by omega)];exact⟨by omega,.inr (by omega)⟩
def chgIn(ws:Nat→UInt64)(j n:Nat)(len:Mode):Prop:=∀i,∀c∈len.chg i,∃t,t<8∧c.1=8*t∧j≤8*i+t∧8*i+t<j+n∧c.2=ws (8*i+t)
theorem chgIn_none(ws:Nat→UInt64)(j n:Nat)(lf:Int):chgIn ws j n (MU lf):=fun _ _ h=>nomatch h
def CutD(lf:Int)(W0:World)(d L g:Nat)(hb:Nat→Option Nat)(ws:Nat→UInt64)(j:Nat)(xs:List UInt64)(N:Nat)(W:World):Prop:=
 0≤lf∧lf<N∧∃(len:Mode)(ws1:Nat→UInt64)(mark:Nat→Nat),len.lf=0∧(∀i,len i≤1000000)∧chgIn ws j xs.length len∧(∀q,ws1 q=ws q∨ws1 q=putWs ws j xs q)∧Dv W0 d L g hb ws1 len mark W
def Wrote(lf:Int)(N:Nat)(W0:World)(d L g:Nat)(hb:Nat→Option Nat)(ws:Nat→UInt64)(j:Nat)(xs:List UInt64)(c:Int)(W:World):Prop:=
 (c=0∧(lf<0∨(N:Int)≤lf)∧Dv W0 d L g hb (putWs ws j xs) (MU (lfN lf N)) (fun _=>0) W)∨(c=12∧CutD lf W0 d L g hb ws j xs N W)
def allI(lf:Int)(W0:World)(d L g:Nat)(hb:Nat→Option Nat)(ws:Nat→UInt64)(j:Nat)(xs:List UInt64)(m k:Nat)(W:World):Prop:=
 (lf<0∨(k:Int)≤lf)∧
 if k≤xs.length then∃len:Mode,len.lf=lfN lf k∧(∀i,len i≤k)∧chgIn ws j xs.length len∧Dv W0 d L g hb (putWs ws j (xs.take k)) len (fun _=>0) W
 else if k≤xs.length+m then∃len:Mode,len.lf=lfN lf k∧(∀i,len i≤xs.length)∧chgIn ws j xs.length len∧Dv W0 d L g hb (putWs ws j xs) len (fun i=>if j/8≤i∧i<j/8+(k-xs.length)then len i+1 else 0) W
 else Dv W0 d L g hb (putWs ws j xs) (MU (lfN lf k)) (fun _=>0) W
theorem allI_touch{lf:Int}{W0:World}{d L g:Nat}{hb:Nat→Option Nat}{ws:Nat→UInt64}{j:Nat}{xs:List UInt64}{m k:Nat}{W:World}(h:allI lf W0 d L g hb ws j xs m k W):Touch (devOwn d L g hb) W0 W:=by
 have h:=h.2;split at h
 ·obtain⟨_,_,_,_,_,_,_,t⟩:=h;exact t
 ·split at h
  ·obtain⟨_,_,_,_,_,_,_,t⟩:=h;exact t
  ·obtain⟨_,_,_,t⟩:=h;exact t
theorem lfN_down{lf:Int}{k N:Nat}(h:lfN lf k=0)(hk:k<N):0≤lf∧lf<N:=by
 unfold lfN at h;split at h<;>omega
section
variable{lf:Int}{W0 W:World}{d L g:Nat}{hb:Nat→Option Nat}{ws:Nat→UInt64}{j:Nat}{xs:List UInt64}{m:Nat}
theorem all_store(hL:L≤1024)(hj:j+xs.length≤8*L)(_:∀i,j≤i→i<j+xs.length→j/8≤i/8∧i/8<j/8+m){k:Nat}(hk:k<xs.length)(hn:xs.length≤100000)(h:allI lf W0 d L g hb ws j xs m k W):
 Calls Tryz.prog 123 #[.pointer (some ⟨d,0,none⟩),.int .i64 ((8*(j+k):Nat):Int),.int .u64 (xs[k].toNat:Int)] W fun e w'=>∃c:Int,e= .returned (.int .i64 c)∧((c=0∧allI lf W0 d L g hb ws j xs m (k+1) w')∨(c=12∧CutD lf W0 d L g hb ws j xs (xs.length+m+1) w')):=by
 obtain⟨hk0,h⟩:=h;rw [if_pos (by omega)]at h;obtain⟨len,h0,h1,h2,h3⟩:=h;by_cases hu:len.lf=0
 ·obtain⟨v2,v3,hB⟩:=h3.downBlk hu;refine(store_down d L g (8*(j+k)) _ v2 v3 W (by omega) hL hB).mono ?_;rintro e w'⟨rfl,rfl⟩;obtain⟨a1,a2⟩:=lfN_down (N:=xs.length+m+1) (h0.symm.trans hu) (by omega);exact⟨12,rfl,.inr ⟨rfl,a1,a2,len,_,_,hu,fun i=>by have:=h1 i;omega,h2,fun q=>putWs_part ws j xs k q,h3⟩⟩
 ·refine(store_in h3 hL hu (j+k) xs[k] (by omega) (by have:=h1 ((j+k)/8);omega)).mono ?_;rintro e w'⟨rfl,len',hl,hd⟩;rw [putWs_step ws j xs k hk]at hd;have hold:putWs ws j (xs.take k) (j+k)=ws (j+k):=by unfold putWs;rw [if_neg (by simp;omega)]
  rw [hold]at hl;have hl':len'.lf=len.lf∧(∀i,len' i≤k+1)∧chgIn ws j xs.length len':=by
   rcases hl with rfl| rfl
   ·exact⟨rfl,fun i=>by have:=h1 i;omega,h2⟩
   ·refine⟨rfl,fun i=> ?_,fun i c hc=> ?_⟩
    ·rw [Mode.len_note];split
     ·have:=h1 ((j+k)/8);omega
     ·have:=h1 i;omega
    ·change c∈(if i=(j+k)/8 then len.chg ((j+k)/8)++[(8*((j+k)%8),ws (j+k))]else len.chg i)at hc;split at hc
     ·rename_i e;rcases List.mem_append.1 hc with hc| hc
      ·rw [←e]at hc;exact h2 i c hc
      ·rw [List.mem_singleton]at hc;subst hc;have e8:8*i+(j+k)%8=j+k:=by omega
       exact⟨(j+k)%8,by omega,rfl,by omega,by omega,by show ws (j+k)=_;rw [e8]⟩
     ·exact h2 i c hc
  obtain⟨g1,g2,g3⟩:=hl';obtain⟨b1,b2⟩:=lfN_step (len:=len') (g1.trans h0) (by rw [g1];exact hu) hk0;refine⟨0,rfl,.inl ⟨rfl,b2,?_⟩⟩;rw [if_pos (by omega)];exact⟨len'.tick,b1,g2,g3,hd⟩
theorem all_flush(hL:L≤1024)(hj:j+xs.length≤8*L)(hm2:∀t,t<m→8*(j/8+t)<j+xs.length){t:Nat}(ht:t<m)(hn:xs.length≤100000)(off:Nat)(e8:off/64=j/8+t)(h:allI lf W0 d L g hb ws j xs m (xs.length+t) W):
 Calls Tryz.prog 125 #[.pointer (some ⟨d,0,none⟩),.int .i64 (off:Int)] W fun e w'=>∃c:Int,e= .returned (.int .i64 c)∧((c=0∧allI lf W0 d L g hb ws j xs m (xs.length+t+1) w')∨(c=12∧CutD lf W0 d L g hb ws j xs (xs.length+m+1) w')):=by
 have hm:=hm2 t ht;obtain⟨hk0,h⟩:=h;have h':∃len:Mode,len.lf=lfN lf (xs.length+t)∧(∀i,len i≤xs.length)∧chgIn ws j xs.length len∧Dv W0 d L g hb (putWs ws j xs) len (fun i=>if j/8≤i∧i<j/8+t then len i+1 else 0) W:=by
  by_cases h0:t=0
  ·subst h0;rw [if_pos (by omega)]at h;obtain⟨len,z,a,b,c⟩:=h;refine⟨len,z,a,b,?_⟩;rw [Nat.add_zero,List.take_length]at c;have:(fun i=>if j/8≤i∧i<j/8+0 then len i+1 else 0)=fun _=>0:=by funext i;rw [if_neg (by omega)]
   rw [this];exact c
  ·rw [if_neg (by omega),if_pos (by omega),Nat.add_sub_cancel_left]at h;exact h
 obtain⟨len,h0,h1,h2,h3⟩:=h';by_cases hu:len.lf=0
 ·obtain⟨v2,v3,hB⟩:=h3.downBlk hu;refine(flush_down d L g off v2 v3 W (by omega) hL hB).mono ?_;rintro e w'⟨rfl,rfl⟩;obtain⟨a1,a2⟩:=lfN_down (N:=xs.length+m+1) (h0.symm.trans hu) (by omega);exact⟨12,rfl,.inr ⟨rfl,a1,a2,len,_,_,hu,fun i=>by have:=h1 i;omega,h2,fun q=> .inr rfl,h3⟩⟩
 ·refine(flush_in h3 hL hu off (by omega) (by have:=h1 (off/64);omega)).mono ?_;rintro e w'⟨rfl,hd⟩;obtain⟨b1,b2⟩:=lfN_step h0 hu hk0;refine⟨0,rfl,.inl ⟨rfl,b2,?_⟩⟩;rw [if_neg (by omega),if_pos (by omega)];refine⟨len.tick,b1,h1,h2,?_⟩;rw [e8]at hd;have:(fun k=>if k=j/8+t then len (j/8+t)+1 else if j/8≤k∧k<j/8+t then len k+1 else 0)=(fun i=>if j/8≤i∧i<j/8+(xs.length+t+1-xs.length)then len i+1 else 0):=by
   funext i;by_cases e:i=j/8+t
   ·subst e;rw [if_pos rfl,if_pos (by omega)]
   ·rw [if_neg e];by_cases h:j/8≤i∧i<j/8+t
    ·rw [if_pos h,if_pos (by omega)]
    ·rw [if_neg h,if_neg (by omega)]
  rw [this]at hd;exact hd
theorem all_fence(hL:L≤1024)(hL0:0<L)(hn:xs.length≤100000)(hm0:0<m)(hmL:j/8+m≤L)(hm:∀i,j≤i→i<j+xs.length→j/8≤i/8∧i/8<j/8+m)(h:allI lf W0 d L g hb ws j xs m (xs.length+m) W):
 Calls Tryz.prog 88 #[.pointer (some ⟨d,0,none⟩)] W fun e w'=>∃c:Int,e= .returned (.int .i64 c)∧((c=0∧allI lf W0 d L g hb ws j xs m (xs.length+m+1) w')∨(c=12∧CutD lf W0 d L g hb ws j xs (xs.length+m+1) w')):=by
 obtain⟨hk0,h⟩:=h;rw [if_neg (by omega),if_pos (by omega),Nat.add_sub_cancel_left]at h;obtain⟨len,h0,h1,h2,h3⟩:=h;by_cases hu:len.lf=0
 ·obtain⟨v2,v3,hB⟩:=h3.downBlk hu;refine(fence_down d L g v2 v3 W (by omega) hL hB).mono ?_;rintro e w'⟨rfl,rfl⟩;obtain⟨a1,a2⟩:=lfN_down (N:=xs.length+m+1) (h0.symm.trans hu) (by omega);exact⟨12,rfl,.inr ⟨rfl,a1,a2,len,_,_,hu,fun i=>by have:=h1 i;omega,h2,fun q=> .inr rfl,h3⟩⟩
 ·refine(fence_in h3 hL hL0 hu (fun i _=> ?_) (fun i _=>by have:=h1 i;omega)).mono ?_
  ·by_cases e:j/8≤i∧i<j/8+m
   ·right;show(if _ then _ else _)=_;rw [if_pos e]
   ·left;show(if _ then _ else _)=_;rw [if_neg e]
  rintro e w'⟨rfl,hd⟩;obtain⟨b1,b2⟩:=lfN_step h0 hu hk0;refine⟨0,rfl,.inl ⟨rfl,b2,?_⟩⟩;rw [if_neg (by omega),if_neg (by omega)];have e1:(lenF L len (fun i=>if j/8≤i∧i<j/8+m then len i+1 else 0)).tick=MU (lfN lf (xs.length+m+1)):=by
   rw [←b1];show Mode.mk (fun i=>if i<L∧(fun i=>if j/8≤i∧i<j/8+m then len i+1 else 0) i≠0 then []else len.chg i) _=Mode.mk (fun _=>[]) _;congr 1;funext i;by_cases e:j/8≤i∧i<j/8+m
   ·rw [if_pos ⟨by omega,by show(if _ then _ else _)≠0;rw [if_pos e];omega⟩]
   ·rw [if_neg (by rintro⟨_,h0⟩;exact h0 (if_neg e))];cases hc:len.chg i with
    | nil=>rfl
    | cons c l=>
      obtain⟨t,t1,t2,t3,t4,t5⟩:=h2 i c (by rw [hc];exact List.mem_cons_self ..);have:=hm (8*i+t) t3 t4;exact absurd (show j/8≤i∧i<j/8+m by omega) e
  have e2:markF L (fun i=>if j/8≤i∧i<j/8+m then len i+1 else 0)=fun _=>0:=by
   funext i;unfold markF;by_cases e:i<L
   ·rw [if_pos e]
   ·rw [if_neg e];exact if_neg (by omega)
  rw [e1,e2]at hd;exact hd
theorem Dv.back{w:World}{ws1:Nat→UInt64}{len:Mode}{mark:Nat→Nat}(h:Dv W0 d L g hb ws1 len mark W)(hB:Below w.heap.size w W0):Dv w d L g hb ws1 len mark W:=by
 obtain⟨hb',ho,hr,ht⟩:=h;exact⟨hb',fun b h=>(ho b h).imp id (fun e=>Nat.le_trans hB.size e),hr,(Touch.of_below hB).trans ht (fun b h=> .inl h)⟩
theorem Wrote.back{w:World}{N:Nat}{c:Int}(h:Wrote lf N W0 d L g hb ws j xs c W)(hB:Below w.heap.size w W0):Wrote lf N w d L g hb ws j xs c W:=by
 rcases h with⟨h1,h2,h3⟩| ⟨h1,h2,h3,len,ws1,mark,h4,h5,h6,h7,h8⟩
 ·exact .inl ⟨h1,h2,h3.back hB⟩
 ·exact .inr ⟨h1,h2,h3,len,ws1,mark,h4,h5,h6,h7,h8.back hB⟩
theorem Wrote.up{N:Nat}{c:Int}(h:Wrote (-1) N W0 d L g hb ws j xs c W):c=0∧Dv W0 d L g hb (putWs ws j xs) M0 (fun _=>0) W:=by
 rcases h with⟨h1,h2,h3⟩| ⟨_,h2,_⟩
 ·exact⟨h1,h3⟩
 ·omega
end
theorem callFn_store(l:Array Value)(W:World):(callFunc 122 l).run Tryz.prog W= .ok (.enter 122 l) W:=by
 simp [callFunc,Tryz.func122,Tryz.f122]
theorem callFn_flush(l:Array Value)(W:World):(callFunc 124 l).run Tryz.prog W= .ok (.enter 124 l) W:=by
 simp [callFunc,Tryz.func124,Tryz.f124]
theorem callFn_fence(l:Array Value)(W:World):(callFunc 88 l).run Tryz.prog W= .ok (.enter 88 l) W:=by
 simp [callFunc,Tryz.func88,Tryz.f88]
structure Stp(d:Nat)(own:Nat→Prop)(j m:Nat)(xs:List UInt64)(W0:World)(I:Nat→World→Prop)(J:World→Prop):Prop where
 start:I 0 W0
 touch:∀k W,I k W→Touch own W0 W
 store:∀k(hk:k<xs.length)W,I k W→Calls Tryz.prog 123 #[.pointer (some ⟨d,0,none⟩),.int .i64 ((8*(j+k):Nat):Int),.int .u64 (xs[k].toNat:Int)] W fun e w'=>∃c:Int,e= .returned (.int .i64 c)∧((c=0∧I (k+1) w')∨(c=12∧J w'))
 flush:∀t,t<m→∀off:Nat,off/64=j/8+t→∀W,I (xs.length+t) W→Calls Tryz.prog 125 #[.pointer (some ⟨d,0,none⟩),.int .i64 (off:Int)] W fun e w'=>∃c:Int,e= .returned (.int .i64 c)∧((c=0∧I (xs.length+t+1) w')∨(c=12∧J w'))
 fence:∀W,I (xs.length+m) W→Calls Tryz.prog 88 #[.pointer (some ⟨d,0,none⟩)] W fun e w'=>∃c:Int,e= .returned (.int .i64 c)∧((c=0∧I (xs.length+m+1) w')∨(c=12∧J w'))
theorem all_stp{lf:Int}{W0:World}{d L g:Nat}{hb:Nat→Option Nat}{ws:Nat→UInt64}{j:Nat}{xs:List UInt64}{m:Nat}(hL0:0<L)(hL:L≤1024)(h:DevRep W0 d L ws (MU lf) (fun _=>0) g hb)(hj:j+xs.length≤8*L)(hn:xs.length≤100000)(hm0:0<m)(hmL:j/8+m≤L)
 (hm:∀i,j≤i→i<j+xs.length→j/8≤i/8∧i/8<j/8+m)(hm2:∀t,t<m→8*(j/8+t)<j+xs.length):Stp d (devOwn d L g hb) j m xs W0 (allI lf W0 d L g hb ws j xs m) (CutD lf W0 d L g hb ws j xs (xs.length+m+1))where
 start:=by
  refine⟨by omega,?_⟩;rw [if_pos (Nat.zero_le _)];refine⟨MU lf,(lfN_zero lf).symm,fun _=>Nat.le_refl _,chgIn_none _ _ _ _,?_⟩;rw [List.take_zero,putWs_nil];exact Dv.start h (Below.refl _ _)
 touch _ _ hi:=allI_touch hi
 store _ hk _ hi:=all_store hL hj hm hk hn hi
 flush _ ht off e _ hi:=all_flush hL hj hm2 ht hn off e hi
 fence _ hi:=all_fence hL hL0 hn hm0 hmL hm hi
theorem down_stp{W0:World}{d L g:Nat}{v2 v3:Value}(hL0:0<L)(hL:L≤1024)(hB:Blk W0 d 93 [.slice (some ⟨g,0,none⟩) L L,.bool true,v2,v3])(own:Nat→Prop)(j m:Nat)(xs:List UInt64):Stp d own j m xs W0 (fun k W=>k=0∧W=W0) (fun W=>W=W0)where
 start:=⟨rfl,rfl⟩
 touch _ _ hi:=hi.2▸Touch.refl _ _
 store k _ W hi:=by
  obtain⟨_,rfl⟩:=hi;refine(store_down d L g (8*(j+k)) _ v2 v3 W hL0 hL hB).mono ?_;rintro e w'⟨rfl,rfl⟩;exact⟨12,rfl,.inr ⟨rfl,rfl⟩⟩
 flush _ _ off _ W hi:=by
  obtain⟨_,rfl⟩:=hi;refine(flush_down d L g off v2 v3 W hL0 hL hB).mono ?_;rintro e w'⟨rfl,rfl⟩;exact⟨12,rfl,.inr ⟨rfl,rfl⟩⟩
 fence W hi:=by
  obtain⟨_,rfl⟩:=hi;refine(fence_down d L g v2 v3 W hL0 hL hB).mono ?_;rintro e w'⟨rfl,rfl⟩;exact⟨12,rfl,.inr ⟨rfl,rfl⟩⟩
theorem put_run{own:Nat→Prop}{I:Nat→World→Prop}{J:World→Prop}(d j:Nat)(x:UInt64)(w W0:World)(hown:∀b,w.heap.size≤b→¬own b)(hS:Stp d own j 1 [x] W0 I J)
 (b1 b2 b3 b4 b5 s:Nat)(T:TypeId)(hb1:w.heap.size≤b1)(hb2:w.heap.size≤b2)(hb3:w.heap.size≤b3)(hb4:w.heap.size≤b4)(hb5:w.heap.size≤b5)(hs:w.heap.size≤s)
 (c1:W0.cell? ⟨b1,0,none⟩=some (.pointer (some ⟨d,0,none⟩)))(c2:W0.cell? ⟨b2,0,none⟩=some (.int .i64 ((8*j:Nat):Int)))(c3:W0.cell? ⟨b3,0,none⟩=some (.int .u64 (x.toNat:Int)))
 (c4:W0.cell? ⟨b4,0,none⟩=some (.pointer (some ⟨d,0,none⟩)))(c5:W0.cell? ⟨b5,0,none⟩=some (.int .i64 ((8*j:Nat):Int)))
 (cs:W0.heap[s]? =some (.cells #[.func (.func 122) #[] #[.pointer (some ⟨b1,0,none⟩),.pointer (some ⟨b2,0,none⟩),.pointer (some ⟨b3,0,none⟩)],.func (.func 124) #[] #[.pointer (some ⟨b4,0,none⟩),.pointer (some ⟨b5,0,none⟩)],.func (.func 88) #[.pointer (some ⟨d,0,none⟩)] #[]] T (0,0))):
 Calls Tryz.prog 85 #[.slice (some ⟨s,0,none⟩) 3 3] W0 fun e w'=>∃c:Int,e= .returned (.int .i64 c)∧((c=0∧I 3 w')∨(c=12∧J w')):=by
 have keep:∀{k W},I k W→∀(b:Nat)(v:Value),w.heap.size≤b→W0.cell? ⟨b,0,none⟩=some v→W.cell? ⟨b,0,none⟩=some v:=fun hi b v hle hc=>
  (World.cell?_of_block (a:=⟨b,0,none⟩) ((hS.touch _ _ hi).block b (World.block_lt_of_cell? W0 ⟨b,0,none⟩ hc) (hown b hle))).trans hc
 refine(run_steps _ 3 3 (fun k=>if k=0 then 122 else if k=1 then 124 else 88)
  (fun k=>if k=2 then#[.pointer (some ⟨d,0,none⟩)]else#[])
  (fun k=>if k=0 then#[.pointer (some ⟨b1,0,none⟩),.pointer (some ⟨b2,0,none⟩),.pointer (some ⟨b3,0,none⟩)]else if k=1 then#[.pointer (some ⟨b4,0,none⟩),.pointer (some ⟨b5,0,none⟩)]else#[])
  I J W0 (by decide) hS.start ?_ ?_ ?_)
 ·intro k hk W
  match k,hk with
  | 0,_=>exact callFn_store _ W
  | 1,_=>exact callFn_flush _ W
  | 2,_=>exact callFn_fence _ W
 ·intro k W hi;have hcs:=((hS.touch _ _ hi).block s (Array.getElem?_eq_some_iff.1 cs).1 (hown s hs)).trans cs;refine⟨rfl,fun _=>⟨s,0,rfl,(Array.getElem?_eq_some_iff.1 hcs).1,fun t ht=> ?_⟩⟩;rw [Nat.zero_add,cell_of_row W s t _ T (0,0) hcs]
  match t,ht with
  | 0,_=>rfl
  | 1,_=>rfl
  | 2,_=>rfl
 ·intro k W hk hi
  match k,hk with
  | 0,_=>exact step_store b1 b2 b3 _ _ _ W (keep hi _ _ hb1 c1) ⟨_,rfl⟩ (keep hi _ _ hb2 c2) (keep hi _ _ hb3 c3) (hS.store 0 (by simp) W hi)
  | 1,_=>
    exact step_flush b4 b5 _ _ W (keep hi _ _ hb4 c4) ⟨_,rfl⟩ (keep hi _ _ hb5 c5) (hS.flush 0 (by decide) (8*j) (by omega) W hi)
  | 2,_=>exact hS.fence W hi
set_option maxHeartbeats 2000000 in
set_option maxRecDepth 20000 in
theorem put_stp{own:Nat→Prop}{I:World→Nat→World→Prop}{J:World→World→Prop}(d j:Nat)(x:UInt64)(w:World)(hown:∀b,own b→b<w.heap.size)(hS:∀W0,Below w.heap.size w W0→Stp d own j 1 [x] W0 (I W0) (J W0)):
 Calls Tryz.prog 51 #[.pointer (some ⟨d,0,none⟩),.int .i64 ((8*j:Nat):Int),.int .u64 (x.toNat:Int)] w fun e w'=>∃W0,Below w.heap.size w W0∧∃c:Int,e= .returned (.int .i64 c)∧((c=0∧I W0 3 w')∨(c=12∧J W0 w')):=by
 have HOwn:=Lib.hid (fun b(h1:w.heap.size≤b)(h2:own b)=>Nat.lt_irrefl _ (Nat.lt_of_lt_of_le (hown b h2) h1));have HS:=Lib.hid hS;clear hown hS;go_enter Tryz.func51,Tryz.ntmps51
 go_wp2_with fail
 refine(store_mk d _ _ w).mono ?_;rintro e w'⟨rfl,rfl⟩
 go_wp2_with fail
 refine(flush_mk d _ _).mono ?_;rintro e w'⟨rfl,rfl⟩
 go_wp2_with fail
 have hB:=((((((Below.refl w.heap.size w).alloc (Nat.le_refl _) (.cells #[.pointer (some ⟨d,0,none⟩)] 31)).alloc (by simp) (.cells #[.int .i64 (8*(j:Int))] 3)).alloc (by simp;omega) (.cells #[.int .u64 (x.toNat:Int)] 23)).alloc (by simp;omega) (.cells #[.pointer (some ⟨d,0,none⟩)] 31)).alloc (by simp;omega) (.cells #[.int .i64 (8*(j:Int))] 3)).alloc (by simp;omega)
  (.cells #[.func (.func 122) #[] #[.pointer (some ⟨w.heap.size,0,none⟩),.pointer (some ⟨w.heap.size+1,0,none⟩),.pointer (some ⟨w.heap.size+1+1,0,none⟩)],.func (.func 124) #[] #[.pointer (some ⟨w.heap.size+1+1+1,0,none⟩),.pointer (some ⟨w.heap.size+1+1+1+1,0,none⟩)],.func (.func 88) #[.pointer (some ⟨d,0,none⟩)] #[]] 166)
 refine(put_run d j x w _ HOwn.out (HS.out _ hB) w.heap.size (w.heap.size+1) (w.heap.size+1+1) (w.heap.size+1+1+1) (w.heap.size+1+1+1+1) (w.heap.size+1+1+1+1+1) 166 (by omega) (by omega) (by omega) (by omega) (by omega) (by omega) ((World.cell?_alloc_past _ _ _ (by first| (simp;done)| (simp;omega))).trans<| ((World.cell?_alloc_past _ _ _ (by first| (simp;done)| (simp;omega))).trans<| ((World.cell?_alloc_past _ _ _ (by first| (simp;done)| (simp;omega))).trans<| ((World.cell?_alloc_past _ _ _ (by first| (simp;done)| (simp;omega))).trans<| ((World.cell?_alloc_past _ _ _ (by first| (simp;done)| (simp;omega))).trans<| by simp))))) (by simp [World.cell?_alloc_past,World.cell?_alloc_at]) (by simp [World.cell?_alloc_past,World.cell?_alloc_at]) (by simp [World.cell?_alloc_past,World.cell?_alloc_at]) (by simp [World.cell?_alloc_past,World.cell?_alloc_at]) (by rw [show w.heap.size+1+1+1+1+1=((((((w.alloc (.cells #[.pointer (some ⟨d,0,none⟩)] 31)).alloc (.cells #[.int .i64 (8*(j:Int))] 3)).alloc (.cells #[.int .u64 (x.toNat:Int)] 23)).alloc (.cells #[.pointer (some ⟨d,0,none⟩)] 31)).alloc (.cells #[.int .i64 (8*(j:Int))] 3))).heap.size by simp];exact heap_alloc_new _ _)).mono ?_;rintro e w'⟨c,rfl,hp⟩;have HP:=Lib.hid (⟨_,hB,c,rfl,hp⟩:∃W0,Below w.heap.size w W0∧∃c':Int,Ending.returned (.int .i64 c)= .returned (.int .i64 c')∧((c'=0∧I W0 3 w')∨(c'=12∧J W0 w')));clear hp hB HOwn HS
 go_wp2_with fail
 go_ret;exact HP.out
theorem put_devU(lf:Int)(d L g:Nat)(hb:Nat→Option Nat)(ws:Nat→UInt64)(j:Nat)(x:UInt64)(w:World)(hL0:0<L)(hL:L≤1024)(h:DevRep w d L ws (MU lf) (fun _=>0) g hb)(hj:j<8*L):
 Calls Tryz.prog 51 #[.pointer (some ⟨d,0,none⟩),.int .i64 ((8*j:Nat):Int),.int .u64 (x.toNat:Int)] w fun e w'=>∃c:Int,e= .returned (.int .i64 c)∧Wrote lf 3 w d L g hb ws j [x] c w':=by
 refine(put_stp d j x w h.lt (fun W0 hB=>all_stp (m:=1) hL0 hL (h.below hB) (xs:=[x]) (by simp only [List.length_cons,List.length_nil];omega) (by simp) (by decide) (by omega) (fun i h1 h2=>by simp only [List.length_cons,List.length_nil]at h2;omega) (fun t ht=>by simp only [List.length_cons,List.length_nil];omega))).mono ?_;rintro e w'⟨W0,hB,c,rfl,hi⟩;refine⟨c,rfl,Wrote.back (W0:=W0) ?_ hB⟩;rcases hi with⟨h1,hi⟩| ⟨h1,hi⟩
 ·refine .inl ⟨h1,hi.1,?_⟩;have:=hi.2;rw [if_neg (by simp),if_neg (by simp)]at this;exact this
 ·exact .inr ⟨h1,hi⟩
theorem put_down(d L g j:Nat)(x:UInt64)(v2 v3:Value)(_:Nat→Prop)(w:World)(hL0:0<L)(hL:L≤1024)(hB:Blk w d 93 [.slice (some ⟨g,0,none⟩) L L,.bool true,v2,v3]):
 Calls Tryz.prog 51 #[.pointer (some ⟨d,0,none⟩),.int .i64 ((8*j:Nat):Int),.int .u64 (x.toNat:Int)] w fun e w'=>e= .returned (.int .i64 12)∧Below w.heap.size w w':=by
 refine(put_stp (own:=fun _=>False) d j x w (fun _ h=>h.elim) (fun W0 hb=>down_stp hL0 hL (hB.below hb hB.lt) _ j 1 [x])).mono ?_;rintro e w'⟨W0,hb,c,rfl,⟨_,h1,_⟩| ⟨rfl,rfl⟩⟩
 ·exact absurd h1 (by decide)
 ·exact⟨rfl,hb⟩
def wordsFrom(ws:Nat→UInt64)(j n:Nat):List UInt64:=(List.range n).map fun t=>ws (j+t)
def partFrom(ws:Nat→UInt64)(j n k:Nat):List UInt64:=(List.range n).map fun t=>if t<k then ws (j+t)else 0
theorem partFrom_zero(ws:Nat→UInt64)(j n:Nat):partFrom ws j n 0=List.replicate n 0:=by
 apply List.ext_getElem<;>simp [partFrom]
theorem partFrom_all(ws:Nat→UInt64)(j n:Nat):partFrom ws j n n=wordsFrom ws j n:=by
 apply List.ext_getElem
 ·simp [partFrom,wordsFrom]
 ·intro t h1 h2;have:t<n:=by simpa [partFrom]using h1
  simp [partFrom,wordsFrom,this]
theorem partFrom_set(ws:Nat→UInt64)(j n k:Nat):((partFrom ws j n k).map wv).set k (wv (ws (j+k)))=(partFrom ws j n (k+1)).map wv:=by
 rw [←List.map_set];congr 1;apply List.ext_getElem
 ·simp [partFrom]
 ·intro t h1 h2;rw [List.getElem_set];by_cases e:k=t
  ·subst e;rw [if_pos rfl];simp [partFrom]
  ·rw [if_neg e];have:(t<k+1)=(t<k):=by apply propext;omega
   simp [partFrom,this]
set_option maxHeartbeats 2000000 in
theorem get_dev(d L:Nat)(ws:Nat→UInt64)(len:Mode)(mark:Nat→Nat)(g:Nat)(hb:Nat→Option Nat)(j n:Nat)(w:World)(hL0:0<L)(hL:L≤1024)(hu:len.lf≠0)(h:DevRep w d L ws len mark g hb)(hj:j+n≤8*L):
 Calls Tryz.prog 59 #[.pointer (some ⟨d,0,none⟩),.int .i64 ((8*j:Nat):Int),.int .i64 (n:Int)] w fun e w'=>∃v,e= .returned (.tuple #[v,.int .i64 0])∧
  w'.ownsRow w.heap.size 23 1 v n ((wordsFrom ws j n).map wv)∧Below w.heap.size w w':=by
 obtain⟨i0,hi,hz0,hz1,hz2⟩:=info_parts Tryz.wordsTy.hi;obtain⟨st,hbx⟩:=h.box;have HW:=Lib.hid (within_ok d L g (8*j) n _ _ _ w (by omega) hL hbx (by omega) (by omega));have H:=Lib.hid h;clear h hbx;go_enter Tryz.func59,Tryz.ntmps59
 go_wp2_with fail
 refine HW.out.mono ?_;rintro e w'⟨rfl,rfl⟩;clear HW
 go_wp2_with(at_make;refine wpList_make_full _ rfl _ _ 70 rfl w.heap.size 23 i0 (.int .u64 0) 1 Tryz.underlying70 hi hz0 hz1 .i64 .i64 _ _ n rfl rfl rfl rfl (by rw [hz2];omega) (by unfold maxLen;omega) (Nat.le_refl _) ?_;intro w0 hown0 hgrow0)
 rw [made_words,←partFrom_zero ws j n]at hown0;have hb0:Below w.heap.size w w0:=(Below.refl _ _).grown hgrow0 (Nat.le_refl _) (by simp);clear hgrow0
 go_loopw [24](fun i wr=>∃k:Nat,k≤n∧i= .int .i64 k∧wr.ownsRow w.heap.size 23 1 (.slice (some ⟨w.heap.size,0,none⟩) n n) n ((partFrom ws j n k).map wv)∧Below w.heap.size w wr)(fun i _=>n- (intOf i).toNat)
 case atStart=>exact⟨0,Nat.zero_le _,rfl,hown0,hb0⟩
 case round=>
  obtain⟨k,hk,rfl,hown,hbr⟩:=hrel;clear hown0 hb0;by_cases hlt:k<n
  ·have HL:=Lib.hid (load_dev d L ws len mark g hb (j+k) wr hL hu (H.out.below hbr) (by omega));obtain⟨⟨v0,hv0⟩,hf0⟩:=own_has hown hlt;have hown2:=own_set (u:=wv (ws (j+k))) hown hlt;rw [partFrom_set]at hown2;have HO:=Lib.hid hown2;have hb2:=hbr.setCell (p:=⟨w.heap.size,k,none⟩) (Nat.le_refl _) (wv (ws (j+k)));have HB:=Lib.hid hb2;clear hown hown2 hb2 hbr
   go_wp2_with fail
   rw [show(8*(j:Int)+8*(k:Int))=((8*(j+k):Nat):Int)by omega];refine HL.out.mono ?_;rintro e w2⟨rfl,rfl⟩;clear HL
   go_wp2_with fail
   go_roundw
   case rel=>exact⟨k+1,by omega,by go_num,HO.out,HB.out⟩
   case measure=>simp [intOf];omega
  ·have hkn:k=n:=by omega
   subst hkn;rw [partFrom_all]at hown
   go_wp2_with fail
   go_ret2;exact⟨_,rfl,hown,hbr⟩
theorem get_down(d L g j n:Nat)(v2 v3:Value)(w:World)(hL0:0<L)(hL:L≤1024)(h:Blk w d 93 [.slice (some ⟨g,0,none⟩) L L,.bool true,v2,v3])(hj:j+n≤8*L)(hn:0<n):
 Calls Tryz.prog 59 #[.pointer (some ⟨d,0,none⟩),.int .i64 ((8*j:Nat):Int),.int .i64 (n:Int)] w fun e w'=>e= .returned (.tuple #[.slice none 0 0,.int .i64 12])∧Below w.heap.size w w':=by
 obtain⟨i0,hi,hz0,hz1,hz2⟩:=info_parts Tryz.wordsTy.hi;have HW:=Lib.hid (within_ok d L g (8*j) n _ _ _ w (by omega) hL h (by omega) (by omega));have H:=Lib.hid h;clear h;go_enter Tryz.func59,Tryz.ntmps59
 go_wp2_with fail
 refine HW.out.mono ?_;rintro e w'⟨rfl,rfl⟩;clear HW
 go_wp2_with(at_make;refine wpList_make_full _ rfl _ _ 70 rfl w.heap.size 23 i0 (.int .u64 0) 1 Tryz.underlying70 hi hz0 hz1 .i64 .i64 _ _ n rfl rfl rfl rfl (by rw [hz2];omega) (by unfold maxLen;omega) (Nat.le_refl _) ?_;intro w0 hown0 hgrow0)
 have hb0:Below w.heap.size w w0:=(Below.refl _ _).grown hgrow0 (Nat.le_refl _) (by simp);clear hgrow0
 go_loopw [24](fun i wr=>i= .int .i64 0∧wr=w0)(fun i _=>0)
 case atStart=>exact⟨rfl,rfl⟩
 case round=>
  obtain⟨rfl,rfl⟩:=hrel;have HL:=Lib.hid (load_down d L g (8*j) v2 v3 wr hL0 hL (H.out.below hb0 H.out.lt));have t1:decide ((0:Int)<(n:Int))=true:=decide_eq_true (by omega);clear hown0
  go_wp2_with fail
  rw [show(8*(j:Int))=((8*j:Nat):Int)by omega];refine HL.out.mono ?_;rintro e w2⟨rfl,rfl⟩;clear HL
  go_wp2_with fail
  go_ret2;exact⟨rfl,hb0⟩
def SStep(w:World)(B d:Nat)(v:Value)(j:Nat)(x:UInt64):Prop:=
 ∃b1 b2 b3,v= .func (.func 122) #[] #[.pointer (some ⟨b1,0,none⟩),.pointer (some ⟨b2,0,none⟩),.pointer (some ⟨b3,0,none⟩)]∧B≤b1∧B≤b2∧B≤b3∧
  w.heap[b1]? =some (.cells #[.pointer (some ⟨d,0,none⟩)] 31 (0,0))∧w.heap[b2]? =some (.cells #[.int .i64 ((8*j:Nat):Int)] 3 (0,0))∧w.heap[b3]? =some (.cells #[.int .u64 (x.toNat:Int)] 23 (0,0))
def FStep(w:World)(B d:Nat)(v:Value)(off:Nat):Prop:=
 ∃b1 b2,v= .func (.func 124) #[] #[.pointer (some ⟨b1,0,none⟩),.pointer (some ⟨b2,0,none⟩)]∧B≤b1∧B≤b2∧
  w.heap[b1]? =some (.cells #[.pointer (some ⟨d,0,none⟩)] 31 (0,0))∧w.heap[b2]? =some (.cells #[.int .i64 (off:Int)] 3 (0,0))
def Stays(T:TypeId)(w w':World):Prop:=∀(b:Nat)(cs:Array Value)(t:TypeId)(fz:Nat×Nat),t≠T→w.heap[b]? =some (.cells cs t fz)→w'.heap[b]? =some (.cells cs t fz)
theorem Stays.refl(T:TypeId)(w:World):Stays T w w:=fun _ _ _ _ _ h=>h
theorem Stays.trans{T:TypeId}{w w' w'':World}(h:Stays T w w')(k:Stays T w' w''):Stays T w w'':=fun b cs t fz ht e=>k b cs t fz ht (h b cs t fz ht e)
theorem Stays.below{T:TypeId}{w w':World}(h:Below w.heap.size w w'):Stays T w w':=fun b _ _ _ _ e=>(h.block b (Array.getElem?_eq_some_iff.1 e).1).trans e
theorem SStep.stays{w w':World}{B d:Nat}{v:Value}{j:Nat}{x:UInt64}(h:SStep w B d v j x)(k:Stays 166 w w'):SStep w' B d v j x:=by
 obtain⟨b1,b2,b3,e,h1,h2,h3,c1,c2,c3⟩:=h;exact⟨b1,b2,b3,e,h1,h2,h3,k _ _ _ _ (by decide) c1,k _ _ _ _ (by decide) c2,k _ _ _ _ (by decide) c3⟩
theorem FStep.stays{w w':World}{B d:Nat}{v:Value}{off:Nat}(h:FStep w B d v off)(k:Stays 166 w w'):FStep w' B d v off:=by
 obtain⟨b1,b2,e,h1,h2,c1,c2⟩:=h;exact⟨b1,b2,e,h1,h2,k _ _ _ _ (by decide) c1,k _ _ _ _ (by decide) c2⟩
theorem Tryz.stepsTy:RowTy Tryz.prog 190 166 .nilFunc 8:=⟨Tryz.underlying190,by kernel_rfl,rfl⟩
theorem Stays.kept{T:TypeId}{w w':World}{base n:Nat}{v:Value}{xs:List Value}(ho:w.ownsRow base T 1 v n xs)(h:Kept w w' v.ownBlock):Stays T w w':=by
 intro b cs t fz ht e;refine(h.2 b (Array.getElem?_eq_some_iff.1 e).1 (fun hb=> ?_)).trans e;rcases ho.2 with⟨rfl,_⟩| ⟨g,cap,cur,rfl,_,hg,_⟩
 ·cases hb
 ·have:b=g:=by simpa [Value.ownBlock]using hb
  subst this;rw [e]at hg;injection hg with hg
  injection hg with _ h2 _
  exact ht h2
theorem store_step_mk(B d j:Nat)(x:UInt64)(w:World)(hB:B≤w.heap.size):
 Calls Tryz.prog 86 #[.pointer (some ⟨d,0,none⟩),.int .i64 ((8*j:Nat):Int),.int .u64 (x.toNat:Int)] w fun e w'=>∃v,e= .returned v∧SStep w' B d v j x∧v.oneCell'=true∧Below w.heap.size w w':=by
 refine(store_mk d _ _ w).mono ?_;rintro e w'⟨rfl,rfl⟩;have s1:(w.alloc (.cells #[.pointer (some ⟨d,0,none⟩)] 31)).heap.size=w.heap.size+1:=by simp
 have s2:((w.alloc (.cells #[.pointer (some ⟨d,0,none⟩)] 31)).alloc (.cells #[.int .i64 ((8*j:Nat):Int)] 3)).heap.size=w.heap.size+1+1:=by simp
 refine⟨_,rfl,⟨w.heap.size,w.heap.size+1,w.heap.size+1+1,rfl,hB,by omega,by omega,?_,?_,?_⟩,rfl,(((Below.refl _ _).alloc (Nat.le_refl _) _).alloc (by omega) _).alloc (by omega) _⟩
 ·exact(heap_alloc_old _ _ (by omega)).trans ((heap_alloc_old _ _ (by omega)).trans (heap_alloc_new _ _))
 ·refine(heap_alloc_old _ _ (by omega)).trans ?_;rw [←s1];exact heap_alloc_new _ _
 ·rw [←s2];exact heap_alloc_new _ _
theorem flush_step_mk(B d off:Nat)(w:World)(hB:B≤w.heap.size):
 Calls Tryz.prog 87 #[.pointer (some ⟨d,0,none⟩),.int .i64 (off:Int)] w fun e w'=>∃v,e= .returned v∧FStep w' B d v off∧v.oneCell'=true∧Below w.heap.size w w':=by
 refine(flush_mk d _ w).mono ?_;rintro e w'⟨rfl,rfl⟩;have s1:(w.alloc (.cells #[.pointer (some ⟨d,0,none⟩)] 31)).heap.size=w.heap.size+1:=by simp
 refine⟨_,rfl,⟨w.heap.size,w.heap.size+1,rfl,hB,by omega,?_,?_⟩,rfl,((Below.refl _ _).alloc (Nat.le_refl _) _).alloc (by omega) _⟩
 ·exact(heap_alloc_old _ _ (by omega)).trans (heap_alloc_new _ _)
 ·rw [←s1];exact heap_alloc_new _ _
def capsOf:Value→Array Value
 | .func _ _ c=>c
 | _=> #[]
theorem putAll_run{own:Nat→Prop}{I:Nat→World→Prop}{J:World→Prop}(d j m:Nat)(xs:List UInt64)(w W0:World)(hown:∀b,w.heap.size≤b→¬own b)(hT:Stp d own j m xs W0 I J)(hx:xs.length+m<1000000)
 (S:List Value)(hS1:∀t v x,t<xs.length→S[t]? =some v→xs[t]? =some x→SStep W0 w.heap.size d v (j+t) x)(hS2:∀t v,t<m→S[xs.length+t]? =some v→FStep W0 w.heap.size d v (64*(j/8+t)))
 (hS3:S[xs.length+m]? =some (.func (.func 88) #[.pointer (some ⟨d,0,none⟩)] #[]))(hSl:S.length=xs.length+m+1)
 (A:Option Addr)(c:Nat)(hrow:Rd W0 A (xs.length+m+1) S)(hA:∀a,A=some a→w.heap.size≤a.block):
 Calls Tryz.prog 85 #[.slice A ((xs.length+m+1:Nat)) c] W0 fun e w'=>∃c:Int,e= .returned (.int .i64 c)∧((c=0∧I (xs.length+m+1) w')∨(c=12∧J w')):=by
 have keep:∀{k W},I k W→∀(b:Nat)(cs:Array Value)(t:TypeId),w.heap.size≤b→W0.heap[b]? =some (.cells cs t (0,0))→W.heap[b]? =some (.cells cs t (0,0)):=fun hi b cs t hle hc=>
  ((hT.touch _ _ hi).block b (Array.getElem?_eq_some_iff.1 hc).1 (hown b hle)).trans hc
 have cellOf:∀{W:World}{b:Nat}{v:Value}{t:TypeId},W.heap[b]? =some (.cells #[v] t (0,0))→W.cell? ⟨b,0,none⟩=some v:=fun hc=>by rw [cell_of_row _ _ 0 _ _ (0,0) hc];rfl
 refine(run_steps A (xs.length+m+1) c (fun k=>if k<xs.length then 122 else if k<xs.length+m then 124 else 88)
  (fun k=>if k=xs.length+m then#[.pointer (some ⟨d,0,none⟩)]else#[]) (fun k=>capsOf (S.getD k .nilFunc)) I J W0 (by omega) hT.start ?_ ?_ ?_)
 ·intro k hk W;by_cases h1:k<xs.length
  ·simp only [if_pos h1];exact callFn_store _ W
  ·by_cases h2:k<xs.length+m
   ·simp only [if_neg h1,if_pos h2];exact callFn_flush _ W
   ·simp only [if_neg h1,if_neg h2];exact callFn_fence _ W
 ·intro k W hi;have hr:Rd W A (xs.length+m+1) S:=hrow.touch (hT.touch _ _ hi) (fun a e ho=>hown _ (hA a e) ho);have hSe:S=(List.range (xs.length+m+1)).map fun k=>Value.func (.func (if k<xs.length then 122 else if k<xs.length+m then 124 else 88)) (if k=xs.length+m then#[.pointer (some ⟨d,0,none⟩)]else#[]) (capsOf (S.getD k .nilFunc)):=by
   apply List.ext_getElem
   ·simp [hSl]
   ·intro t h1 h2;rw [List.getElem_map,List.getElem_range,List.getD_eq_getElem?_getD,List.getElem?_eq_getElem h1];by_cases c1:t<xs.length
    ·obtain⟨b1,b2,b3,e,_⟩:=hS1 t _ _ c1 (List.getElem?_eq_getElem h1) (List.getElem?_eq_getElem c1);rw [if_pos c1,if_neg (by omega),e];rfl
    ·by_cases c2:t<xs.length+m
     ·obtain⟨b1,b2,e,_⟩:=hS2 (t-xs.length) S[t] (by omega) (by rw [show xs.length+(t-xs.length)=t by omega];exact List.getElem?_eq_getElem h1);rw [if_neg c1,if_pos c2,if_neg (by omega),e];rfl
     ·have c3:t=xs.length+m:=by omega
      subst c3;rw [List.getElem?_eq_getElem h1]at hS3;injection hS3 with hS3
      rw [if_neg c1,if_neg c2,if_pos rfl,hS3];rfl
  rw [←hSe];exact hr
 ·intro k W hk hi;by_cases c1:k<xs.length
  ·obtain⟨b1,b2,b3,e,l1,l2,l3,k1,k2,k3⟩:=hS1 k _ _ c1 (List.getElem?_eq_getElem (by omega)) (List.getElem?_eq_getElem c1);simp only [if_pos c1,if_neg (show¬k=xs.length+m by omega),List.getD_eq_getElem?_getD,List.getElem?_eq_getElem (show k<S.length by omega),Option.getD_some,e,capsOf];exact step_store b1 b2 b3 _ _ _ W (cellOf (keep hi _ _ _ l1 k1)) ⟨_,rfl⟩ (cellOf (keep hi _ _ _ l2 k2)) (cellOf (keep hi _ _ _ l3 k3)) (hT.store k c1 W hi)
  ·by_cases c2:k<xs.length+m
   ·obtain⟨b1,b2,e,l1,l2,k1,k2⟩:=hS2 (k-xs.length) S[k] (by omega) (by rw [show xs.length+(k-xs.length)=k by omega];exact List.getElem?_eq_getElem (by omega));simp only [if_neg c1,if_pos c2,if_neg (show¬k=xs.length+m by omega),List.getD_eq_getElem?_getD,List.getElem?_eq_getElem (show k<S.length by omega),Option.getD_some,e,capsOf];have:=hT.flush (k-xs.length) (by omega) (64*(j/8+(k-xs.length))) (by omega) W (by rw [show xs.length+(k-xs.length)=k by omega];exact hi);rw [show xs.length+(k-xs.length)+1=k+1 by omega]at this;exact step_flush b1 b2 _ _ W (cellOf (keep hi _ _ _ l1 k1)) ⟨_,rfl⟩ (cellOf (keep hi _ _ _ l2 k2)) this
   ·have c3:k=xs.length+m:=by omega
    subst c3;simp only [if_neg c1,if_neg c2,if_true,List.getD_eq_getElem?_getD,hS3,Option.getD_some,capsOf];exact hT.fence W hi
set_option maxHeartbeats 4000000 in
set_option maxRecDepth 20000 in
theorem putAll_stp {own : Nat → Prop} {I : World → Nat → World → Prop} {J : World → World → Prop} (d L g : Nat) (v1 v2 v3 : Value) (j n c : Nat) (A : Option Addr) (xs : List UInt64) (w : World) (hL0 : 0 < L) (hL : L ≤ 1024) (hbx : Blk w d 93 [.slice (some ⟨g, 0, none⟩) L L, v1, v2, v3]) (hown : ∀ b, own b → b < w.heap.size) (hj : j + n ≤ 8 * L) (hn0 : 0 < n) (hx : Ws w A n xs)
    (hS : ∀ W0, Below w.heap.size w W0 → Stp d own j ((j + n - 1) / 8 - j / 8 + 1) xs W0 (I W0) (J W0)) :
    Calls Tryz.prog 71 #[.pointer (some ⟨d, 0, none⟩), .int .i64 ((8 * j : Nat) : Int), .slice A n c] w fun e w' => ∃ W0, Below w.heap.size w W0 ∧ ∃ c : Int, e = .returned (.int .i64 c) ∧ ((c = 0 ∧ I W0 (n + ((j + n - 1) / 8 - j / 8 + 1) + 1) w') ∨ (c = 12 ∧ J W0 w')) := by
  have HOwn := Lib.hid (fun b (h1 : w.heap.size ≤ b) (h2 : own b) => Nat.lt_irrefl _ (Nat.lt_of_lt_of_le (hown b h2) h1))
  have HW := Lib.hid (within_ok d L g (8 * j) n _ _ _ w (by omega) hL hbx (by omega) (by omega))
  have hlen := hx.len
  have HX := Lib.hid hx
  obtain ⟨m, hmm, hm0, hm1, hm2⟩ : ∃ m, m = (j + n - 1) / 8 - j / 8 + 1 ∧ 0 < m ∧ (∀ i, j ≤ i → i < j + n → j / 8 ≤ i / 8 ∧ i / 8 < j / 8 + m) ∧ (∀ t, t < m ↔ 8 * (j / 8 + t) < j + n) := ⟨(j + n - 1) / 8 - j / 8 + 1, rfl, by omega, fun i h1 h2 => by omega, fun t => by omega⟩
  have t9 : decide ((0 : Int) < (n : Int)) = true := decide_eq_true (by omega)
  rw [← hmm] at hS ⊢
  have H := Lib.hid hS
  clear hmm hS
  have HM1 := Lib.hid hm1
  have HM2 := Lib.hid hm2
  clear hbx hx hm1 hm2 hown
  go_enter Tryz.func71, Tryz.ntmps71
  go_wp2_with fail
  refine HW.out.mono ?_
  rintro e w' ⟨rfl, rfl⟩
  clear HW
  go_wp2_with fail
  have hB0 : Below w.heap.size w (w.alloc (.cells #[] 166)) := (Below.refl _ _).alloc (Nat.le_refl _) _
  have hO0 : (w.alloc (.cells #[] 166)).ownsRow w.heap.size 166 1 (.slice (some ⟨w.heap.size, 0, none⟩) 0 0) 0 [] := World.ownsRow_made w #[] 0 (Nat.le_refl _) (by decide) rfl
  go_loopw [8, 24] (fun v i wr => ∃ k S, k ≤ n ∧ i = .int .i64 (k : Nat) ∧ wr.ownsRow w.heap.size 166 1 v k S ∧ (∀ t v x, S[t]? = some v → xs[t]? = some x → SStep wr w.heap.size d v (j + t) x) ∧ Below w.heap.size w wr) (fun _ i _ => n - (intOf i).toNat)
  case atStart => exact ⟨0, [], Nat.zero_le _, rfl, hO0, by simp, hB0⟩
  case round =>
    obtain ⟨k, S, hk, rfl, hO, hS, hB⟩ := hrel
    clear hO0 hB0
    by_cases hlt : k < n
    · obtain ⟨hkl, b0, o0, rfl, hb0, hc0⟩ := (HX.out.below hB).at hlt
      go_wp2_with fail
      rw [show (8 * (j : Int) + 8 * (k : Int)) = ((8 * (j + k) : Nat) : Int) by omega]
      refine (store_step_mk w.heap.size d (j + k) xs[k] wr hB.size).mono ?_
      rintro e w2 ⟨v2, rfl, hs2, h1, hB2⟩
      obtain ⟨F, cap, rfl⟩ : ∃ F cap, v2 = .func F #[] cap := by obtain ⟨_, _, _, e, _⟩ := hs2; exact ⟨_, _, e⟩
      have hO2 := own_below hO hB2
      have hb2 : Below w.heap.size w w2 := hB.trans (hB2.mono hB.size)
      have hS2 : ∀ t v x, S[t]? = some v → xs[t]? = some x → SStep w2 w.heap.size d v (j + t) x := fun t v x h1 h2 => (hS t v x h1 h2).stays (Stays.below hB2)
      have HS2 := Lib.hid hS2
      have hSl : S.length = k := by simpa using hO.1
      clear hS hB hO hB2 hS2
      go_wp2_with (at_builtin; go_loud (refine wpList_app_new2 rfl (.tmp 29) (.tmp 37) 190 rfl Tryz.stepsTy w2 w.heap.size u8 k S [.func F #[] cap] rfl hO2 rfl rfl rfl rfl 1 1 rfl rfl (by simpa using h1) (by simp; omega) (by decide) hb2.size ?_); intro v3 w3 hO3 hB3 hK3)
      have hst := Stays.kept hO2 hK3
      go_roundw
      case rel =>
        refine ⟨k + 1, S ++ [.func F #[] cap], by omega, by go_num, hO3, fun t v x h1 h2 => ?_, hb2.trans hB3⟩
        by_cases e : t < S.length
        · rw [List.getElem?_append_left e] at h1
          exact (HS2.out t v x h1 h2).stays hst
        · have ht : t = k := by
            have := (List.getElem?_eq_some_iff.1 h1).1
            simp at this; omega
          subst ht
          rw [List.getElem?_append_right (by omega), hSl, Nat.sub_self] at h1
          rw [List.getElem?_eq_getElem hkl] at h2
          simp at h1 h2
          subst h1 h2
          exact hs2.stays hst
      case measure => simp [intOf]; omega
    · have hkn : k = n := by omega
      subst hkn
      have HS := Lib.hid hS
      have hSl : S.length = k := by simpa using hO.1
      clear hS
      go_wp2_with fail
      rw [show (8 * (j : Int) / 64 * 64) = ((64 * (j / 8 + 0) : Nat) : Int) by omega]
      go_loopw [8, 12] (fun v i w5 => ∃ t T, t ≤ m ∧ i = .int .i64 ((64 * (j / 8 + t) : Nat) : Int) ∧ w5.ownsRow w.heap.size 166 1 v (k + t) T ∧ (∀ a v x, a < k → T[a]? = some v → xs[a]? = some x → SStep w5 w.heap.size d v (j + a) x) ∧ (∀ a v, a < t → T[k + a]? = some v → FStep w5 w.heap.size d v (64 * (j / 8 + a))) ∧ Below w.heap.size w w5) (fun _ i _ => 8 * (j + k) + 64 - (intOf i).toNat)
      case atStart => exact ⟨0, S, Nat.zero_le _, rfl, hO, fun a v x _ h1 h2 => HS.out a v x h1 h2, fun a v h => absurd h (by omega), hB⟩
      case round =>
        obtain ⟨t, T, htm, rfl, hO5, hT1, hT2, hB5⟩ := hrel
        clear hO hB HS hSl
        have hTl : T.length = k + t := by simpa using hO5.1
        have hkt : k + t ≤ 20000 := by
          have := HM2.out (t - 1)
          omega
        by_cases hlt2 : t < m
        · have h8 := (HM2.out t).1 hlt2
          have t1 : decide (((64 * (j / 8 + t) : Nat) : Int) < 8 * (j : Int) + 8 * (k : Int)) = true := decide_eq_true (by omega)
          generalize hat : 64 * (j / 8 + t) = at_ at *
          have HT1 := Lib.hid hT1
          have HT2 := Lib.hid hT2
          clear hT1 hT2
          go_wp2_with fail
          refine (flush_step_mk w.heap.size d at_ wr hB5.size).mono ?_
          rintro e w2 ⟨v2, rfl, hs2, h1, hB2⟩
          obtain ⟨F, cap, rfl⟩ : ∃ F cap, v2 = .func F #[] cap := by obtain ⟨_, _, e, _⟩ := hs2; exact ⟨_, _, e⟩
          have hO2 := own_below hO5 hB2
          have hb2 : Below w.heap.size w w2 := hB5.trans (hB2.mono hB5.size)
          have HT3 : Hid (∀ a v x, a < k → T[a]? = some v → xs[a]? = some x → SStep w2 w.heap.size d v (j + a) x) := Lib.hid (fun a v x h0 h1 h2 => (HT1.out a v x h0 h1 h2).stays (Stays.below hB2))
          have HT4 : Hid (∀ a v, a < t → T[k + a]? = some v → FStep w2 w.heap.size d v (64 * (j / 8 + a))) := Lib.hid (fun a v h0 h1 => (HT2.out a v h0 h1).stays (Stays.below hB2))
          clear hO5 hB2 HT1 HT2
          go_wp2_with (at_builtin; go_loud (refine wpList_app_new2 rfl (.tmp 56) (.tmp 60) 190 rfl Tryz.stepsTy w2 w.heap.size u8 (k + t) T [.func F #[] cap] rfl hO2 rfl rfl rfl rfl 1 1 rfl rfl (by simpa using h1) (by simp; omega) (by decide) hb2.size ?_); intro v3 w3 hO3 hB3 hK3)
          have hst := Stays.kept hO2 hK3
          refine ⟨⟨_, _, _, _, _, _, _, _, _, _, _, _, _, ?_, rfl⟩, ?_⟩
          · refine ⟨t + 1, T ++ [.func F #[] cap], by omega, by rw [← hat]; go_num, by rw [← Nat.add_assoc]; exact hO3, fun a v x h0 h1 h2 => ?_, fun a v h0 h1 => ?_, hb2.trans hB3⟩
            · rw [List.getElem?_append_left (by omega)] at h1
              exact (HT3.out a v x h0 h1 h2).stays hst
            · by_cases e : a = t
              · subst e
                rw [List.getElem?_append_right (by omega), hTl, Nat.sub_self] at h1
                simp at h1
                subst h1
                rw [hat]
                exact hs2.stays hst
              · rw [List.getElem?_append_left (by omega)] at h1
                exact (HT4.out a v (by omega) h1).stays hst
          · simp [intOf]; omega
        · have htm' : t = m := by omega
          subst htm'
          have h8 : ¬ 8 * (j / 8 + t) < j + k := fun h => hlt2 ((HM2.out t).2 h)
          have t1 : decide (((64 * (j / 8 + t) : Nat) : Int) < 8 * (j : Int) + 8 * (k : Int)) = false := decide_eq_false (by omega)
          have HT1 := Lib.hid hT1
          have HT2 := Lib.hid hT2
          clear hT1 hT2
          go_wp2_with (at_builtin; go_loud (refine wpList_app_new2 rfl (.tmp 62) (.tmp 65) 190 rfl Tryz.stepsTy wr w.heap.size u8 (k + t) T [.func (.func 88) #[.pointer (some ⟨d, 0, none⟩)] #[]] rfl hO5 rfl rfl rfl rfl 1 1 rfl rfl (by intro u hu; simp at hu; subst hu; rfl) (by simp; omega) (by decide) hB5.size ?_); intro v3 w3 hO3 hB3 hK3)
          have hst := Stays.kept hO5 hK3
          obtain ⟨A4, c4, rfl, hc4, hr4⟩ := rd_of_own hO3
          obtain ⟨g4, rfl, hg4, _⟩ := own_addr hO3 (by omega)
          have hb3 := hB5.trans hB3
          subst hlen
          refine (putAll_run d j t xs w w3 HOwn.out (H.out _ hb3) (by omega) (T ++ [.func (.func 88) #[.pointer (some ⟨d, 0, none⟩)] #[]])
            (fun a v x h0 h1 h2 => ?_) (fun a v h0 h1 => ?_) ?_ (by simp; omega) (some ⟨g4, 0, none⟩) c4 hr4 (fun a ha => by injection ha with ha; subst ha; exact hg4)).mono ?_
          · rw [List.getElem?_append_left (by omega)] at h1
            exact (HT1.out a v x h0 h1 h2).stays hst
          · rw [List.getElem?_append_left (by omega)] at h1
            exact (HT2.out a v h0 h1).stays hst
          · rw [List.getElem?_append_right (by omega), hTl, Nat.sub_self]; rfl
          rintro e w' ⟨c5, rfl, hp⟩
          have HP := Lib.hid (⟨_, hb3, c5, rfl, hp⟩ : ∃ W0, Below w.heap.size w W0 ∧ ∃ c : Int, Ending.returned (.int .i64 c5) = .returned (.int .i64 c) ∧ ((c = 0 ∧ I W0 (xs.length + t + 1) w') ∨ (c = 12 ∧ J W0 w')))
          clear hp hb3 H HOwn
          go_wp2_with fail
          go_ret
          exact HP.out
theorem putAll_devU(lf:Int)(d L g:Nat)(hb:Nat→Option Nat)(ws:Nat→UInt64)(j n c:Nat)(A:Option Addr)(xs:List UInt64)(w:World)(hL0:0<L)(hL:L≤1024)(h:DevRep w d L ws (MU lf) (fun _=>0) g hb)(hj:j+n≤8*L)(hn0:0<n)(hx:Ws w A n xs):
 Calls Tryz.prog 71 #[.pointer (some ⟨d,0,none⟩),.int .i64 ((8*j:Nat):Int),.slice A n c] w fun e w'=>∃c:Int,e= .returned (.int .i64 c)∧Wrote lf (n+((j+n-1)/8-j/8+1)+1) w d L g hb ws j xs c w':=by
 obtain⟨st,hbx⟩:=h.box;have hlen:=hx.len;refine(putAll_stp d L g _ _ _ j n c A xs w hL0 hL hbx h.lt hj hn0 hx (fun W0 hB=>all_stp hL0 hL (h.below hB) (by omega) (by omega) (by omega) (by omega) (fun i h1 h2=>by omega) (fun t ht=>by omega))).mono ?_;rintro e w'⟨W0,hB,c,rfl,hi⟩;refine⟨c,rfl,Wrote.back (W0:=W0) ?_ hB⟩;rw [hlen]at hi;rcases hi with⟨h1,hi⟩| ⟨h1,hi⟩
 ·refine .inl ⟨h1,hi.1,?_⟩;have:=hi.2;rw [hlen,if_neg (by omega),if_neg (by omega)]at this;exact this
 ·exact .inr ⟨h1,hi⟩
theorem putAll_down(d L g j n c:Nat)(A:Option Addr)(xs:List UInt64)(v2 v3:Value)(w:World)(hL0:0<L)(hL:L≤1024)(hB:Blk w d 93 [.slice (some ⟨g,0,none⟩) L L,.bool true,v2,v3])(hj:j+n≤8*L)(hn0:0<n)(hx:Ws w A n xs):
 Calls Tryz.prog 71 #[.pointer (some ⟨d,0,none⟩),.int .i64 ((8*j:Nat):Int),.slice A n c] w fun e w'=>e= .returned (.int .i64 12)∧Below w.heap.size w w':=by
 refine(putAll_stp (own:=fun _=>False) d L g _ _ _ j n c A xs w hL0 hL hB (fun _ h=>h.elim) hj hn0 hx (fun W0 hb=>down_stp hL0 hL (hB.below hb hB.lt) _ j _ xs)).mono ?_;rintro e w'⟨W0,hb,c,rfl,⟨_,h1,_⟩| ⟨rfl,rfl⟩⟩
 ·omega
 ·exact⟨rfl,hb⟩
theorem putAll_dev(d L g:Nat)(hb:Nat→Option Nat)(ws:Nat→UInt64)(j n c:Nat)(A:Option Addr)(xs:List UInt64)(w:World)(hL0:0<L)(hL:L≤1024)(h:DevRep w d L ws M0 (fun _=>0) g hb)(hj:j+n≤8*L)(hn0:0<n)(hx:Ws w A n xs):
 Calls Tryz.prog 71 #[.pointer (some ⟨d,0,none⟩),.int .i64 ((8*j:Nat):Int),.slice A n c] w fun e w'=>e= .returned (.int .i64 0)∧Dv w d L g hb (putWs ws j xs) M0 (fun _=>0) w':=by
 refine(putAll_devU (-1) d L g hb ws j n c A xs w hL0 hL h hj hn0 hx).mono ?_;rintro e w'⟨c',rfl,hp⟩;obtain⟨rfl,hd⟩:=hp.up;exact⟨rfl,hd⟩
def RowB(w:World)(b:Nat)(xs:List UInt64):Prop:=∃cur:Array Value,w.heap[b]? =some (.cells cur 23 (0,0))∧∀k(h:k<xs.length),cur[k]? =some (wv xs[k])
theorem RowB.lt{w:World}{b:Nat}{xs:List UInt64}(h:RowB w b xs):b<w.heap.size:=by
 obtain⟨cur,hc,_⟩:=h;exact(Array.getElem?_eq_some_iff.1 hc).1
theorem RowB.keep{w w':World}{b:Nat}{xs:List UInt64}(h:RowB w b xs)(hk:w'.heap[b]? =w.heap[b]?):RowB w' b xs:=by
 obtain⟨cur,hc,h2⟩:=h;exact⟨cur,hk.trans hc,h2⟩
theorem RowB.cell{w:World}{b:Nat}{xs:List UInt64}(h:RowB w b xs)(k:Nat)(hk:k<xs.length):w.cell? ⟨b,k,none⟩=some (.int .u64 (xs[k].toNat:Int)):=by
 obtain⟨cur,hc,h2⟩:=h;rw [cell_of_row w b k cur _ (0,0) hc,h2 k hk];rfl
theorem RowB.frozen{w:World}{b:Nat}{xs:List UInt64}(h:RowB w b xs)(k:Nat):w.frozen? ⟨b,k,none⟩=false:=by
 obtain⟨cur,hc,h2⟩:=h;simp [World.frozen?,hc]
theorem RowB.set{w:World}{b:Nat}{xs:List UInt64}(h:RowB w b xs)(k:Nat)(x:UInt64):RowB (w.setCell ⟨b,k,none⟩ (wv x)) b (xs.set k x):=by
 obtain⟨cur,hc,h2⟩:=h;refine⟨_,setCell_cur _ hc,fun t ht=> ?_⟩;rw [List.length_set]at ht;rw [Array.getElem?_setIfInBounds,List.getElem_set];by_cases e:k=t
 ·subst e;have:k<cur.size:=(Array.getElem?_eq_some_iff.1 (h2 k ht)).1;rw [if_pos rfl,if_pos rfl,if_pos this]
 ·rw [if_neg e,if_neg e];exact h2 t ht
theorem RowB.ws{w:World}{b:Nat}{xs:List UInt64}(h:RowB w b xs):Ws w (some ⟨b,0,none⟩) xs.length xs:=by
 refine⟨by simp,fun _=>⟨b,0,rfl,h.lt,fun j hj=> ?_⟩⟩;rw [Nat.zero_add,h.cell j hj,List.getElem?_map,List.getElem?_eq_getElem hj];rfl
theorem RowB.of_own{w:World}{base b n c:Nat}{xs:List UInt64}(h:w.ownsRow base 23 1 (.slice (some ⟨b,0,none⟩) n c) n (xs.map wv)):RowB w b xs:=by
 obtain⟨h1,h2⟩:=h;rcases h2 with⟨h2,_⟩| ⟨g',cap,cur,hv,hB,hg,hnc,hcm,hcs,ht⟩
 ·cases h2
 ·simp only [Value.slice.injEq,Option.some.injEq,Addr.mk.injEq,and_true,true_and]at hv;obtain⟨rfl,rfl⟩:=hv;refine⟨cur,hg,fun k hk=> ?_⟩;have hkn:k<n:=by simpa using(by simpa using h1:xs.length=n)▸hk
  have e:=congrArg (fun l=>l[k]?) ht;simp only [List.getElem?_take,List.getElem?_map,List.getElem?_eq_getElem hk,Option.map_some]at e;rw [if_pos (by omega)]at e;rw [←Array.getElem?_toList];exact e
structure Moved(F F':Nat→Prop)(w w':World):Prop where
 touch:Touch F w w'
 own:∀b,F' b→F b∨w.heap.size≤b
theorem Moved.refl(F:Nat→Prop)(w:World):Moved F F w w:=⟨Touch.refl _ _,fun _ h=> .inl h⟩
theorem Moved.of_below{F:Nat→Prop}{w w':World}(h:Below w.heap.size w w'):Moved F F w w':=⟨Touch.of_below h,fun _ h=> .inl h⟩
theorem Moved.trans{F F' F'':Nat→Prop}{w w' w'':World}(h:Moved F F' w w')(k:Moved F' F'' w' w''):Moved F F'' w w'':=
 ⟨h.touch.trans k.touch (fun b hb=>h.own b hb),fun b hb=>(k.own b hb).elim (fun h1=>h.own b h1) (fun h1=> .inr (Nat.le_trans h.touch.size h1))⟩
theorem Moved.below{F F':Nat→Prop}{w w' w'':World}(h:Moved F F' w w')(k:Below w'.heap.size w' w''):Moved F F' w w'':=h.trans (Moved.of_below k)
theorem Moved.set{F F':Nat→Prop}{w w':World}(h:Moved F F' w w'){p:Addr}(hp:F p.block∨w.heap.size≤p.block)(u:Value):Moved F F' w (w'.setCell p u):=⟨h.touch.setCell hp u,h.own⟩
structure Tabs(w:World):Prop where
 fours:∀j,j<16→w.cell? ⟨0,j,none⟩=some (.int .u32 (foursN.getD j 0:Nat))
 bruijn:∀j,j<64→w.cell? ⟨1,j,none⟩=some (.int .u8 (Lib.deBruijn64tab.getD j 0:Nat))
theorem Tabs.keep{w w':World}(h:Tabs w)(h1:w'.heap[0]? =w.heap[0]?)(h2:w'.heap[1]? =w.heap[1]?):Tabs w':=
 ⟨fun j hj=>(World.cell?_of_block (w:=w) h1).trans (h.fours j hj),fun j hj=>(World.cell?_of_block (w:=w) h2).trans (h.bruijn j hj)⟩
theorem Tabs.lt{w:World}(h:Tabs w):0<w.heap.size∧1<w.heap.size:=
 ⟨World.block_lt_of_cell? w _ (h.fours 0 (by decide)),World.block_lt_of_cell? w _ (h.bruijn 0 (by decide))⟩
theorem Tabs.below{w w':World}(h:Tabs w)(k:Below w.heap.size w w'):Tabs w':=h.keep (k.block _ h.lt.1) (k.block _ h.lt.2)
inductive SMode where
 | up(m:Mode)
 | down(P:(Nat→UInt64)→Prop)
instance:Coe Mode SMode:=⟨.up⟩
def DevDown(w:World)(d L:Nat)(P:(Nat→UInt64)→Prop)(own:Nat→Prop):Prop:=
 ∃(m:Mode)(ws:Nat→UInt64)(mark:Nat→Nat),m.lf=0∧Dev w d L ws m mark own∧(∀i,m i≤1000000)∧(∀i,∀c∈m.chg i,∃t,t<8∧c.1=8*t)∧∀pick:Nat→Nat,(∀i,pick i≤m i)→P (undoD m pick ws)
def DevS(w:World)(d L:Nat)(ws:Nat→UInt64)(m:SMode)(own:Nat→Prop):Prop:=match m with
 | .up m=>Dev w d L ws m (fun _=>0) own∧m.lf≠0
 | .down P=>DevDown w d L P own
theorem DevS.rep{w:World}{d L:Nat}{ws:Nat→UInt64}{m:SMode}{own:Nat→Prop}(h:DevS w d L ws m own):∃ws' m' mark,Dev w d L ws' m' mark own:=by
 cases m with
 | up m=>exact⟨_,_,_,h.1⟩
 | down P=>obtain⟨_,_,_,_,h,_⟩:=h;exact⟨_,_,_,h⟩
theorem DevS.lt{w:World}{d L:Nat}{ws:Nat→UInt64}{m:SMode}{own:Nat→Prop}(h:DevS w d L ws m own):∀b,own b→b<w.heap.size:=by
 obtain⟨_,_,_,h⟩:=h.rep;exact h.lt
theorem DevS.touch{w w':World}{d L:Nat}{ws:Nat→UInt64}{m:SMode}{own F:Nat→Prop}(h:DevS w d L ws m own)(t:Touch F w w')(hF:∀b,own b→¬F b):DevS w' d L ws m own:=by
 cases m with
 | up m=>exact⟨h.1.touch t hF,h.2⟩
 | down P=>obtain⟨m,ws,mark,h1,h2,h3⟩:=h;exact⟨m,ws,mark,h1,h2.touch t hF,h3⟩
theorem DevS.below{w w':World}{d L:Nat}{ws:Nat→UInt64}{m:SMode}{own:Nat→Prop}(h:DevS w d L ws m own)(k:Below w.heap.size w w'):DevS w' d L ws m own:=h.touch (Touch.of_below (F:=fun _=>False) k) (fun _ _=>id)
theorem DevS.box{w:World}{d L:Nat}{ws:Nat→UInt64}{m:SMode}{own:Nat→Prop}(h:DevS w d L ws m own):∃g v1 v2 v3,Blk w d 93 [.slice (some ⟨g,0,none⟩) L L,v1,v2,v3]:=by
 obtain⟨_,_,_,g,hb,hr,_⟩:=h.rep;obtain⟨st,hbx⟩:=hr.box;exact⟨g,_,_,_,hbx⟩
theorem DevS.size{w:World}{d L:Nat}{ws:Nat→UInt64}{m:SMode}{own:Nat→Prop}(h:DevS w d L ws m own)(hL:L≤1024):Calls Tryz.prog 31 #[.pointer (some ⟨d,0,none⟩)] w fun e w'=>e= .returned (.int .i64 ((L*64:Nat):Int))∧w=w':=by
 obtain⟨g,_,_,_,hbx⟩:=h.box;exact size_dev d L g _ _ _ w hL hbx
structure SysRepL(len:SMode)(w:World)(d p L:Nat)(s:St)(tb hb n cT cH:Nat)(own:Nat→Prop):Prop where
 dev:DevS w d L s.ws len own
 L0:0<L
 L1:L≤1024
 shape:shapeOf L=some s.sh
 box:Blk w p 111 [.pointer (some ⟨d,0,none⟩),.int .i64 (s.sh.lines:Nat),.int .i64 (s.sh.slabs:Nat),.int .i64 (s.sh.table:Nat),.int .i64 (s.sh.data:Nat),.slice (some ⟨tb,0,none⟩) n cT,.slice (some ⟨hb,0,none⟩) n cH]
 tk:RowB w tb s.tk
 hd:RowB w hb s.hd
 ntk:s.tk.length=n
 nhd:s.hd.length=n
 nsh:n=s.sh.slabs
 cT:n≤cT
 cH:n≤cH
 dp:¬own p
 dt:¬own tb
 dh:¬own hb
 pt:p≠tb
 ph:p≠hb
 th:tb≠hb
 tabs:Tabs w
 g1:¬(own 0∨0=p∨0=tb∨0=hb)
 g2:¬(own 1∨1=p∨1=tb∨1=hb)
def SysL(len:SMode)(w:World)(d p L:Nat)(s:St)(F:Nat→Prop):Prop:=
 ∃tb hb n cT cH own,SysRepL len w d p L s tb hb n cT cH own∧∀b,F b↔(own b∨b=p∨b=tb∨b=hb)
abbrev Sys:=SysL (.up M0)
section
variable{w w':World}{d p L:Nat}{s:St}{F:Nat→Prop}
theorem SysL.lt{len:SMode}(h:SysL len w d p L s F):∀b,F b→b<w.heap.size:=by
 obtain⟨tb,hb,n,cT,cH,own,h,hF⟩:=h;intro b hb';rcases(hF b).1 hb' with h1| rfl| rfl| rfl
 ·exact h.dev.lt b h1
 ·exact h.box.lt
 ·exact h.tk.lt
 ·exact h.hd.lt
theorem SysL.tabs{len:SMode}(h:SysL len w d p L s F):Tabs w:=by
 obtain⟨tb,hb,n,cT,cH,own,h,hF⟩:=h;exact h.tabs
theorem SysL.keep{len:SMode}(h:SysL len w d p L s F){G:Nat→Prop}(t:Touch G w w')(hG:∀b,F b→¬G b)(g1:¬G 0)(g2:¬G 1):SysL len w' d p L s F:=by
 have hlt:=h.lt;obtain⟨tb,hb,n,cT,cH,own,h,hF⟩:=h;have keep:∀b,F b→w'.heap[b]? =w.heap[b]? :=fun b hb'=>t.block b (hlt b hb') (hG b hb')
 refine⟨tb,hb,n,cT,cH,own,⟨h.dev.touch t (fun b hb'=>hG b ((hF b).2 (.inl hb'))),h.L0,h.L1,h.shape,(keep p ((hF p).2 (.inr (.inl rfl)))).trans h.box,h.tk.keep (keep tb ((hF tb).2 (.inr (.inr (.inl rfl))))),h.hd.keep (keep hb ((hF hb).2 (.inr (.inr (.inr rfl))))),h.ntk,h.nhd,h.nsh,h.cT,h.cH,h.dp,h.dt,h.dh,h.pt,h.ph,h.th,
  h.tabs.keep (t.block _ h.tabs.lt.1 g1) (t.block _ h.tabs.lt.2 g2),h.g1,h.g2⟩,hF⟩
theorem SysL.below{len:SMode}(h:SysL len w d p L s F)(k:Below w.heap.size w w'):SysL len w' d p L s F:=
 h.keep (Touch.of_below (F:=fun _=>False) k) (fun _ _=>id) id id
end
theorem slabsGo_le(L:Nat):∀f s,needN s≤L∨s=0→needN (slabsGo L f s)≤L∨slabsGo L f s=0
 | 0,s,h=>h
 | f+1,s,h=>by
   unfold slabsGo;split
   ·rename_i h1;exact slabsGo_le L f (s+1) (.inl h1)
   ·exact h
structure ShOk(L:Nat)(sh:Sh):Prop where
 slabs:0<sh.slabs
 lines:sh.lines=L
 table:sh.table=128
 data:sh.data=64*aheadN sh.slabs
 fits:sh.data+1024*sh.slabs≤64*L
 tfits:128+8*sh.slabs≤sh.data
theorem shape_ok{L:Nat}{sh:Sh}(h:shapeOf L=some sh):ShOk L sh:=by
 unfold shapeOf at h;split at h
 ·cases h
 ·dsimp only at h
  split at h
  ·cases h
  ·rename_i h1 h2;injection h with h
   have:=(slabsGo_le L L 0 (.inr rfl)).resolve_right h2;subst h;unfold needN aheadN at this;refine⟨Nat.pos_of_ne_zero h2,rfl,rfl,by simp [Nat.mul_comm],?_,?_⟩
   ·show(2+(slabsN L+7)/8)*64+1024*slabsN L≤64*L;unfold slabsN;omega
   ·show 128+8*slabsN L≤(2+(slabsN L+7)/8)*64;omega
section
variable{w w':World}{d p L:Nat}{s:St}{F:Nat→Prop}
theorem SysRepL.wrote{m:SMode}{m':Mode}{tb hb n cT cH g:Nat}{own:Nat→Prop}{hb0:Nat→Option Nat}{ws':Nat→UInt64}(h:SysRepL m w d p L s tb hb n cT cH own)(hF:∀b,F b↔(own b∨b=p∨b=tb∨b=hb))(ho:∀b,own b↔devOwn d L g hb0 b)
 (hd:Dv w d L g hb0 ws' m' (fun _=>0) w')(hu:m'.lf≠0):∃F',SysL m' w' d p L {s with ws:=ws'} F'∧Moved F F' w w':=by
 obtain⟨hb1,ho1,hr1,ht⟩:=hd;have out:∀b,b<w.heap.size→¬own b→¬devOwn d L g hb1 b:=fun b hlt hn h1=>(ho1 b h1).elim (fun h2=>hn ((ho b).2 h2)) (fun h2=>by omega)
 have keep:∀b,b<w.heap.size→¬own b→w'.heap[b]? =w.heap[b]? :=fun b hlt hn=>ht.block b hlt (fun h2=>hn ((ho b).2 h2))
 have hg1:¬own 0:=fun h1=>h.g1 (.inl h1)
 have hg2:¬own 1:=fun h1=>h.g2 (.inl h1)
 refine⟨fun b=>devOwn d L g hb1 b∨b=p∨b=tb∨b=hb,⟨tb,hb,n,cT,cH,devOwn d L g hb1,⟨⟨⟨g,hb1,hr1,fun _=>Iff.rfl⟩,hu⟩,h.L0,h.L1,h.shape,(keep p h.box.lt h.dp).trans h.box,h.tk.keep (keep tb h.tk.lt h.dt),h.hd.keep (keep hb h.hd.lt h.dh),h.ntk,h.nhd,h.nsh,h.cT,h.cH,
  out p h.box.lt h.dp,out tb h.tk.lt h.dt,out hb h.hd.lt h.dh,h.pt,h.ph,h.th,h.tabs.keep (keep _ h.tabs.lt.1 hg1) (keep _ h.tabs.lt.2 hg2),
  fun h1=>h1.elim (out _ h.tabs.lt.1 hg1) (fun h2=>h.g1 (.inr h2)),fun h1=>h1.elim (out _ h.tabs.lt.2 hg2) (fun h2=>h.g2 (.inr h2))⟩,fun _=>Iff.rfl⟩,⟨ht.mono (fun b hb'=>(hF b).2 (.inl ((ho b).2 hb'))),fun b hb'=> ?_⟩⟩
 rcases hb' with h1| h1
 ·exact(ho1 b h1).imp (fun h2=>(hF b).2 (.inl ((ho b).2 h2))) id
 ·exact .inl ((hF b).2 (.inr h1))
theorem SysRepL.cut{m:SMode}{m':Mode}{mark:Nat→Nat}{P:(Nat→UInt64)→Prop}{tb hb n cT cH g:Nat}{own:Nat→Prop}{hb0:Nat→Option Nat}{ws':Nat→UInt64}(h:SysRepL m w d p L s tb hb n cT cH own)(hF:∀b,F b↔(own b∨b=p∨b=tb∨b=hb))(ho:∀b,own b↔devOwn d L g hb0 b)
 (hd:Dv w d L g hb0 ws' m' mark w')(hu:m'.lf=0)(hm:∀i,m' i≤1000000)(hc:∀i,∀c∈m'.chg i,∃t,t<8∧c.1=8*t)(hP:∀pick:Nat→Nat,(∀i,pick i≤m' i)→P (undoD m' pick ws'))(ws2:Nat→UInt64):∃F',SysL (.down P) w' d p L {s with ws:=ws2} F'∧Moved F F' w w':=by
 obtain⟨hb1,ho1,hr1,ht⟩:=hd;have out:∀b,b<w.heap.size→¬own b→¬devOwn d L g hb1 b:=fun b hlt hn h1=>(ho1 b h1).elim (fun h2=>hn ((ho b).2 h2)) (fun h2=>by omega)
 have keep:∀b,b<w.heap.size→¬own b→w'.heap[b]? =w.heap[b]? :=fun b hlt hn=>ht.block b hlt (fun h2=>hn ((ho b).2 h2))
 have hg1:¬own 0:=fun h1=>h.g1 (.inl h1)
 have hg2:¬own 1:=fun h1=>h.g2 (.inl h1)
 refine⟨fun b=>devOwn d L g hb1 b∨b=p∨b=tb∨b=hb,⟨tb,hb,n,cT,cH,devOwn d L g hb1,⟨⟨m',ws',mark,hu,⟨g,hb1,hr1,fun _=>Iff.rfl⟩,hm,hc,hP⟩,h.L0,h.L1,h.shape,(keep p h.box.lt h.dp).trans h.box,h.tk.keep (keep tb h.tk.lt h.dt),h.hd.keep (keep hb h.hd.lt h.dh),h.ntk,h.nhd,h.nsh,h.cT,h.cH,
  out p h.box.lt h.dp,out tb h.tk.lt h.dt,out hb h.hd.lt h.dh,h.pt,h.ph,h.th,h.tabs.keep (keep _ h.tabs.lt.1 hg1) (keep _ h.tabs.lt.2 hg2),
  fun h1=>h1.elim (out _ h.tabs.lt.1 hg1) (fun h2=>h.g1 (.inr h2)),fun h1=>h1.elim (out _ h.tabs.lt.2 hg2) (fun h2=>h.g2 (.inr h2))⟩,fun _=>Iff.rfl⟩,⟨ht.mono (fun b hb'=>(hF b).2 (.inl ((ho b).2 hb'))),fun b hb'=> ?_⟩⟩
 rcases hb' with h1| h1
 ·exact(ho1 b h1).imp (fun h2=>(hF b).2 (.inl ((ho b).2 h2))) id
 ·exact .inl ((hF b).2 (.inr h1))
theorem sys_get{len:Mode}(h:SysL len w d p L s F)(j n:Nat)(hj:j+n≤8*L):
 Calls Tryz.prog 59 #[.pointer (some ⟨d,0,none⟩),.int .i64 ((8*j:Nat):Int),.int .i64 (n:Int)] w fun e w'=>∃v,e= .returned (.tuple #[v,.int .i64 0])∧
  w'.ownsRow w.heap.size 23 1 v n ((wordsAt s.ws j n).map wv)∧Below w.heap.size w w':=by
 obtain⟨tb,hb,n',cT,cH,own,h,hF⟩:=h;obtain⟨⟨g,hb0,hr,ho⟩,hu⟩:=h.dev;exact get_dev d L s.ws _ _ g hb0 j n w h.L0 h.L1 hu hr hj
theorem undoW_in{ws0 ws:Nat→UInt64}{i:Nat}(q:Nat):∀{l:List (Nat×UInt64)},(∀c∈l,c.2=ws0 (8*i+c.1/8))→undoW i l ws q=ws q∨undoW i l ws q=ws0 q
 | [],_=> .inl rfl
 | c::l,h=>by
   unfold undoW;by_cases e:q=8*i+c.1/8
   ·right;rw [if_pos e,h c (List.mem_cons_self ..),←e]
   ·rw [if_neg e];exact undoW_in q (fun x hx=>h x (List.mem_cons_of_mem _ hx))
def Half(ws ws2 ws':Nat→UInt64):Prop:=∀q,ws' q=ws q∨ws' q=ws2 q
theorem chgIn_half{ws ws1 ws2:Nat→UInt64}{j n:Nat}{m:Mode}(h:chgIn ws j n m)(h1:∀q,ws1 q=ws q∨ws1 q=ws2 q)(pick:Nat→Nat):Half ws ws2 (undoD m pick ws1):=fun q=>by
 unfold undoD;rcases undoW_in (ws0:=ws) (ws:=ws1) (i:=q/8) q (l:=(m.chg (q/8)).drop (pick (q/8))) (fun c hc=>by
  obtain⟨t,t1,t2,t3,t4,t5⟩:=h (q/8) c (List.mem_of_mem_drop hc);rw [t5];congr 1;omega)with e| e
 ·rw [e];exact h1 q
 ·exact .inl e
def PutOut(lf:Int)(ws ws2:Nat→UInt64)(c:Int)(m':SMode):Prop:=
 (c=0∧∃lf':Int,m'= .up (MU lf')∧lf'≠0∧(lf<0→lf'=lf)∧(0<lf→0<lf'∧lf'<lf))∨(c=0∧0<lf∧m'= .down (fun ws'=>ws'=ws2))∨(c=12∧0<lf∧m'= .down (Half ws ws2))
theorem SysRepL.out{lf:Int}{N:Nat}{tb hb n cT cH g:Nat}{own:Nat→Prop}{hb0:Nat→Option Nat}{j:Nat}{xs:List UInt64}{c:Int}(h:SysRepL (.up (MU lf)) w d p L s tb hb n cT cH own)(hN:0<N)(hF:∀b,F b↔(own b∨b=p∨b=tb∨b=hb))(ho:∀b,own b↔devOwn d L g hb0 b)
 (hd:Wrote lf N w d L g hb0 s.ws j xs c w'):∃m' F',SysL m' w' d p L {s with ws:=putWs s.ws j xs} F'∧Moved F F' w w'∧PutOut lf s.ws (putWs s.ws j xs) c m':=by
 have hlf:=h.dev.2;change lf≠0 at hlf;rcases hd with⟨h1,h2,h3⟩| ⟨h1,h2,h3,len,ws1,mark,h4,h5,h6,h7,h8⟩
 ·by_cases hz:lfN lf N=0
  ·obtain⟨F',hs,hm⟩:=h.cut (P:=fun ws'=>ws'=putWs s.ws j xs) hF ho h3 hz (fun _=>Nat.zero_le _) (fun _ _ h=>nomatch h) (fun pick _=>by funext q;unfold undoD;rw [show((MU (lfN lf N)).chg (q/8))=[]from rfl,List.drop_nil];rfl) (putWs s.ws j xs);refine⟨_,F',hs,hm,.inr (.inl ⟨h1,?_,rfl⟩)⟩;unfold lfN at hz;split at hz<;>omega
  ·obtain⟨F',hs,hm⟩:=h.wrote hF ho h3 hz;refine⟨_,F',hs,hm,.inl ⟨h1,_,rfl,hz,fun hl=> ?_,fun hl=> ?_⟩⟩
   ·unfold lfN;rw [if_pos hl]
   ·unfold lfN at hz⊢;rw [if_neg (by omega)]at hz⊢;omega
 ·obtain⟨F',hs,hm⟩:=h.cut (P:=Half s.ws (putWs s.ws j xs)) hF ho h8 h4 h5 (fun i c hc=>by
  obtain⟨t,t1,t2,_⟩:=h6 i c hc;exact⟨t,t1,t2⟩) (fun pick _=>chgIn_half h6 h7 pick) (putWs s.ws j xs)
  exact⟨_,F',hs,hm,.inr (.inr ⟨h1,by omega,rfl⟩)⟩
end
theorem Dv.dev{w w':World}{d L g:Nat}{hb0:Nat→Option Nat}{own:Nat→Prop}{ws':Nat→UInt64}(ho:∀b,own b↔devOwn d L g hb0 b)(hd:Dv w d L g hb0 ws' M0 (fun _=>0) w'):
 ∃own',Dev w' d L ws' M0 (fun _=>0) own'∧Touch own w w'∧∀b,own' b→own b∨w.heap.size≤b:=by
 obtain⟨hb1,ho1,hr1,ht⟩:=hd;exact⟨devOwn d L g hb1,⟨g,hb1,hr1,fun _=>Iff.rfl⟩,ht.mono (fun b hb=>(ho b).2 hb),fun b hb=>(ho1 b hb).imp (ho b).2 id⟩
theorem dev_putAll{w:World}{d L:Nat}{ws:Nat→UInt64}{own:Nat→Prop}(hL0:0<L)(hL:L≤1024)(h:Dev w d L ws M0 (fun _=>0) own)(j n c:Nat)(A:Option Addr)(xs:List UInt64)(hj:j+n≤8*L)(hn0:0<n)(hx:Ws w A n xs):
 Calls Tryz.prog 71 #[.pointer (some ⟨d,0,none⟩),.int .i64 ((8*j:Nat):Int),.slice A n c] w fun e w'=>e= .returned (.int .i64 0)∧
  ∃own',Dev w' d L (putWs ws j xs) M0 (fun _=>0) own'∧Touch own w w'∧∀b,own' b→own b∨w.heap.size≤b:=by
 obtain⟨g,hb0,hr,ho⟩:=h;refine(putAll_dev d L g hb0 ws j n c A xs w hL0 hL hr hj hn0 hx).mono ?_;rintro e w'⟨rfl,hd⟩;exact⟨rfl,hd.dev ho⟩
set_option maxHeartbeats 1000000 in
theorem clear_dev{w:World}{d L:Nat}{ws:Nat→UInt64}{own:Nat→Prop}(hL0:0<L)(hL:L≤1024)(h:Dev w d L ws M0 (fun _=>0) own):
 Calls Tryz.prog 70 #[.pointer (some ⟨d,0,none⟩),.int .i64 0,.int .i64 (L:Int)] w fun e w'=>e= .returned (.int .i64 0)∧
  ∃own',Dev w' d L (putWs ws 0 (List.replicate (8*L) 0)) M0 (fun _=>0) own'∧Touch own w w'∧∀b,own' b→own b∨w.heap.size≤b:=by
 obtain⟨i0,hi,hz0,hz1,hz2⟩:=info_parts Tryz.wordsTy.hi;have t1:decide ((L:Int)<0)=false:=by simp
 have t2:decide ((1024:Int)<(L:Int))=false:=decide_eq_false (by omega);have H:=Lib.hid h;clear h;go_enter Tryz.func70,Tryz.ntmps70
 go_wp2_with(at_make;rw [show(L:Int)*8=((8*L:Nat):Int)by omega];refine wpList_make_full _ rfl _ _ 70 rfl w.heap.size 23 i0 (.int .u64 0) 1 Tryz.underlying70 hi hz0 hz1 .i64 .i64 _ _ (8*L) rfl rfl rfl rfl (by rw [hz2];omega) (by unfold maxLen;omega) (Nat.le_refl _) ?_;intro w0 hown0 hgrow0)
 have hb0:Below w.heap.size w w0:=(Below.refl _ _).grown hgrow0 (Nat.le_refl _) (by simp);obtain⟨g,hbb,hr,ho⟩:=H.out;have h0:Dev w0 d L ws M0 (fun _=>0) own:=⟨g,hbb,hr.below hb0,ho⟩;rw [made_words]at hown0;have HP:=dev_putAll hL0 hL h0 0 (8*L) (8*L) (some ⟨w.heap.size,0,none⟩) (List.replicate (8*L) 0) (by omega) (by omega) (rd_own hown0).2;rw [show((8*0:Nat):Int)=0 from rfl]at HP;refine HP.mono ?_;rintro e w'⟨rfl,own',hd,ht,ho'⟩
 go_wp2_with fail
 go_ret;refine⟨rfl,own',hd,(Touch.of_below hb0).trans ht (fun b hb=> .inl hb),fun b hb=>(ho' b hb).imp id (fun h=>Nat.le_trans hb0.size h)⟩
end Go.Proofs.YtdjfbnoolfpcnaaGreatDoor
