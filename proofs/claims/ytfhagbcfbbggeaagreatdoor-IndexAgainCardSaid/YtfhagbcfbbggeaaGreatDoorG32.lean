import Derived.RangeFuncNested
import Derived.RangeFuncBound
import Derived.RangeFuncCalls
import Derived.RangeFuncLeaves
import Derived.Shelf.Abstract
import Derived.Shelf.RegionOpen
import Derived.WalkKit
import Derived.OwnWalkIn
import Derived.TacticsInMore
import Derived.LoopNIn
import Derived.LoopIn
import Derived.Test.YtfhagbcfbbggeaaGreatDoorG05
namespace Go.Proofs.YtfhagbcfbbggeaaGreatDoor
open Go.RowKit Go.Shelf
attribute [local go_sem]Oper.semAt_some
theorem back_stops(F:Fence)(n:Nat)(hf:F.fn 116)(hro:F.round=none)(_:1≤n)(Bl Bc g o:Nat)(A:Option Addr)(c:Nat)(w:World)(hB:w.cell? ⟨Bl,0,none⟩=some (.pointer (some ⟨g,o,none⟩)))(hC:w.cell? ⟨Bc,0,none⟩=some (.int .i64 0))(hL:w.cell? ⟨g,o+64,none⟩=some (.slice A 0 c)):
 SeqStopsK F n Tryz.prog 116 #[.pointer (some ⟨Bl,0,none⟩),.pointer (some ⟨Bc,0,none⟩)] (fun x:Empty=>nomatch x) (Below w.heap.size) (fun _=>True) (fun _=>False) 0 w:=fun l J Jx W hW hJ hJx hY h0=>by
 have q1:=(hW.cell (p:=⟨Bl,0,none⟩) (World.block_lt_of_cell? w _ hB)).trans hB
 have q2:=(hW.cell (p:=⟨Bc,0,none⟩) (World.block_lt_of_cell? w _ hC)).trans hC
 have q3:=(hW.cell (p:=⟨g,o+64,none⟩) (World.block_lt_of_cell? w _ hL)).trans hL
 clear hB hC hL hY
 refine callsIn_of_wp Tryz.func116 rfl hf ?_ hro
 simp only [Tryz.ntmps116,List.size_toArray,List.length_cons,List.length_nil,Nat.reduceAdd,Nat.reduceSub,Array.replicate_succ,Array.replicate_zero,List.push_toArray,List.append_toArray,List.nil_append,List.cons_append]
 gi_wp2
 gi_loopw [4](fun p wr=>p= .int .i64 (-1)∧wr=W)(fun _ _=>0)
 case atStart=>exact⟨rfl,rfl⟩
 case round=>
  obtain⟨rfl,rfl⟩:=hrel
  gi_wp2
  go_end0
  exact⟨⟨_,rfl⟩,.inl ⟨[],trivial,h0⟩⟩
theorem back_any(P:Option Addr)(w:World):Calls Tryz.prog 80 #[.pointer P,.int .i64 0] w fun e w'=>e= .returned (.func (.func 116) #[] #[.pointer (some ⟨w.heap.size,0,none⟩),.pointer (some ⟨w.heap.size+1,0,none⟩)])∧w'=(w.alloc (.cells #[.pointer P] 104)).alloc (.cells #[.int .i64 0] 3):=by
 go_enter Tryz.func80,Tryz.ntmps80
 go_wp2_with fail
 refine bodyPost_ret (v:= .func (.func 116) #[] #[.pointer (some ⟨w.heap.size,0,none⟩),.pointer (some ⟨w.heap.size+1,0,none⟩)]) (by simp [results,Tryz.results80,go_sem]) rfl ?_
 exact⟨rfl,rfl⟩
theorem line_crash(g o:Nat)(A:Option Addr)(c:Nat)(m:Value)(w:World)(hL:w.cell? ⟨g,o+64,none⟩=some (.slice A 0 c))(hM:w.cell? ⟨g,o+65,none⟩=some m)(f1:w.frozen? ⟨g,o+64,none⟩=false)(f2:w.frozen? ⟨g,o+65,none⟩=false):
 Calls Tryz.prog 51 #[.pointer (some ⟨g,o,none⟩),.int .i64 0] w fun e w'=>(∃v,e= .returned v)∧∃W1,Below w.heap.size w W1∧Below w.heap.size ((W1.setCell ⟨g,o+64,none⟩ (.slice none 0 0)).setCell ⟨g,o+65,none⟩ (.int .i64 0)) w':=by
 refine(callsIn_wide (n:=3)).1 ?_
 refine callsIn_of_wp_marks Tryz.func51 rfl trivial ?_ rfl
 simp only [Tryz.ntmps51,List.size_toArray,List.length_cons,List.length_nil,Nat.reduceAdd,Nat.reduceSub,Array.replicate_succ,Array.replicate_zero,List.push_toArray,List.append_toArray,List.nil_append,List.cons_append]
 gi_wp2_with(refine⟨trivial,?_⟩;gi_at_call 80;refine(callsIn_wide.2 (back_any _ _)).mono ?_;rintro e w'⟨rfl,rfl⟩)
 obtain⟨W3,hW3⟩:∃W3,W3=((w.alloc (.cells #[.pointer (some ⟨g,o,none⟩)] 104)).alloc (.cells #[.pointer (some ⟨g,o,none⟩)] 104)).alloc (.cells #[.int .i64 0] 3):=⟨_,rfl⟩
 rw [←hW3]
 have hb3:Below w.heap.size w W3:=hW3▸(((Below.refl _ w).alloc (Nat.le_refl _) _).alloc (by simp) _).alloc (by simp;omega) _
 have p0:W3.cell? ⟨w.heap.size,0,none⟩=some (.pointer (some ⟨g,o,none⟩)):=by rw [hW3];go_simp
 have p1:W3.cell? ⟨w.heap.size+1,0,none⟩=some (.pointer (some ⟨g,o,none⟩)):=by rw [hW3];go_simp
 have p2:W3.cell? ⟨w.heap.size+1+1,0,none⟩=some (.int .i64 0):=by rw [hW3];go_simp
 have hgl:=World.block_lt_of_cell? w _ hL
 have p3:=(hb3.cell (p:=⟨g,o+64,none⟩) hgl).trans hL
 have hs3:W3.heap.size=w.heap.size+3:=by rw [hW3];simp
 refine wpIn_rangeFunc_ownF (α:=Empty) rfl (by decide) (gf:=116) (lb:= #[.pointer (some ⟨w.heap.size+1,0,none⟩),.pointer (some ⟨w.heap.size+1+1,0,none⟩)]) rfl trivial (enters_of Tryz.func116 (by kernel_rfl) rfl)
  (encs:=fun x:Empty=>nomatch x) (Kp:=Below W3.heap.size) (S:=fun _=>True) (Sp:=fun _=>False) (N:=0) (w0:=W3) (back_stops Fence.wide 2 trivial rfl (by decide) _ _ g o A c W3 p1 p2 p3) belowK_t (belowK_b (Nat.le_refl _)) (Below.refl _ _) (fun x=>nomatch x)
  (fun _ W=>Below W3.heap.size W3 W) (fun _ _ _=>False) (ownFrom_below (Nat.le_refl _) (Nat.le_refl _)) (fun _ _ _ _ _ h _ _=>h) (Below.refl _ _) (fun x=>nomatch x) ?assign ?body ?done ?stop
 case assign=>intro l x;exact nomatch x
 case body=>intro l pre x;exact nomatch x
 case stop=>
  rintro D c pre W _ h
  exact h.elim
 case done=>
  rintro D xs W hD _ hbW hK
  have hbw:=hb3.trans (hbW.mono (by omega))
  have z0:=(hbW.cell (p:=⟨w.heap.size,0,none⟩) (by simp;omega)).trans p0
  have z1:=(hbw.cell (p:=⟨g,o+64,none⟩) hgl).trans hL
  have z2:=(hbw.cell (p:=⟨g,o+65,none⟩) hgl).trans hM
  have f1':=(hbw.frozen (p:=⟨g,o+64,none⟩) hgl).trans f1
  have f2':=(hbw.frozen (p:=⟨g,o+65,none⟩) hgl).trans f2
  clear hW3 p0 p1 p2 p3 hL hM f1 f2
  gi_wp2
  refine wpIn_wide.2 ?_
  go_region
  have hK2:=(KeepsOthers.setCell (W.setCell ⟨g,o+64,none⟩ (.slice none 0 0)) ⟨g,o+65,none⟩ (.int .i64 0)).same D _ ((KeepsOthers.setCell W ⟨g,o+64,none⟩ (.slice none 0 0)).same D _ hK rfl) rfl
  refine⟨by simp,.inl ⟨_,_,rfl,run_takeDeferred hK2,?_⟩⟩
  refine⟨_,results_none rfl _ _ _,⟨_,rfl⟩,W,hbw,?_⟩
  refine((Below.refl _ _).drew).grown (grownBy_putObj' _ D _) (by simp;have:=hbw.size;omega) (fun k e=>by cases e;omega)
theorem crash_dev(d L:Nat)(ws:Nat→UInt64)(g:Nat)(hb:Nat→Option Nat)(w:World)(hL:L≤1024)(hL0:0<L)(h:DevRep w d L ws (fun _=>0) (fun _=>0) g hb)(A:Option Addr)(n c:Nat):
 Calls Tryz.prog 25 #[.pointer (some ⟨d,0,none⟩),.slice A n c] w fun e w'=>(∃v,e= .returned v)∧
  ∃hb',DevRep w' d L ws (fun _=>0) (fun _=>0) g hb'∧(∀i h,hb' i=some h→hb i=some h)∧Touch (devOwn d L g hb) w w':=by
 obtain⟨st,hbx⟩:=h.box
 obtain⟨y0,y1,y2,y3,f0,f1,f2,f3⟩:=blk4' hbx
 have HS:=Lib.hid (size_dev d L g (.bool false) (.int .i64 (-1)) (.int .i64 st) w hL hbx)
 have H:=Lib.hid h
 have HBx:=Lib.hid hbx
 clear h hbx
 go_enter Tryz.func25,Tryz.ntmps25
 go_wp2_with fail
 refine HS.out.mono ?_
 rintro e w'⟨rfl,rfl⟩
 have hz:((L:Int)*64==0)=false:=by rw [beq_eq_false_iff_ne];omega
 obtain⟨W2,hW2⟩:∃W2,W2=(w.setCell ⟨d,1,none⟩ (.bool false)).setCell ⟨d,2,none⟩ (.int .i64 (-1)):=⟨_,rfl⟩
 have hbx2:Blk W2 d 103 [.slice (some ⟨g,0,none⟩) L L,.bool false,.int .i64 (-1),.int .i64 st]:=hW2▸(HBx.out.set_ 1 (.bool false)).set_ 2 (.int .i64 (-1))
 have hsame:∀b,W2.heap[b]? =w.heap[b]? :=fun b=>by
  by_cases e:b=d
  ·subst e;exact hbx2.trans HBx.out.symm
  ·rw [hW2];exact(Below.heap_setCell _ ⟨d,2,none⟩ _ b e).trans (Below.heap_setCell w ⟨d,1,none⟩ _ b e)
 have h2:=H.out.keep (w':=W2) (fun b _ _=>hsame b)
 have ht2:Touch (fun b=>b=d) w W2:=hW2▸((Touch.refl (fun b=>b=d) w).setCell (p:=⟨d,1,none⟩) (.inl rfl) _).setCell (p:=⟨d,2,none⟩) (.inl rfl) _
 have H2:=Lib.hid h2
 have HT2:=Lib.hid ht2
 have HW2:=Lib.hid hW2
 clear HS hbx2 hsame h2 ht2 hW2
 go_wp2_with fail
 rw [←HW2.out]
 clear y0 y1 y2 y3 f0 f1 f2 f3
 go_loopw [1,22](fun q i wr=>∃(k:Nat)(hb':Nat→Option Nat),k≤L∧q= .slice A n c∧i= .int .i64 k∧DevRep wr d L ws (fun _=>0) (fun _=>0) g hb'∧(∀i h,hb' i=some h→hb i=some h)∧Touch (devOwn d L g hb) w wr)(fun _ i _=>L- (intOf i).toNat)
 case atStart=>exact⟨0,hb,Nat.zero_le _,rfl,rfl,H2.out,fun _ _ h=>h,HT2.out.mono (fun b e=> .inl e)⟩
 case round=>
  obtain⟨k,hb',hk,rfl,rfl,hr,hsub,ht⟩:=hrel
  obtain⟨st2,hbx2⟩:=hr.box
  obtain⟨y0,y1,y2,y3,f0,f1,f2,f3⟩:=blk4' hbx2
  have HT:=Lib.hid ht
  have HR:=Lib.hid hr
  have HSb:=Lib.hid hsub
  by_cases hlt:k<L
  ·obtain⟨cur,hg,hs,h1,h2⟩:=hr.blk
   obtain⟨Ak,ck,e1,e2,hc⟩:=h2 k hlt
   have z1:wr.cell? ⟨g,66*k+64,none⟩=some (.slice Ak 0 ck):=by rw [cell_of_row wr g _ cur _ (0,0) hg];exact e1
   have z2:wr.cell? ⟨g,66*k+65,none⟩=some (.int .i64 ((0:Nat):Int)):=by rw [cell_of_row wr g _ cur _ (0,0) hg];exact e2
   have g1:wr.frozen? ⟨g,66*k+64,none⟩=false:=by simp [World.frozen?,hg]
   have g2:wr.frozen? ⟨g,66*k+65,none⟩=false:=by simp [World.frozen?,hg]
   have HC:=Lib.hid (line_crash g (66*k) Ak ck _ wr z1 z2 g1 g2)
   have z1':wr.cell? ⟨g,k*66+64,none⟩=some (.slice Ak 0 ck):=by rw [show k*66=66*k by omega];exact z1
   have hx1:(k:Int)<(L:Int):=by omega
   have hx2:decide ((k:Int)<(L:Int))=true:=decide_eq_true hx1
   have hx5:decide (k<L)=true:=decide_eq_true hlt
   have hwk:IntKind.i64.wrap ((k:Int)+1)=(k:Int)+1:=IntWalk.i64_in _ (by omega)
   clear hr hsub ht hbx2 hg hs h1 h2 e1 e2 hc z1 z2 g1 g2
   go_wp2_with fail
   rw [show k*66=66*k by omega]
   refine HC.out.mono ?_
   rintro e w4⟨⟨v,rfl⟩,W1,hb1,hb4⟩
   have hr4:=(HR.out.clear hlt hb1 none)
   rw [show(fun j:Nat=>if j=k then 0 else(0:Nat))=fun _=>0 by funext j;split<;>rfl]at hr4
   have hsub4:∀b,devOwn d L g (fun j=>if j=k then none else hb' j) b→devOwn d L g hb' b:=fun b hb=>by
    rcases hb with h| h| ⟨i,hi,h⟩
    ·exact .inl h
    ·exact .inr (.inl h)
    ·refine .inr (.inr ⟨i,hi,?_⟩)
     by_cases e:i=k
     ·simp only [e,if_pos]at h;cases h
     ·simpa only [if_neg e]using h
   have hs4:=hr4.keep (w':=w4) (fun b hb _=>hb4.block b (HR.out.lt b (hsub4 b hb)))
   have tX:Touch (fun b=>b=g) wr ((W1.setCell ⟨g,66*k+64,none⟩ (.slice none 0 0)).setCell ⟨g,66*k+65,none⟩ (.int .i64 0)):=Touch.setCell (F:=fun b=>b=g) (Touch.setCell (F:=fun b=>b=g) (Touch.of_below hb1) (p:=⟨g,66*k+64,none⟩) (.inl rfl) _) (p:=⟨g,66*k+65,none⟩) (.inl rfl) _
   have t4:Touch (fun b=>b=g) wr w4:=⟨hb4.os.trans tX.os,hb4.tape.trans tX.tape,hb4.output.trans tX.output,Nat.le_trans tX.size hb4.size,fun b hb hn=>(hb4.block b hb).trans (tX.block b hb hn)⟩
   have HR4:=Lib.hid hs4
   have HT4:=Lib.hid (HT.out.trans t4 (fun b e=> .inl (.inr (.inl e))))
   have HS4:Hid (∀i h,(fun j=>if j=k then none else hb' j) i=some h→hb i=some h):=Lib.hid (fun i h hi=>by
    by_cases e:i=k
    ·simp only [e,if_pos]at hi;cases hi
    ·simp only [if_neg e]at hi
     exact HSb.out i h hi)
   clear HC z1' y0 y1 y2 y3 f0 f1 f2 f3 hs4 tX t4 hsub4 hr4 hb1 hb4
   go_wp2_with fail
   go_roundw
   case rel=>exact⟨k+1,_,by omega,rfl,by go_num,HR4.out,HS4.out,HT4.out⟩
   case measure=>simp [intOf];omega
  ·have hkn:k=L:=by omega
   subst hkn
   clear hr hsub ht hbx2
   go_wp2_with fail
   go_end0
   exact⟨⟨_,rfl⟩,hb',HR.out,HSb.out,HT.out⟩
end Go.Proofs.YtfhagbcfbbggeaaGreatDoor
