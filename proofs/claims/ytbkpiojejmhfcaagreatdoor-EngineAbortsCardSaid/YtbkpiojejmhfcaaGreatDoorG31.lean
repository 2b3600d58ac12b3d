import Derived.Deep.RegionHeldLaw
import Derived.Test.YtbkpiojejmhfcaaGreatDoorG04
import Derived.Test.YtbkpiojejmhfcaaGreatDoorG17
import Derived.Test.YtbkpiojejmhfcaaGreatDoorG30
namespace Go.Proofs.YtbkpiojejmhfcaaGreatDoor
open Go.RowKit
def spC(x:Sp):List Value:=[.int .i64 (x.what:Int),.int .i64 (x.id:Int),.string x.key,.string x.text]
def spCs(l:List Sp):List Value:=(l.map spC).flatten
theorem spCs_app(l:List Sp)(a:Sp):spCs (l++[a])=spCs l++spC a:=by simp [spCs]
theorem Tryz.stepTyK:RowTyK Tryz.prog 165 170 (.agg #[.int .i64 0,.int .i64 0,.string ⟨#[]⟩,.string ⟨#[]⟩]) 4 48:=⟨Tryz.underlying165,by kernel_rfl,rfl⟩
theorem rd_new(w:World)(e:TypeId)(xs:List Value)(k:Nat)(hk:xs.length=k):Rd (w.alloc (.cells xs.toArray e)) (some ⟨w.heap.size,0,none⟩) (1*k) xs:=
 ⟨by rw [Nat.one_mul];exact hk,fun _=>⟨w.heap.size,0,rfl,by simp,fun j _=>by rw [Nat.zero_add];exact(show Blk (w.alloc (.cells xs.toArray e)) w.heap.size e xs from heap_alloc_new _ _).cell j⟩⟩
set_option maxHeartbeats 4000000 in
set_option maxRecDepth 100000 in
theorem scrDecode(l:List UInt8)(A:Option Addr)(c:Nat)(w:World)(hn:l.length≤maxLen)(hc:l.length≤c)(h:Bs w A l.length l):
 Calls Tryz.prog 79 #[.slice A l.length c] w fun e w'=>∃v,e= .returned v∧w'.ownsRow w.heap.size 170 4 v (decP l).length (spCs (decP l))∧Below w.heap.size w w':=by
 unfold maxLen at hn
 have HH:=Lib.hid h
 by_cases h3:l.length<3
 ·have t1:decide ((3:Int)≤(l.length:Int))=false:=decide_eq_false (by omega)
  have HE:Hid (decP l=[]):=Lib.hid (by unfold decP;rw [show l.length/3=0 by omega];rfl)
  generalize l.length=n at*
  clear h h3
  go_enter Tryz.func79,Tryz.ntmps79
  go_wp2_with fail
  go_loopw [0,3](fun u v wr=>u= .slice A n c∧v= .slice none 0 0∧wr=w)(fun _ _ _=>0)
  case atStart=>exact⟨rfl,rfl,rfl⟩
  case round=>
   obtain⟨rfl,rfl,rfl⟩:=hrel
   go_wp2_with fail
   go_ret
   exact⟨_,rfl,by rw [HE.out];exact World.ownsRow_nil _ _ _ _,Below.refl _ _⟩
 ·obtain⟨_,b,off,rfl,hb,_⟩:=h.at (k:=0) (by omega)
  obtain⟨n,hln⟩:∃n,n=l.length:=⟨_,rfl⟩
  rw [←hln]at hn hc h3⊢
  have HLn:=Lib.hid hln
  clear h hln hb
  go_enter Tryz.func79,Tryz.ntmps79
  go_wp2_with fail
  go_loopw [0,3](fun u v wr=>∃k m cm o:Nat,n=3*k+m∧c=3*k+cm∧k≤400∧u= .slice (some ⟨b,o,none⟩) m cm∧(0<cm→o=off+3*k)∧wr.ownsRow w.heap.size 170 4 v k (spCs (decTo l k))∧Below w.heap.size w wr)(fun u _ _=>match u with| .slice _ m _=>m| _=>0)
  case atStart=>exact⟨0,n,c,off,by omega,by omega,by omega,rfl,fun _=>by omega,World.ownsRow_nil _ _ _ _,Below.refl _ _⟩
  case round=>
   obtain⟨k,m,cm,o,hkm,hkc,hk4,rfl,hoo,hown,hb⟩:=hrel
   obtain⟨A8,c8,rfl,hc8,_⟩:=own_rowk hown
   have HO:=Lib.hid hown
   have HB:=Lib.hid hb
   clear hown hb
   have hmc:m≤cm:=by omega
   by_cases hgo:3≤m∧k<400
   ·obtain⟨m3,hk400⟩:=hgo
    obtain rfl:=hoo (by omega)
    clear hoo
    have t1:decide ((3:Int)≤(m:Int))=true:=decide_eq_true (by omega)
    have t2:decide ((k:Int)<400)=true:=decide_eq_true (by omega)
    have t3:decide (k<400)=true:=decide_eq_true hk400
    have t4:decide (3≤m)=true:=decide_eq_true m3
    have cell:∀i,i<3→∀W,Below w.heap.size w W→W.cell? ⟨b,off+3*k+i,none⟩=some (.int .u8 ((l.getD (3*k+i) 0).toNat:Int)):=fun i hi W hW=>by
     obtain⟨hl,b',off',e,_,hcc⟩:=(HH.out.below hW).at (k:=3*k+i) (by have:=HLn.out;omega)
     injection e with e
     injection e with e1 e2
     subst e1 e2
     rw [Nat.add_assoc,hcc,List.getD_eq_getElem?_getD,List.getElem?_eq_getElem hl]
     rfl
    have HC:=Lib.hid cell
    have z0:=cell 0 (by decide) wr HB.out
    have z1:=cell 1 (by decide) wr HB.out
    have z2:=cell 2 (by decide) wr HB.out
    have HT:Hid (spCs (decTo l (k+1))=spCs (decTo l k)++spC (stepS (l.getD (3*k) 0) (l.getD (3*k+1) 0) (l.getD (3*k+2) 0))):=Lib.hid (by rw [decTo_succ,spCs_app];rfl)
    rw [Nat.add_zero]at z0
    have HC1:=Lib.hid (cell 1 (by decide))
    have HC2:=Lib.hid (cell 2 (by decide))
    generalize l.getD (3*k) 0=x at*
    generalize l.getD (3*k+1) 0=y at*
    generalize l.getD (3*k+2) 0=z at*
    have hx:=x.toNat_lt
    have e1:IntKind.i64.wrap (x.toNat:Int)=(x.toNat:Int):=IntWalk.i64_in _ (by omega)
    have e2:(x.toNat:Int).tmod 9=((x.toNat%9:Nat):Int):=by rw [Int.tmod_eq_emod_of_nonneg (by omega)];omega
    have e3:(x.toNat:Int).tdiv 9=((x.toNat/9:Nat):Int):=by rw [Int.tdiv_eq_ediv_of_nonneg (by omega)];omega
    have e4:((x.toNat/9:Nat):Int).tmod 8=((x.toNat/9%8:Nat):Int):=by rw [Int.tmod_eq_emod_of_nonneg (by omega)];omega
    have e5:IntKind.i64.wrap ((x.toNat%9:Nat):Int)=((x.toNat%9:Nat):Int):=IntWalk.i64_in _ (by omega)
    have e6:IntKind.i64.wrap ((x.toNat/9:Nat):Int)=((x.toNat/9:Nat):Int):=IntWalk.i64_in _ (by omega)
    have e7:IntKind.i64.wrap ((x.toNat/9%8:Nat):Int)=((x.toNat/9%8:Nat):Int):=IntWalk.i64_in _ (by omega)
    have HRow:Hid (∀W,Below wr.heap.size wr W→W.ownsRow w.heap.size 170 4 (.slice A8 k c8) k (spCs (decTo l k))):=Lib.hid (fun W hW=>own_below5 HO.out hW)
    clear cell HC
    go_wp2_with fail
    go_region_held_law(fun w'=>w'.cell? ⟨b,off+3*k+1,none⟩=some (.int .u8 (y.toNat:Int))∧w'.cell? ⟨b,off+3*k+2,none⟩=some (.int .u8 (z.toNat:Int)))
     (first| exact⟨z1,z2⟩| exact⟨HC1.out _ (HB.out.trans (hk0.mono HB.out.size)),HC2.out _ (HB.out.trans (hk0.mono HB.out.size))⟩| exact⟨HC1.out _ (HB.out.trans (ht0.mono HB.out.size)),HC2.out _ (HB.out.trans (ht0.mono HB.out.size))⟩| exact⟨HC1.out _ (HB.out.trans (hz.mono HB.out.size)),HC2.out _ (HB.out.trans (hz.mono HB.out.size))⟩| exact⟨HC1.out _ (HB.out.trans ((hz.alloc hz.size _).mono HB.out.size)),HC2.out _ (HB.out.trans ((hz.alloc hz.size _).mono HB.out.size))⟩| exact⟨HC1.out _ h9,HC2.out _ h9⟩)
     (first
     | (go_at_call 127;refine(scrKey y _).mono ?_;first| (have hq:=ht0;rintro e wz⟨rfl,hbk⟩;have hz:Below wr.heap.size wr wz:=hq.trans (hbk.mono hq.size))| (rintro e wk⟨rfl,hbk⟩;have hk0:Below wr.heap.size wr wk:=((Dr.drew wr).below _).trans hbk))
     | (go_at_call 128;refine(scrText z _).mono ?_;first| (have hq:=hk0;rintro e wz⟨rfl,hbt⟩;have hz:Below wr.heap.size wr wz:=hq.trans (hbt.mono hq.size))| (rintro e wt⟨rfl,hbt⟩;have ht0:Below wr.heap.size wr wt:=((Dr.drew wr).below _).trans hbt))
     | (rw [if_pos (by rfl)];refine wp_app_rows (.tmp 17) (.tmp 32) 165 rfl Tryz.stepTyK (by decide) w.heap.size (.slice A8 k c8) k (spCs (decTo l k)) rfl (HRow.out _ (hz.alloc hz.size _)) (some ⟨wz.heap.size,0,none⟩) 1 1 (spC (stepS x y z)) rfl (rd_new wz 170 (spC (stepS x y z)) 4 rfl) (by intro u hu;simp [spC]at hu;rcases hu with rfl| rfl| rfl| rfl<;>rfl) (by omega) (by decide) (Nat.le_trans HB.out.size (hz.alloc hz.size _).size) ?_;intro v9 w9 hO9 hB9 hK9;have h9:Below w.heap.size w w9:=(HB.out.trans ((hz.alloc hz.size _).mono HB.out.size)).trans hB9))
    all_goals(
     have HO9:=Lib.hid hO9
     have HB9:=Lib.hid h9
     clear hO9 hB9 hK9 h9)
    all_goals(go_wp2_with fail)
    all_goals(go_roundw)
    all_goals first
     | (case measure=>simp;omega)
     | (case rel=>exact⟨k+1,m-3,cm-3,if cm=3 then off+3*k else off+3*k+3,by omega,by omega,by omega,by split<;>rfl,fun h=>by rw [if_neg (by omega)];omega,by rw [HT.out];exact HO9.out,HB9.out⟩)
   ·have HE:Hid (decP l=decTo l k):=Lib.hid (by unfold decP;rw [←HLn.out,show min (n/3) 400=k by omega])
    have HD:Hid (wr.ownsRow w.heap.size 170 4 (.slice A8 k c8) (decTo l k).length (spCs (decTo l k))):=Lib.hid (by rw [decTo_len];exact HO.out)
    by_cases m3:3≤m
    ·have t1:decide ((3:Int)≤(m:Int))=true:=decide_eq_true (by omega)
     have t2:decide ((k:Int)<400)=false:=decide_eq_false (by omega)
     have t3:decide (k<400)=false:=decide_eq_false (by omega)
     have t4:decide (3≤m)=true:=decide_eq_true m3
     clear hgo
     go_wp2_with fail
     go_ret
     exact⟨_,rfl,by rw [HE.out];exact HD.out,HB.out⟩
    ·have t1:decide ((3:Int)≤(m:Int))=false:=decide_eq_false (by omega)
     have t4:decide (3≤m)=false:=decide_eq_false m3
     clear hgo
     go_wp2_with fail
     go_ret
     exact⟨_,rfl,by rw [HE.out];exact HD.out,HB.out⟩
def spV(x:Sp):Value:= .agg #[.int .i64 (x.what:Int),.int .i64 (x.id:Int),.string x.key,.string x.text]
def anV(t:ByteArray)(ps:Value)(n:Int)(d:Bool)(e:Int):Value:= .agg #[.string t,ps,.int .i64 n,.bool d,.int .i64 e]
def DoN(B k:Nat):Prop:=B≤k∧k<B+3
def DoPost(w:World)(R:World→World→Prop)(w':World):Prop:=∃W w1,Below w.heap.size w W∧W.heap.size=w.heap.size+3∧R W w1∧Touch (DoN w.heap.size) w1 w'
theorem do_blocks(w:World)(what:Int)(id:Nat)(key text:ByteArray)(W:World)(hW:W=((w.alloc (.cells #[.int .i64 what,.int .i64 (id:Int),.string key,.string text] 170)).alloc (.cells #[.string ⟨#[]⟩,.slice none 0 0,.int .i64 0,.bool false,.int .i64 0] 91)).alloc (.cells #[.string ⟨#[]⟩,.slice none 0 0,.int .i64 0,.bool false,.int .i64 0] 91)):
 Blk W w.heap.size 170 [.int .i64 what,.int .i64 (id:Int),.string key,.string text]∧Blk W (w.heap.size+1) 91 [.string ⟨#[]⟩,.slice none 0 0,.int .i64 0,.bool false,.int .i64 0]∧
  Blk W (w.heap.size+2) 91 [.string ⟨#[]⟩,.slice none 0 0,.int .i64 0,.bool false,.int .i64 0]∧Below w.heap.size w W∧W.heap.size=w.heap.size+3:=by
 obtain⟨W1,h1⟩:∃W1,W1=w.alloc (.cells #[.int .i64 what,.int .i64 (id:Int),.string key,.string text] 170):=⟨_,rfl⟩
 obtain⟨W2,h2⟩:∃W2,W2=W1.alloc (.cells #[.string ⟨#[]⟩,.slice none 0 0,.int .i64 0,.bool false,.int .i64 0] 91):=⟨_,rfl⟩
 have s1:W1.heap.size=w.heap.size+1:=by rw [h1];simp
 have s2:W2.heap.size=w.heap.size+2:=by rw [h2];simp [s1]
 have b0:Blk W1 w.heap.size 170 [.int .i64 what,.int .i64 (id:Int),.string key,.string text]:=h1▸heap_alloc_new _ _
 have b1:Blk W2 W1.heap.size 91 [.string ⟨#[]⟩,.slice none 0 0,.int .i64 0,.bool false,.int .i64 0]:=h2▸heap_alloc_new _ _
 have k1:Below W1.heap.size W1 W2:=h2▸(Below.refl _ _).alloc (Nat.le_refl _) _
 rw [←h1,←h2]at hW
 have b2:Blk W W2.heap.size 91 [.string ⟨#[]⟩,.slice none 0 0,.int .i64 0,.bool false,.int .i64 0]:=hW▸heap_alloc_new _ _
 have k2:Below W2.heap.size W2 W:=hW▸(Below.refl _ _).alloc (Nat.le_refl _) _
 have k0:Below w.heap.size w W1:=h1▸(Below.refl _ _).alloc (Nat.le_refl _) _
 rw [s1]at b1
 rw [s2]at b2
 refine⟨(b0.below k1 b0.lt).below k2 (by rw [s2];omega),b1.below k2 (by rw [s2];omega),b2,k0.trans ((k1.trans (k2.mono k1.size)).mono k0.size),?_⟩
 rw [hW];simp [s2]
set_option maxHeartbeats 4000000 in
set_option maxRecDepth 100000 in
theorem doBegin(g:Nat)(id:Nat)(key text:ByteArray)(n:Int)(er:Int)(w:World){R:World→World→Prop}{G:Nat→Prop}(hG:∀i,i<3→¬G (w.heap.size+i))
 (hc:∀W,Below w.heap.size w W→w.heap.size+3=W.heap.size→Calls Tryz.prog 19 #[.pointer (some ⟨g,0,none⟩)] W fun e w'=>e= .returned (.tuple #[.int .i64 n,.int .i64 er])∧R W w'∧Touch G W w'):
 Calls Tryz.prog 81 #[.pointer (some ⟨g,0,none⟩),.agg #[.int .i64 0,.int .i64 (id:Int),.string key,.string text]] w fun e w'=>e= .returned (anV ⟨#[]⟩ (.slice none 0 0) n false er)∧DoPost w R w':=by
 obtain⟨W,hW⟩:∃W,W=((w.alloc (.cells #[.int .i64 0,.int .i64 (id:Int),.string key,.string text] 170)).alloc (.cells #[.string ⟨#[]⟩,.slice none 0 0,.int .i64 0,.bool false,.int .i64 0] 91)).alloc (.cells #[.string ⟨#[]⟩,.slice none 0 0,.int .i64 0,.bool false,.int .i64 0] 91):=⟨_,rfl⟩
 obtain⟨B0,B1,B2,hbW,hsW⟩:=do_blocks w 0 id key text W hW
 have HW:=Lib.hid hW
 have HC:=Lib.hid (hc W hbW hsW.symm)
 have y0:=B0.cell 0
 have y1:=B0.cell 1
 have y2:=B0.cell 2
 have y3:=B0.cell 3
 simp only [List.getElem?_cons_zero,List.getElem?_cons_succ]at y0 y1 y2 y3
 have n0:¬G w.heap.size:=hG 0 (by decide)
 have n1:¬G (w.heap.size+1):=hG 1 (by decide)
 have n2:¬G (w.heap.size+2):=hG 2 (by decide)
 have HB1:=Lib.hid B1
 have HB2:=Lib.hid B2
 have HbW:=Lib.hid hbW
 have HsW:=Lib.hid hsW
 have N1:=Lib.hid n1
 have N2:=Lib.hid n2
 clear hW hc hbW B0 B1 B2 hG n0 n1 n2 hsW
 go_enter Tryz.func81,Tryz.ntmps81
 go_wp2_with(rw [←HW.out])
 go_wp2_with fail
 refine HC.out.mono ?_
 rintro e w1⟨rfl,hR,ht⟩
 have b1:=HB1.out.touch ht N1.out
 have b2:=HB2.out.touch ht N2.out
 have x0:=b2.cell 0
 have x1:=b2.cell 1
 have x2:=b2.cell 2
 have x3:=b2.cell 3
 have x4:=b2.cell 4
 have v0:=b1.cell 0
 have v1:=b1.cell 1
 have v2:=b1.cell 2
 have v3:=b1.cell 3
 have v4:=b1.cell 4
 simp only [List.getElem?_cons_zero,List.getElem?_cons_succ]at x0 x1 x2 x3 x4 v0 v1 v2 v3 v4
 have q0:=b2.frozen 0
 have q1:=b2.frozen 1
 have q2:=b2.frozen 2
 have q3:=b2.frozen 3
 have q4:=b2.frozen 4
 have r0:=b1.frozen 0
 have r1:=b1.frozen 1
 have r2:=b1.frozen 2
 have r3:=b1.frozen 3
 have r4:=b1.frozen 4
 have HR:=Lib.hid hR
 have Hb1:=Lib.hid b1
 clear hR ht b1 b2 y0 y1 y2 y3
 go_wp2_with fail
 obtain⟨X,hX⟩:∃X,X=((w1.setCell ⟨w.heap.size+1+1,2,none⟩ (.int .i64 n)).setCell ⟨w.heap.size+1+1,4,none⟩ (.int .i64 er)):=⟨_,rfl⟩
 have tX:Touch (fun k=>k=w.heap.size+1+1) w1 X:=by rw [hX];exact(((Touch.refl (fun k=>k=w.heap.size+1+1) w1).setCell (p:=⟨w.heap.size+1+1,2,none⟩) (.inl rfl) _).setCell (p:=⟨w.heap.size+1+1,4,none⟩) (.inl rfl) _)
 have bX:=Hb1.out.touch tX (by omega)
 have hX':=hX
 obtain⟨Y,hY⟩:∃Y,Y=((((X.setCell ⟨w.heap.size+1,0,none⟩ (.string ⟨#[]⟩)).setCell ⟨w.heap.size+1,1,none⟩ (.slice none 0 0)).setCell ⟨w.heap.size+1,2,none⟩ (.int .i64 n)).setCell ⟨w.heap.size+1,3,none⟩ (.bool false)).setCell ⟨w.heap.size+1,4,none⟩ (.int .i64 er):=⟨_,rfl⟩
 have bY:Blk Y (w.heap.size+1) 91 [.string ⟨#[]⟩,.slice none 0 0,.int .i64 n,.bool false,.int .i64 er]:=by rw [hY];exact((((bX.set_ 0 _).set_ 1 _).set_ 2 _).set_ 3 _).set_ 4 _
 have tY:Touch (fun k=>k=w.heap.size+1) X Y:=by rw [hY];exact(((((Touch.refl (fun k=>k=w.heap.size+1) X).setCell (p:=⟨w.heap.size+1,0,none⟩) (.inl rfl) _).setCell (p:=⟨w.heap.size+1,1,none⟩) (.inl rfl) _).setCell (p:=⟨w.heap.size+1,2,none⟩) (.inl rfl) _).setCell (p:=⟨w.heap.size+1,3,none⟩) (.inl rfl) _).setCell (p:=⟨w.heap.size+1,4,none⟩) (.inl rfl) _
 rw [hX]at hY
 rw [←hY]
 have u0:=bY.cell 0
 have u1:=bY.cell 1
 have u2:=bY.cell 2
 have u3:=bY.cell 3
 have u4:=bY.cell 4
 simp only [List.getElem?_cons_zero,List.getElem?_cons_succ]at u0 u1 u2 u3 u4
 refine bodyPost_ret (v:=anV ⟨#[]⟩ (.slice none 0 0) n false er) (by simp [results,Tryz.results81,go_sem,u0,u1,u2,u3,u4,anV]) rfl ?_
 exact⟨rfl,W,w1,HbW.out,HsW.out,HR.out,(tX.mono (fun k e=>⟨by omega,by omega⟩)).trans (tY.mono (fun k e=>(⟨by omega,by omega⟩:DoN w.heap.size k))) (fun k h=> .inl h)⟩
set_option maxHeartbeats 4000000 in
set_option maxRecDepth 100000 in
theorem doPut(g:Nat)(id:Nat)(key text:ByteArray)(er:Int)(w:World){R:World→World→Prop}{G:Nat→Prop}(hG:∀i,i<3→¬G (w.heap.size+i))
 (hc:∀W,Below w.heap.size w W→w.heap.size+3=W.heap.size→Calls Tryz.prog 25 #[.pointer (some ⟨g,0,none⟩),.int .i64 (id:Int),.string key,.string text] W fun e w'=>e= .returned (.int .i64 er)∧R W w'∧Touch G W w'):
 Calls Tryz.prog 81 #[.pointer (some ⟨g,0,none⟩),.agg #[.int .i64 1,.int .i64 (id:Int),.string key,.string text]] w fun e w'=>e= .returned (anV ⟨#[]⟩ (.slice none 0 0) 0 false er)∧DoPost w R w':=by
 obtain⟨W,hW⟩:∃W,W=((w.alloc (.cells #[.int .i64 1,.int .i64 (id:Int),.string key,.string text] 170)).alloc (.cells #[.string ⟨#[]⟩,.slice none 0 0,.int .i64 0,.bool false,.int .i64 0] 91)).alloc (.cells #[.string ⟨#[]⟩,.slice none 0 0,.int .i64 0,.bool false,.int .i64 0] 91):=⟨_,rfl⟩
 obtain⟨B0,B1,B2,hbW,hsW⟩:=do_blocks w 1 id key text W hW
 have HW:=Lib.hid hW
 have HC:=Lib.hid (hc W hbW hsW.symm)
 have y0:=B0.cell 0
 have y1:=B0.cell 1
 have y2:=B0.cell 2
 have y3:=B0.cell 3
 simp only [List.getElem?_cons_zero,List.getElem?_cons_succ]at y0 y1 y2 y3
 have n0:¬G w.heap.size:=hG 0 (by decide)
 have n1:¬G (w.heap.size+1):=hG 1 (by decide)
 have n2:¬G (w.heap.size+2):=hG 2 (by decide)
 have HB1:=Lib.hid B1
 have HB2:=Lib.hid B2
 have HbW:=Lib.hid hbW
 have HsW:=Lib.hid hsW
 have N1:=Lib.hid n1
 have N2:=Lib.hid n2
 clear hW hc hbW B0 B1 B2 hG n0 n1 n2 hsW
 go_enter Tryz.func81,Tryz.ntmps81
 go_wp2_with(rw [←HW.out])
 go_wp2_with fail
 refine HC.out.mono ?_
 rintro e w1⟨rfl,hR,ht⟩
 have b1:=HB1.out.touch ht N1.out
 have b2:=HB2.out.touch ht N2.out
 have x0:=b2.cell 0
 have x1:=b2.cell 1
 have x2:=b2.cell 2
 have x3:=b2.cell 3
 have x4:=b2.cell 4
 have v0:=b1.cell 0
 have v1:=b1.cell 1
 have v2:=b1.cell 2
 have v3:=b1.cell 3
 have v4:=b1.cell 4
 simp only [List.getElem?_cons_zero,List.getElem?_cons_succ]at x0 x1 x2 x3 x4 v0 v1 v2 v3 v4
 have q0:=b2.frozen 0
 have q1:=b2.frozen 1
 have q2:=b2.frozen 2
 have q3:=b2.frozen 3
 have q4:=b2.frozen 4
 have r0:=b1.frozen 0
 have r1:=b1.frozen 1
 have r2:=b1.frozen 2
 have r3:=b1.frozen 3
 have r4:=b1.frozen 4
 have HR:=Lib.hid hR
 have Hb1:=Lib.hid b1
 clear hR ht b1 b2 y0 y1 y2 y3
 go_wp2_with fail
 obtain⟨X,hX⟩:∃X,X=(w1.setCell ⟨w.heap.size+1+1,4,none⟩ (.int .i64 er)):=⟨_,rfl⟩
 have tX:Touch (fun k=>k=w.heap.size+1+1) w1 X:=by rw [hX];exact((Touch.refl (fun k=>k=w.heap.size+1+1) w1).setCell (p:=⟨w.heap.size+1+1,4,none⟩) (.inl rfl) _)
 have bX:=Hb1.out.touch tX (by omega)
 have hX':=hX
 obtain⟨Y,hY⟩:∃Y,Y=((((X.setCell ⟨w.heap.size+1,0,none⟩ (.string ⟨#[]⟩)).setCell ⟨w.heap.size+1,1,none⟩ (.slice none 0 0)).setCell ⟨w.heap.size+1,2,none⟩ (.int .i64 0)).setCell ⟨w.heap.size+1,3,none⟩ (.bool false)).setCell ⟨w.heap.size+1,4,none⟩ (.int .i64 er):=⟨_,rfl⟩
 have bY:Blk Y (w.heap.size+1) 91 [.string ⟨#[]⟩,.slice none 0 0,.int .i64 0,.bool false,.int .i64 er]:=by rw [hY];exact((((bX.set_ 0 _).set_ 1 _).set_ 2 _).set_ 3 _).set_ 4 _
 have tY:Touch (fun k=>k=w.heap.size+1) X Y:=by rw [hY];exact(((((Touch.refl (fun k=>k=w.heap.size+1) X).setCell (p:=⟨w.heap.size+1,0,none⟩) (.inl rfl) _).setCell (p:=⟨w.heap.size+1,1,none⟩) (.inl rfl) _).setCell (p:=⟨w.heap.size+1,2,none⟩) (.inl rfl) _).setCell (p:=⟨w.heap.size+1,3,none⟩) (.inl rfl) _).setCell (p:=⟨w.heap.size+1,4,none⟩) (.inl rfl) _
 rw [hX]at hY
 rw [←hY]
 have u0:=bY.cell 0
 have u1:=bY.cell 1
 have u2:=bY.cell 2
 have u3:=bY.cell 3
 have u4:=bY.cell 4
 simp only [List.getElem?_cons_zero,List.getElem?_cons_succ]at u0 u1 u2 u3 u4
 refine bodyPost_ret (v:=anV ⟨#[]⟩ (.slice none 0 0) 0 false er) (by simp [results,Tryz.results81,go_sem,u0,u1,u2,u3,u4,anV]) rfl ?_
 exact⟨rfl,W,w1,HbW.out,HsW.out,HR.out,(tX.mono (fun k e=>⟨by omega,by omega⟩)).trans (tY.mono (fun k e=>(⟨by omega,by omega⟩:DoN w.heap.size k))) (fun k h=> .inl h)⟩
set_option maxHeartbeats 4000000 in
set_option maxRecDepth 100000 in
theorem doCommit(g:Nat)(id:Nat)(key text:ByteArray)(er:Int)(w:World){R:World→World→Prop}{G:Nat→Prop}(hG:∀i,i<3→¬G (w.heap.size+i))
 (hc:∀W,Below w.heap.size w W→w.heap.size+3=W.heap.size→Calls Tryz.prog 27 #[.pointer (some ⟨g,0,none⟩),.int .i64 (id:Int)] W fun e w'=>e= .returned (.int .i64 er)∧R W w'∧Touch G W w'):
 Calls Tryz.prog 81 #[.pointer (some ⟨g,0,none⟩),.agg #[.int .i64 5,.int .i64 (id:Int),.string key,.string text]] w fun e w'=>e= .returned (anV ⟨#[]⟩ (.slice none 0 0) 0 false er)∧DoPost w R w':=by
 obtain⟨W,hW⟩:∃W,W=((w.alloc (.cells #[.int .i64 5,.int .i64 (id:Int),.string key,.string text] 170)).alloc (.cells #[.string ⟨#[]⟩,.slice none 0 0,.int .i64 0,.bool false,.int .i64 0] 91)).alloc (.cells #[.string ⟨#[]⟩,.slice none 0 0,.int .i64 0,.bool false,.int .i64 0] 91):=⟨_,rfl⟩
 obtain⟨B0,B1,B2,hbW,hsW⟩:=do_blocks w 5 id key text W hW
 have HW:=Lib.hid hW
 have HC:=Lib.hid (hc W hbW hsW.symm)
 have y0:=B0.cell 0
 have y1:=B0.cell 1
 have y2:=B0.cell 2
 have y3:=B0.cell 3
 simp only [List.getElem?_cons_zero,List.getElem?_cons_succ]at y0 y1 y2 y3
 have n0:¬G w.heap.size:=hG 0 (by decide)
 have n1:¬G (w.heap.size+1):=hG 1 (by decide)
 have n2:¬G (w.heap.size+2):=hG 2 (by decide)
 have HB1:=Lib.hid B1
 have HB2:=Lib.hid B2
 have HbW:=Lib.hid hbW
 have HsW:=Lib.hid hsW
 have N1:=Lib.hid n1
 have N2:=Lib.hid n2
 clear hW hc hbW B0 B1 B2 hG n0 n1 n2 hsW
 go_enter Tryz.func81,Tryz.ntmps81
 go_wp2_with(rw [←HW.out])
 go_wp2_with fail
 refine HC.out.mono ?_
 rintro e w1⟨rfl,hR,ht⟩
 have b1:=HB1.out.touch ht N1.out
 have b2:=HB2.out.touch ht N2.out
 have x0:=b2.cell 0
 have x1:=b2.cell 1
 have x2:=b2.cell 2
 have x3:=b2.cell 3
 have x4:=b2.cell 4
 have v0:=b1.cell 0
 have v1:=b1.cell 1
 have v2:=b1.cell 2
 have v3:=b1.cell 3
 have v4:=b1.cell 4
 simp only [List.getElem?_cons_zero,List.getElem?_cons_succ]at x0 x1 x2 x3 x4 v0 v1 v2 v3 v4
 have q0:=b2.frozen 0
 have q1:=b2.frozen 1
 have q2:=b2.frozen 2
 have q3:=b2.frozen 3
 have q4:=b2.frozen 4
 have r0:=b1.frozen 0
 have r1:=b1.frozen 1
 have r2:=b1.frozen 2
 have r3:=b1.frozen 3
 have r4:=b1.frozen 4
 have HR:=Lib.hid hR
 have Hb1:=Lib.hid b1
 clear hR ht b1 b2 y0 y1 y2 y3
 go_wp2_with fail
 obtain⟨X,hX⟩:∃X,X=(w1.setCell ⟨w.heap.size+1+1,4,none⟩ (.int .i64 er)):=⟨_,rfl⟩
 have tX:Touch (fun k=>k=w.heap.size+1+1) w1 X:=by rw [hX];exact((Touch.refl (fun k=>k=w.heap.size+1+1) w1).setCell (p:=⟨w.heap.size+1+1,4,none⟩) (.inl rfl) _)
 have bX:=Hb1.out.touch tX (by omega)
 have hX':=hX
 obtain⟨Y,hY⟩:∃Y,Y=((((X.setCell ⟨w.heap.size+1,0,none⟩ (.string ⟨#[]⟩)).setCell ⟨w.heap.size+1,1,none⟩ (.slice none 0 0)).setCell ⟨w.heap.size+1,2,none⟩ (.int .i64 0)).setCell ⟨w.heap.size+1,3,none⟩ (.bool false)).setCell ⟨w.heap.size+1,4,none⟩ (.int .i64 er):=⟨_,rfl⟩
 have bY:Blk Y (w.heap.size+1) 91 [.string ⟨#[]⟩,.slice none 0 0,.int .i64 0,.bool false,.int .i64 er]:=by rw [hY];exact((((bX.set_ 0 _).set_ 1 _).set_ 2 _).set_ 3 _).set_ 4 _
 have tY:Touch (fun k=>k=w.heap.size+1) X Y:=by rw [hY];exact(((((Touch.refl (fun k=>k=w.heap.size+1) X).setCell (p:=⟨w.heap.size+1,0,none⟩) (.inl rfl) _).setCell (p:=⟨w.heap.size+1,1,none⟩) (.inl rfl) _).setCell (p:=⟨w.heap.size+1,2,none⟩) (.inl rfl) _).setCell (p:=⟨w.heap.size+1,3,none⟩) (.inl rfl) _).setCell (p:=⟨w.heap.size+1,4,none⟩) (.inl rfl) _
 rw [hX]at hY
 rw [←hY]
 have u0:=bY.cell 0
 have u1:=bY.cell 1
 have u2:=bY.cell 2
 have u3:=bY.cell 3
 have u4:=bY.cell 4
 simp only [List.getElem?_cons_zero,List.getElem?_cons_succ]at u0 u1 u2 u3 u4
 refine bodyPost_ret (v:=anV ⟨#[]⟩ (.slice none 0 0) 0 false er) (by simp [results,Tryz.results81,go_sem,u0,u1,u2,u3,u4,anV]) rfl ?_
 exact⟨rfl,W,w1,HbW.out,HsW.out,HR.out,(tX.mono (fun k e=>⟨by omega,by omega⟩)).trans (tY.mono (fun k e=>(⟨by omega,by omega⟩:DoN w.heap.size k))) (fun k h=> .inl h)⟩
set_option maxHeartbeats 4000000 in
set_option maxRecDepth 100000 in
theorem doWork(g:Nat)(id:Nat)(key text:ByteArray)(n:Int)(dn:Bool)(er:Int)(w:World){R:World→World→Prop}{G:Nat→Prop}(hG:∀i,i<3→¬G (w.heap.size+i))
 (hc:∀W,Below w.heap.size w W→w.heap.size+3=W.heap.size→Calls Tryz.prog 22 #[.pointer (some ⟨g,0,none⟩)] W fun e w'=>e= .returned (.tuple #[.int .i64 n,.bool dn,.int .i64 er])∧R W w'∧Touch G W w'):
 Calls Tryz.prog 81 #[.pointer (some ⟨g,0,none⟩),.agg #[.int .i64 6,.int .i64 (id:Int),.string key,.string text]] w fun e w'=>e= .returned (anV ⟨#[]⟩ (.slice none 0 0) n dn er)∧DoPost w R w':=by
 obtain⟨W,hW⟩:∃W,W=((w.alloc (.cells #[.int .i64 6,.int .i64 (id:Int),.string key,.string text] 170)).alloc (.cells #[.string ⟨#[]⟩,.slice none 0 0,.int .i64 0,.bool false,.int .i64 0] 91)).alloc (.cells #[.string ⟨#[]⟩,.slice none 0 0,.int .i64 0,.bool false,.int .i64 0] 91):=⟨_,rfl⟩
 obtain⟨B0,B1,B2,hbW,hsW⟩:=do_blocks w 6 id key text W hW
 have HW:=Lib.hid hW
 have HC:=Lib.hid (hc W hbW hsW.symm)
 have y0:=B0.cell 0
 have y1:=B0.cell 1
 have y2:=B0.cell 2
 have y3:=B0.cell 3
 simp only [List.getElem?_cons_zero,List.getElem?_cons_succ]at y0 y1 y2 y3
 have n0:¬G w.heap.size:=hG 0 (by decide)
 have n1:¬G (w.heap.size+1):=hG 1 (by decide)
 have n2:¬G (w.heap.size+2):=hG 2 (by decide)
 have HB1:=Lib.hid B1
 have HB2:=Lib.hid B2
 have HbW:=Lib.hid hbW
 have HsW:=Lib.hid hsW
 have N1:=Lib.hid n1
 have N2:=Lib.hid n2
 clear hW hc hbW B0 B1 B2 hG n0 n1 n2 hsW
 go_enter Tryz.func81,Tryz.ntmps81
 go_wp2_with(rw [←HW.out])
 go_wp2_with fail
 refine HC.out.mono ?_
 rintro e w1⟨rfl,hR,ht⟩
 have b1:=HB1.out.touch ht N1.out
 have b2:=HB2.out.touch ht N2.out
 have x0:=b2.cell 0
 have x1:=b2.cell 1
 have x2:=b2.cell 2
 have x3:=b2.cell 3
 have x4:=b2.cell 4
 have v0:=b1.cell 0
 have v1:=b1.cell 1
 have v2:=b1.cell 2
 have v3:=b1.cell 3
 have v4:=b1.cell 4
 simp only [List.getElem?_cons_zero,List.getElem?_cons_succ]at x0 x1 x2 x3 x4 v0 v1 v2 v3 v4
 have q0:=b2.frozen 0
 have q1:=b2.frozen 1
 have q2:=b2.frozen 2
 have q3:=b2.frozen 3
 have q4:=b2.frozen 4
 have r0:=b1.frozen 0
 have r1:=b1.frozen 1
 have r2:=b1.frozen 2
 have r3:=b1.frozen 3
 have r4:=b1.frozen 4
 have HR:=Lib.hid hR
 have Hb1:=Lib.hid b1
 clear hR ht b1 b2 y0 y1 y2 y3
 go_wp2_with fail
 obtain⟨X,hX⟩:∃X,X=(((w1.setCell ⟨w.heap.size+1+1,2,none⟩ (.int .i64 n)).setCell ⟨w.heap.size+1+1,3,none⟩ (.bool dn)).setCell ⟨w.heap.size+1+1,4,none⟩ (.int .i64 er)):=⟨_,rfl⟩
 have tX:Touch (fun k=>k=w.heap.size+1+1) w1 X:=by rw [hX];exact((((Touch.refl (fun k=>k=w.heap.size+1+1) w1).setCell (p:=⟨w.heap.size+1+1,2,none⟩) (.inl rfl) _).setCell (p:=⟨w.heap.size+1+1,3,none⟩) (.inl rfl) _).setCell (p:=⟨w.heap.size+1+1,4,none⟩) (.inl rfl) _)
 have bX:=Hb1.out.touch tX (by omega)
 have hX':=hX
 obtain⟨Y,hY⟩:∃Y,Y=((((X.setCell ⟨w.heap.size+1,0,none⟩ (.string ⟨#[]⟩)).setCell ⟨w.heap.size+1,1,none⟩ (.slice none 0 0)).setCell ⟨w.heap.size+1,2,none⟩ (.int .i64 n)).setCell ⟨w.heap.size+1,3,none⟩ (.bool dn)).setCell ⟨w.heap.size+1,4,none⟩ (.int .i64 er):=⟨_,rfl⟩
 have bY:Blk Y (w.heap.size+1) 91 [.string ⟨#[]⟩,.slice none 0 0,.int .i64 n,.bool dn,.int .i64 er]:=by rw [hY];exact((((bX.set_ 0 _).set_ 1 _).set_ 2 _).set_ 3 _).set_ 4 _
 have tY:Touch (fun k=>k=w.heap.size+1) X Y:=by rw [hY];exact(((((Touch.refl (fun k=>k=w.heap.size+1) X).setCell (p:=⟨w.heap.size+1,0,none⟩) (.inl rfl) _).setCell (p:=⟨w.heap.size+1,1,none⟩) (.inl rfl) _).setCell (p:=⟨w.heap.size+1,2,none⟩) (.inl rfl) _).setCell (p:=⟨w.heap.size+1,3,none⟩) (.inl rfl) _).setCell (p:=⟨w.heap.size+1,4,none⟩) (.inl rfl) _
 rw [hX]at hY
 rw [←hY]
 have u0:=bY.cell 0
 have u1:=bY.cell 1
 have u2:=bY.cell 2
 have u3:=bY.cell 3
 have u4:=bY.cell 4
 simp only [List.getElem?_cons_zero,List.getElem?_cons_succ]at u0 u1 u2 u3 u4
 refine bodyPost_ret (v:=anV ⟨#[]⟩ (.slice none 0 0) n dn er) (by simp [results,Tryz.results81,go_sem,u0,u1,u2,u3,u4,anV]) rfl ?_
 exact⟨rfl,W,w1,HbW.out,HsW.out,HR.out,(tX.mono (fun k e=>⟨by omega,by omega⟩)).trans (tY.mono (fun k e=>(⟨by omega,by omega⟩:DoN w.heap.size k))) (fun k h=> .inl h)⟩
set_option maxHeartbeats 4000000 in
set_option maxRecDepth 100000 in
theorem doOdd(g:Nat)(what:Int)(ho:what<0∨8<what)(id:Nat)(key text:ByteArray)(w:World):
 Calls Tryz.prog 81 #[.pointer (some ⟨g,0,none⟩),.agg #[.int .i64 what,.int .i64 (id:Int),.string key,.string text]] w fun e w'=>e= .returned (anV ⟨#[]⟩ (.slice none 0 0) 0 false 13)∧Below w.heap.size w w':=by
 obtain⟨W,hW⟩:∃W,W=((w.alloc (.cells #[.int .i64 what,.int .i64 (id:Int),.string key,.string text] 170)).alloc (.cells #[.string ⟨#[]⟩,.slice none 0 0,.int .i64 0,.bool false,.int .i64 0] 91)).alloc (.cells #[.string ⟨#[]⟩,.slice none 0 0,.int .i64 0,.bool false,.int .i64 0] 91):=⟨_,rfl⟩
 obtain⟨B0,B1,B2,hbW,hsW⟩:=do_blocks w what id key text W hW
 have HW:=Lib.hid hW
 have y0:=B0.cell 0
 simp only [List.getElem?_cons_zero]at y0
 have t0:(what==0)=false:=by rw [beq_eq_false_iff_ne];omega
 have t1:(what==1)=false:=by rw [beq_eq_false_iff_ne];omega
 have t2:(what==2)=false:=by rw [beq_eq_false_iff_ne];omega
 have t3:(what==3)=false:=by rw [beq_eq_false_iff_ne];omega
 have t4:(what==4)=false:=by rw [beq_eq_false_iff_ne];omega
 have t5:(what==5)=false:=by rw [beq_eq_false_iff_ne];omega
 have t6:(what==6)=false:=by rw [beq_eq_false_iff_ne];omega
 have t7:(what==7)=false:=by rw [beq_eq_false_iff_ne];omega
 have t8:(what==8)=false:=by rw [beq_eq_false_iff_ne];omega
 have x0:=B2.cell 0
 have x1:=B2.cell 1
 have x2:=B2.cell 2
 have x3:=B2.cell 3
 have x4:=B2.cell 4
 have v0:=B1.cell 0
 have v1:=B1.cell 1
 have v2:=B1.cell 2
 have v3:=B1.cell 3
 have v4:=B1.cell 4
 simp only [List.getElem?_cons_zero,List.getElem?_cons_succ]at x0 x1 x2 x3 x4 v0 v1 v2 v3 v4
 have q4:=B2.frozen 4
 have r0:=B1.frozen 0
 have r1:=B1.frozen 1
 have r2:=B1.frozen 2
 have r3:=B1.frozen 3
 have r4:=B1.frozen 4
 have Hb1:=Lib.hid B1
 have HbW:=Lib.hid hbW
 clear hW hbW B0 B1 B2 hsW ho
 go_enter Tryz.func81,Tryz.ntmps81
 go_wp2_with(rw [←HW.out])
 go_wp2_with fail
 obtain⟨X,hX⟩:∃X,X=(W.setCell ⟨w.heap.size+1+1,4,none⟩ (.int .i64 13)):=⟨_,rfl⟩
 have tX:Touch (fun k=>k=w.heap.size+1+1) W X:=by rw [hX];exact(Touch.refl (fun k=>k=w.heap.size+1+1) W).setCell (p:=⟨w.heap.size+1+1,4,none⟩) (.inl rfl) _
 have bX:=Hb1.out.touch tX (by omega)
 obtain⟨Y,hY⟩:∃Y,Y=((((X.setCell ⟨w.heap.size+1,0,none⟩ (.string ⟨#[]⟩)).setCell ⟨w.heap.size+1,1,none⟩ (.slice none 0 0)).setCell ⟨w.heap.size+1,2,none⟩ (.int .i64 0)).setCell ⟨w.heap.size+1,3,none⟩ (.bool false)).setCell ⟨w.heap.size+1,4,none⟩ (.int .i64 13):=⟨_,rfl⟩
 have bY:Blk Y (w.heap.size+1) 91 [.string ⟨#[]⟩,.slice none 0 0,.int .i64 0,.bool false,.int .i64 13]:=by rw [hY];exact((((bX.set_ 0 _).set_ 1 _).set_ 2 _).set_ 3 _).set_ 4 _
 have tY:Touch (fun k=>k=w.heap.size+1) X Y:=by rw [hY];exact(((((Touch.refl (fun k=>k=w.heap.size+1) X).setCell (p:=⟨w.heap.size+1,0,none⟩) (.inl rfl) _).setCell (p:=⟨w.heap.size+1,1,none⟩) (.inl rfl) _).setCell (p:=⟨w.heap.size+1,2,none⟩) (.inl rfl) _).setCell (p:=⟨w.heap.size+1,3,none⟩) (.inl rfl) _).setCell (p:=⟨w.heap.size+1,4,none⟩) (.inl rfl) _
 rw [hX]at hY
 rw [←hY]
 have u0:=bY.cell 0
 have u1:=bY.cell 1
 have u2:=bY.cell 2
 have u3:=bY.cell 3
 have u4:=bY.cell 4
 simp only [List.getElem?_cons_zero,List.getElem?_cons_succ]at u0 u1 u2 u3 u4
 refine bodyPost_ret (v:=anV ⟨#[]⟩ (.slice none 0 0) 0 false 13) (by simp [results,Tryz.results81,go_sem,u0,u1,u2,u3,u4,anV]) rfl ?_
 exact⟨rfl,HbW.out.trans (((tX.mono (fun k e=>⟨by omega,by omega⟩)).trans (tY.mono (fun k e=>(⟨by omega,by omega⟩:DoN w.heap.size k))) (fun k h=> .inl h)).below HbW.out.size (fun k h=>h.1))⟩
end Go.Proofs.YtbkpiojejmhfcaaGreatDoor
