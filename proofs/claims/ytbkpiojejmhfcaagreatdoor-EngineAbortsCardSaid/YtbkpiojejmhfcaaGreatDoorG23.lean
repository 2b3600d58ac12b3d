import Derived.Deep.RegionHeld3
import Derived.Deep.RegionHeldLaw
import Derived.Test.YtbkpiojejmhfcaaGreatDoorG05
import Derived.Test.YtbkpiojejmhfcaaGreatDoorG08
import Derived.Test.YtbkpiojejmhfcaaGreatDoorG13
import Derived.Test.YtbkpiojejmhfcaaGreatDoorG15
import Derived.Test.YtbkpiojejmhfcaaGreatDoorG16
import Derived.Test.YtbkpiojejmhfcaaGreatDoorG18
import Derived.Test.YtbkpiojejmhfcaaGreatDoorG22
namespace Go.Proofs.YtbkpiojejmhfcaaGreatDoor
open Go.RowKit
def jobCells(x d p:Nat)(stamp:UInt64)(vs vd:Value)(over:Bool)(en:Int):List Value:=
 [.pointer (some ⟨d,0,none⟩),.pointer (some ⟨p,0,none⟩),.pointer (some ⟨x,0,none⟩),.int .u64 (stamp.toNat:Int),vs,vd,.bool over,.int .i64 en]
section
variable{w w':World}{x d p L:Nat}{s:St}{F:Nat→Prop}
theorem Sys.load(h:Sys w d p L s F)(j:Nat)(hj:j<8*L):Calls Tryz.prog 45 #[.pointer (some ⟨d,0,none⟩),.int .i64 ((8*j:Nat):Int)] w fun e w'=>e= .returned (.tuple #[.int .u64 ((s.ws j).toNat:Int),.int .i64 0])∧w=w':=by
 obtain⟨tb,hb,n,cT,cH,own,h,_⟩:=h
 obtain⟨g,hb0,hr,ho⟩:=h.dev
 exact load_dev d L s.ws _ _ g hb0 j w h.L1 hr hj
theorem jobNone(jb:Nat)(xs:List Value)(h:Blk w jb 124 (.pointer (some ⟨d,0,none⟩)::xs)):Calls Tryz.prog 51 #[.pointer (some ⟨jb,0,none⟩)] w fun e w'=>e= .returned (.bool false)∧w=w':=by
 have c:=h.cell 0
 simp only [List.getElem?_cons_zero]at c
 clear h
 go_enter Tryz.func51,Tryz.ntmps51
 go_wp2
 go_ret
 exact⟨rfl,rfl⟩
set_option maxHeartbeats 4000000 in
set_option maxRecDepth 100000 in
theorem fits1{G:Nat→Prop}{v:Value}{y:Wr}(h:SetR w G v [y])(hy:rightWr y=true):Calls Tryz.prog 49 #[v] w fun e w'=>e= .returned (.bool true)∧Below w.heap.size w w':=by
 obtain⟨A0,c0,rfl⟩:=h.slice
 obtain⟨b2,off,c2,hv2,hc2,hbw,hnG,q0,q1,q2⟩:=h.at 0 (by simp)
 simp only [Value.slice.injEq]at hv2
 obtain⟨rfl, -,rfl⟩:=hv2
 have hsz:y.key.size≤16∧y.text.size≤40:=by
  unfold rightWr at hy
  simp only [Bool.and_eq_true,decide_eq_true_eq]at hy
  exact hy.1
 have HR:=Lib.hid (fun W=>wsetRight y W (by omega) (by omega))
 rw [hy]at HR
 unfold wrV at HR
 simp only [List.length_cons,List.length_nil,List.getElem_cons_zero,Nat.zero_add,Nat.zero_mul,Nat.add_zero]at q0 q1 q2⊢
 have HQ:Hid (∀W,Below w.heap.size w W→W.cell? ⟨b2,off,none⟩=some (.string y.key)∧W.cell? ⟨b2,off+1,none⟩=some (.string y.text)∧W.cell? ⟨b2,off+2,none⟩=some (.bool y.gone)):=Lib.hid (fun W k=>⟨(World.cell?_of_block (w:=w) (k.block _ hbw)).trans q0,(World.cell?_of_block (w:=w) (k.block _ hbw)).trans q1,(World.cell?_of_block (w:=w) (k.block _ hbw)).trans q2⟩)
 clear h hy hsz hnG hc2 q0 q1 q2
 go_enter Tryz.func49,Tryz.ntmps49
 go_wp2_with fail
 go_loopw [10](fun i wr=>∃k:Nat,k≤1∧i= .int .i64 (k:Nat)∧Below w.heap.size w wr)(fun i _=>1- (intOf i).toNat)
 case atStart=>exact⟨0,Nat.zero_le _,rfl,Below.refl _ _⟩
 case round=>
  obtain⟨k,hk,rfl,hb⟩:=hrel
  have HB:=Lib.hid hb
  by_cases hlt:k<1
  ·have hk0:k=0:=by omega
   obtain⟨r0,r1,r2⟩:=HQ.out wr hb
   rw [show off=off+k*3 by omega]at r0 r1 r2
   have hx1:(k:Int)<1:=by omega
   have hx2:decide ((k:Int)<1)=true:=decide_eq_true hx1
   have hx5:decide (k<1)=true:=decide_eq_true hlt
   have hx6:decide (0<(k:Int))=false:=decide_eq_false (by omega)
   have hx7:decide (0<k)=false:=decide_eq_false (by omega)
   have hwk:IntKind.i64.wrap ((k:Int)+1)=(k:Int)+1:=IntWalk.i64_in _ (by omega)
   have HK0:=Lib.hid hk0
   obtain⟨W2,hW2⟩:∃W2,W2=wr.alloc (.cells #[.string y.key,.string y.text,.bool y.gone] 94):=⟨_,rfl⟩
   have hbt:Below wr.heap.size wr W2:=hW2▸(Below.refl _ _).alloc (Nat.le_refl _) _
   have B2:Blk W2 wr.heap.size 94 [.string y.key,.string y.text,.bool y.gone]:=hW2▸heap_alloc_new _ _
   have z0:=B2.cell 0
   have z1:=B2.cell 1
   have z2:=B2.cell 2
   simp only [List.getElem?_cons_zero,List.getElem?_cons_succ]at z0 z1 z2
   have HBt:=Lib.hid (HB.out.trans (hbt.mono HB.out.size))
   have HZ:Hid (∀W,Below W2.heap.size W2 W→W.cell? ⟨wr.heap.size,0,none⟩=some (.string y.key)∧W.cell? ⟨wr.heap.size,1,none⟩=some (.string y.text)∧W.cell? ⟨wr.heap.size,2,none⟩=some (.bool y.gone)):=Lib.hid (fun W k=>⟨(B2.below k B2.lt).cell 0,(B2.below k B2.lt).cell 1,(B2.below k B2.lt).cell 2⟩)
   have HW2:=Lib.hid hW2
   clear hb hW2 B2 hbt hk0
   go_wp2_with fail
   rw [←HW2.out]
   refine wp_region_held_drew (S:=(fun w'=>w'.cell? ⟨wr.heap.size,0,none⟩=some (.string y.key)∧w'.cell? ⟨wr.heap.size,1,none⟩=some (.string y.text)∧w'.cell? ⟨wr.heap.size,2,none⟩=some (.bool y.gone))) (by kernel_rfl) ⟨z0,z1,z2⟩ (fun hHeld=> ?_)
   refine wpAnyH_take (i:=0) (v:= .agg #[.string y.key,.string y.text,.bool y.gone]) rfl (by kernel_rfl) (by kernel_rfl) (by kernel_rfl) (fun _ _ _ h=>h) (Or.inl ⟨by rfl,fun w hSw=>by obtain⟨s0,s1,s2⟩:=hSw;go_simp⟩) (by assumption) ?_
   try simp only [Act.put,List.getElem_toArray,List.getElem_cons_zero,List.setIfInBounds_toArray,List.set_cons_zero,List.set_cons_succ]
   refine wpAnyH_ready (rs:=[1]) (by kernel_rfl) (by simp) ?_
   refine AllReadyH.cons rfl (fun K hK=> ?_) AllReadyH.nil
   go_simp
   go_at_call 89
   refine(HR.out _).mono ?_
   rintro e w3⟨rfl,hb3⟩
   have hb4:Below W2.heap.size W2 w3:=(((Dr.drew _).below _).trans hb3)
   refine hK.out _ _ (HZ.out _ hb4) (fun hHeld=> ?_)
   clear hK K
   try simp only [Act.put,List.getElem_toArray,List.getElem_cons_succ,List.getElem_cons_zero,List.setIfInBounds_toArray,List.set_cons_zero,List.set_cons_succ]
   refine wpAnyH_take (i:=2) (v:= .bool false) rfl (by kernel_rfl) (by kernel_rfl) (by kernel_rfl) (fun _ _ _ h=>h) (Or.inl ⟨by rfl,fun w hSw=>by obtain⟨s0,s1,s2⟩:=hSw;go_simp⟩) (by assumption) ?_
   try simp only [Act.put,List.getElem_toArray,List.getElem_cons_succ,List.getElem_cons_zero,List.setIfInBounds_toArray,List.set_cons_zero,List.set_cons_succ]
   refine wpAnyH_take (i:=3) (v:= .bool false) rfl (by kernel_rfl) (by kernel_rfl) (by kernel_rfl) (fun _ _ _ h=>h) (Or.inl ⟨by rfl,fun w hSw=>by obtain⟨s0,s1,s2⟩:=hSw;go_simp⟩) (by assumption) ?_
   try simp only [Act.put,List.getElem_toArray,List.getElem_cons_succ,List.getElem_cons_zero,List.setIfInBounds_toArray,List.set_cons_zero,List.set_cons_succ]
   refine wpAnyH_take (i:=4) (v:= .int .i64 (k:Int)) rfl (by kernel_rfl) (by kernel_rfl) (by kernel_rfl) (fun _ _ _ h=>h) (Or.inl ⟨by rfl,fun w hSw=>by obtain⟨s0,s1,s2⟩:=hSw;go_simp⟩) (by assumption) ?_
   try simp only [Act.put,List.getElem_toArray,List.getElem_cons_succ,List.getElem_cons_zero,List.setIfInBounds_toArray,List.set_cons_zero,List.set_cons_succ]
   refine wpAnyH_take (i:=5) (v:= .bool false) rfl (by kernel_rfl) (by kernel_rfl) (by kernel_rfl) (fun _ _ _ h=>h) (Or.inl ⟨by rfl,fun w hSw=>by obtain⟨s0,s1,s2⟩:=hSw;go_simp⟩) (by assumption) ?_
   try simp only [Act.put,List.getElem_toArray,List.getElem_cons_succ,List.getElem_cons_zero,List.setIfInBounds_toArray,List.set_cons_zero,List.set_cons_succ]
   refine wpAnyH_take (i:=6) (v:= .bool false) rfl (by kernel_rfl) (by kernel_rfl) (by kernel_rfl) (fun _ _ _ h=>h) (Or.inl ⟨by rfl,fun w hSw=>by obtain⟨s0,s1,s2⟩:=hSw;go_simp⟩) (by assumption) ?_
   try simp only [Act.put,List.getElem_toArray,List.getElem_cons_succ,List.getElem_cons_zero,List.setIfInBounds_toArray,List.set_cons_zero,List.set_cons_succ]
   refine wpAnyH_take (i:=7) (v:=undef) rfl (by kernel_rfl) (by kernel_rfl) (by kernel_rfl) (fun _ _ _ h=>h) (Or.inr ⟨by rfl,rfl⟩) (by assumption) ?_
   try simp only [Act.put,List.getElem_toArray,List.getElem_cons_succ,List.getElem_cons_zero,List.setIfInBounds_toArray,List.set_cons_zero,List.set_cons_succ]
   refine wpAnyH_take (i:=8) (v:=undef) rfl (by kernel_rfl) (by kernel_rfl) (by kernel_rfl) (fun _ _ _ h=>h) (Or.inr ⟨by rfl,rfl⟩) (by assumption) ?_
   try simp only [Act.put,List.getElem_toArray,List.getElem_cons_succ,List.getElem_cons_zero,List.setIfInBounds_toArray,List.set_cons_zero,List.set_cons_succ]
   refine wpAnyH_take (i:=9) (v:=undef) rfl (by kernel_rfl) (by kernel_rfl) (by kernel_rfl) (fun _ _ _ h=>h) (Or.inr ⟨by rfl,rfl⟩) (by assumption) ?_
   try simp only [Act.put,List.getElem_toArray,List.getElem_cons_succ,List.getElem_cons_zero,List.setIfInBounds_toArray,List.set_cons_zero,List.set_cons_succ]
   refine wpAnyH_take (i:=10) (v:=undef) rfl (by kernel_rfl) (by kernel_rfl) (by kernel_rfl) (fun _ _ _ h=>h) (Or.inr ⟨by rfl,rfl⟩) (by assumption) ?_
   try simp only [Act.put,List.getElem_toArray,List.getElem_cons_succ,List.getElem_cons_zero,List.setIfInBounds_toArray,List.set_cons_zero,List.set_cons_succ]
   refine wpAnyH_take (i:=11) (v:=undef) rfl (by kernel_rfl) (by kernel_rfl) (by kernel_rfl) (fun _ _ _ h=>h) (Or.inr ⟨by rfl,rfl⟩) (by assumption) ?_
   try simp only [Act.put,List.getElem_toArray,List.getElem_cons_succ,List.getElem_cons_zero,List.setIfInBounds_toArray,List.set_cons_zero,List.set_cons_succ]
   refine wpAnyH_take (i:=12) (v:=undef) rfl (by kernel_rfl) (by kernel_rfl) (by kernel_rfl) (fun _ _ _ h=>h) (Or.inr ⟨by rfl,rfl⟩) (by assumption) ?_
   try simp only [Act.put,List.getElem_toArray,List.getElem_cons_succ,List.getElem_cons_zero,List.setIfInBounds_toArray,List.set_cons_zero,List.set_cons_succ]
   refine wpAnyH_take (i:=13) (v:=undef) rfl (by kernel_rfl) (by kernel_rfl) (by kernel_rfl) (fun _ _ _ h=>h) (Or.inr ⟨by rfl,rfl⟩) (by assumption) ?_
   try simp only [Act.put,List.getElem_toArray,List.getElem_cons_succ,List.getElem_cons_zero,List.setIfInBounds_toArray,List.set_cons_zero,List.set_cons_succ]
   refine wpAnyH_take (i:=14) (v:=undef) rfl (by kernel_rfl) (by kernel_rfl) (by kernel_rfl) (fun _ _ _ h=>h) (Or.inr ⟨by rfl,rfl⟩) (by assumption) ?_
   try simp only [Act.put,List.getElem_toArray,List.getElem_cons_succ,List.getElem_cons_zero,List.setIfInBounds_toArray,List.set_cons_zero,List.set_cons_succ]
   refine wpAnyH_take (i:=15) (v:=undef) rfl (by kernel_rfl) (by kernel_rfl) (by kernel_rfl) (fun _ _ _ h=>h) (Or.inr ⟨by rfl,rfl⟩) (by assumption) ?_
   try simp only [Act.put,List.getElem_toArray,List.getElem_cons_succ,List.getElem_cons_zero,List.setIfInBounds_toArray,List.set_cons_zero,List.set_cons_succ]
   refine wpAnyH_take (i:=16) (v:= .bool false) rfl (by kernel_rfl) (by kernel_rfl) (by kernel_rfl) (fun _ _ _ h=>h) (Or.inl ⟨by rfl,fun w hSw=>by obtain⟨s0,s1,s2⟩:=hSw;go_simp⟩) (by assumption) ?_
   try simp only [Act.put,List.getElem_toArray,List.getElem_cons_succ,List.getElem_cons_zero,List.setIfInBounds_toArray,List.set_cons_zero,List.set_cons_succ]
   refine wpAnyH_take (i:=17) (v:= .bool false) rfl (by kernel_rfl) (by kernel_rfl) (by kernel_rfl) (fun _ _ _ h=>h) (Or.inl ⟨by rfl,fun w hSw=>by obtain⟨s0,s1,s2⟩:=hSw;go_simp⟩) (by assumption) ?_
   try simp only [Act.put,List.getElem_toArray,List.getElem_cons_succ,List.getElem_cons_zero,List.setIfInBounds_toArray,List.set_cons_zero,List.set_cons_succ]
   refine wpAnyH_done (by kernel_rfl) ?_ _
   have HB4:=Lib.hid (HBt.out.trans (hb4.mono HBt.out.size))
   clear hb3 hb4 z0 z1 z2 r0 r1 r2 hHeld
   go_wp2_with fail
   go_roundw
   all_goals first
    | (case rel=>exact⟨k+1,by omega,by go_num,HB4.out⟩)
    | (case measure=>simp [intOf];omega)
  ·have hk1:k=1:=by omega
   subst hk1
   clear hb
   rw [show((1:Nat):Int)=1 from rfl]
   go_wp2_with fail
   go_ret
   exact⟨rfl,HB.out⟩
end
section
variable{w w':World}{x d p L:Nat}{s:St}{F:Nat→Prop}
set_option maxHeartbeats 4000000 in
set_option maxRecDepth 100000 in
theorem commitNew1(h:Sys w d p L s F){G:Nat→Prop}{v:Value}{y:Wr}(hv:SetR w G v [y])(hy:rightWr y=true)(stamp:UInt64)(h1:(s.ws 8).toNat<stamp.toNat)(h2:stamp.toNat≤60000):
 Calls Tryz.prog 14 #[.pointer (some ⟨d,0,none⟩),.pointer (some ⟨p,0,none⟩),.pointer (some ⟨x,0,none⟩),.int .u64 (stamp.toNat:Int),v] w fun e w'=>∃jb vs,e= .returned (.tuple #[.pointer (some ⟨jb,0,none⟩),.int .i64 0])∧
  w.heap.size≤jb∧Blk w' jb 124 (jobCells x d p stamp vs (.slice none 0 0) false 0)∧(∀G:Nat→Prop,(∀b,w.heap.size≤b→b<jb→¬G b)→SetR w' G vs [y])∧Below w.heap.size w w':=by
 have hL:=h.pos.1
 have t0:(((L*64:Nat):Int)==0)=false:=by rw [beq_eq_false_iff_ne];omega
 have HS:=Lib.hid h.size
 obtain⟨sz,hsz⟩:∃sz,L*64=sz:=⟨_,rfl⟩
 rw [hsz]at t0 HS
 have hL2:=h.pos.2.2.1.fits
 have hL3:=h.pos.2.2.1.tfits
 have HL:=Lib.hid (h.load 8 (by omega))
 rw [show((8*8:Nat):Int)=64 from rfl]at HL
 obtain⟨A0,c0,rfl⟩:=hv.slice
 have HF:=Lib.hid (fits1 hv hy)
 have HV:=Lib.hid hv
 have t1:decide ((stamp.toNat:Int)≤((s.ws 8).toNat:Int))=false:=decide_eq_false (by omega)
 have t2:decide (stamp.toNat≤(s.ws 8).toNat)=false:=decide_eq_false (by omega)
 have t3:decide ((60000:Int)<(stamp.toNat:Int))=false:=decide_eq_false (by omega)
 have t4:decide (60000<stamp.toNat)=false:=decide_eq_false (by omega)
 clear h hv hy hsz h1 h2 hL hL2 hL3
 go_enter Tryz.func14,Tryz.ntmps14
 go_wp2_with fail
 refine HS.out.mono ?_
 rintro e w1⟨rfl,rfl⟩
 go_wp2_with fail
 refine HL.out.mono ?_
 rintro e w1⟨rfl,rfl⟩
 go_wp2_with fail
 refine HF.out.mono ?_
 rintro e w1⟨rfl,hb1⟩
 have HC:=Lib.hid (wsetClone (HV.out.below hb1) (by simp))
 have HB1:=Lib.hid hb1
 clear hb1 HS HL HF
 go_wp2_with fail
 refine HC.out.mono ?_
 rintro e w2⟨u,rfl,hO,hB⟩
 obtain⟨A5,c5,hu5,_,_⟩:=own_rowk hO
 subst hu5
 have HO:=Lib.hid hO
 have HB:=Lib.hid (HB1.out.trans (hB.mono HB1.out.size))
 clear hO hB HC
 go_wp2_with fail
 go_ret2
 obtain⟨W,hW⟩:∃W,W=w2.alloc (.cells (jobCells x d p stamp (.slice A5 [y].length c5) (.slice none 0 0) false 0).toArray 124):=⟨_,rfl⟩
 have hbW:Below w2.heap.size w2 W:=hW▸(Below.refl _ _).alloc (Nat.le_refl _) _
 have hJ:Blk W w2.heap.size 124 (jobCells x d p stamp (.slice A5 [y].length c5) (.slice none 0 0) false 0):=hW▸heap_alloc_new _ _
 refine⟨w2.heap.size,.slice A5 [y].length c5,rfl,HB.out.size,by rw [hW]at hJ;exact hJ,fun G hG=> ?_,by rw [hW]at hbW;exact HB.out.trans (hbW.mono HB.out.size)⟩
 have hs:SetR w2 G (.slice A5 [y].length c5) [y]:=own_setR HO.out rfl (fun b hb hlt=>hG b (Nat.le_trans HB1.out.size hb) hlt)
 rw [hW]at hbW
 exact hs.below hbW
structure JobB(w:World)(jb x d p:Nat)(stamp:UInt64)(vs vd:Value)(over:Bool)(en:Int)(F:Nat→Prop):Prop where
 box:Blk w jb 124 (jobCells x d p stamp vs vd over en)
 out:¬F jb
set_option maxHeartbeats 8000000 in
set_option maxRecDepth 100000 in
theorem jobWrite(h:Ix w x d p L s F){jb:Nat}{stamp:UInt64}{vs vd:Value}{en:Int}(hj:JobB w jb x d p stamp vs vd false en F)(y:Wr)(hk:y.key.size≤16)(ht:y.text.size≤40)
 (hg:getP s y.key.data.toList=(0,7))(hgo:y.gone=false)(hT:∀off s1,reserveP s 1=some (off,s1)→(takeP {s1 with ws:=putWs s1.ws (off/8) (encRc ⟨stamp,0,y.gone,y.text⟩)} off).2=0)
 {s1 s2:St}{place:UInt64}(ha:addP s ⟨stamp,0,y.gone,y.text⟩=(s1,place,0))(hp:putK s1 y.key.data.toList place=(s2,0)):
 Calls Tryz.prog 52 #[.pointer (some ⟨jb,0,none⟩),wrV y] w fun e w'=>e= .returned (.tuple #[.agg #[.int .u64 0,.int .u64 (place.toNat:Int)],.int .i64 0])∧
  ∃F',Ix w' x d p L s2 F'∧JobB w' jb x d p stamp vs vd false en F'∧Moved F F' w w':=by
 obtain⟨W,hW⟩:∃W,W=(w.alloc (.cells #[.string y.key,.string y.text,.bool false] 94)).alloc (.cells #[.int .u64 0,.int .u64 0] 126):=⟨_,rfl⟩
 have hb0:Below w.heap.size w W:=by rw [hW];exact((Below.refl _ _).alloc (Nat.le_refl _) _).alloc (by simp) _
 have BY:Blk W w.heap.size 94 [.string y.key,.string y.text,.bool false]:=by rw [hW];exact(heap_alloc_old _ _ (by simp)).trans (heap_alloc_new _ _)
 have BP:Blk W (w.heap.size+1) 126 [.int .u64 0,.int .u64 0]:=by
  have:=heap_alloc_new (w.alloc (.cells #[.string y.key,.string y.text,.bool false] 94)) (.cells #[.int .u64 0,.int .u64 0] 126)
  rw [show(w.alloc (.cells #[.string y.key,.string y.text,.bool false] 94)).heap.size=w.heap.size+1 by simp,←hW]at this
  exact this
 have hJ0:=hj.box.below hb0 hj.box.lt
 have hX0:=h.below hb0
 have HG:=Lib.hid (fun W'(k:Below W.heap.size W W')=>get_index (hX0.below k) y.key (by omega))
 rw [hg]at HG
 unfold GetPost at HG
 have HJ:=Lib.hid hj
 have HX:=Lib.hid h
 have HW:=Lib.hid hW
 have Hb0:=Lib.hid hb0
 have HBY:=Lib.hid BY
 have HBP:=Lib.hid BP
 have y0:=BY.cell 0
 have y1:=BY.cell 1
 have y2:=BY.cell 2
 have j2:=hJ0.cell 2
 have j0:=hJ0.cell 0
 have j1:=hJ0.cell 1
 have j3:=hJ0.cell 3
 unfold jobCells at j0 j1 j2 j3
 simp only [List.getElem?_cons_zero,List.getElem?_cons_succ]at y0 y1 y2 j0 j1 j2 j3
 unfold wrV
 rw [hgo]at hT ha⊢
 clear h hj hb0 hW BY BP hJ0 hX0 hg hgo
 go_enter Tryz.func52,Tryz.ntmps52
 go_wp2_with fail
 rw [←HW.out]
 have HFl:Hid (∀b,F b→b<w.heap.size):=Lib.hid (fun b hb=>HX.out.sys.lt b hb)
 have HK:Hid (∀W',Touch F W W'→Blk W' jb 124 (jobCells x d p stamp vs vd false en)∧Blk W' w.heap.size 94 [.string y.key,.string y.text,.bool false]∧Blk W' (w.heap.size+1) 126 [.int .u64 0,.int .u64 0]):=Lib.hid (fun W' k=>
  ⟨(HJ.out.box.below Hb0.out HJ.out.box.lt).touch k HJ.out.out,HBY.out.touch k (fun hf=>absurd (HFl.out _ hf) (by omega)),HBP.out.touch k (fun hf=>absurd (HFl.out _ hf) (by omega))⟩)
 have HK2:Hid (∀W',Touch F W W'→W'.cell? ⟨jb,2,none⟩=some (.pointer (some ⟨x,0,none⟩))∧W'.cell? ⟨w.heap.size,0,none⟩=some (.string y.key)):=Lib.hid (fun W' k=>⟨(HK.out W' k).1.cell 2,(HK.out W' k).2.1.cell 0⟩)
 clear HBY HBP
 go_region_held3(fun w'=>w'.cell? ⟨jb,2,none⟩=some (.pointer (some ⟨x,0,none⟩))∧w'.cell? ⟨w.heap.size,0,none⟩=some (.string y.key))
  (first| exact⟨j2,y0⟩| exact HK2.out _ (Touch.of_below hbG))
  ((first| (go_at_call 60;refine(HG.out _ ((Dr.drew _).below _)).mono ?_;rintro e w3⟨rfl,hbg⟩;have hbG:Below W.heap.size W w3:=((Dr.drew W).below _).trans hbg)))
 have HT3:=Lib.hid (Touch.of_below (F:=F) hbG)
 have HB3:=Lib.hid hbG
 obtain⟨K1,K2,K3⟩:=HK.out w3 HT3.out
 replace y0:=K2.cell 0
 replace y1:=K2.cell 1
 replace y2:=K2.cell 2
 replace j3:=K1.cell 3
 replace j0:=K1.cell 0
 replace j1:=K1.cell 1
 unfold jobCells at j0 j1 j3
 simp only [List.getElem?_cons_zero,List.getElem?_cons_succ]at y0 y1 y2 j0 j1 j3
 have l1:=K1.lt
 have l2:=K2.lt
 clear K1 K2 K3 hbg hbG j2 HG
 go_wp2_with fail
 go_region
 all_goals(
  obtain⟨W8,hW8⟩:∃W8,W8=(w3.alloc (.cells #[.int .u64 (stamp.toNat:Int),.int .u64 0,.bool false,.string y.text] 100)).drew:=⟨_,rfl⟩
  rw [←hW8]
  have hb8:Below w3.heap.size w3 W8:=by rw [hW8];exact((Below.refl _ _).alloc (Nat.le_refl _) _).drew
  have BR:Blk W8 w3.heap.size 100 [.int .u64 (stamp.toNat:Int),.int .u64 0,.bool false,.string y.text]:=by rw [hW8];exact heap_alloc_new _ _
  have hB8:Below W.heap.size W W8:=HB3.out.trans (hb8.mono HB3.out.size)
  have HB8:=Lib.hid hB8
  have HA:=Lib.hid (fun W'(k:Below W8.heap.size W8 W')=>chainAdd (((HX.out.sys.below Hb0.out).below hB8).below k) ⟨stamp,0,false,y.text⟩ (by show y.text.size≤_;omega) hT)
  unfold AddPost at HA
  rw [ha]at HA
  unfold rcV at HA
  simp only [show((0:UInt64).toNat:Int)=0 from rfl]at HA
  have hRf:¬F w3.heap.size:=fun hf=>absurd (HFl.out _ hf) (by have:=HB3.out.size;have:=Hb0.out.size;omega)
  have HK8:Hid (∀W',Touch F W8 W'→W'.cell? ⟨jb,0,none⟩=some (.pointer (some ⟨d,0,none⟩))∧W'.cell? ⟨jb,1,none⟩=some (.pointer (some ⟨p,0,none⟩))∧W'.cell? ⟨w3.heap.size,0,none⟩=some (.int .u64 (stamp.toNat:Int))∧W'.cell? ⟨w3.heap.size,1,none⟩=some (.int .u64 0)∧W'.cell? ⟨w3.heap.size,2,none⟩=some (.bool false)∧W'.cell? ⟨w3.heap.size,3,none⟩=some (.string y.text)):=Lib.hid (fun W' k=>
   ⟨(HK.out W' ((Touch.of_below hB8).trans k (fun _ e=> .inl e))).1.cell 0,(HK.out W' ((Touch.of_below hB8).trans k (fun _ e=> .inl e))).1.cell 1,(BR.touch k hRf).cell 0,(BR.touch k hRf).cell 1,(BR.touch k hRf).cell 2,(BR.touch k hRf).cell 3⟩)
  have hk8:=HK8.out W8 (Touch.refl _ _)
  clear hW8 hb8 BR hB8 j0 j1 j3 y0 y1 y2 l1 l2 hRf
  go_wp2_with fail
  go_region_held3(fun w'=>w'.cell? ⟨jb,0,none⟩=some (.pointer (some ⟨d,0,none⟩))∧w'.cell? ⟨jb,1,none⟩=some (.pointer (some ⟨p,0,none⟩))∧w'.cell? ⟨w3.heap.size,0,none⟩=some (.int .u64 (stamp.toNat:Int))∧w'.cell? ⟨w3.heap.size,1,none⟩=some (.int .u64 0)∧w'.cell? ⟨w3.heap.size,2,none⟩=some (.bool false)∧w'.cell? ⟨w3.heap.size,3,none⟩=some (.string y.text))
   (first| exact hk8| exact HK8.out _ ((Touch.of_below ((Dr.drew W8).below _)).trans hM5.touch (fun _ e=> .inl e)))
   ((first| (go_at_call 90;refine(HA.out _ ((Dr.drew W8).below _)).mono ?_;rintro e w5⟨rfl,F5,hS5,hM5⟩))))
 all_goals(
  have hM5':Moved F F5 W w5:=(Moved.of_below (HB8.out.trans (((Dr.drew W8).below _).mono HB8.out.size))).trans hM5
  have hX5:Ix w5 x d p L s1 F5:=(HX.out.below Hb0.out).move hS5 hM5'
  have HPu:=Lib.hid (fun W'(k:Below w5.heap.size w5 W')=>put_index (hX5.below k) y.key (by omega) place)
  rw [hp]at HPu
  unfold PutPost at HPu
  have hk5:=HK2.out w5 hM5'.touch
  have HM5:=Lib.hid hM5'
  clear hM5 hM5' hX5 hS5 hk8 HA HK8 HB8
  go_wp2_with fail
  go_region_held3(fun w'=>w'.cell? ⟨jb,2,none⟩=some (.pointer (some ⟨x,0,none⟩))∧w'.cell? ⟨w.heap.size,0,none⟩=some (.string y.key))
   (first| exact hk5| exact HK2.out _ (HM5.out.trans ((Moved.of_below ((Dr.drew w5).below _)).trans hM6)).touch)
   ((first| (go_at_call 91;refine(HPu.out _ ((Dr.drew w5).below _)).mono ?_;rintro e w6⟨rfl,F6,hX6,hM6⟩))))
 all_goals(
  have HM6:=Lib.hid (HM5.out.trans ((Moved.of_below ((Dr.drew w5).below _)).trans hM6))
  have HX6:=Lib.hid hX6
  have k3:=(HK.out w6 HM6.out.touch).2.2
  have p0:=k3.cell 0
  have p1:=k3.cell 1
  have f0:=k3.frozen 0
  have f1:=k3.frozen 1
  simp only [List.getElem?_cons_zero,List.getElem?_cons_succ]at p0 p1
  have HK3:=Lib.hid k3
  clear hX6 hM6 hk5 HPu k3
  go_wp2_with fail)
 all_goals(
  have K7:=(HK3.out.set_ 0 (.int .u64 0)).set_ 1 (.int .u64 (place.toNat:Int))
  have q0:=K7.cell 0
  have q1:=K7.cell 1
  simp only [List.set_cons_zero,List.set_cons_succ,List.getElem?_cons_zero,List.getElem?_cons_succ]at q0 q1
  have ht7:Touch (fun k=>k=w.heap.size+1) w6 ((w6.setCell ⟨w.heap.size+1,0,none⟩ (.int .u64 0)).setCell ⟨w.heap.size+1,1,none⟩ (.int .u64 (place.toNat:Int))):=
   ((Touch.refl (fun k=>k=w.heap.size+1) w6).setCell (p:=⟨w.heap.size+1,0,none⟩) (.inl rfl) _).setCell (p:=⟨w.heap.size+1,1,none⟩) (.inl rfl) _
  have hM:Moved F F6 w w6:=(Moved.of_below Hb0.out).trans HM6.out
  have hM7:=(hM.set (p:=⟨w.heap.size+1,0,none⟩) (.inr (Nat.le_succ _)) (.int .u64 0)).set (p:=⟨w.heap.size+1,1,none⟩) (.inr (Nat.le_succ _)) (.int .u64 (place.toNat:Int))
  have hnf:¬F6 (w.heap.size+1):=fun h6=>(HM6.out.own _ h6).elim (fun hf=>absurd (HFl.out _ hf) (by omega)) (fun hs=>absurd HK3.out.lt (by have:=(HK.out W (Touch.refl _ _)).2.2.lt;omega))
  have htab:=HX.out.sys.tabs.lt
  refine bodyPost_ret (v:= .tuple #[.agg #[.int .u64 0,.int .u64 (place.toNat:Int)],.int .i64 0]) (by simp [results,Tryz.results52,go_sem,q0,q1]) rfl ?_
  refine⟨rfl,F6,⟨HX6.out.sys.keep ht7 (fun b hb e=>hnf (e▸hb)) (by omega) (by omega),HX6.out.box.touch ht7 ?_,HX6.out.out⟩,⟨((HK.out w6 HM6.out.touch).1).touch ht7 ?_,hM.out HJ.out.box.lt HJ.out.out⟩,hM7⟩
  ·have:=HX.out.box.lt;show x≠_;omega
  ·have:=HJ.out.box.lt;show jb≠_;omega)
end
section
variable{w w':World}{x d p L:Nat}{s:St}{F:Nat→Prop}
set_option maxHeartbeats 8000000 in
set_option maxRecDepth 100000 in
theorem jobEnd(h:Ix w x d p L s F){jb:Nat}{stamp:UInt64}{en:Int}{n c c2:Nat}{A B:Option Addr}(hj:JobB w jb x d p stamp (.slice A n c) (.slice B n c2) false en F)(hnx:x≠jb)(hg:0≠jb∧1≠jb):
 Calls Tryz.prog 16 #[.pointer (some ⟨jb,0,none⟩)] w fun e w'=>e= .returned (.tuple #[.bool true,.int .i64 0])∧
  ∃F',Ix w' x d p L {s with ws:=put1 s.ws 8 stamp} F'∧JobB w' jb x d p stamp (.slice A n c) (.slice B n c2) true en F'∧Moved (fun b=>F b∨b=jb) (fun b=>F' b∨b=jb) w w':=by
 have hL2:=h.sys.pos.2.2.1.fits
 have hL3:=h.sys.pos.2.2.1.tfits
 have HN:=Lib.hid (jobNone jb _ hj.box)
 have j6:=hj.box.cell 6
 have j5:=hj.box.cell 5
 have j4:=hj.box.cell 4
 have j3:=hj.box.cell 3
 have j0:=hj.box.cell 0
 unfold jobCells at j0 j3 j4 j5 j6
 simp only [List.getElem?_cons_zero,List.getElem?_cons_succ]at j0 j3 j4 j5 j6
 have HX:=Lib.hid h
 have HJ:=Lib.hid hj
 have HP:=Lib.hid (fun W'(k:Below w.heap.size w W')=>sys_put (h.sys.below k) 8 stamp (by omega))
 rw [show((8*8:Nat):Int)=64 from rfl]at HP
 have HG:=Lib.hid hg
 have HNX:=Lib.hid hnx
 have HK:Hid (∀W',Touch F w W'→W'.cell? ⟨jb,0,none⟩=some (.pointer (some ⟨d,0,none⟩))∧W'.cell? ⟨jb,3,none⟩=some (.int .u64 (stamp.toNat:Int))):=Lib.hid (fun W' k=>⟨(hj.box.touch k hj.out).cell 0,(hj.box.touch k hj.out).cell 3⟩)
 have t1:decide ((n:Int)<(n:Int))=false:=decide_eq_false (by omega)
 have t2:decide (n<n)=false:=decide_eq_false (by omega)
 clear h hj hL2 hL3 hg hnx
 go_enter Tryz.func16,Tryz.ntmps16
 go_wp2_with fail
 refine HN.out.mono ?_
 rintro e w1⟨rfl,rfl⟩
 go_wp2_with fail
 go_region
 all_goals(go_wp2_with fail)
 all_goals(
  go_region_held3(fun w'=>w'.cell? ⟨jb,0,none⟩=some (.pointer (some ⟨d,0,none⟩))∧w'.cell? ⟨jb,3,none⟩=some (.int .u64 (stamp.toNat:Int)))
   (first| exact⟨j0,j3⟩| exact HK.out _ hM5.touch)
   ((first| (go_at_call 54;refine(HP.out _ (((Dr.drew w).trans (Dr.drew _)).below _)).mono ?_;rintro e w5⟨rfl,F5,hS5,hM5'⟩;have hM5:Moved F F5 w w5:=(Moved.of_below (((Dr.drew w).trans (Dr.drew _)).below _)).trans hM5'))))
 all_goals(
  have hX5:Ix w5 x d p L {s with ws:=put1 s.ws 8 stamp} F5:=HX.out.move hS5 hM5
  have hB5:=HJ.out.box.touch hM5.touch HJ.out.out
  have c6:=hB5.cell 6
  have f6:=hB5.frozen 6
  unfold jobCells at c6
  simp only [List.getElem?_cons_zero,List.getElem?_cons_succ]at c6
  have HX5:=Lib.hid hX5
  have HB5:=Lib.hid hB5
  have HM5:=Lib.hid hM5
  clear hX5 hB5 hM5 hM5' hS5 HP HK j0 j3 j4 j5 j6
  go_wp2_with fail
  go_ret2)
 all_goals(
  have hnf:¬F5 jb:=HM5.out.out HJ.out.box.lt HJ.out.out
  have ht7:Touch (fun k=>k=jb) w5 (w5.setCell ⟨jb,6,none⟩ (.bool true)):=(Touch.refl (fun k=>k=jb) w5).setCell (p:=⟨jb,6,none⟩) (.inl rfl) _
  refine⟨rfl,F5,⟨HX5.out.sys.keep ht7 (fun b hb e=>hnf (e▸hb)) HG.out.1 HG.out.2,HX5.out.box.touch ht7 HNX.out,HX5.out.out⟩,⟨by
   have:=HB5.out.set_ 6 (.bool true)
   unfold jobCells at this⊢
   simpa only [List.set_cons_zero,List.set_cons_succ]using this,hnf⟩,?_⟩
  exact⟨(HM5.out.touch.mono (fun _ hb=> .inl hb)).trans (ht7.mono (fun _ e=> .inr e)) (fun _ e=> .inl e),fun b hb=>by
   rcases hb with hb| hb
   ·exact(HM5.out.own b hb).imp .inl id
   ·exact .inl (.inr hb)⟩)
theorem Tryz.pastTyK:RowTyK Tryz.prog 122 126 (.agg #[.int .u64 0,.int .u64 0]) 2 16:=⟨Tryz.underlying122,by kernel_rfl,rfl⟩
set_option maxHeartbeats 8000000 in
set_option maxRecDepth 100000 in
theorem jobStep(h:Ix w x d p L s F){jb:Nat}{stamp:UInt64}{en:Int}{c:Nat}{A:Option Addr}(hj:JobB w jb x d p stamp (.slice A 1 c) (.slice none 0 0) false en F)(hnx:x≠jb)(hg:0≠jb∧1≠jb)
 (y:Wr)(hs:SetR w (fun b=>F b∨b=jb) (.slice A 1 c) [y])(hk:y.key.size≤16)(ht:y.text.size≤40)
 (hge:getP s y.key.data.toList=(0,7))(hgo:y.gone=false)(hT:∀off s1,reserveP s 1=some (off,s1)→(takeP {s1 with ws:=putWs s1.ws (off/8) (encRc ⟨stamp,0,y.gone,y.text⟩)} off).2=0)
 {s1 s2:St}{place:UInt64}(ha:addP s ⟨stamp,0,y.gone,y.text⟩=(s1,place,0))(hp:putK s1 y.key.data.toList place=(s2,0)):
 Calls Tryz.prog 16 #[.pointer (some ⟨jb,0,none⟩)] w fun e w'=>e= .returned (.tuple #[.bool false,.int .i64 0])∧
  ∃F' B c2,Ix w' x d p L s2 F'∧JobB w' jb x d p stamp (.slice A 1 c) (.slice B 1 c2) false en F'∧Moved (fun b=>F b∨b=jb) (fun b=>F' b∨b=jb) w w':=by
 have HN:=Lib.hid (jobNone jb _ hj.box)
 have j6:=hj.box.cell 6
 have j5:=hj.box.cell 5
 have j4:=hj.box.cell 4
 unfold jobCells at j4 j5 j6
 simp only [List.getElem?_cons_zero,List.getElem?_cons_succ]at j4 j5 j6
 have HX:=Lib.hid h
 have HJ:=Lib.hid hj
 obtain⟨b2,off,c2,hv2,hc2,hbw,hnG,q0,q1,q2⟩:=hs.at 0 (by simp)
 simp only [Value.slice.injEq]at hv2
 obtain⟨rfl, -,rfl⟩:=hv2
 simp only [List.getElem_cons_zero,Nat.zero_mul,Nat.add_zero]at q0 q1 q2
 have HNb:Hid (¬F b2):=Lib.hid (fun hf=>hnG (.inl hf))
 have HCl:Hid (∀W',Below w.heap.size w W'→W'.cell? ⟨jb,4,none⟩=some (.slice (some ⟨b2,off,none⟩) 1 c)∧W'.cell? ⟨jb,5,none⟩=some (.slice none 0 0)∧W'.cell? ⟨b2,off,none⟩=some (.string y.key)∧W'.cell? ⟨b2,off+1,none⟩=some (.string y.text)∧W'.cell? ⟨b2,off+2,none⟩=some (.bool y.gone)):=Lib.hid (fun W' k=>
  ⟨(hj.box.below k hj.box.lt).cell 4,(hj.box.below k hj.box.lt).cell 5,(World.cell?_of_block (w:=w) (k.block _ hbw)).trans q0,(World.cell?_of_block (w:=w) (k.block _ hbw)).trans q1,(World.cell?_of_block (w:=w) (k.block _ hbw)).trans q2⟩)
 have HWr:=Lib.hid (fun W'(k:Below w.heap.size w W')=>jobWrite (h.below k) (⟨hj.box.below k hj.box.lt,hj.out⟩:JobB W' jb x d p stamp _ _ false en F) y hk ht hge hgo hT ha hp)
 unfold wrV at HWr
 have HG:=Lib.hid hg
 have HNX:=Lib.hid hnx
 have hlt:=hj.box.lt
 have HGl:Hid (0≠w.heap.size∧1≠w.heap.size):=Lib.hid (by have:=h.sys.tabs.lt;omega)
 have HXl:Hid (x≠w.heap.size):=Lib.hid (by have:=h.box.lt;omega)
 have HFn:Hid (¬F w.heap.size):=Lib.hid (fun hf=>absurd (h.sys.lt _ hf) (by omega))
 clear h hj hs hge hgo hT ha hp hc2 hnG hg hnx
 go_enter Tryz.func16,Tryz.ntmps16
 go_wp2_with fail
 refine HN.out.mono ?_
 rintro e w1⟨rfl,rfl⟩
 go_wp2_with fail
 go_region
 all_goals(go_wp2_with fail)
 all_goals(
  go_region_with(go_at_call 52;refine(HWr.out _ (by first| exact((Dr.drew w).trans (Dr.drew _)).below _| exact(((Dr.drew w).trans (Dr.drew _)).below _).alloc (Nat.le_refl _) _| exact((((Dr.drew w).below _).alloc (Nat.le_refl _) _).drew))).mono ?_;rintro e w5⟨rfl,F5,hX5,hJ5,hM5⟩;try(have zb:Blk w5 w.heap.size 126 [.int .u64 0,.int .u64 0]:=(hM5.touch.block w.heap.size (by simp) HFn.out).trans (heap_alloc_new _ _);have z0:=zb.cell 0;have z1:=zb.cell 1;have zf0:=zb.frozen 0;have zf1:=zb.frozen 1;simp only [List.getElem?_cons_zero,List.getElem?_cons_succ]at z0 z1)))
 all_goals(
  first
  | (have hwb:Below w.heap.size w _:=((Dr.drew w).trans (Dr.drew _)).below w.heap.size
     have hM0:Moved F F5 w w5:=(Moved.of_below hwb).trans hM5
     obtain⟨W6,hW6⟩:∃W6,W6=w5.alloc (.cells #[.int .u64 0,.int .u64 (place.toNat:Int)] 126):=⟨_,rfl⟩
     rw [←hW6]
     have hb6:Below w5.heap.size w5 W6:=hW6▸(Below.refl _ _).alloc (Nat.le_refl _) _
     have P6:Blk W6 w5.heap.size 126 [.int .u64 0,.int .u64 (place.toNat:Int)]:=hW6▸heap_alloc_new _ _
     have X6:=hX5.below hb6
     have J6:JobB W6 jb x d p stamp (.slice (some ⟨b2,off,none⟩) 1 c) (.slice none 0 0) false en F5:=⟨hJ5.box.below hb6 hJ5.box.lt,hJ5.out⟩
     have M6:Moved F F5 w W6:=hM0.below hb6
     obtain⟨g,hg⟩:∃g,g=w5.heap.size:=⟨_,rfl⟩
     rw [←hg]at P6⊢
     clear hwb hM0 hW6 hb6 hg hX5 hJ5 hM5)
  | (have hwb:Below w.heap.size w _:=(((Below.refl w.heap.size w).alloc (Nat.le_refl _) (.cells #[.int .u64 0,.int .u64 0] 126)).drew).drew
     have hM0:Moved F F5 w w5:=(Moved.of_below hwb).trans hM5
     obtain⟨W6,hW6⟩:∃W6,W6=(w5.setCell ⟨w.heap.size,0,none⟩ (.int .u64 0)).setCell ⟨w.heap.size,1,none⟩ (.int .u64 (place.toNat:Int)):=⟨_,rfl⟩
     rw [←hW6]
     have t6:Touch (fun k=>k=w.heap.size) w5 W6:=hW6▸((Touch.refl (fun k=>k=w.heap.size) w5).setCell (p:=⟨w.heap.size,0,none⟩) (.inl rfl) _).setCell (p:=⟨w.heap.size,1,none⟩) (.inl rfl) _
     have P6:Blk W6 w.heap.size 126 [.int .u64 0,.int .u64 (place.toNat:Int)]:=by rw [hW6];exact(zb.set_ 0 (.int .u64 0)).set_ 1 (.int .u64 (place.toNat:Int))
     have hnf:¬F5 w.heap.size:=fun h6=>(hM5.own _ h6).elim HFn.out (fun hs=>absurd hs (by simp))
     have X6:Ix W6 x d p L s2 F5:=⟨hX5.sys.keep t6 (fun b hb e=>hnf (e▸hb)) HGl.out.1 HGl.out.2,hX5.box.touch t6 HXl.out,hX5.out⟩
     have J6:JobB W6 jb x d p stamp (.slice (some ⟨b2,off,none⟩) 1 c) (.slice none 0 0) false en F5:=⟨hJ5.box.touch t6 (by have:=hlt;omega),hJ5.out⟩
     have M6:Moved F F5 w W6:=by rw [hW6];exact(hM0.set (p:=⟨w.heap.size,0,none⟩) (.inr (Nat.le_refl _)) _).set (p:=⟨w.heap.size,1,none⟩) (.inr (Nat.le_refl _)) _
     obtain⟨g,hg⟩:∃g,g=w.heap.size:=⟨_,rfl⟩
     rw [←hg]at P6⊢
     clear hwb hM0 hW6 t6 hnf hg hX5 hJ5 hM5 zb z0 z1 zf0 zf1))
 all_goals(
  have p0:=P6.cell 0
  have p1:=P6.cell 1
  have l5:=J6.box.cell 5
  have k5:=J6.box.frozen 5
  unfold jobCells at l5
  simp only [List.getElem?_cons_zero,List.getElem?_cons_succ]at p0 p1 l5
  have HX6:=Lib.hid X6
  have HJ6:=Lib.hid J6
  have HM6:=Lib.hid M6
  have HP6:=Lib.hid P6
  have hjl:=J6.box.lt
  have hgl:=P6.lt
  clear X6 J6 M6 P6 j4 j5 j6 q0 q1 q2 HWr HCl HN HFn
  go_wp2_with fail)
 all_goals(
  go_region_law(refine step_app_rows (.tmp 53) (.tmp 55) 122 rfl Tryz.pastTyK (by decide) (by rfl) W6.heap.size (.slice none 0 0) 0 [] rfl ⟨by simp,.inl ⟨rfl,rfl⟩⟩ (some ⟨W6.heap.size,0,none⟩) 1 1 [.int .u64 0,.int .u64 (place.toNat:Int)] rfl (Blk.rd (xs:=[.int .u64 0,.int .u64 (place.toNat:Int)]) (e:=126) (heap_alloc_new _ _)) (by intro u hu;simp at hu;rcases hu with rfl| rfl<;>rfl) (by omega) (by decide) (by simp) ?_;intro v9 w9 hO9 hB9 hK9;obtain⟨A9,c9,hv9,_,_⟩:=own_rowk hO9;subst hv9;have hb9:Below W6.heap.size W6 w9:=(by first| exact((((Dr.drew W6).below _).alloc (Nat.le_refl _) _)).trans hB9| exact(((Below.refl _ W6).alloc (Nat.le_refl _) _).drew).trans hB9);have n5:=(HJ6.out.box.below hb9 hjl).cell 5;have m5:=(HJ6.out.box.below hb9 hjl).frozen 5;unfold jobCells at n5;simp only [List.getElem?_cons_zero,List.getElem?_cons_succ]at n5))
 all_goals(
  have HB9:=Lib.hid hb9
  clear p0 p1 l5 k5 hO9 hB9 hK9
  go_wp2_with fail
  go_ret2
  have hnf:=HJ6.out.out
  have X9:=HX6.out.below HB9.out
  have t9:Touch (fun k=>k=jb) w9 (w9.setCell ⟨jb,5,none⟩ (.slice A9 1 c9)):=(Touch.refl (fun k=>k=jb) w9).setCell (p:=⟨jb,5,none⟩) (.inl rfl) _
  have tA:Touch (fun b=>F b∨b=jb) w w9:=(HM6.out.touch.mono (fun _ hb=> .inl hb)).trans (Touch.of_below (F:=fun b=>F b∨b=jb) HB9.out) (fun _ e=> .inl e)
  refine⟨rfl,F5,A9,c9,⟨X9.sys.keep t9 (fun b hb e=>hnf (e▸hb)) HG.out.1 HG.out.2,X9.box.touch t9 HNX.out,X9.out⟩,⟨(HJ6.out.box.below HB9.out hjl).set_ 5 (.slice A9 1 c9),hnf⟩,tA.trans (t9.mono (fun _ e=> .inr e)) (fun _ e=> .inl e),fun b hb=> ?_⟩
  rcases hb with hb| hb
  ·exact(HM6.out.own b hb).imp .inl id
  ·exact .inl (.inr hb))
end
def engCells(d p x tt:Nat)(slot:UInt64)(jv:Value)(id:Int)(sv:Value)(st:UInt64):List Value:=
 [.pointer (some ⟨d,0,none⟩),.pointer (some ⟨p,0,none⟩),.pointer (some ⟨x,0,none⟩),.pointer (some ⟨tt,0,none⟩),.int .u64 (slot.toNat:Int),jv,.int .i64 id,sv,.int .u64 (st.toNat:Int)]
structure EngAt(w:World)(g d p x tt bk L:Nat)(s:St)(b:Bk)(t:Tb)(F J:Nat→Prop)(slot:UInt64)(jv:Value)(id:Int)(sv:Value)(st:UInt64):Prop where
 ix:Ix w x d p L s F
 tb:TbAt w (fun k=>F k∨J k) tt bk b t
 jg:J g
 jl:∀k,J k→k<w.heap.size
 box:Blk w g 58 (engCells d p x tt slot jv id sv st)
 fg:¬F g
 g1:g≠tt
 g2:g≠bk
 g3:g≠b.nt
 g4:g≠x
 x1:x≠bk
 x2:x≠b.nt
 c1:bk≠0∧bk≠1
 c2:b.nt≠0∧b.nt≠1
 c3:g≠0∧g≠1
section
variable{w w':World}{g d p x tt bk L:Nat}{s:St}{b:Bk}{t:Tb}{F J:Nat→Prop}{slot:UInt64}{jv:Value}{id:Int}{sv:Value}{st:UInt64}
theorem EngAt.below(h:EngAt w g d p x tt bk L s b t F J slot jv id sv st)(k:Below w.heap.size w w'):EngAt w' g d p x tt bk L s b t F J slot jv id sv st:=
 ⟨h.ix.below k,h.tb.below k,h.jg,fun j hj=>Nat.lt_of_lt_of_le (h.jl j hj) k.size,h.box.below k h.box.lt,h.fg,h.g1,h.g2,h.g3,h.g4,h.x1,h.x2,h.c1,h.c2,h.c3⟩
theorem EngAt.book(h:EngAt w g d p x tt bk L s b t F J slot jv id sv st){b':Bk}{t':Tb}(hb:TbAt w' (fun k=>F k∨J k) tt bk b' t')(hn:b'.nt=b.nt)(k:Touch (fun k=>k=bk) w w'):EngAt w' g d p x tt bk L s b' t' F J slot jv id sv st:=
 ⟨⟨h.ix.sys.keep k (fun c hc e=>h.tb.fb (e▸.inl hc)) (fun e=>h.c1.1 e.symm) (fun e=>h.c1.2 e.symm),h.ix.box.touch k h.x1,h.ix.out⟩,hb,h.jg,fun j hj=>Nat.lt_of_lt_of_le (h.jl j hj) k.size,h.box.touch k h.g2,h.fg,h.g1,h.g2,by rw [hn];exact h.g3,h.g4,h.x1,by rw [hn];exact h.x2,h.c1,by rw [hn];exact h.c2,h.c3⟩
theorem egNone(h:EngAt w g d p x tt bk L s b t F J slot jv id sv st):Calls Tryz.prog 55 #[.pointer (some ⟨g,0,none⟩)] w fun e w'=>e= .returned (.bool false)∧w=w':=by
 have c:=h.box.cell 0
 unfold engCells at c
 simp only [List.getElem?_cons_zero]at c
 clear h
 go_enter Tryz.func55,Tryz.ntmps55
 go_wp2
 go_ret
 exact⟨rfl,rfl⟩
theorem egSlot(h:EngAt w g d p x tt bk L s b t F J slot jv id sv st):Calls Tryz.prog 29 #[.pointer (some ⟨g,0,none⟩)] w fun e w'=>e= .returned (.int .u64 (slot.toNat:Int))∧w=w':=by
 have c:=h.box.cell 4
 unfold engCells at c
 simp only [List.getElem?_cons_zero,List.getElem?_cons_succ]at c
 have HN:=Lib.hid (egNone h)
 clear h
 go_enter Tryz.func29,Tryz.ntmps29
 go_wp2_with fail
 refine HN.out.mono ?_
 rintro e w1⟨rfl,rfl⟩
 go_wp2_with fail
 go_ret
 exact⟨rfl,rfl⟩
theorem egMay(h:EngAt w g d p x tt bk L s b t F J slot jv id sv st)(i:Int):Calls Tryz.prog 57 #[.pointer (some ⟨g,0,none⟩),.int .i64 i] w fun e w'=>e= .returned (.int .i64 (if hasW8 t.wt i=true then 0 else 2))∧w=w':=by
 have c:=h.box.cell 3
 unfold engCells at c
 simp only [List.getElem?_cons_zero,List.getElem?_cons_succ]at c
 have HN:=Lib.hid (egNone h)
 have HA:=Lib.hid (tabAt h.tb i)
 unfold atV at HA
 clear h
 cases hh:hasW8 t.wt i with
 | false=>
   rw [hh,if_neg Bool.false_ne_true]at HA
   go_enter Tryz.func57,Tryz.ntmps57
   go_wp2_with fail
   refine HN.out.mono ?_
   rintro e w1⟨rfl,rfl⟩
   go_wp2_with fail
   refine HA.out.mono ?_
   rintro e w1⟨rfl,rfl⟩
   go_wp2_with fail
   go_ret
   exact⟨rfl,rfl⟩
 | true=>
   rw [hh,if_pos rfl]at HA
   go_enter Tryz.func57,Tryz.ntmps57
   go_wp2_with fail
   refine HN.out.mono ?_
   rintro e w1⟨rfl,rfl⟩
   go_wp2_with fail
   refine HA.out.mono ?_
   rintro e w1⟨rfl,rfl⟩
   go_wp2_with fail
   go_ret
   exact⟨rfl,rfl⟩
theorem egIdle(h:EngAt w g d p x tt bk L s b t F J slot .nilIface id sv st):Calls Tryz.prog 66 #[.pointer (some ⟨g,0,none⟩)] w fun e w'=>e= .returned (.bool false)∧w=w':=by
 have c:=h.box.cell 5
 unfold engCells at c
 simp only [List.getElem?_cons_zero,List.getElem?_cons_succ]at c
 clear h
 go_enter Tryz.func66,Tryz.ntmps66
 go_wp2_with fail
 go_ret
 exact⟨rfl,rfl⟩
end
section
variable{w w':World}{g d p x tt bk L:Nat}{s:St}{b:Bk}{t:Tb}{F J:Nat→Prop}{slot:UInt64}{jv:Value}{id:Int}{sv:Value}{st:UInt64}
theorem egFree(h:EngAt w g d p x tt bk L s b t F J slot .nilIface id sv st)(i:Int):Calls Tryz.prog 74 #[.pointer (some ⟨g,0,none⟩),.int .i64 i] w fun e w'=>e= .returned (.int .i64 (if hasW8 t.wt i=true then 0 else 2))∧w=w':=by
 have HM:=Lib.hid (egMay h i)
 have HI:=Lib.hid (egIdle h)
 clear h
 cases hh:hasW8 t.wt i with
 | false=>
   rw [hh,if_neg Bool.false_ne_true]at HM
   go_enter Tryz.func74,Tryz.ntmps74
   go_wp2_with fail
   refine HM.out.mono ?_
   rintro e w1⟨rfl,rfl⟩
   go_wp2_with fail
   go_ret
   exact⟨rfl,rfl⟩
 | true=>
   rw [hh,if_pos rfl]at HM
   go_enter Tryz.func74,Tryz.ntmps74
   go_wp2_with fail
   refine HM.out.mono ?_
   rintro e w1⟨rfl,rfl⟩
   go_wp2_with fail
   refine HI.out.mono ?_
   rintro e w1⟨rfl,rfl⟩
   go_wp2_with fail
   go_ret
   exact⟨rfl,rfl⟩
set_option maxHeartbeats 4000000 in
set_option maxRecDepth 100000 in
theorem egBegin(h:EngAt w g d p x tt bk L s b t F J slot jv id sv st){i:Nat}(ho:openW t.wt=some i)(hm:b.many<16):
 Calls Tryz.prog 19 #[.pointer (some ⟨g,0,none⟩)] w fun e w'=>e= .returned (.tuple #[.int .i64 (i:Int),.int .i64 0])∧
  ∃b',b'.many=b.many+1∧b'.nt=b.nt∧b'.st i= .slice none 0 0∧EngAt w' g d p x tt bk L s b' (beginT t i slot) F J slot jv id sv st∧Touch (fun k=>k=bk) w w':=by
 have c3:=h.box.cell 3
 have c4:=h.box.cell 4
 unfold engCells at c3 c4
 simp only [List.getElem?_cons_zero,List.getElem?_cons_succ]at c3 c4
 have HN:=Lib.hid (egNone h)
 have HB:=Lib.hid (fun W(k:Below w.heap.size w W)=>tabBegin (h.tb.below k) ho hm slot)
 have HK:Hid (∀W',Touch (fun k=>k=bk) w W'→W'.cell? ⟨g,3,none⟩=some (.pointer (some ⟨tt,0,none⟩))∧W'.cell? ⟨g,4,none⟩=some (.int .u64 (slot.toNat:Int))):=Lib.hid (fun W' k=>⟨(h.box.touch k h.g2).cell 3,(h.box.touch k h.g2).cell 4⟩)
 have HE:=Lib.hid h
 clear h ho hm
 go_enter Tryz.func19,Tryz.ntmps19
 go_wp2_with fail
 refine HN.out.mono ?_
 rintro e w1⟨rfl,rfl⟩
 go_wp2_with fail
 go_region_held3(fun w'=>w'.cell? ⟨g,3,none⟩=some (.pointer (some ⟨tt,0,none⟩))∧w'.cell? ⟨g,4,none⟩=some (.int .u64 (slot.toNat:Int)))
  (first| exact⟨c3,c4⟩| exact HK.out _ ((Touch.of_below ((Dr.drew w).below _)).trans ht2 (fun _ e=> .inl e)))
  ((first| (go_at_call 56;refine(HB.out _ ((Dr.drew w).below _)).mono ?_;rintro e w2⟨rfl,b2,hm2,hn2,hs2,hb2,ht2⟩)))
 all_goals(go_wp2_with fail)
 all_goals(go_ret2)
 all_goals(
  have k2:Touch (fun k=>k=bk) w w2:=(Touch.of_below ((Dr.drew w).below _)).trans ht2 (fun _ e=> .inl e)
  exact⟨rfl,b2,hm2,hn2,hs2,HE.out.book hb2 hn2 k2,k2⟩)
end
section
variable{w w':World}{g d p x tt bk L:Nat}{s:St}{b:Bk}{t:Tb}{F J:Nat→Prop}{slot:UInt64}{jv:Value}{id:Int}{sv:Value}{st:UInt64}
set_option maxHeartbeats 4000000 in
set_option maxRecDepth 100000 in
theorem egWrite(h:EngAt w g d p x tt bk L s b t F J slot .nilIface id sv st){i:Nat}(hi:i<8)(ho:t.wt.ops i=true)(hs:b.st i= .slice none 0 0)(y:Wr)(hy:rightWr y=true):
 Calls Tryz.prog 72 #[.pointer (some ⟨g,0,none⟩),.int .i64 (i:Int),wrV y] w fun e w'=>e= .returned (.int .i64 0)∧
  ∃b',b'.many=b.many∧b'.nt=b.nt∧EngAt w' g d p x tt bk L s b' (writeT t i [y]) F J slot .nilIface id sv st∧Touch (fun k=>k=bk) w w':=by
 obtain⟨W,hW⟩:∃W,W=w.alloc (.cells #[.string y.key,.string y.text,.bool y.gone] 94):=⟨_,rfl⟩
 have B:Blk W w.heap.size 94 [.string y.key,.string y.text,.bool y.gone]:=hW▸heap_alloc_new _ _
 have hb:Below w.heap.size w W:=hW▸(Below.refl _ _).alloc (Nat.le_refl _) _
 have h1:=h.below hb
 have HF:=Lib.hid (egFree h1 (i:Int))
 have hh:hasW8 t.wt (i:Int)=true:=by
  unfold hasW8
  simp only [Bool.and_eq_true,decide_eq_true_eq]
  exact⟨by omega,by omega,ho⟩
 rw [if_pos hh]at HF
 have HTw:=Lib.hid (fun W'(k:Below W.heap.size W W')=>tabWrite (h1.tb.below k) (fun c hc=>hc.elim ((h1.ix.below k).sys.lt c) (fun hj=>Nat.lt_of_lt_of_le (h1.jl c hj) k.size)) hi ho y [y] (fun W2 _=>by rw [hs];exact wsetPut0 y hy W2))
 unfold wrV at HTw⊢
 have c3:=h1.box.cell 3
 unfold engCells at c3
 simp only [List.getElem?_cons_zero,List.getElem?_cons_succ]at c3
 have y0:=B.cell 0
 have y1:=B.cell 1
 have y2:=B.cell 2
 simp only [List.getElem?_cons_zero,List.getElem?_cons_succ]at y0 y1 y2
 have HK:Hid (∀W',Touch (fun k=>k=bk) W W'→W'.cell? ⟨g,3,none⟩=some (.pointer (some ⟨tt,0,none⟩))∧W'.cell? ⟨w.heap.size,0,none⟩=some (.string y.key)∧W'.cell? ⟨w.heap.size,1,none⟩=some (.string y.text)∧W'.cell? ⟨w.heap.size,2,none⟩=some (.bool y.gone)):=Lib.hid (fun W' k=>
  have hne:¬w.heap.size=bk:=by have:=h.tb.book.lt;omega
  ⟨(h1.box.touch k h.g2).cell 3,(B.touch k hne).cell 0,(B.touch k hne).cell 1,(B.touch k hne).cell 2⟩)
 have HE:=Lib.hid h1
 have HW:=Lib.hid hW
 have Hb:=Lib.hid hb
 clear h h1 hb hW B hs hy hh
 go_enter Tryz.func72,Tryz.ntmps72
 go_wp2_with fail
 rw [←HW.out]
 refine HF.out.mono ?_
 rintro e w1⟨rfl,rfl⟩
 go_wp2_with fail
 go_region_held3(fun w'=>w'.cell? ⟨g,3,none⟩=some (.pointer (some ⟨tt,0,none⟩))∧w'.cell? ⟨w.heap.size,0,none⟩=some (.string y.key)∧w'.cell? ⟨w.heap.size,1,none⟩=some (.string y.text)∧w'.cell? ⟨w.heap.size,2,none⟩=some (.bool y.gone))
  (first| exact⟨c3,y0,y1,y2⟩| exact HK.out _ ((Touch.of_below ((Dr.drew W).below _)).trans ht2 (fun _ e=> .inl e)))
  ((first| (go_at_call 116;refine(HTw.out _ ((Dr.drew W).below _)).mono ?_;rintro e w2⟨rfl,b2,hm2,hn2,hb2,ht2⟩)))
 all_goals(go_wp2_with fail)
 all_goals(go_ret)
 all_goals(
  have k2:Touch (fun k=>k=bk) W w2:=(Touch.of_below ((Dr.drew W).below _)).trans ht2 (fun _ e=> .inl e)
  exact⟨rfl,b2,hm2,hn2,HE.out.book hb2 hn2 k2,(Touch.of_below Hb.out).trans k2 (fun _ e=> .inl e)⟩)
theorem egPut(h:EngAt w g d p x tt bk L s b t F J slot .nilIface id sv st){i:Nat}(hi:i<8)(ho:t.wt.ops i=true)(hs:b.st i= .slice none 0 0)(ky tx:ByteArray)(hy:rightWr ⟨ky,tx,false⟩=true):
 Calls Tryz.prog 25 #[.pointer (some ⟨g,0,none⟩),.int .i64 (i:Int),.string ky,.string tx] w fun e w'=>e= .returned (.int .i64 0)∧
  ∃b',b'.many=b.many∧b'.nt=b.nt∧EngAt w' g d p x tt bk L s b' (writeT t i [⟨ky,tx,false⟩]) F J slot .nilIface id sv st∧Touch (fun k=>k=bk) w w':=by
 have HW:=Lib.hid (egWrite h hi ho hs ⟨ky,tx,false⟩ hy)
 unfold wrV at HW
 clear h ho hs hy
 go_enter Tryz.func25,Tryz.ntmps25
 go_wp2_with fail
 refine HW.out.mono ?_
 rintro e w1⟨rfl,hp⟩
 have HP:=Lib.hid hp
 clear hp HW
 go_wp2_with fail
 go_ret
 exact⟨rfl,HP.out⟩
end
section
variable{w w':World}{g d p x tt bk L:Nat}{s:St}{b:Bk}{t:Tb}{F J:Nat→Prop}{slot:UInt64}{jv:Value}{id:Int}{sv:Value}{st:UInt64}
def EF(F J:Nat→Prop)(bk nt jb:Nat)(k:Nat):Prop:=F k∨J k∨k=bk∨k=nt∨k=jb
set_option maxHeartbeats 8000000 in
set_option maxRecDepth 100000 in
theorem egCommit(h:EngAt w g d p x tt bk L s b t F J slot .nilIface id sv st){i:Nat}(hi:i<8)(ho:t.wt.ops i=true){y:Wr}(hs:t.sets i=[y])(hy:rightWr y=true)(hcl:clashS t.noted [y] (t.wt.ats i)=false)
 (h1:slot.toNat<60000)(h8:(s.ws 8).toNat≤slot.toNat):
 Calls Tryz.prog 27 #[.pointer (some ⟨g,0,none⟩),.int .i64 (i:Int)] w fun e w'=>e= .returned (.int .i64 0)∧
  ∃jb vs sv',w.heap.size≤jb∧EngAt w' g d p x tt bk L s b t F (fun k=>J k∨k=jb) slot (.iface 41 (.pointer (some ⟨jb,0,none⟩))) (i:Int) sv' (slot+1)∧JobB w' jb x d p (slot+1) vs (.slice none 0 0) false 0 F∧
   SetR w' (EF F J bk b.nt jb) vs [y]∧SetR w' (EF F J bk b.nt jb) sv' [y]∧Touch (fun k=>k=g) w w':=by
 have hs1:(slot+1).toNat=slot.toNat+1:=by rw [UInt64.toNat_add];show(slot.toNat+1)%18446744073709551616=_;omega
 have hw1:IntKind.u64.wrap ((slot.toNat:Int)+1)=((slot+1).toNat:Int):=by rw [hs1,IntKind.wrap_u64];omega
 have HMd:Hid (((slot.toNat:Int)+1)%18446744073709551616=((slot+1).toNat:Int)):=Lib.hid (by rw [hs1];omega)
 have hh:hasW8 t.wt (i:Int)=true:=by
  unfold hasW8
  simp only [Bool.and_eq_true,decide_eq_true_eq]
  exact⟨by omega,by omega,ho⟩
 have HM:=Lib.hid (egMay h (i:Int))
 rw [if_pos hh]at HM
 have HI:=Lib.hid (egIdle h)
 have HS:=Lib.hid (tabSet h.tb hi ho (by rw [hs];simp))
 rw [hs]at HS
 have HC:=Lib.hid (fun W(k:Below w.heap.size w W)=>tabClash (h.tb.below k) hi ho (by rw [hs];simp))
 rw [hs,hcl]at HC
 have HN:=Lib.hid (fun W(k:Below w.heap.size w W){v:Value}(hv:SetR W (fun _=>False) v [y])=>commitNew1 (x:=x) (h.ix.below k).sys hv hy (slot+1) (by rw [hs1];omega) (by rw [hs1];omega))
 have HE:=Lib.hid h
 have HCl:Hid (∀W,Below w.heap.size w W→Blk W g 58 (engCells d p x tt slot .nilIface id sv st)):=Lib.hid (fun W k=>h.box.below k h.box.lt)
 have c3:=h.box.cell 3
 unfold engCells at c3
 simp only [List.getElem?_cons_zero,List.getElem?_cons_succ]at c3
 have t1:decide ((60000:Int)≤(slot.toNat:Int))=false:=decide_eq_false (by omega)
 have t2:decide (60000≤slot.toNat)=false:=decide_eq_false (by omega)
 have HFl:Hid (∀k,F k∨J k∨k=bk∨k=b.nt→k<w.heap.size):=Lib.hid (fun k hk=>by
  rcases hk with hk| hk| rfl| rfl
  ·exact h.ix.sys.lt k hk
  ·exact h.jl k hk
  ·exact h.tb.book.lt
  ·exact h.tb.map.lt)
 clear h hs hy hcl h1 h8 hh hs1
 go_enter Tryz.func27,Tryz.ntmps27
 go_wp2_with fail
 refine HM.out.mono ?_
 rintro e w1⟨rfl,rfl⟩
 go_wp2_with fail
 refine HI.out.mono ?_
 rintro e w1⟨rfl,rfl⟩
 go_wp2_with fail
 refine HS.out.mono ?_
 rintro e w1⟨u,rfl,hO1,hb1⟩
 obtain⟨A1,c1,hu1,_,_⟩:=own_rowk hO1
 subst hu1
 have HO1:=Lib.hid hO1
 have HB1:=Lib.hid hb1
 replace c3:=(HCl.out _ hb1).cell 3
 unfold engCells at c3
 simp only [List.getElem?_cons_zero,List.getElem?_cons_succ]at c3
 clear hO1 hb1 HS HM HI
 go_wp2_with fail
 refine(HC.out _ HB1.out).mono ?_
 rintro e w2⟨rfl,hb2⟩
 have HB12:=Lib.hid hb2
 have HB2:=Lib.hid (HB1.out.trans (hb2.mono HB1.out.size))
 have k2:=HCl.out _ HB2.out
 have d0:=k2.cell 0
 have d1:=k2.cell 1
 have d2:=k2.cell 2
 have d4:=k2.cell 4
 unfold engCells at d0 d1 d2 d4
 simp only [List.getElem?_cons_zero,List.getElem?_cons_succ]at d0 d1 d2 d4
 have HK:Hid (∀W,Below w2.heap.size w2 W→W.cell? ⟨g,0,none⟩=some (.pointer (some ⟨d,0,none⟩))∧W.cell? ⟨g,1,none⟩=some (.pointer (some ⟨p,0,none⟩))∧W.cell? ⟨g,2,none⟩=some (.pointer (some ⟨x,0,none⟩))∧W.cell? ⟨g,4,none⟩=some (.int .u64 (slot.toNat:Int))):=Lib.hid (fun W k=>
  ⟨(k2.below k k2.lt).cell 0,(k2.below k k2.lt).cell 1,(k2.below k k2.lt).cell 2,(k2.below k k2.lt).cell 4⟩)
 have HNw:=Lib.hid (HN.out _ (HB2.out.trans (((Dr.drew w2).below _).mono HB2.out.size)) (v:= .slice A1 1 c1) (((own_setR HO1.out rfl (fun _ _ _ hf=>hf):SetR w1 (fun _=>False) (.slice A1 1 c1) [y]).below HB12.out).below ((Dr.drew w2).below _)))
 clear hb2 k2 c3 HC HN
 go_wp2_with fail
 go_region_held3(fun w'=>w'.cell? ⟨g,0,none⟩=some (.pointer (some ⟨d,0,none⟩))∧w'.cell? ⟨g,1,none⟩=some (.pointer (some ⟨p,0,none⟩))∧w'.cell? ⟨g,2,none⟩=some (.pointer (some ⟨x,0,none⟩))∧w'.cell? ⟨g,4,none⟩=some (.int .u64 (slot.toNat:Int)))
  (first| exact⟨d0,d1,d2,d4⟩| exact HK.out _ (((Dr.drew w2).below _).trans hb3))
  ((first| (go_at_call 14;refine HNw.out.mono ?_;rintro e w3⟨jb,vs,rfl,hj0,hJ3,hV3,hb3⟩)))
 all_goals(
  have hb23:Below w2.heap.size w2 w3:=((Dr.drew w2).below _).trans hb3
  have hb03:Below w.heap.size w w3:=HB2.out.trans (hb23.mono HB2.out.size)
  have hjw:w2.heap.size≤jb:=hj0
  have k3:=HCl.out _ hb03
  have e4:=k3.cell 4
  have e5:=k3.cell 5
  have e6:=k3.cell 6
  have e7:=k3.cell 7
  have e8:=k3.cell 8
  have f5:=k3.frozen 5
  have f6:=k3.frozen 6
  have f7:=k3.frozen 7
  have f8:=k3.frozen 8
  unfold engCells at e4 e5 e6 e7 e8
  simp only [List.getElem?_cons_zero,List.getElem?_cons_succ]at e4 e5 e6 e7 e8
  have HB3:=Lib.hid hb03
  have HB23:=Lib.hid hb23
  have HJ3:=Lib.hid hJ3
  have HV3:=Lib.hid hV3
  have HJw:=Lib.hid hjw
  have HK3:=Lib.hid k3
  clear hb3 hb23 hb03 hJ3 hV3 hj0 hjw k3 d0 d1 d2 d4
  go_wp2_with fail
  go_ret)
 all_goals(
  have s12:=HB12.out.size
  have s1:=HB1.out.size
  have hjw:=HJw.out
  have hgl:=HE.out.box.lt
  obtain⟨W,hW⟩:∃W,W=(((w3.setCell ⟨g,5,none⟩ (.iface 41 (.pointer (some ⟨jb,0,none⟩)))).setCell ⟨g,6,none⟩ (.int .i64 (i:Int))).setCell ⟨g,7,none⟩ (.slice A1 1 c1)).setCell ⟨g,8,none⟩ (.int .u64 ((slot+1).toNat:Int)):=⟨_,rfl⟩
  have tg:Touch (fun k=>k=g) w3 W:=by rw [hW];exact((((Touch.refl (fun k=>k=g) w3).setCell (p:=⟨g,5,none⟩) (.inl rfl) _).setCell (p:=⟨g,6,none⟩) (.inl rfl) _).setCell (p:=⟨g,7,none⟩) (.inl rfl) _).setCell (p:=⟨g,8,none⟩) (.inl rfl) _
  have bg:Blk W g 58 (engCells d p x tt slot (.iface 41 (.pointer (some ⟨jb,0,none⟩))) (i:Int) (.slice A1 1 c1) (slot+1)):=by rw [hW];exact(((HK3.out.set_ 5 _).set_ 6 _).set_ 7 _).set_ 8 _
  have E3:=HE.out.below HB3.out
  have hMG:Moved (EF F J bk b.nt jb) (EF F J bk b.nt jb) w3 W:=⟨tg.mono (fun k e=> .inr (.inl (by rw [e];exact HE.out.jg))),fun _ hk=> .inl hk⟩
  have hsv:SetR w1 (EF F J bk b.nt jb) (.slice A1 1 c1) [y]:=own_setR HO1.out rfl (fun k hk hlt hG=>by
   rcases hG with hG| hG| hG| hG| hG
   ·exact absurd (HFl.out k (.inl hG)) (by omega)
   ·exact absurd (HFl.out k (.inr (.inl hG))) (by omega)
   ·exact absurd (HFl.out k (.inr (.inr (.inl hG)))) (by omega)
   ·exact absurd (HFl.out k (.inr (.inr (.inr hG)))) (by omega)
   ·omega)
  have hvs:SetR w3 (EF F J bk b.nt jb) vs [y]:=HV3.out _ (fun k hk hlt hG=>by
   have hk2:w2.heap.size≤k:=hk
   rcases hG with hG| hG| hG| hG| hG
   ·exact absurd (HFl.out k (.inl hG)) (by omega)
   ·exact absurd (HFl.out k (.inr (.inl hG))) (by omega)
   ·exact absurd (HFl.out k (.inr (.inr (.inl hG)))) (by omega)
   ·exact absurd (HFl.out k (.inr (.inr (.inr hG)))) (by omega)
   ·omega)
  have hjF:¬F jb:=fun hf=>absurd (HFl.out jb (.inl hf)) (by omega)
  have hMT:Moved (fun k=>F k∨J k) (fun k=>F k∨(J k∨k=jb)) w W:=⟨(Touch.of_below HB3.out).trans (tg.mono (fun k e=>Or.inr (by rw [e];exact HE.out.jg))) (fun _ e=> .inl e),fun k hk=>by
   rcases hk with hk| hk| hk
   ·exact .inl (.inl hk)
   ·exact .inl (.inr hk)
   ·exact .inr (by rw [hk];omega)⟩
  have hjg:jb≠g:=by omega
  rw [HMd.out,←hW]
  refine⟨rfl,jb,vs,.slice A1 1 c1,by omega,⟨⟨E3.ix.sys.keep tg (fun c hc e=>HE.out.fg (e▸hc)) (fun e=>HE.out.c3.1 e.symm) (fun e=>HE.out.c3.2 e.symm),E3.ix.box.touch tg (fun e=>HE.out.g4 e.symm),E3.ix.out⟩,HE.out.tb.moved hMT,.inl HE.out.jg,?_,bg,HE.out.fg,HE.out.g1,HE.out.g2,HE.out.g3,HE.out.g4,HE.out.x1,HE.out.x2,HE.out.c1,HE.out.c2,HE.out.c3⟩,⟨HJ3.out.touch tg hjg,hjF⟩,hvs.moved hMG,((hsv.below HB12.out).below HB23.out).moved hMG,(Touch.of_below HB3.out).trans tg (fun _ e=> .inl e)⟩
  intro k hk
  have hsz:=tg.size
  have hl3:=HJ3.out.lt
  have hs3:=HB3.out.size
  rcases hk with hk| hk
  ·have:=HE.out.jl k hk;omega
  ·rw [hk];omega)
end
theorem jmeth_Step(f:Nat)(a:Addr)(w:World):(method (f+1) 41 (.pointer (some a)) "Step").run Tryz.prog w= .ok (16,.pointer (some a)) w:=by kernel_rfl
section
variable{w w':World}{g d p x tt bk L:Nat}{s s2:St}{b:Bk}{t:Tb}{F J:Nat→Prop}{slot:UInt64}{jv:Value}{id:Int}{sv:Value}{st:UInt64}{jb:Nat}
theorem egBusy(h:EngAt w g d p x tt bk L s b t F J slot (.iface 41 (.pointer (some ⟨jb,0,none⟩))) id sv st):Calls Tryz.prog 66 #[.pointer (some ⟨g,0,none⟩)] w fun e w'=>e= .returned (.bool true)∧w=w':=by
 have c:=h.box.cell 5
 unfold engCells at c
 simp only [List.getElem?_cons_zero,List.getElem?_cons_succ]at c
 clear h
 go_enter Tryz.func66,Tryz.ntmps66
 go_wp2_with fail
 go_ret
 exact⟨rfl,rfl⟩
set_option maxHeartbeats 4000000 in
set_option maxRecDepth 100000 in
theorem egStep(h:EngAt w g d p x tt bk L s b t F J slot (.iface 41 (.pointer (some ⟨jb,0,none⟩))) id sv st)(R:World→Prop){G:Nat→Prop}(hG:∀k,G k→k<w.heap.size)
 (hj:∀W,Below w.heap.size w W→Calls Tryz.prog 16 #[.pointer (some ⟨jb,0,none⟩)] W fun e w'=>e= .returned (.tuple #[.bool false,.int .i64 0])∧R w'∧Touch G W w')(hsl:∃A n c,sv= .slice A n c):
 Calls Tryz.prog 22 #[.pointer (some ⟨g,0,none⟩)] w fun e w'=>e= .returned (.tuple #[.int .i64 id,.bool false,.int .i64 0])∧R w':=by
 have mS:=fun f W=>jmeth_Step f ⟨jb,0,none⟩ W
 obtain⟨A,n,c,rfl⟩:=hsl
 have HN:=Lib.hid (egNone h)
 have HB:=Lib.hid (egBusy h)
 have HJ:=Lib.hid hj
 have c5:=h.box.cell 5
 have c6:=h.box.cell 6
 have c7:=h.box.cell 7
 have c8:=h.box.cell 8
 unfold engCells at c5 c6 c7 c8
 simp only [List.getElem?_cons_zero,List.getElem?_cons_succ]at c5 c6 c7 c8
 obtain⟨W,hW⟩:∃W,W=w.alloc (.cells #[.iface 41 (.pointer (some ⟨jb,0,none⟩)),.int .i64 id,.slice A n c,.int .u64 (st.toNat:Int)] 56):=⟨_,rfl⟩
 have HBl:Hid (Blk W w.heap.size 56 [.iface 41 (.pointer (some ⟨jb,0,none⟩)),.int .i64 id,.slice A n c,.int .u64 (st.toNat:Int)]):=Lib.hid (hW▸heap_alloc_new _ _)
 have HBe:Hid (Below w.heap.size w W):=Lib.hid (hW▸(Below.refl _ _).alloc (Nat.le_refl _) _)
 have HW:=Lib.hid hW
 have HG:Hid (¬G w.heap.size):=Lib.hid (fun hf=>absurd (hG _ hf) (by omega))
 clear h hj hW hG
 go_enter Tryz.func22,Tryz.ntmps22
 go_wp2_with fail
 refine HN.out.mono ?_
 rintro e w1⟨rfl,rfl⟩
 go_wp2_with fail
 refine HB.out.mono ?_
 rintro e w1⟨rfl,rfl⟩
 go_wp2_with fail
 rw [←HW.out]
 refine(HJ.out W HBe.out).mono ?_
 rintro e w2⟨rfl,hR,ht⟩
 have z1:=(HBl.out.touch ht HG.out).cell 1
 simp only [List.getElem?_cons_zero,List.getElem?_cons_succ]at z1
 have HR:=Lib.hid hR
 clear hR ht c5 c6 c7 c8
 go_wp2_with fail
 refine bodyPost_ret (v:= .tuple #[.int .i64 id,.bool false,.int .i64 0]) (by simp [results,Tryz.results22,go_sem]) rfl ?_
 exact⟨rfl,HR.out⟩
end
section
variable{w w':World}{g d p x tt bk L:Nat}{s:St}{b:Bk}{t:Tb}{F J:Nat→Prop}{slot:UInt64}{jv:Value}{id:Int}{sv:Value}{st:UInt64}
set_option maxHeartbeats 4000000 in
set_option maxRecDepth 100000 in
theorem egSee(h:EngAt w g d p x tt bk L s b t F J slot jv id sv st)(first at_:UInt64){l:List Lk}(hl:listP s first=some l)(hn:l.length≤100000){tx:ByteArray}(hx:seeP l at_.toNat=some tx):
 Calls Tryz.prog 62 #[.pointer (some ⟨g,0,none⟩),.int .u64 (first.toNat:Int),.int .u64 (at_.toNat:Int)] w fun e w'=>e= .returned (.tuple #[.string tx,.int .i64 0])∧Below w.heap.size w w':=by
 have c0:=h.box.cell 0
 have c1:=h.box.cell 1
 unfold engCells at c0 c1
 simp only [List.getElem?_cons_zero,List.getElem?_cons_succ]at c0 c1
 have HL:=Lib.hid (fun W(k:Below w.heap.size w W)=>chainList (h.ix.below k).sys first)
 unfold ListPost at HL
 rw [hl]at HL
 have HK:Hid (∀W,Below w.heap.size w W→W.cell? ⟨g,0,none⟩=some (.pointer (some ⟨d,0,none⟩))∧W.cell? ⟨g,1,none⟩=some (.pointer (some ⟨p,0,none⟩))):=Lib.hid (fun W k=>⟨(h.box.below k h.box.lt).cell 0,(h.box.below k h.box.lt).cell 1⟩)
 have HS:=Lib.hid (fun(A:Option Addr)(c:Nat)(W:World)(hr:LkR W A l)=>chainSee l A c at_ W hn hr)
 unfold seeV at HS
 rw [hx]at HS
 clear h hl hx hn
 go_enter Tryz.func62,Tryz.ntmps62
 go_wp2_with fail
 go_region_held3(fun w'=>w'.cell? ⟨g,0,none⟩=some (.pointer (some ⟨d,0,none⟩))∧w'.cell? ⟨g,1,none⟩=some (.pointer (some ⟨p,0,none⟩)))
  (first| exact⟨c0,c1⟩| exact HK.out _ (((Dr.drew w).below _).trans hb2))
  ((first| (go_at_call 83;refine(HL.out _ ((Dr.drew w).below _)).mono ?_;rintro e w2⟨hb2,hi2,v2,rfl,hO2⟩;obtain⟨A2,c2,hv2,_,hr2⟩:=own_lkr hO2;subst hv2)))
 all_goals(
  have HR2:=Lib.hid hr2
  have HB2:=Lib.hid (((Dr.drew w).below w.heap.size).trans hb2)
  clear hr2 hb2 hi2 hO2 c0 c1
  go_wp2_with fail
  refine(HS.out A2 c2 w2 HR2.out).mono ?_
  rintro e w3⟨rfl,hb3⟩
  have HB3:=Lib.hid (HB2.out.trans (hb3.mono HB2.out.size))
  clear hb3
  go_wp2_with fail
  go_ret2
  exact⟨rfl,HB3.out⟩)
end
theorem wsetGetNo(A:Option Addr)(c:Nat)(key:ByteArray)(w:World):Calls Tryz.prog 59 #[.slice A 0 c,.string key] w fun e w'=>e= .returned (.tuple #[.agg #[.string ⟨#[]⟩,.string ⟨#[]⟩,.bool false],.bool false])∧Below w.heap.size w w':=by
 have HS:=fun W=>Lib.hid (wsetFind0 A c key W)
 go_enter Tryz.func59,Tryz.ntmps59
 go_wp2_with fail
 refine(HS _).out.mono ?_
 rintro e w1⟨rfl,rfl⟩
 go_wp2_with fail
 obtain⟨W,hW⟩:∃W,W=w.alloc (.cells #[.string ⟨#[]⟩,.string ⟨#[]⟩,.bool false] 94):=⟨_,rfl⟩
 have B:Blk W w.heap.size 94 [.string ⟨#[]⟩,.string ⟨#[]⟩,.bool false]:=hW▸heap_alloc_new _ _
 have hb:Below w.heap.size w W:=hW▸(Below.refl _ _).alloc (Nat.le_refl _) _
 rw [←hW]
 have y0:=B.cell 0
 have y1:=B.cell 1
 have y2:=B.cell 2
 simp only [List.getElem?_cons_zero,List.getElem?_cons_succ]at y0 y1 y2
 refine bodyPost_ret (v:= .tuple #[.agg #[.string ⟨#[]⟩,.string ⟨#[]⟩,.bool false],.bool false]) (by simp [results,Tryz.results59,go_sem,y0,y1,y2]) rfl ?_
 exact⟨rfl,hb⟩
section
variable{w w':World}{g d p x tt bk L:Nat}{s:St}{b:Bk}{t:Tb}{F J:Nat→Prop}{slot:UInt64}{jv:Value}{id:Int}{sv:Value}{st:UInt64}
set_option maxHeartbeats 4000000 in
set_option maxRecDepth 100000 in
theorem egGet(h:EngAt w g d p x tt bk L s b t F J slot jv id sv st){i:Nat}(hi:i<8)(ho:t.wt.ops i=true)(hs:t.sets i=[])(key:ByteArray)(hk:key.size≤16){first:UInt64}(hg:getP s key.data.toList=(first,0))
 {l:List Lk}(hl:listP s first=some l)(hn:l.length≤100000){tx:ByteArray}(hx:seeP l (t.wt.ats i).toNat=some tx):
 Calls Tryz.prog 20 #[.pointer (some ⟨g,0,none⟩),.int .i64 (i:Int),.string key] w fun e w'=>e= .returned (.tuple #[.string tx,.int .i64 0])∧Below w.heap.size w w':=by
 have hh:hasW8 t.wt (i:Int)=true:=by
  unfold hasW8
  simp only [Bool.and_eq_true,decide_eq_true_eq]
  exact⟨by omega,by omega,ho⟩
 have HM:=Lib.hid (egMay h (i:Int))
 rw [if_pos hh]at HM
 have HS:=Lib.hid (tabSet h.tb hi ho (by rw [hs];simp))
 rw [hs]at HS
 have HG:=Lib.hid (fun W(k:Below w.heap.size w W)=>get_index (h.ix.below k) key (by omega))
 unfold GetPost at HG
 rw [hg]at HG
 have HA:=Lib.hid (fun W(k:Below w.heap.size w W)=>tabAt (h.tb.below k) (i:Int))
 rw [atV_open hi ho]at HA
 have HE:=Lib.hid (fun W(k:Below w.heap.size w W)=>egSee (h.below k) first (t.wt.ats i) hl hn hx)
 have HCl:Hid (∀W,Below w.heap.size w W→W.cell? ⟨g,2,none⟩=some (.pointer (some ⟨x,0,none⟩))∧W.cell? ⟨g,3,none⟩=some (.pointer (some ⟨tt,0,none⟩))):=Lib.hid (fun W k=>⟨(h.box.below k h.box.lt).cell 2,(h.box.below k h.box.lt).cell 3⟩)
 obtain⟨c2,c3⟩:=HCl.out w (Below.refl _ _)
 have t1:decide ((16:Int)<(key.size:Int))=false:=decide_eq_false (by omega)
 clear h hs hl hn hx hg hh
 go_enter Tryz.func20,Tryz.ntmps20
 go_wp2_with fail
 refine HM.out.mono ?_
 rintro e w1⟨rfl,rfl⟩
 go_wp2_with fail
 refine HS.out.mono ?_
 rintro e w1⟨u,rfl,hO1,hb1⟩
 obtain⟨A1,c1,hu1,_,_⟩:=own_rowk hO1
 subst hu1
 have HB1:=Lib.hid hb1
 clear hO1 hb1 HS HM c2 c3
 go_wp2_with fail
 refine(wsetGetNo A1 c1 key w1).mono ?_
 rintro e w2⟨rfl,hb2⟩
 have hb3:Below w.heap.size w (w2.alloc (.cells #[.string ⟨#[]⟩,.string ⟨#[]⟩,.bool false] 94)):=(HB1.out.trans (hb2.mono HB1.out.size)).alloc (Nat.le_trans HB1.out.size hb2.size) _
 have HB3:=Lib.hid hb3
 obtain⟨c2,c3⟩:=HCl.out _ hb3
 clear hb2 hb3
 go_wp2_with fail
 refine(HG.out _ HB3.out).mono ?_
 rintro e w4⟨rfl,hb4⟩
 have HB4:=Lib.hid (HB3.out.trans (hb4.mono HB3.out.size))
 clear hb4 c2 c3
 obtain⟨c2,c3⟩:=HCl.out _ HB4.out
 go_wp2_with fail
 refine(HA.out _ HB4.out).mono ?_
 rintro e w5⟨rfl,rfl⟩
 go_wp2_with fail
 refine(HE.out _ HB4.out).mono ?_
 rintro e w5⟨rfl,hb5⟩
 have HB5:=Lib.hid (HB4.out.trans (hb5.mono HB4.out.size))
 clear hb5
 go_wp2_with fail
 go_ret2
 exact⟨rfl,HB5.out⟩
end
section
variable{w w':World}{g d p x tt bk L:Nat}{s:St}{b:Bk}{t:Tb}{F J:Nat→Prop}{slot:UInt64}{jv:Value}{id:Int}{sv:Value}{st:UInt64}
set_option maxHeartbeats 4000000 in
set_option maxRecDepth 100000 in
theorem egClean(h:EngAt w g d p x tt bk L s b t F J slot jv id sv st)(key:ByteArray)(first low:UInt64){l:List Lk}(hl:listP s first=some l)(hn:l.length≤100000)(h0:0<l.length)(hx:needP l low.toNat=l.length):
 Calls Tryz.prog 70 #[.pointer (some ⟨g,0,none⟩),.agg #[.string key,.int .u64 (first.toNat:Int)],.int .u64 (low.toNat:Int)] w fun e w'=>e= .returned (.tuple #[.int .i64 0,.int .i64 0])∧Below w.heap.size w w':=by
 obtain⟨W,hW⟩:∃W,W=w.alloc (.cells #[.string key,.int .u64 (first.toNat:Int)] 145):=⟨_,rfl⟩
 have B:Blk W w.heap.size 145 [.string key,.int .u64 (first.toNat:Int)]:=hW▸heap_alloc_new _ _
 have hb:Below w.heap.size w W:=hW▸(Below.refl _ _).alloc (Nat.le_refl _) _
 have h1:=h.below hb
 have HL:=Lib.hid (fun W'(k:Below W.heap.size W W')=>chainList (h1.ix.below k).sys first)
 unfold ListPost at HL
 rw [hl]at HL
 have HK:Hid (∀W',Below W.heap.size W W'→W'.cell? ⟨g,0,none⟩=some (.pointer (some ⟨d,0,none⟩))∧W'.cell? ⟨g,1,none⟩=some (.pointer (some ⟨p,0,none⟩))∧W'.cell? ⟨w.heap.size,1,none⟩=some (.int .u64 (first.toNat:Int))):=Lib.hid (fun W' k=>⟨(h1.box.below k h1.box.lt).cell 0,(h1.box.below k h1.box.lt).cell 1,(B.below k B.lt).cell 1⟩)
 have HNe:=Lib.hid (fun(A:Option Addr)(c:Nat)(W:World)(hr:LkR W A l)=>chainNeed l A c low W hn hr)
 rw [hx]at HNe
 have HTr:=Lib.hid (fun W'(k:Below W.heap.size W W')A c=>chainTrimAll (h1.ix.below k).sys A l.length c h0 (by omega))
 obtain⟨c0,c1,z1⟩:=HK.out W (Below.refl _ _)
 have tp:decide (0<(l.length:Int))=true:=decide_eq_true (by omega)
 have tq:decide (0<l.length)=true:=decide_eq_true h0
 have HW:=Lib.hid hW
 have Hb:=Lib.hid hb
 have hw0:IntKind.i64.wrap ((l.length:Int) - (l.length:Int))=0:=by rw [Int.sub_self];exact IntWalk.i64_in _ (by omega)
 have hw1:(l.length:Int) - (l.length:Int)=0:=Int.sub_self _
 clear h h1 hl hx hW hb B hn
 go_enter Tryz.func70,Tryz.ntmps70
 go_wp2_with fail
 rw [←HW.out]
 go_region_held3(fun w'=>w'.cell? ⟨g,0,none⟩=some (.pointer (some ⟨d,0,none⟩))∧w'.cell? ⟨g,1,none⟩=some (.pointer (some ⟨p,0,none⟩))∧w'.cell? ⟨w.heap.size,1,none⟩=some (.int .u64 (first.toNat:Int)))
  (first| exact⟨c0,c1,z1⟩| exact HK.out _ (((Dr.drew W).below _).trans hb2))
  ((first| (go_at_call 83;refine(HL.out _ ((Dr.drew W).below _)).mono ?_;rintro e w2⟨hb2,hi2,v2,rfl,hO2⟩;obtain⟨A2,c2,hv2,_,hr2⟩:=own_rowk hO2;subst hv2)))
 all_goals(
  have HR2:=Lib.hid (hr2:LkR w2 A2 l)
  have HB2:=Lib.hid (((Dr.drew W).below W.heap.size).trans hb2)
  clear hr2 hb2 hi2 hO2 c0 c1 z1
  go_wp2_with fail
  refine(HNe.out A2 c2 w2 HR2.out).mono ?_
  rintro e w3⟨rfl,hb3⟩
  have HB3:=Lib.hid (HB2.out.trans (hb3.mono HB2.out.size))
  obtain⟨c0,c1,z1⟩:=HK.out _ HB3.out
  clear hb3
  go_wp2_with fail
  go_region_held3(fun w'=>w'.cell? ⟨g,0,none⟩=some (.pointer (some ⟨d,0,none⟩))∧w'.cell? ⟨g,1,none⟩=some (.pointer (some ⟨p,0,none⟩)))
   (first| exact⟨c0,c1⟩)
   ((first| (go_at_call 112;refine(HTr.out _ (HB3.out.trans (((Dr.drew w3).below _).mono HB3.out.size)) A2 c2).mono ?_;rintro e w4⟨rfl,rfl⟩))))
 all_goals(
  go_wp2_with fail
  go_ret2
  exact⟨rfl,Hb.out.trans ((HB3.out.trans (((Dr.drew w3).below _).mono HB3.out.size)).mono Hb.out.size)⟩)
end
section
variable{w w':World}{g d p x tt bk L:Nat}{s:St}{b:Bk}{t:Tb}{F J:Nat→Prop}{slot:UInt64}{jv:Value}{id:Int}{sv:Value}{st:UInt64}
set_option maxHeartbeats 4000000 in
set_option maxRecDepth 100000 in
theorem egReach(h:EngAt w g d p x tt bk L s b t F J slot jv id sv st){n:Nat}{xs:List Value}
 (hR:∀W,Below w.heap.size w W→Calls Tryz.prog 71 #[.pointer (some ⟨d,0,none⟩),.pointer (some ⟨p,0,none⟩),.pointer (some ⟨x,0,none⟩)] W fun e w'=>∃v,e= .returned (.tuple #[v,.int .i64 0])∧w'.ownsRow W.heap.size 3 1 v n xs∧Below W.heap.size W w'):
 Calls Tryz.prog 24 #[.pointer (some ⟨g,0,none⟩)] w fun e w'=>∃v,e= .returned (.tuple #[v,.int .i64 0])∧w'.ownsRow w.heap.size 3 1 v n xs∧Below w.heap.size w w':=by
 have HN:=Lib.hid (egNone h)
 have HR:=Lib.hid hR
 have HK:Hid (∀W',Below w.heap.size w W'→W'.cell? ⟨g,0,none⟩=some (.pointer (some ⟨d,0,none⟩))∧W'.cell? ⟨g,1,none⟩=some (.pointer (some ⟨p,0,none⟩))∧W'.cell? ⟨g,2,none⟩=some (.pointer (some ⟨x,0,none⟩))):=Lib.hid (fun W' k=>⟨(h.box.below k h.box.lt).cell 0,(h.box.below k h.box.lt).cell 1,(h.box.below k h.box.lt).cell 2⟩)
 obtain⟨c0,c1,c2⟩:=HK.out w (Below.refl _ _)
 clear h hR
 go_enter Tryz.func24,Tryz.ntmps24
 go_wp2_with fail
 refine HN.out.mono ?_
 rintro e w1⟨rfl,rfl⟩
 go_wp2_with fail
 go_region_held3(fun w'=>w'.cell? ⟨g,0,none⟩=some (.pointer (some ⟨d,0,none⟩))∧w'.cell? ⟨g,1,none⟩=some (.pointer (some ⟨p,0,none⟩))∧w'.cell? ⟨g,2,none⟩=some (.pointer (some ⟨x,0,none⟩)))
  (first| exact⟨c0,c1,c2⟩| exact HK.out _ (((Dr.drew w).below _).trans hb2))
  ((first| (go_at_call 71;refine(HR.out _ ((Dr.drew w).below _)).mono ?_;rintro e w2⟨v2,rfl,hO2,hb2⟩)))
 all_goals(
  have HO:=Lib.hid hO2
  have HB:=Lib.hid (((Dr.drew w).below w.heap.size).trans hb2)
  clear hO2 hb2
  go_wp2_with fail
  go_ret2
  exact⟨v2,rfl,HO.out,HB.out⟩)
end
section
variable{w w':World}{g d p x tt bk L:Nat}{s:St}{b:Bk}{t:Tb}{F J:Nat→Prop}{slot:UInt64}{jv:Value}{id:Int}{sv:Value}{st:UInt64}
theorem Sys.all(h:Sys w d p L s F):Calls Tryz.prog 75 #[.pointer (some ⟨p,0,none⟩)] w fun e w'=>∃v,e= .returned v∧w'.ownsRow w.heap.size 3 1 v (allP s).length (nvs (allP s))∧Below w.heap.size w w':=by
 obtain⟨tb,hb,n,cT,cH,own,h,_⟩:=h
 exact all_pool h.at
theorem egBlocks(h:EngAt w g d p x tt bk L s b t F J slot jv id sv st):Calls Tryz.prog 30 #[.pointer (some ⟨g,0,none⟩)] w fun e w'=>∃v,e= .returned v∧w'.ownsRow w.heap.size 3 1 v (allP s).length (nvs (allP s))∧Below w.heap.size w w':=by
 have c:=h.box.cell 1
 unfold engCells at c
 simp only [List.getElem?_cons_zero,List.getElem?_cons_succ]at c
 have HN:=Lib.hid (egNone h)
 have HA:=Lib.hid h.ix.sys.all
 clear h
 go_enter Tryz.func30,Tryz.ntmps30
 go_wp2_with fail
 refine HN.out.mono ?_
 rintro e w1⟨rfl,rfl⟩
 go_wp2_with fail
 refine HA.out.mono ?_
 rintro e w1⟨v,rfl,hO,hB⟩
 have HO:=Lib.hid hO
 have HB:=Lib.hid hB
 clear hO hB
 go_wp2_with fail
 go_ret
 exact⟨v,rfl,HO.out,HB.out⟩
end
section
variable{w w':World}{g d p x tt bk L:Nat}{s s2:St}{b:Bk}{t:Tb}{F F2 J:Nat→Prop}{slot:UInt64}{jv:Value}{id:Int}{sv:Value}{st:UInt64}{jb:Nat}
theorem EngAt.job(h:EngAt w g d p x tt bk L s b t F J slot jv id sv st)(hJ:J jb)(hg:jb≠g)(hx:Ix w' x d p L s2 F2)(m:Moved (fun k=>F k∨k=jb) (fun k=>F2 k∨k=jb) w w'):EngAt w' g d p x tt bk L s2 b t F2 J slot jv id sv st:=by
 have hgF:¬(F g∨g=jb):=fun e=>e.elim h.fg (fun e=>hg e.symm)
 have hm:Moved (fun k=>F k∨J k) (fun k=>F2 k∨J k) w w':=⟨m.touch.mono (fun k hk=>hk.imp (fun h=>h) (fun e=>by rw [e];exact hJ)),fun k hk=>by
  rcases hk with hk| hk
  ·rcases m.own k (.inl hk)with(h1| h1)| h1
   ·exact .inl (.inl h1)
   ·exact .inl (.inr (h1▸hJ))
   ·exact .inr h1
  ·exact .inl (.inr hk)⟩
 refine⟨hx,h.tb.moved hm,h.jg,fun k hk=>Nat.lt_of_lt_of_le (h.jl k hk) m.touch.size,h.box.touch m.touch hgF,fun hf=> ?_,h.g1,h.g2,h.g3,h.g4,h.x1,h.x2,h.c1,h.c2,h.c3⟩
 rcases m.own g (.inl hf)with h1| h1
 ·exact hgF h1
 ·have:=h.box.lt;omega
end
section
variable{w w':World}{g d p x tt bk L:Nat}{s s2:St}{b:Bk}{t:Tb}{F F2 J:Nat→Prop}{slot:UInt64}{jv:Value}{id:Int}{sv:Value}{st:UInt64}{jb:Nat}
theorem EngAt.set(h:EngAt w g d p x tt bk L s b t F J slot jv id sv st){slot':UInt64}{jv':Value}{id':Int}{sv':Value}{st':UInt64}(k:Touch (fun k=>k=g) w w')(hb:Blk w' g 58 (engCells d p x tt slot' jv' id' sv' st')):EngAt w' g d p x tt bk L s b t F J slot' jv' id' sv' st':=
 ⟨⟨h.ix.sys.keep k (fun c hc e=>h.fg (e▸hc)) (fun e=>h.c3.1 e.symm) (fun e=>h.c3.2 e.symm),h.ix.box.touch k (fun e=>h.g4 e.symm),h.ix.out⟩,h.tb.moved ⟨k.mono (fun c e=>Or.inr (by rw [e];exact h.jg)),fun _ hk=> .inl hk⟩,h.jg,fun j hj=>Nat.lt_of_lt_of_le (h.jl j hj) k.size,hb,h.fg,h.g1,h.g2,h.g3,h.g4,h.x1,h.x2,h.c1,h.c2,h.c3⟩
theorem EngAt.noted(h:EngAt w g d p x tt bk L s b t F J slot jv id sv st){t':Tb}(hb:TbAt w' (fun k=>F k∨J k) tt bk b t')(k:Touch (fun k=>k=b.nt) w w'):EngAt w' g d p x tt bk L s b t' F J slot jv id sv st:=
 ⟨⟨h.ix.sys.keep k (fun _ hc e=>h.tb.fn (e▸.inl hc)) (fun e=>h.c2.1 e.symm) (fun e=>h.c2.2 e.symm),h.ix.box.touch k h.x2,h.ix.out⟩,hb,h.jg,fun j hj=>Nat.lt_of_lt_of_le (h.jl j hj) k.size,h.box.touch k h.g3,h.fg,h.g1,h.g2,h.g3,h.g4,h.x1,h.x2,h.c1,h.c2,h.c3⟩
def ES(F:Nat→Prop)(jb g bk nt:Nat)(k:Nat):Prop:=F k∨k=jb∨k=g∨k=bk∨k=nt
set_option maxHeartbeats 8000000 in
set_option maxRecDepth 100000 in
theorem egStepEnd{i:Nat}{A:Option Addr}{n c:Nat}(h:EngAt w g d p x tt bk L s b t F J slot (.iface 41 (.pointer (some ⟨jb,0,none⟩))) (i:Int) (.slice A n c) st)(hJ:J jb)(hg:jb≠g)(hi:i<8)(ho:t.wt.ops i=true)
 {y:List Wr}(hsv:SetR w (EF F J bk b.nt jb) (.slice A n c) y)(hy:y.length≤100000)
 (hj:∀W,Below w.heap.size w W→Calls Tryz.prog 16 #[.pointer (some ⟨jb,0,none⟩)] W fun e w'=>e= .returned (.tuple #[.bool true,.int .i64 0])∧∃F2,Ix w' x d p L s2 F2∧Moved (fun b=>F b∨b=jb) (fun b=>F2 b∨b=jb) W w'):
 Calls Tryz.prog 22 #[.pointer (some ⟨g,0,none⟩)] w fun e w'=>e= .returned (.tuple #[.int .i64 (i:Int),.bool true,.int .i64 0])∧
  ∃b' F2,b'.many=b.many∧b'.nt=b.nt∧EngAt w' g d p x tt bk L s2 b' (noteT (endT t i) y st) F2 J st .nilIface 0 (.slice none 0 0) 0∧Moved (ES F jb g bk b.nt) (ES F2 jb g bk b.nt) w w':=by
 have mS:=fun f W=>jmeth_Step f ⟨jb,0,none⟩ W
 have HN:=Lib.hid (egNone h)
 have HB:=Lib.hid (egBusy h)
 have HJ:=Lib.hid hj
 have c5:=h.box.cell 5
 have c6:=h.box.cell 6
 have c7:=h.box.cell 7
 have c8:=h.box.cell 8
 unfold engCells at c5 c6 c7 c8
 simp only [List.getElem?_cons_zero,List.getElem?_cons_succ]at c5 c6 c7 c8
 obtain⟨W,hW⟩:∃W,W=w.alloc (.cells #[.iface 41 (.pointer (some ⟨jb,0,none⟩)),.int .i64 (i:Int),.slice A n c,.int .u64 (st.toNat:Int)] 56):=⟨_,rfl⟩
 have hB1:Blk W w.heap.size 56 [.iface 41 (.pointer (some ⟨jb,0,none⟩)),.int .i64 (i:Int),.slice A n c,.int .u64 (st.toNat:Int)]:=hW▸heap_alloc_new _ _
 have hbe:Below w.heap.size w W:=hW▸(Below.refl _ _).alloc (Nat.le_refl _) _
 have hE1:=h.below hbe
 have hgl:=h.box.lt
 have hjl:=h.jl jb hJ
 have hFl:=h.ix.sys.lt
 have hbl:=h.tb.book.lt
 have hnl:=h.tb.map.lt
 have HBl:=Lib.hid hB1
 have HBe:=Lib.hid hbe
 have HE1:=Lib.hid hE1
 have HSv:=Lib.hid (hsv.below hbe)
 have HW:=Lib.hid hW
 have HOF:Hid (¬(F w.heap.size∨w.heap.size=jb)):=Lib.hid (fun hf=>hf.elim (fun h=>absurd (hFl _ h) (by omega)) (fun h=>by omega))
 have hjW:=hj W hbe
 have HJW:=Lib.hid hjW
 clear h hj hW hB1 hbe hE1 hFl hjW HJ hsv
 go_enter Tryz.func22,Tryz.ntmps22
 go_wp2_with fail
 refine HN.out.mono ?_
 rintro e w1⟨rfl,rfl⟩
 go_wp2_with fail
 refine HB.out.mono ?_
 rintro e w1⟨rfl,rfl⟩
 go_wp2_with fail
 rw [←HW.out]
 refine HJW.out.mono ?_
 rintro e w2⟨rfl,F2,hx2,hm2⟩
 have hE2:=HE1.out.job hJ hg hx2 hm2
 have hsW:=HBe.out.size
 have hK2:=HBl.out.touch hm2.touch HOF.out
 have HK2:=Lib.hid hK2
 have HM2:=Lib.hid hm2
 have HE2:=Lib.hid hE2
 have d3:=hE2.box.cell 3
 unfold engCells at d3
 have z1:=hK2.cell 1
 simp only [List.getElem?_cons_zero,List.getElem?_cons_succ]at z1 d3
 have HEnd:=Lib.hid (fun X(k:Below w2.heap.size w2 X)=>tabEnd (hE2.tb.below k) hi ho)
 have hobk:¬w.heap.size=bk:=by omega
 have HKk:Hid (∀X,Touch (fun k=>k=bk) w2 X→X.cell? ⟨g,3,none⟩=some (.pointer (some ⟨tt,0,none⟩))∧X.cell? ⟨w.heap.size,1,none⟩=some (.int .i64 (i:Int))):=Lib.hid (fun X k=>⟨(HE2.out.box.touch k HE2.out.g2).cell 3,(HK2.out.touch k hobk).cell 1⟩)
 clear hx2 hm2 hE2 hK2 HJW c5 c6 c7 c8 HN HB HE1 HBl
 go_wp2_with fail
 go_region_held3(fun w'=>w'.cell? ⟨g,3,none⟩=some (.pointer (some ⟨tt,0,none⟩))∧w'.cell? ⟨w.heap.size,1,none⟩=some (.int .i64 (i:Int)))
  (first| exact⟨d3,z1⟩| exact HKk.out _ ((Touch.of_below ((Dr.drew w2).below _)).trans ht3 (fun _ e=> .inl e)))
  ((first| (go_at_call 67;refine(HEnd.out _ ((Dr.drew w2).below _)).mono ?_;rintro e w3⟨rfl,b3,hm3,hn3,hb3,ht3⟩)))
 all_goals(
  have ht23:Touch (fun k=>k=bk) w2 w3:=(Touch.of_below ((Dr.drew w2).below _)).trans ht3 (fun _ e=> .inl e)
  have hE3:=HE2.out.book hb3 hn3 ht23
  have hK3:=HK2.out.touch ht23 hobk
  have e3:=hE3.box.cell 3
  have e4:=hE3.box.cell 4
  have e5:=hE3.box.cell 5
  have e6:=hE3.box.cell 6
  have e7:=hE3.box.cell 7
  have e8:=hE3.box.cell 8
  have f4:=hE3.box.frozen 4
  have f5:=hE3.box.frozen 5
  have f6:=hE3.box.frozen 6
  have f7:=hE3.box.frozen 7
  have f8:=hE3.box.frozen 8
  unfold engCells at e3 e4 e5 e6 e7 e8
  have y1:=hK3.cell 1
  have y2:=hK3.cell 2
  have y3:=hK3.cell 3
  simp only [List.getElem?_cons_zero,List.getElem?_cons_succ]at e3 e4 e5 e6 e7 e8 y1 y2 y3
  have hgne:g≠w.heap.size:=by omega
  have hgne2:w.heap.size≠g:=by omega
  have HE3:=Lib.hid hE3
  have HK3:=Lib.hid hK3
  have HT23:=Lib.hid ht23
  have HM3:=Lib.hid hm3
  have HN3:=Lib.hid hn3
  clear hb3 ht3 ht23 hE3 hK3 hm3 hn3 d3 z1 HE2 HK2 HEnd HKk
  go_wp2_with fail)
 all_goals(
  obtain⟨W4,hW4⟩:∃W4,W4=((((w3.setCell ⟨g,5,none⟩ .nilIface).setCell ⟨g,6,none⟩ (.int .i64 0)).setCell ⟨g,7,none⟩ (.slice none 0 0)).setCell ⟨g,8,none⟩ (.int .u64 0)).setCell ⟨g,4,none⟩ (.int .u64 (st.toNat:Int)):=⟨_,rfl⟩
  rw [←hW4]
  have tg:Touch (fun k=>k=g) w3 W4:=by rw [hW4];exact(((((Touch.refl (fun k=>k=g) w3).setCell (p:=⟨g,5,none⟩) (.inl rfl) _).setCell (p:=⟨g,6,none⟩) (.inl rfl) _).setCell (p:=⟨g,7,none⟩) (.inl rfl) _).setCell (p:=⟨g,8,none⟩) (.inl rfl) _).setCell (p:=⟨g,4,none⟩) (.inl rfl) _
  have bg:Blk W4 g 58 (engCells d p x tt st .nilIface 0 (.slice none 0 0) 0):=by rw [hW4];exact((((HE3.out.box.set_ 5 _).set_ 6 _).set_ 7 _).set_ 8 _).set_ 4 _
  have hE4:=HE3.out.set tg bg
  have hK4:=HK3.out.touch tg hgne2
  have hMv:Moved (EF F J bk b.nt jb) (EF F2 J bk b.nt jb) W W4:=by
   have m1:Moved (EF F J bk b.nt jb) (EF F2 J bk b.nt jb) W w2:=⟨HM2.out.touch.mono (fun k hk=>hk.imp (fun h=>h) (fun h=> .inr (.inr (.inr h)))),fun k hk=>by
    rcases hk with hk| hk
    ·rcases HM2.out.own k (.inl hk)with(h| h)| h
     ·exact .inl (.inl h)
     ·exact .inl (.inr (.inr (.inr (.inr h))))
     ·exact .inr h
    ·exact .inl (.inr hk)⟩
   have m2:Moved (EF F2 J bk b.nt jb) (EF F2 J bk b.nt jb) w2 w3:=⟨HT23.out.mono (fun k hk=> .inr (.inr (.inl hk))),fun _ hk=> .inl hk⟩
   have m3:Moved (EF F2 J bk b.nt jb) (EF F2 J bk b.nt jb) w3 W4:=⟨tg.mono (fun k hk=> .inr (.inl (by rw [hk];exact hE4.jg))),fun _ hk=> .inl hk⟩
   exact(m1.trans m2).trans m3
  have hSv4:=HSv.out.moved hMv
  have hNote:=fun X(k:Below W4.heap.size W4 X)=>tabNote (hE4.tb.below k) st ((hSv4.mono (F:=fun k=>k=b3.nt) (fun k _ e=>by rw [HN3.out]at e;exact .inr (.inr (.inr (.inl e))))).below k) hy
  have y1:=hK4.cell 1
  have y2:=hK4.cell 2
  have y3:=hK4.cell 3
  have e3:=bg.cell 3
  unfold engCells at e3
  simp only [List.getElem?_cons_zero,List.getElem?_cons_succ]at y1 y2 y3 e3
  have hobn:¬w.heap.size=b3.nt:=by rw [HN3.out];omega
  have HKn:Hid (∀X,Touch (fun k=>k=b3.nt) W4 X→X.cell? ⟨g,3,none⟩=some (.pointer (some ⟨tt,0,none⟩))∧X.cell? ⟨w.heap.size,1,none⟩=some (.int .i64 (i:Int))∧X.cell? ⟨w.heap.size,2,none⟩=some (.slice A n c)∧X.cell? ⟨w.heap.size,3,none⟩=some (.int .u64 (st.toNat:Int))):=Lib.hid (fun X k=>⟨(bg.touch k hE4.g3).cell 3,(hK4.touch k hobn).cell 1,(hK4.touch k hobn).cell 2,(hK4.touch k hobn).cell 3⟩)
  have HE4:=Lib.hid hE4
  have HNt:=Lib.hid hNote
  have HTg:=Lib.hid tg
  have HS4:=Lib.hid tg.size
  clear hW4 tg bg hE4 hK4 hMv hSv4 hNote e4 e5 e6 e7 e8 f4 f5 f6 f7 f8 HE3 HK3)
 all_goals(go_region_held3(fun w'=>w'.cell? ⟨g,3,none⟩=some (.pointer (some ⟨tt,0,none⟩))∧w'.cell? ⟨w.heap.size,1,none⟩=some (.int .i64 (i:Int))∧w'.cell? ⟨w.heap.size,2,none⟩=some (.slice A n c)∧w'.cell? ⟨w.heap.size,3,none⟩=some (.int .u64 (st.toNat:Int)))
  (first| exact⟨e3,y1,y2,y3⟩| exact HKn.out _ ((Touch.of_below ((Dr.drew W4).below _)).trans ht5 (fun _ e=> .inl e)))
  ((first| (go_at_call 68;refine(HNt.out _ ((Dr.drew W4).below _)).mono ?_;rintro e w5⟨rfl,hb5,ht5⟩))))
 all_goals(
  have ht45:Touch (fun k=>k=b3.nt) W4 w5:=(Touch.of_below ((Dr.drew W4).below _)).trans ht5 (fun _ e=> .inl e)
  obtain⟨_,y1,_,_⟩:=HKn.out _ ht45
  have HE5:=Lib.hid (HE4.out.noted hb5 ht45)
  have HT45:=Lib.hid ht45
  clear hb5 ht5 ht45 e3 HNt)
 all_goals(go_wp2_with fail)
 all_goals(refine bodyPost_ret (v:= .tuple #[.int .i64 (i:Int),.bool true,.int .i64 0]) (by simp [results,Tryz.results22,go_sem]) rfl ?_)
 all_goals(
  have hm:Moved (ES F jb g bk b.nt) (ES F2 jb g bk b.nt) W w2:=⟨HM2.out.touch.mono (fun k hk=>hk.imp id .inl),fun k hk=>by
   rcases hk with hk| hk
   ·exact(HM2.out.own k (.inl hk)).imp (fun h=>h.imp id .inl) id
   ·exact .inl (.inr hk)⟩
  have m2:Moved (ES F2 jb g bk b.nt) (ES F2 jb g bk b.nt) w2 w3:=⟨HT23.out.mono (fun k hk=> .inr (.inr (.inr (.inl hk)))),fun _ hk=> .inl hk⟩
  have m3:Moved (ES F2 jb g bk b.nt) (ES F2 jb g bk b.nt) w3 W4:=⟨HTg.out.mono (fun k hk=> .inr (.inr (.inl hk))),fun _ hk=> .inl hk⟩
  have m4:Moved (ES F2 jb g bk b.nt) (ES F2 jb g bk b.nt) W4 w5:=⟨HT45.out.mono (fun k hk=> .inr (.inr (.inr (.inr (by rw [hk,HN3.out]))))),fun _ hk=> .inl hk⟩
  exact⟨rfl,b3,F2,HM3.out,HN3.out,HE5.out,(Moved.of_below HBe.out).trans (((hm.trans m2).trans m3).trans m4)⟩)
end
def NoEng(w:World)(v:Value):Prop:=v= .pointer none∨∃b,v= .pointer (some ⟨b,0,none⟩)∧w.cell? ⟨b,0,none⟩=some (.pointer none)∧b<w.heap.size
theorem NoEng.below{w w':World}{v:Value}(h:NoEng w v)(k:Below w.heap.size w w'):NoEng w' v:=by
 rcases h with h| ⟨b,h1,h2,h3⟩
 ·exact .inl h
 ·exact .inr ⟨b,h1,(k.cell (p:=⟨b,0,none⟩) h3).trans h2,Nat.lt_of_lt_of_le h3 k.size⟩
section
variable{w:World}{v:Value}
theorem nnNone(h:NoEng w v):Calls Tryz.prog 55 #[v] w fun e w'=>e= .returned (.bool true)∧w=w':=by
 rcases h with rfl| ⟨b,rfl,c,_⟩
 ·go_enter Tryz.func55,Tryz.ntmps55
  go_wp2_with fail
  go_ret
  exact⟨rfl,rfl⟩
 ·go_enter Tryz.func55,Tryz.ntmps55
  go_wp2_with fail
  go_ret
  exact⟨rfl,rfl⟩
theorem nnSlot(h:NoEng w v):Calls Tryz.prog 29 #[v] w fun e w'=>e= .returned (.int .u64 0)∧w=w':=by
 have HN:=Lib.hid (nnNone h)
 clear h
 go_enter Tryz.func29,Tryz.ntmps29
 go_wp2_with fail
 refine HN.out.mono ?_
 rintro e w1⟨rfl,rfl⟩
 go_wp2_with fail
 go_ret
 exact⟨rfl,rfl⟩
theorem nnBlocks(h:NoEng w v):Calls Tryz.prog 30 #[v] w fun e w'=>e= .returned (.slice none 0 0)∧w=w':=by
 have HN:=Lib.hid (nnNone h)
 clear h
 go_enter Tryz.func30,Tryz.ntmps30
 go_wp2_with fail
 refine HN.out.mono ?_
 rintro e w1⟨rfl,rfl⟩
 go_wp2_with fail
 go_ret
 exact⟨rfl,rfl⟩
theorem nnBegin(h:NoEng w v):Calls Tryz.prog 19 #[v] w fun e w'=>e= .returned (.tuple #[.int .i64 0,.int .i64 1])∧w=w':=by
 have HN:=Lib.hid (nnNone h)
 clear h
 go_enter Tryz.func19,Tryz.ntmps19
 go_wp2_with fail
 refine HN.out.mono ?_
 rintro e w1⟨rfl,rfl⟩
 go_wp2_with fail
 go_ret2
 exact⟨rfl,rfl⟩
theorem nnStep(h:NoEng w v):Calls Tryz.prog 22 #[v] w fun e w'=>e= .returned (.tuple #[.int .i64 0,.bool true,.int .i64 1])∧w=w':=by
 have HN:=Lib.hid (nnNone h)
 clear h
 go_enter Tryz.func22,Tryz.ntmps22
 go_wp2_with fail
 refine HN.out.mono ?_
 rintro e w1⟨rfl,rfl⟩
 go_wp2_with fail
 go_ret3
 exact⟨rfl,rfl⟩
theorem nnVacuum(h:NoEng w v):Calls Tryz.prog 23 #[v] w fun e w'=>e= .returned (.tuple #[.int .i64 0,.int .i64 1])∧w=w':=by
 have HN:=Lib.hid (nnNone h)
 clear h
 go_enter Tryz.func23,Tryz.ntmps23
 go_wp2_with fail
 refine HN.out.mono ?_
 rintro e w1⟨rfl,rfl⟩
 go_wp2_with fail
 go_ret2
 exact⟨rfl,rfl⟩
theorem nnReach(h:NoEng w v):Calls Tryz.prog 24 #[v] w fun e w'=>e= .returned (.tuple #[.slice none 0 0,.int .i64 1])∧w=w':=by
 have HN:=Lib.hid (nnNone h)
 clear h
 go_enter Tryz.func24,Tryz.ntmps24
 go_wp2_with fail
 refine HN.out.mono ?_
 rintro e w1⟨rfl,rfl⟩
 go_wp2_with fail
 go_ret2
 exact⟨rfl,rfl⟩
theorem nnMay(h:NoEng w v)(i:Int):Calls Tryz.prog 57 #[v,.int .i64 i] w fun e w'=>e= .returned (.int .i64 1)∧w=w':=by
 have HN:=Lib.hid (nnNone h)
 clear h
 go_enter Tryz.func57,Tryz.ntmps57
 go_wp2_with fail
 refine HN.out.mono ?_
 rintro e w1⟨rfl,rfl⟩
 go_wp2_with fail
 go_ret
 exact⟨rfl,rfl⟩
theorem nnFree(h:NoEng w v)(i:Int):Calls Tryz.prog 74 #[v,.int .i64 i] w fun e w'=>e= .returned (.int .i64 1)∧w=w':=by
 have HN:=Lib.hid (nnMay h i)
 clear h
 go_enter Tryz.func74,Tryz.ntmps74
 go_wp2_with fail
 refine HN.out.mono ?_
 rintro e w1⟨rfl,rfl⟩
 go_wp2_with fail
 go_ret
 exact⟨rfl,rfl⟩
theorem nnCommit(h:NoEng w v)(i:Int):Calls Tryz.prog 27 #[v,.int .i64 i] w fun e w'=>e= .returned (.int .i64 1)∧w=w':=by
 have HN:=Lib.hid (nnMay h i)
 clear h
 go_enter Tryz.func27,Tryz.ntmps27
 go_wp2_with fail
 refine HN.out.mono ?_
 rintro e w1⟨rfl,rfl⟩
 go_wp2_with fail
 go_ret
 exact⟨rfl,rfl⟩
theorem nnAbort(h:NoEng w v)(i:Int):Calls Tryz.prog 28 #[v,.int .i64 i] w fun e w'=>e= .returned (.int .i64 1)∧w=w':=by
 have HN:=Lib.hid (nnFree h i)
 clear h
 go_enter Tryz.func28,Tryz.ntmps28
 go_wp2_with fail
 refine HN.out.mono ?_
 rintro e w1⟨rfl,rfl⟩
 go_wp2_with fail
 go_ret
 exact⟨rfl,rfl⟩
theorem nnGet(h:NoEng w v)(i:Int)(key:ByteArray):Calls Tryz.prog 20 #[v,.int .i64 i,.string key] w fun e w'=>e= .returned (.tuple #[.string ⟨#[]⟩,.int .i64 1])∧w=w':=by
 have HN:=Lib.hid (nnMay h i)
 clear h
 go_enter Tryz.func20,Tryz.ntmps20
 go_wp2_with fail
 refine HN.out.mono ?_
 rintro e w1⟨rfl,rfl⟩
 go_wp2_with fail
 go_ret2
 exact⟨rfl,rfl⟩
theorem nnScan(h:NoEng w v)(i:Int)(from_ to_:ByteArray):Calls Tryz.prog 21 #[v,.int .i64 i,.string from_,.string to_] w fun e w'=>e= .returned (.tuple #[.slice none 0 0,.int .i64 1])∧w=w':=by
 have HN:=Lib.hid (nnMay h i)
 clear h
 go_enter Tryz.func21,Tryz.ntmps21
 go_wp2_with fail
 refine HN.out.mono ?_
 rintro e w1⟨rfl,rfl⟩
 go_wp2_with fail
 go_ret2
 exact⟨rfl,rfl⟩
theorem nnWrite(h:NoEng w v)(i:Int)(y:Wr):Calls Tryz.prog 72 #[v,.int .i64 i,wrV y] w fun e w'=>e= .returned (.int .i64 1)∧Below w.heap.size w w':=by
 obtain⟨W,hW⟩:∃W,W=w.alloc (.cells #[.string y.key,.string y.text,.bool y.gone] 94):=⟨_,rfl⟩
 have hb:Below w.heap.size w W:=hW▸(Below.refl _ _).alloc (Nat.le_refl _) _
 have HF:=Lib.hid (nnFree (h.below hb) i)
 have HW:=Lib.hid hW
 have HB:=Lib.hid hb
 unfold wrV
 clear h hW hb
 go_enter Tryz.func72,Tryz.ntmps72
 go_wp2_with fail
 rw [←HW.out]
 refine HF.out.mono ?_
 rintro e w1⟨rfl,rfl⟩
 go_wp2_with fail
 go_ret
 exact⟨rfl,HB.out⟩
theorem nnPut(h:NoEng w v)(i:Int)(key text:ByteArray):Calls Tryz.prog 25 #[v,.int .i64 i,.string key,.string text] w fun e w'=>e= .returned (.int .i64 1)∧Below w.heap.size w w':=by
 have HW:=Lib.hid (nnWrite h i ⟨key,text,false⟩)
 unfold wrV at HW
 clear h
 go_enter Tryz.func25,Tryz.ntmps25
 go_wp2_with fail
 refine HW.out.mono ?_
 rintro e w1⟨rfl,hb1⟩
 go_wp2_with fail
 go_ret
 exact⟨rfl,hb1⟩
theorem nnDel(h:NoEng w v)(i:Int)(key:ByteArray):Calls Tryz.prog 26 #[v,.int .i64 i,.string key] w fun e w'=>e= .returned (.int .i64 1)∧Below w.heap.size w w':=by
 have HW:=Lib.hid (nnWrite h i ⟨key,⟨#[]⟩,true⟩)
 unfold wrV at HW
 clear h
 go_enter Tryz.func26,Tryz.ntmps26
 go_wp2_with fail
 refine HW.out.mono ?_
 rintro e w1⟨rfl,hb1⟩
 go_wp2_with fail
 go_ret
 exact⟨rfl,hb1⟩
end
set_option maxHeartbeats 4000000 in
set_option maxRecDepth 100000 in
theorem headOpenNil(w:World):Calls Tryz.prog 133 #[.pointer none] w fun e w'=>e= .returned (.tuple #[.agg #[.int .i64 0,.int .i64 0,.int .i64 0,.int .i64 0],.int .i64 1])∧Below w.heap.size w w':=by
 have HSz:=fun W=>Lib.hid (size_nil W)
 have B0:Blk (w.alloc (.cells #[.int .i64 0,.int .i64 0,.int .i64 0,.int .i64 0] 161)) w.heap.size 161 [.int .i64 0,.int .i64 0,.int .i64 0,.int .i64 0]:=heap_alloc_new _ _
 have hb0:Below w.heap.size w (w.alloc (.cells #[.int .i64 0,.int .i64 0,.int .i64 0,.int .i64 0] 161)):=(Below.refl _ _).alloc (Nat.le_refl _) _
 go_enter Tryz.func133,Tryz.ntmps133
 go_wp2_with fail
 obtain⟨W0,hW0⟩:∃W0,W0=w.alloc (.cells #[.int .i64 0,.int .i64 0,.int .i64 0,.int .i64 0] 161):=⟨_,rfl⟩
 rw [←hW0]at B0 hb0⊢
 clear hW0
 refine(HSz _).out.mono ?_
 rintro e w'⟨rfl,rfl⟩
 obtain⟨z0,z1,z2,z3,f0,f1,f2,f3⟩:=blk4' B0
 have HB0:=Lib.hid B0
 have Hb0:=Lib.hid hb0
 clear B0 hb0
 go_wp2_with fail
 have k9:=(((HB0.out.set_ 0 (.int .i64 0)).set_ 1 (.int .i64 0)).set_ 2 (.int .i64 0)).set_ 3 (.int .i64 0)
 have b9:=(((Hb0.out.setCell (p:=⟨w.heap.size,0,none⟩) (Nat.le_refl _) (.int .i64 0)).setCell (p:=⟨w.heap.size,1,none⟩) (Nat.le_refl _) (.int .i64 0)).setCell (p:=⟨w.heap.size,2,none⟩) (Nat.le_refl _) (.int .i64 0)).setCell (p:=⟨w.heap.size,3,none⟩) (Nat.le_refl _) (.int .i64 0)
 refine shape_ret' rfl w.heap.size k9 (.int .i64 1) rfl rfl ?_
 exact⟨rfl,b9⟩
section
variable{dv:Value}{er:Nat}
theorem poolOpenNo{w:World}(h0:0<er)(hH:Calls Tryz.prog 133 #[dv] w fun e w'=>e= .returned (.tuple #[.agg #[.int .i64 0,.int .i64 0,.int .i64 0,.int .i64 0],.int .i64 (er:Int)])∧Below w.heap.size w w'):
 Calls Tryz.prog 84 #[dv] w fun e w'=>e= .returned (.tuple #[.pointer none,.int .i64 (er:Int)])∧Below w.heap.size w w':=by
 have t0:((er:Int)==0)=false:=by rw [beq_eq_false_iff_ne];omega
 have t1:(er==0)=false:=by rw [beq_eq_false_iff_ne];omega
 have HH:=Lib.hid hH
 clear hH
 go_enter Tryz.func84,Tryz.ntmps84
 go_wp2_with fail
 refine HH.out.mono ?_
 rintro e w1⟨rfl,hb1⟩
 have HB1:=Lib.hid hb1
 clear hb1 HH
 go_wp2_with fail
 go_ret2
 exact⟨rfl,HB1.out.alloc HB1.out.size _⟩
set_option maxHeartbeats 4000000 in
set_option maxRecDepth 100000 in
theorem mendOpenNo{w:World}(h0:0<er)(hH:∀W,Below w.heap.size w W→Calls Tryz.prog 84 #[dv] W fun e w'=>e= .returned (.tuple #[.pointer none,.int .i64 (er:Int)])∧Below W.heap.size W w'):
 Calls Tryz.prog 76 #[dv] w fun e w'=>e= .returned (.tuple #[.agg #[.pointer none,.pointer none,.int .u64 0],.int .i64 (er:Int)])∧Below w.heap.size w w':=by
 have t0:((er:Int)==0)=false:=by rw [beq_eq_false_iff_ne];omega
 have t1:(er==0)=false:=by rw [beq_eq_false_iff_ne];omega
 obtain⟨w1,hw1⟩:∃w1,w1=w.alloc (.cells #[.pointer none,.pointer none,.int .u64 0] 156):=⟨_,rfl⟩
 have hb1:Below w.heap.size w w1:=hw1▸(Below.refl _ _).alloc (Nat.le_refl _) _
 have hB1:Blk w1 w.heap.size 156 [.pointer none,.pointer none,.int .u64 0]:=hw1▸heap_alloc_new _ _
 have HH:=Lib.hid (hH w1 hb1)
 have HB1:=Lib.hid hb1
 have HK1:=Lib.hid hB1
 have HW1:=Lib.hid hw1
 clear hH hb1 hB1 hw1
 go_enter Tryz.func76,Tryz.ntmps76
 go_wp2_with fail
 rw [←HW1.out]
 refine HH.out.mono ?_
 rintro e w7⟨rfl,hb7⟩
 have HB7:=Lib.hid (HB1.out.trans (hb7.mono HB1.out.size))
 have k7:=HK1.out.below hb7 HK1.out.lt
 have f0:=k7.frozen 0
 have f1:=k7.frozen 1
 have f2:=k7.frozen 2
 have e0:=k7.cell 0
 have e1:=k7.cell 1
 have e2:=k7.cell 2
 simp only [List.getElem?_cons_zero,List.getElem?_cons_succ]at e0 e1 e2
 have HK7:=Lib.hid k7
 clear hb7 k7 HH
 go_wp2_with fail
 have k9:=((HK7.out.set_ 0 (.pointer none)).set_ 1 (.pointer none)).set_ 2 (.int .u64 0)
 have b9:=((HB7.out.setCell (p:=⟨w.heap.size,0,none⟩) (Nat.le_refl _) (.pointer none)).setCell (p:=⟨w.heap.size,1,none⟩) (Nat.le_refl _) (.pointer none)).setCell (p:=⟨w.heap.size,2,none⟩) (Nat.le_refl _) (.int .u64 0)
 obtain⟨W,hW⟩:∃W,W=((w7.setCell ⟨w.heap.size,0,none⟩ (.pointer none)).setCell ⟨w.heap.size,1,none⟩ (.pointer none)).setCell ⟨w.heap.size,2,none⟩ (.int .u64 0):=⟨_,rfl⟩
 rw [←hW]
 rw [←hW]at k9 b9
 have y0:=k9.cell 0
 have y1:=k9.cell 1
 have y2:=k9.cell 2
 simp at y0 y1 y2
 refine bodyPost_ret (v:= .tuple #[.agg #[.pointer none,.pointer none,.int .u64 0],.int .i64 (er:Int)]) (by simp [results,Tryz.results76,go_sem,y0,y1,y2]) rfl ?_
 exact⟨rfl,b9⟩
set_option maxHeartbeats 4000000 in
set_option maxRecDepth 100000 in
theorem engOpenNo{w:World}(h0:0<er)(hM:Calls Tryz.prog 76 #[dv] w fun e w'=>e= .returned (.tuple #[.agg #[.pointer none,.pointer none,.int .u64 0],.int .i64 (er:Int)])∧Below w.heap.size w w'):
 Calls Tryz.prog 31 #[dv] w fun e w'=>e= .returned (.tuple #[.pointer none,.int .i64 (er:Int)])∧Below w.heap.size w w':=by
 have t0:((er:Int)==0)=false:=by rw [beq_eq_false_iff_ne];omega
 have t1:(er==0)=false:=by rw [beq_eq_false_iff_ne];omega
 have HH:=Lib.hid hM
 clear hM
 go_enter Tryz.func31,Tryz.ntmps31
 go_wp2_with fail
 refine HH.out.mono ?_
 rintro e w1⟨rfl,hb1⟩
 have HB1:=Lib.hid hb1
 clear hb1 HH
 go_wp2_with fail
 go_ret2
 exact⟨rfl,HB1.out.alloc HB1.out.size _⟩
end
theorem engOpenNil(w:World):Calls Tryz.prog 31 #[.pointer none] w fun e w'=>e= .returned (.tuple #[.pointer none,.int .i64 1])∧Below w.heap.size w w':=
 engOpenNo (er:=1) (by decide) (mendOpenNo (er:=1) (by decide) (fun W _=>poolOpenNo (er:=1) (by decide) (headOpenNil W)))
def sh40:Sh:={lines:=40,slabs:=2,table:=128,data:=192}
theorem shape40:shapeOf 40=some sh40:=by decide+kernel
theorem engOpenNew{w:World}{d:Nat}{own:Nat→Prop}(h:Dev w d 40 (fun _=>0) (fun _=>0) (fun _=>0) own)(hT:Tabs w):Calls Tryz.prog 31 #[.pointer (some ⟨d,0,none⟩)] w fun e w'=>e= .returned (.tuple #[.pointer none,.int .i64 5])∧Below w.heap.size w w':=by
 have hV:openV (fun _=>0) sh40= .tuple #[.agg #[.int .i64 0,.int .i64 0,.int .i64 0,.int .i64 0],.int .i64 5]:=by
  unfold openV
  rw [if_neg (by decide+kernel)]
 refine engOpenNo (er:=5) (by decide) (mendOpenNo (er:=5) (by decide) (fun W hW=>poolOpenNo (er:=5) (by decide) ?_))
 have:=open_head (by decide) (by decide) shape40 (h.below hW) (hT.below hW)
 rw [hV]at this
 exact this
end Go.Proofs.YtbkpiojejmhfcaaGreatDoor
