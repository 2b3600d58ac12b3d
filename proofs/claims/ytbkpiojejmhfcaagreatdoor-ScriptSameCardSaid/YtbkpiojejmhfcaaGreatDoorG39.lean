import Derived.Deep.DeepCutAuto
import Derived.Test.YtbkpiojejmhfcaaGreatDoorG37
import Derived.Test.YtbkpiojejmhfcaaGreatDoorG38
namespace Go.Proofs.YtbkpiojejmhfcaaGreatDoor
open Go.RowKit
theorem Blk.five{X:World}{b:Nat}{t:TypeId}{v0 v1 v2 v3 v4:Value}(h:Blk X b t [v0,v1,v2,v3,v4]):X.cell? ⟨b,0,none⟩=some v0∧X.cell? ⟨b,1,none⟩=some v1∧X.cell? ⟨b,2,none⟩=some v2∧X.cell? ⟨b,3,none⟩=some v3∧X.cell? ⟨b,4,none⟩=some v4:=⟨h.cell 0,h.cell 1,h.cell 2,h.cell 3,h.cell 4⟩
set_option maxHeartbeats 8000000 in
set_option maxRecDepth 100000 in
theorem scriptSame_any(a b:An)(A B:Option Addr)(c d:Nat)(w:World)(hla:a.pairs.length≤maxLen)(hlb:b.pairs.length≤maxLen)(ha:PrR w A a.pairs)(hb:PrR w B b.pairs)(hT:Tabs w):
 Calls Tryz.prog 6 #[.agg #[.string a.text,.slice A a.pairs.length c,.int .i64 a.n,.bool a.done,.int .i64 a.e],.agg #[.string b.text,.slice B b.pairs.length d,.int .i64 b.n,.bool b.done,.int .i64 b.e]] w fun e w'=>e= .returned (.bool true)∧Below w.heap.size w w':=by
 obtain⟨ta,pa,xa,da,ea⟩:=a
 obtain⟨tb,pb,xb,db,eb⟩:=b
 simp only at ha hb hla hlb⊢
 obtain⟨na,hna⟩:∃n,n=pa.length:=⟨_,rfl⟩
 obtain⟨nb,hnb⟩:∃n,n=pb.length:=⟨_,rfl⟩
 have HNA:=Lib.hid hna
 have HNB:=Lib.hid hnb
 rw [←hna]at hla⊢
 rw [←hnb]at hlb⊢
 obtain⟨W1,hW1⟩:∃W1,W1=w.alloc (.cells #[.string ta,.slice A na c,.int .i64 xa,.bool da,.int .i64 ea] 88):=⟨_,rfl⟩
 obtain⟨W,hW⟩:∃W,W=W1.alloc (.cells #[.string tb,.slice B nb d,.int .i64 xb,.bool db,.int .i64 eb] 88):=⟨_,rfl⟩
 have k1:Below w.heap.size w W1:=hW1▸(Below.refl _ _).alloc (Nat.le_refl _) _
 have k2:Below W1.heap.size W1 W:=hW▸(Below.refl _ _).alloc (Nat.le_refl _) _
 have hbW:=k1.trans (k2.mono k1.size)
 have s1:W1.heap.size=w.heap.size+1:=by rw [hW1];simp
 have b1:Blk W1 w.heap.size 88 [.string ta,.slice A na c,.int .i64 xa,.bool da,.int .i64 ea]:=hW1▸heap_alloc_new _ _
 have b2:Blk W W1.heap.size 88 [.string tb,.slice B nb d,.int .i64 xb,.bool db,.int .i64 eb]:=hW▸heap_alloc_new _ _
 have B1:=b1.below k2 b1.lt
 rw [s1]at b2
 have HB1:=Lib.hid B1
 have HB2:=Lib.hid b2
 have HAl:=Lib.hid (alive21 (hT.below hbW))
 have HRa:=Lib.hid (ha.below hbW)
 have HRb:=Lib.hid (hb.below hbW)
 have HB:=Lib.hid hbW
 rw [hW1]at hW
 have HWw:=Lib.hid hW
 clear ha hb hT hW hW1 k1 k2 hbW b1 b2 B1 s1 hna hnb
 have HCl:Hid (∀X,Below W.heap.size W X→Blk X w.heap.size 88 [.string ta,.slice A na c,.int .i64 xa,.bool da,.int .i64 ea]∧Blk X (w.heap.size+1) 88 [.string tb,.slice B nb d,.int .i64 xb,.bool db,.int .i64 eb]):=Lib.hid (fun X k=>⟨HB1.out.below k HB1.out.lt,HB2.out.below k HB2.out.lt⟩)
 have HCc:=Lib.hid (fun X k=>And.intro (HCl.out X k).1.five (HCl.out X k).2.five)
 clear HB1 HB2
 by_cases h0:100<na
 ·have t0:decide ((100:Int)<(na:Int))=true:=decide_eq_true (by omega)
  have u0:decide (100<na)=true:=decide_eq_true h0
  go_enter Tryz.func6,Tryz.ntmps6
  go_wp2_with(rw [←HWw.out])
  go_wp2_with fail
  refine HAl.out.mono ?_
  rintro e w1⟨rfl,hb1⟩
  have HB1:=Lib.hid (HB.out.trans (hb1.mono HB.out.size))
  have HBW:=Lib.hid hb1
  obtain⟨⟨p0,p1,p2,p3,p4⟩,q0,q1,q2,q3,q4⟩:=HCc.out w1 hb1
  clear HAl hb1
  go_wp2_with fail
  go_ret
  exact⟨rfl,HB1.out⟩
 have t0:decide ((100:Int)<(na:Int))=false:=decide_eq_false (by omega)
 have u0:decide (100<na)=false:=decide_eq_false h0
 by_cases h1:100<nb
 ·have t1:decide ((100:Int)<(nb:Int))=true:=decide_eq_true (by omega)
  have u1:decide (100<nb)=true:=decide_eq_true h1
  go_enter Tryz.func6,Tryz.ntmps6
  go_wp2_with(rw [←HWw.out])
  go_wp2_with fail
  refine HAl.out.mono ?_
  rintro e w1⟨rfl,hb1⟩
  have HB1:=Lib.hid (HB.out.trans (hb1.mono HB.out.size))
  have HBW:=Lib.hid hb1
  obtain⟨⟨p0,p1,p2,p3,p4⟩,q0,q1,q2,q3,q4⟩:=HCc.out w1 hb1
  clear HAl hb1
  go_wp2_with fail
  go_ret
  exact⟨rfl,HB1.out⟩
 have t1:decide ((100:Int)<(nb:Int))=false:=decide_eq_false (by omega)
 have u1:decide (100<nb)=false:=decide_eq_false h1
 by_cases h2:2000<ta.size
 ·have t2:decide ((2000:Int)<(ta.size:Int))=true:=decide_eq_true (by omega)
  have u2:decide (2000<ta.size)=true:=decide_eq_true h2
  go_enter Tryz.func6,Tryz.ntmps6
  go_wp2_with(rw [←HWw.out])
  go_wp2_with fail
  refine HAl.out.mono ?_
  rintro e w1⟨rfl,hb1⟩
  have HB1:=Lib.hid (HB.out.trans (hb1.mono HB.out.size))
  have HBW:=Lib.hid hb1
  obtain⟨⟨p0,p1,p2,p3,p4⟩,q0,q1,q2,q3,q4⟩:=HCc.out w1 hb1
  clear HAl hb1
  go_wp2_with fail
  go_ret
  exact⟨rfl,HB1.out⟩
 have t2:decide ((2000:Int)<(ta.size:Int))=false:=decide_eq_false (by omega)
 have u2:decide (2000<ta.size)=false:=decide_eq_false h2
 by_cases h3:2000<tb.size
 ·have t3:decide ((2000:Int)<(tb.size:Int))=true:=decide_eq_true (by omega)
  have u3:decide (2000<tb.size)=true:=decide_eq_true h3
  go_enter Tryz.func6,Tryz.ntmps6
  go_wp2_with(rw [←HWw.out])
  go_wp2_with fail
  refine HAl.out.mono ?_
  rintro e w1⟨rfl,hb1⟩
  have HB1:=Lib.hid (HB.out.trans (hb1.mono HB.out.size))
  have HBW:=Lib.hid hb1
  obtain⟨⟨p0,p1,p2,p3,p4⟩,q0,q1,q2,q3,q4⟩:=HCc.out w1 hb1
  clear HAl hb1
  go_wp2_with fail
  go_ret
  exact⟨rfl,HB1.out⟩
 have t3:decide ((2000:Int)<(tb.size:Int))=false:=decide_eq_false (by omega)
 have u3:decide (2000<tb.size)=false:=decide_eq_false h3
 go_enter Tryz.func6,Tryz.ntmps6
 go_wp2_with(rw [←HWw.out])
 go_wp2_with fail
 refine HAl.out.mono ?_
 rintro e w1⟨rfl,hb1⟩
 have HB1:=Lib.hid (HB.out.trans (hb1.mono HB.out.size))
 have HBW:=Lib.hid hb1
 obtain⟨⟨p0,p1,p2,p3,p4⟩,q0,q1,q2,q3,q4⟩:=HCc.out w1 hb1
 clear HAl hb1
 go_wp2_with fail
 have HP5:=Lib.hid (fun X(k:Below w1.heap.size w1 X)=>lawPairs pa A c X (by rw [←HNA.out];omega) (HRa.out.below (HBW.out.trans (k.mono HBW.out.size))))
 rw [←HNA.out]at HP5
 go_cut [5](fun s5 wx=>∃x5 A5 c5,s5= .pointer (some ⟨x5,0,none⟩)∧Blk wx x5 91 [.string ta,.slice A5 na c5,.int .i64 xa,.bool da,.int .i64 ea]∧PrR wx A5 pa∧Below w1.heap.size w1 wx)
 case first=>
  have HK:Hid (∀X,Below w1.heap.size w1 X→X.cell? ⟨w.heap.size,0,none⟩=some (.string ta)∧X.cell? ⟨w.heap.size,1,none⟩=some (.slice A na c)∧X.cell? ⟨w.heap.size,2,none⟩=some (.int .i64 xa)∧X.cell? ⟨w.heap.size,3,none⟩=some (.bool da)∧X.cell? ⟨w.heap.size,4,none⟩=some (.int .i64 ea)):=Lib.hid (fun X k=>(HCc.out X (HBW.out.trans (k.mono HBW.out.size))).1)
  refine wp_region_held_drew (S:=(fun w'=>w'.cell? ⟨w.heap.size,0,none⟩=some (.string ta)∧w'.cell? ⟨w.heap.size,1,none⟩=some (.slice A na c)∧w'.cell? ⟨w.heap.size,2,none⟩=some (.int .i64 xa)∧w'.cell? ⟨w.heap.size,3,none⟩=some (.bool da)∧w'.cell? ⟨w.heap.size,4,none⟩=some (.int .i64 ea))) (by kernel_rfl) ⟨p0,p1,p2,p3,p4⟩ (fun hHeld=> ?_)
  refine tk 0 (.pointer (some ⟨w.heap.size,0,none⟩)) rfl (by kernel_rfl) (fun _ _ _ h=>h) (by rfl) (fun w hSw=>by clear hSw;go_simp) hHeld ?_
  refine tk 1 (.string ta) rfl (by kernel_rfl) (fun _ _ _ h=>h) (by rfl) (fun w hSw=>by obtain⟨s0,s1,s2,s3,s4⟩:=hSw;go_simp) hHeld ?_
  refine tk 2 (.pointer (some ⟨w.heap.size,1,none⟩)) rfl (by kernel_rfl) (fun _ _ _ h=>h) (by rfl) (fun w hSw=>by clear hSw;go_simp) hHeld ?_
  refine tk 3 (.slice A na c) rfl (by kernel_rfl) (fun _ _ _ h=>h) (by rfl) (fun w hSw=>by obtain⟨s0,s1,s2,s3,s4⟩:=hSw;go_simp) hHeld ?_
  try simp only [Act.put,List.getElem_toArray,List.getElem_cons_succ,List.getElem_cons_zero,List.setIfInBounds_toArray,List.set_cons_zero,List.set_cons_succ]
  refine tk 5 (.pointer (some ⟨w.heap.size,2,none⟩)) rfl (by kernel_rfl) (fun _ _ _ h=>h) (by rfl) (fun w hSw=>by clear hSw;go_simp) hHeld ?_
  refine tk 6 (.int .i64 xa) rfl (by kernel_rfl) (fun _ _ _ h=>h) (by rfl) (fun w hSw=>by obtain⟨s0,s1,s2,s3,s4⟩:=hSw;go_simp) hHeld ?_
  refine tk 7 (.pointer (some ⟨w.heap.size,3,none⟩)) rfl (by kernel_rfl) (fun _ _ _ h=>h) (by rfl) (fun w hSw=>by clear hSw;go_simp) hHeld ?_
  refine tk 8 (.bool da) rfl (by kernel_rfl) (fun _ _ _ h=>h) (by rfl) (fun w hSw=>by obtain⟨s0,s1,s2,s3,s4⟩:=hSw;go_simp) hHeld ?_
  try simp only [Act.put,List.getElem_toArray,List.getElem_cons_succ,List.getElem_cons_zero,List.setIfInBounds_toArray,List.set_cons_zero,List.set_cons_succ]
  refine tk 9 (.pointer (some ⟨w.heap.size,4,none⟩)) rfl (by kernel_rfl) (fun _ _ _ h=>h) (by rfl) (fun w hSw=>by clear hSw;go_simp) hHeld ?_
  refine tk 10 (.int .i64 ea) rfl (by kernel_rfl) (fun _ _ _ h=>h) (by rfl) (fun w hSw=>by obtain⟨s0,s1,s2,s3,s4⟩:=hSw;go_simp) hHeld ?_
  try simp only [Act.put,List.getElem_toArray,List.getElem_cons_succ,List.getElem_cons_zero,List.setIfInBounds_toArray,List.set_cons_zero,List.set_cons_succ]
  refine wpAnyH_ready (rs:=[4,12]) (by kernel_rfl) (by simp) ?_
  refine AllReadyH.cons rfl (fun K hK=> ?_) (AllReadyH.cons rfl (fun K hK=> ?_) AllReadyH.nil)
  ·go_simp
   refine(HP5.out _ ((Dr.drew w1).below _)).mono ?_
   rintro e w3⟨v3,rfl,hO3,hb3⟩
   obtain⟨A3,c3,hv3,hc3,hr3⟩:=own_rowk hO3
   subst hv3
   have hbb:Below w1.heap.size w1 w3:=((Dr.drew w1).below _).trans hb3
   refine hK.out _ _ (HK.out _ hbb) (fun hHeld=> ?_)
   clear hK K
   try simp only [Act.put,List.getElem_toArray,List.getElem_cons_succ,List.getElem_cons_zero,List.setIfInBounds_toArray,List.set_cons_zero,List.set_cons_succ]
   refine tk 11 (.agg #[.string ta,.slice A3 na c3,.int .i64 xa,.bool da,.int .i64 ea]) rfl (by kernel_rfl) (fun _ _ _ h=>h) (by rfl) (fun w hSw=>by clear hSw;go_simp) hHeld ?_
   try simp only [Act.put,List.getElem_toArray,List.getElem_cons_succ,List.getElem_cons_zero,List.setIfInBounds_toArray,List.set_cons_zero,List.set_cons_succ]
   refine wpAnyH_ready (rs:=[12]) (by kernel_rfl) (by simp) ?_
   refine AllReadyH.cons rfl (fun K hK=> ?_) AllReadyH.nil
   go_simp
   refine hK.out _ _ (HK.out _ (hbb.alloc hbb.size _)) (fun hHeld=> ?_)
   clear hK K
   try simp only [Act.put,List.getElem_toArray,List.getElem_cons_succ,List.getElem_cons_zero,List.setIfInBounds_toArray,List.set_cons_zero,List.set_cons_succ]
   refine wpAnyH_ready (rs:=[13]) (by kernel_rfl) (by simp) ?_
   refine AllReadyH.cons rfl (fun K hK=> ?_) AllReadyH.nil
   go_simp
   obtain⟨W5,hW5⟩:∃W5,W5=w3.alloc (.cells #[.string ta,.slice A3 na c3,.int .i64 xa,.bool da,.int .i64 ea] 91):=⟨_,rfl⟩
   rw [←hW5]
   have hb35:Below w3.heap.size w3 W5:=hW5▸(Below.refl _ _).alloc (Nat.le_refl _) _
   have hB5:Blk W5 w3.heap.size 91 [.string ta,.slice A3 na c3,.int .i64 xa,.bool da,.int .i64 ea]:=hW5▸heap_alloc_new _ _
   have hbb5:=hbb.trans (hb35.mono hbb.size)
   have hr5:=Rd.below hr3 hb35
   clear hW5
   refine hK.out _ _ (HK.out _ hbb5) (fun hHeld=> ?_)
   clear hK K
   try simp only [Act.put,List.getElem_toArray,List.getElem_cons_succ,List.getElem_cons_zero,List.setIfInBounds_toArray,List.set_cons_zero,List.set_cons_succ]
   refine wpAnyH_done (by kernel_rfl) ?_ _
   go_wp2_with fail
   go_meet
   exact⟨w3.heap.size,A3,c3,rfl,hB5,(by first| exact hr5| (unfold PrR;rw [←HNA.out];exact hr5)),hbb5⟩
  ·go_simp
   obtain⟨W4,hW4⟩:∃W4,W4=(w1.alloc (.cells #[.string ⟨#[]⟩,.slice none 0 0,.int .i64 0,.bool false,.int .i64 0] 91)).drew:=⟨_,rfl⟩
   rw [←hW4]
   have hb4:Below w1.heap.size w1 W4:=by rw [hW4];exact((Below.refl w1.heap.size w1).alloc (Nat.le_refl _) _).drew
   have hB4:Blk W4 w1.heap.size 91 [.string ⟨#[]⟩,.slice none 0 0,.int .i64 0,.bool false,.int .i64 0]:=by rw [hW4];exact heap_alloc_new w1 (.cells #[.string ⟨#[]⟩,.slice none 0 0,.int .i64 0,.bool false,.int .i64 0] 91)
   have hs4:=hB4.lt
   clear hW4
   refine hK.out _ _ (HK.out _ hb4) (fun hHeld=> ?_)
   clear hK K
   try simp only [Act.put,List.getElem_toArray,List.getElem_cons_succ,List.getElem_cons_zero,List.setIfInBounds_toArray,List.set_cons_zero,List.set_cons_succ]
   refine wpAnyH_ready (rs:=[4]) (by kernel_rfl) (by simp) ?_
   refine AllReadyH.cons rfl (fun K hK=> ?_) AllReadyH.nil
   go_simp
   refine(HP5.out _ hb4).mono ?_
   rintro e w3⟨v3,rfl,hO3,hb3⟩
   have hat:=own_blk hO3
   obtain⟨A3,c3,hv3,hc3,hr3⟩:=own_rowk hO3
   subst hv3
   have hbb:Below w1.heap.size w1 w3:=hb4.trans (hb3.mono hb4.size)
   have hB3:=hB4.below hb3 hs4
   refine hK.out _ _ (HK.out _ hbb) (fun hHeld=> ?_)
   clear hK K
   try simp only [Act.put,List.getElem_toArray,List.getElem_cons_succ,List.getElem_cons_zero,List.setIfInBounds_toArray,List.set_cons_zero,List.set_cons_succ]
   refine tk 11 (.agg #[.string ta,.slice A3 na c3,.int .i64 xa,.bool da,.int .i64 ea]) rfl (by kernel_rfl) (fun _ _ _ h=>h) (by rfl) (fun w hSw=>by clear hSw;go_simp) hHeld ?_
   try simp only [Act.put,List.getElem_toArray,List.getElem_cons_succ,List.getElem_cons_zero,List.setIfInBounds_toArray,List.set_cons_zero,List.set_cons_succ]
   obtain⟨z0,z1,z2,z3,z4⟩:=hB3.five
   have zf0:=hB3.frozen 0
   have zf1:=hB3.frozen 1
   have zf2:=hB3.frozen 2
   have zf3:=hB3.frozen 3
   have zf4:=hB3.frozen 4
   refine wpAnyH_ready (rs:=[13]) (by kernel_rfl) (by simp) ?_
   refine AllReadyH.cons rfl (fun K hK=> ?_) AllReadyH.nil
   go_simp
   obtain⟨W5,hW5⟩:∃W5,W5=((((w3.setCell ⟨w1.heap.size,0,none⟩ (.string ta)).setCell ⟨w1.heap.size,1,none⟩ (.slice A3 na c3)).setCell ⟨w1.heap.size,2,none⟩ (.int .i64 xa)).setCell ⟨w1.heap.size,3,none⟩ (.bool da)).setCell ⟨w1.heap.size,4,none⟩ (.int .i64 ea):=⟨_,rfl⟩
   rw [←hW5]
   have hB5:Blk W5 w1.heap.size 91 [.string ta,.slice A3 na c3,.int .i64 xa,.bool da,.int .i64 ea]:=by rw [hW5];exact((((hB3.set_ 0 _).set_ 1 _).set_ 2 _).set_ 3 _).set_ 4 _
   have ht5:Touch (fun k=>k=w1.heap.size) w3 W5:=by rw [hW5];exact(((((Touch.refl (fun k=>k=w1.heap.size) w3).setCell (p:=⟨w1.heap.size,0,none⟩) (.inl rfl) _).setCell (p:=⟨w1.heap.size,1,none⟩) (.inl rfl) _).setCell (p:=⟨w1.heap.size,2,none⟩) (.inl rfl) _).setCell (p:=⟨w1.heap.size,3,none⟩) (.inl rfl) _).setCell (p:=⟨w1.heap.size,4,none⟩) (.inl rfl) _
   have hbb5:Below w1.heap.size w1 W5:=hbb.trans (ht5.below hbb.size (fun k e=>by omega))
   have hr5:Rd W5 A3 (pa.length*2) (prCs pa):=Rd.touch (by first| exact hr3| (rw [←HNA.out];exact hr3)) ht5 (fun a ea e=>by
    have h9:=hat a.block (by rw [ea];rfl)
    omega)
   clear hW5
   refine hK.out _ _ (HK.out _ hbb5) (fun hHeld=> ?_)
   clear hK K
   try simp only [Act.put,List.getElem_toArray,List.getElem_cons_succ,List.getElem_cons_zero,List.setIfInBounds_toArray,List.set_cons_zero,List.set_cons_succ]
   refine wpAnyH_done (by kernel_rfl) ?_ _
   go_wp2_with fail
   go_meet
   exact⟨w1.heap.size,A3,c3,rfl,hB5,(by first| exact hr5| (unfold PrR;rw [←HNA.out];exact hr5)),hbb5⟩
 case rest=>
  obtain⟨x5,A5,c5,hs5,hX5,hR5,hb5⟩:=hcut
  subst hs5
  have HX5:=Lib.hid hX5
  have HR5:=Lib.hid hR5
  have HB5:=Lib.hid (HBW.out.trans (hb5.mono HBW.out.size))
  have HBc:=Lib.hid (HB1.out.trans (hb5.mono HB1.out.size))
  obtain⟨-,q0,q1,q2,q3,q4⟩:=HCc.out _ HB5.out
  clear hX5 hR5 hb5 p0 p1 p2 p3 p4 HP5
  have HP6:=Lib.hid (fun X(k:Below wc.heap.size wc X)=>lawPairs pb B d X (by rw [←HNB.out];omega) (HRb.out.below (HB5.out.trans (k.mono HB5.out.size))))
  rw [←HNB.out]at HP6
  go_wp2_with fail
  go_cut [6](fun s6 wx=>∃x6 A6 c6,s6= .pointer (some ⟨x6,0,none⟩)∧Blk wx x6 91 [.string tb,.slice A6 nb c6,.int .i64 xb,.bool db,.int .i64 eb]∧PrR wx A6 pb∧Below wc.heap.size wc wx)
  case first=>
   have HK:Hid (∀X,Below wc.heap.size wc X→X.cell? ⟨w.heap.size+1,0,none⟩=some (.string tb)∧X.cell? ⟨w.heap.size+1,1,none⟩=some (.slice B nb d)∧X.cell? ⟨w.heap.size+1,2,none⟩=some (.int .i64 xb)∧X.cell? ⟨w.heap.size+1,3,none⟩=some (.bool db)∧X.cell? ⟨w.heap.size+1,4,none⟩=some (.int .i64 eb)):=Lib.hid (fun X k=>(HCc.out X (HB5.out.trans (k.mono HB5.out.size))).2)
   refine wp_region_held_drew (S:=(fun w'=>w'.cell? ⟨w.heap.size+1,0,none⟩=some (.string tb)∧w'.cell? ⟨w.heap.size+1,1,none⟩=some (.slice B nb d)∧w'.cell? ⟨w.heap.size+1,2,none⟩=some (.int .i64 xb)∧w'.cell? ⟨w.heap.size+1,3,none⟩=some (.bool db)∧w'.cell? ⟨w.heap.size+1,4,none⟩=some (.int .i64 eb))) (by kernel_rfl) ⟨q0,q1,q2,q3,q4⟩ (fun hHeld=> ?_)
   refine tk 0 (.pointer (some ⟨w.heap.size+1,0,none⟩)) rfl (by kernel_rfl) (fun _ _ _ h=>h) (by rfl) (fun w hSw=>by clear hSw;go_simp) hHeld ?_
   refine tk 1 (.string tb) rfl (by kernel_rfl) (fun _ _ _ h=>h) (by rfl) (fun w hSw=>by obtain⟨s0,s1,s2,s3,s4⟩:=hSw;go_simp) hHeld ?_
   refine tk 2 (.pointer (some ⟨w.heap.size+1,1,none⟩)) rfl (by kernel_rfl) (fun _ _ _ h=>h) (by rfl) (fun w hSw=>by clear hSw;go_simp) hHeld ?_
   refine tk 3 (.slice B nb d) rfl (by kernel_rfl) (fun _ _ _ h=>h) (by rfl) (fun w hSw=>by obtain⟨s0,s1,s2,s3,s4⟩:=hSw;go_simp) hHeld ?_
   try simp only [Act.put,List.getElem_toArray,List.getElem_cons_succ,List.getElem_cons_zero,List.setIfInBounds_toArray,List.set_cons_zero,List.set_cons_succ]
   refine tk 5 (.pointer (some ⟨w.heap.size+1,2,none⟩)) rfl (by kernel_rfl) (fun _ _ _ h=>h) (by rfl) (fun w hSw=>by clear hSw;go_simp) hHeld ?_
   refine tk 6 (.int .i64 xb) rfl (by kernel_rfl) (fun _ _ _ h=>h) (by rfl) (fun w hSw=>by obtain⟨s0,s1,s2,s3,s4⟩:=hSw;go_simp) hHeld ?_
   refine tk 7 (.pointer (some ⟨w.heap.size+1,3,none⟩)) rfl (by kernel_rfl) (fun _ _ _ h=>h) (by rfl) (fun w hSw=>by clear hSw;go_simp) hHeld ?_
   refine tk 8 (.bool db) rfl (by kernel_rfl) (fun _ _ _ h=>h) (by rfl) (fun w hSw=>by obtain⟨s0,s1,s2,s3,s4⟩:=hSw;go_simp) hHeld ?_
   try simp only [Act.put,List.getElem_toArray,List.getElem_cons_succ,List.getElem_cons_zero,List.setIfInBounds_toArray,List.set_cons_zero,List.set_cons_succ]
   refine tk 9 (.pointer (some ⟨w.heap.size+1,4,none⟩)) rfl (by kernel_rfl) (fun _ _ _ h=>h) (by rfl) (fun w hSw=>by clear hSw;go_simp) hHeld ?_
   refine tk 10 (.int .i64 eb) rfl (by kernel_rfl) (fun _ _ _ h=>h) (by rfl) (fun w hSw=>by obtain⟨s0,s1,s2,s3,s4⟩:=hSw;go_simp) hHeld ?_
   try simp only [Act.put,List.getElem_toArray,List.getElem_cons_succ,List.getElem_cons_zero,List.setIfInBounds_toArray,List.set_cons_zero,List.set_cons_succ]
   refine wpAnyH_ready (rs:=[4,12]) (by kernel_rfl) (by simp) ?_
   refine AllReadyH.cons rfl (fun K hK=> ?_) (AllReadyH.cons rfl (fun K hK=> ?_) AllReadyH.nil)
   ·go_simp
    refine(HP6.out _ ((Dr.drew wc).below _)).mono ?_
    rintro e w3⟨v3,rfl,hO3,hb3⟩
    obtain⟨A3,c3,hv3,hc3,hr3⟩:=own_rowk hO3
    subst hv3
    have hbb:Below wc.heap.size wc w3:=((Dr.drew wc).below _).trans hb3
    refine hK.out _ _ (HK.out _ hbb) (fun hHeld=> ?_)
    clear hK K
    try simp only [Act.put,List.getElem_toArray,List.getElem_cons_succ,List.getElem_cons_zero,List.setIfInBounds_toArray,List.set_cons_zero,List.set_cons_succ]
    refine tk 11 (.agg #[.string tb,.slice A3 nb c3,.int .i64 xb,.bool db,.int .i64 eb]) rfl (by kernel_rfl) (fun _ _ _ h=>h) (by rfl) (fun w hSw=>by clear hSw;go_simp) hHeld ?_
    try simp only [Act.put,List.getElem_toArray,List.getElem_cons_succ,List.getElem_cons_zero,List.setIfInBounds_toArray,List.set_cons_zero,List.set_cons_succ]
    refine wpAnyH_ready (rs:=[12]) (by kernel_rfl) (by simp) ?_
    refine AllReadyH.cons rfl (fun K hK=> ?_) AllReadyH.nil
    go_simp
    refine hK.out _ _ (HK.out _ (hbb.alloc hbb.size _)) (fun hHeld=> ?_)
    clear hK K
    try simp only [Act.put,List.getElem_toArray,List.getElem_cons_succ,List.getElem_cons_zero,List.setIfInBounds_toArray,List.set_cons_zero,List.set_cons_succ]
    refine wpAnyH_ready (rs:=[13]) (by kernel_rfl) (by simp) ?_
    refine AllReadyH.cons rfl (fun K hK=> ?_) AllReadyH.nil
    go_simp
    obtain⟨W5,hW5⟩:∃W5,W5=w3.alloc (.cells #[.string tb,.slice A3 nb c3,.int .i64 xb,.bool db,.int .i64 eb] 91):=⟨_,rfl⟩
    rw [←hW5]
    have hb35:Below w3.heap.size w3 W5:=hW5▸(Below.refl _ _).alloc (Nat.le_refl _) _
    have hB5:Blk W5 w3.heap.size 91 [.string tb,.slice A3 nb c3,.int .i64 xb,.bool db,.int .i64 eb]:=hW5▸heap_alloc_new _ _
    have hbb5:=hbb.trans (hb35.mono hbb.size)
    have hr5:=Rd.below hr3 hb35
    clear hW5
    refine hK.out _ _ (HK.out _ hbb5) (fun hHeld=> ?_)
    clear hK K
    try simp only [Act.put,List.getElem_toArray,List.getElem_cons_succ,List.getElem_cons_zero,List.setIfInBounds_toArray,List.set_cons_zero,List.set_cons_succ]
    refine wpAnyH_done (by kernel_rfl) ?_ _
    go_wp2_with fail
    go_meet
    exact⟨w3.heap.size,A3,c3,rfl,hB5,(by first| exact hr5| (unfold PrR;rw [←HNB.out];exact hr5)),hbb5⟩
   ·go_simp
    obtain⟨W4,hW4⟩:∃W4,W4=(wc.alloc (.cells #[.string ⟨#[]⟩,.slice none 0 0,.int .i64 0,.bool false,.int .i64 0] 91)).drew:=⟨_,rfl⟩
    rw [←hW4]
    have hb4:Below wc.heap.size wc W4:=by rw [hW4];exact((Below.refl wc.heap.size wc).alloc (Nat.le_refl _) _).drew
    have hB4:Blk W4 wc.heap.size 91 [.string ⟨#[]⟩,.slice none 0 0,.int .i64 0,.bool false,.int .i64 0]:=by rw [hW4];exact heap_alloc_new wc (.cells #[.string ⟨#[]⟩,.slice none 0 0,.int .i64 0,.bool false,.int .i64 0] 91)
    have hs4:=hB4.lt
    clear hW4
    refine hK.out _ _ (HK.out _ hb4) (fun hHeld=> ?_)
    clear hK K
    try simp only [Act.put,List.getElem_toArray,List.getElem_cons_succ,List.getElem_cons_zero,List.setIfInBounds_toArray,List.set_cons_zero,List.set_cons_succ]
    refine wpAnyH_ready (rs:=[4]) (by kernel_rfl) (by simp) ?_
    refine AllReadyH.cons rfl (fun K hK=> ?_) AllReadyH.nil
    go_simp
    refine(HP6.out _ hb4).mono ?_
    rintro e w3⟨v3,rfl,hO3,hb3⟩
    have hat:=own_blk hO3
    obtain⟨A3,c3,hv3,hc3,hr3⟩:=own_rowk hO3
    subst hv3
    have hbb:Below wc.heap.size wc w3:=hb4.trans (hb3.mono hb4.size)
    have hB3:=hB4.below hb3 hs4
    refine hK.out _ _ (HK.out _ hbb) (fun hHeld=> ?_)
    clear hK K
    try simp only [Act.put,List.getElem_toArray,List.getElem_cons_succ,List.getElem_cons_zero,List.setIfInBounds_toArray,List.set_cons_zero,List.set_cons_succ]
    refine tk 11 (.agg #[.string tb,.slice A3 nb c3,.int .i64 xb,.bool db,.int .i64 eb]) rfl (by kernel_rfl) (fun _ _ _ h=>h) (by rfl) (fun w hSw=>by clear hSw;go_simp) hHeld ?_
    try simp only [Act.put,List.getElem_toArray,List.getElem_cons_succ,List.getElem_cons_zero,List.setIfInBounds_toArray,List.set_cons_zero,List.set_cons_succ]
    obtain⟨z0,z1,z2,z3,z4⟩:=hB3.five
    have zf0:=hB3.frozen 0
    have zf1:=hB3.frozen 1
    have zf2:=hB3.frozen 2
    have zf3:=hB3.frozen 3
    have zf4:=hB3.frozen 4
    refine wpAnyH_ready (rs:=[13]) (by kernel_rfl) (by simp) ?_
    refine AllReadyH.cons rfl (fun K hK=> ?_) AllReadyH.nil
    go_simp
    obtain⟨W5,hW5⟩:∃W5,W5=((((w3.setCell ⟨wc.heap.size,0,none⟩ (.string tb)).setCell ⟨wc.heap.size,1,none⟩ (.slice A3 nb c3)).setCell ⟨wc.heap.size,2,none⟩ (.int .i64 xb)).setCell ⟨wc.heap.size,3,none⟩ (.bool db)).setCell ⟨wc.heap.size,4,none⟩ (.int .i64 eb):=⟨_,rfl⟩
    rw [←hW5]
    have hB5:Blk W5 wc.heap.size 91 [.string tb,.slice A3 nb c3,.int .i64 xb,.bool db,.int .i64 eb]:=by rw [hW5];exact((((hB3.set_ 0 _).set_ 1 _).set_ 2 _).set_ 3 _).set_ 4 _
    have ht5:Touch (fun k=>k=wc.heap.size) w3 W5:=by rw [hW5];exact(((((Touch.refl (fun k=>k=wc.heap.size) w3).setCell (p:=⟨wc.heap.size,0,none⟩) (.inl rfl) _).setCell (p:=⟨wc.heap.size,1,none⟩) (.inl rfl) _).setCell (p:=⟨wc.heap.size,2,none⟩) (.inl rfl) _).setCell (p:=⟨wc.heap.size,3,none⟩) (.inl rfl) _).setCell (p:=⟨wc.heap.size,4,none⟩) (.inl rfl) _
    have hbb5:Below wc.heap.size wc W5:=hbb.trans (ht5.below hbb.size (fun k e=>by omega))
    have hr5:Rd W5 A3 (pb.length*2) (prCs pb):=Rd.touch (by first| exact hr3| (rw [←HNB.out];exact hr3)) ht5 (fun a ea e=>by
     have h9:=hat a.block (by rw [ea];rfl)
     omega)
    clear hW5
    refine hK.out _ _ (HK.out _ hbb5) (fun hHeld=> ?_)
    clear hK K
    try simp only [Act.put,List.getElem_toArray,List.getElem_cons_succ,List.getElem_cons_zero,List.setIfInBounds_toArray,List.set_cons_zero,List.set_cons_succ]
    refine wpAnyH_done (by kernel_rfl) ?_ _
    go_wp2_with fail
    go_meet
    exact⟨wc.heap.size,A3,c3,rfl,hB5,(by first| exact hr5| (unfold PrR;rw [←HNB.out];exact hr5)),hbb5⟩
  case rest=>
   obtain⟨x6,A6,c6,hs6,hX6,hR6,hb6⟩:=hcut
   subst hs6
   obtain⟨w6,hw6⟩:∃x,x=wc:=⟨_,rfl⟩
   subst hw6
   have HX6:=Lib.hid hX6
   have HR6:=Lib.hid hR6
   have HB6:=Lib.hid (HB5.out.trans (hb6.mono HB5.out.size))
   have HBd:=Lib.hid (HBc.out.trans (hb6.mono HBc.out.size))
   have HX56:=Lib.hid (HX5.out.below hb6 HX5.out.lt)
   have HR56:=Lib.hid (HR5.out.below hb6)
   clear hX6 hR6 hb6 q0 q1 q2 q3 q4 HP6
   have HK7:Hid (∀X,Below w6.heap.size w6 X→X.cell? ⟨x5,0,none⟩=some (.string ta)∧X.cell? ⟨x5,1,none⟩=some (.slice A5 na c5)∧X.cell? ⟨x5,2,none⟩=some (.int .i64 xa)∧X.cell? ⟨x5,3,none⟩=some (.bool da)∧X.cell? ⟨x5,4,none⟩=some (.int .i64 ea)∧X.cell? ⟨x6,0,none⟩=some (.string tb)∧X.cell? ⟨x6,1,none⟩=some (.slice A6 nb c6)∧X.cell? ⟨x6,2,none⟩=some (.int .i64 xb)∧X.cell? ⟨x6,3,none⟩=some (.bool db)∧X.cell? ⟨x6,4,none⟩=some (.int .i64 eb)∧X.cell? ⟨w.heap.size,0,none⟩=some (.string ta)∧X.cell? ⟨w.heap.size,1,none⟩=some (.slice A na c)∧X.cell? ⟨w.heap.size,2,none⟩=some (.int .i64 xa)∧X.cell? ⟨w.heap.size,3,none⟩=some (.bool da)∧X.cell? ⟨w.heap.size,4,none⟩=some (.int .i64 ea)∧X.cell? ⟨w.heap.size+1,0,none⟩=some (.string tb)∧X.cell? ⟨w.heap.size+1,1,none⟩=some (.slice B nb d)∧X.cell? ⟨w.heap.size+1,2,none⟩=some (.int .i64 xb)∧X.cell? ⟨w.heap.size+1,3,none⟩=some (.bool db)∧X.cell? ⟨w.heap.size+1,4,none⟩=some (.int .i64 eb)):=Lib.hid (fun X k=>by
    obtain⟨C1,C2⟩:=HCl.out X (HB6.out.trans (k.mono HB6.out.size))
    have C3:=HX56.out.below k HX56.out.lt
    have C4:=HX6.out.below k HX6.out.lt
    exact⟨C3.cell 0,C3.cell 1,C3.cell 2,C3.cell 3,C3.cell 4,C4.cell 0,C4.cell 1,C4.cell 2,C4.cell 3,C4.cell 4,C1.cell 0,C1.cell 1,C1.cell 2,C1.cell 3,C1.cell 4,C2.cell 0,C2.cell 1,C2.cell 2,C2.cell 3,C2.cell 4⟩)
   obtain⟨sb,hsb⟩:∃sb,sameAn ⟨ta,pa,xa,da,ea⟩ ⟨tb,pb,xb,db,eb⟩=sb:=⟨_,rfl⟩
   have hsc:sameAn ⟨tb,pb,xb,db,eb⟩ ⟨ta,pa,xa,da,ea⟩=sb:=by rw [sameAn_comm];exact hsb
   have HS1:=Lib.hid (fun X(k:Below w6.heap.size w6 X)=>scrSame ⟨ta,pa,xa,da,ea⟩ ⟨tb,pb,xb,db,eb⟩ A5 A6 c5 c6 X (by show pa.length≤1000000;rw [←HNA.out];omega) (HR56.out.below k) (HR6.out.below k))
   have HS4:=Lib.hid (fun X(k:Below w6.heap.size w6 X)=>scrSame ⟨tb,pb,xb,db,eb⟩ ⟨ta,pa,xa,da,ea⟩ A6 A5 c6 c5 X (by show pb.length≤1000000;rw [←HNB.out];omega) (HR6.out.below k) (HR56.out.below k))
   have HS3:=Lib.hid (fun X(k:Below w6.heap.size w6 X)=>scrSame ⟨ta,pa,xa,da,ea⟩ ⟨ta,pa,xa,da,ea⟩ A5 A5 c5 c5 X (by show pa.length≤1000000;rw [←HNA.out];omega) (HR56.out.below k) (HR56.out.below k))
   have HS2:=Lib.hid (fun X(k:Below w6.heap.size w6 X)=>lawSame ⟨ta,pa,xa,da,ea⟩ ⟨tb,pb,xb,db,eb⟩ A B c d X (by show pa.length≤1000000;rw [←HNA.out];omega) (HRa.out.below (HB6.out.trans (k.mono HB6.out.size))) (HRb.out.below (HB6.out.trans (k.mono HB6.out.size))))
   unfold anW at HS1 HS3 HS4
   rw [hsb]at HS1 HS2
   rw [hsc]at HS4
   rw [sameAn_refl]at HS3
   simp only at HS1 HS2 HS3 HS4
   rw [←HNA.out,←HNB.out]at HS1 HS2 HS4
   rw [←HNA.out]at HS3
   obtain⟨z0,z1,z2,z3,z4,z5,z6,z7,z8,z9,z10,z11,z12,z13,z14,z15,z16,z17,z18,z19⟩:=HK7.out w6 (Below.refl _ _)
   clear hsb hsc
   go_wp2_with fail
   cases sb
   all_goals
    refine wp_region_held_drew (S:=(fun w'=>w'.cell? ⟨x5,0,none⟩=some (.string ta)∧w'.cell? ⟨x5,1,none⟩=some (.slice A5 na c5)∧w'.cell? ⟨x5,2,none⟩=some (.int .i64 xa)∧w'.cell? ⟨x5,3,none⟩=some (.bool da)∧w'.cell? ⟨x5,4,none⟩=some (.int .i64 ea)∧w'.cell? ⟨x6,0,none⟩=some (.string tb)∧w'.cell? ⟨x6,1,none⟩=some (.slice A6 nb c6)∧w'.cell? ⟨x6,2,none⟩=some (.int .i64 xb)∧w'.cell? ⟨x6,3,none⟩=some (.bool db)∧w'.cell? ⟨x6,4,none⟩=some (.int .i64 eb)∧w'.cell? ⟨w.heap.size,0,none⟩=some (.string ta)∧w'.cell? ⟨w.heap.size,1,none⟩=some (.slice A na c)∧w'.cell? ⟨w.heap.size,2,none⟩=some (.int .i64 xa)∧w'.cell? ⟨w.heap.size,3,none⟩=some (.bool da)∧w'.cell? ⟨w.heap.size,4,none⟩=some (.int .i64 ea)∧w'.cell? ⟨w.heap.size+1,0,none⟩=some (.string tb)∧w'.cell? ⟨w.heap.size+1,1,none⟩=some (.slice B nb d)∧w'.cell? ⟨w.heap.size+1,2,none⟩=some (.int .i64 xb)∧w'.cell? ⟨w.heap.size+1,3,none⟩=some (.bool db)∧w'.cell? ⟨w.heap.size+1,4,none⟩=some (.int .i64 eb))) (by kernel_rfl) ⟨z0,z1,z2,z3,z4,z5,z6,z7,z8,z9,z10,z11,z12,z13,z14,z15,z16,z17,z18,z19⟩ (fun hHeld=> ?_)
    refine tk 0 (.agg #[.string ta,.slice A5 na c5,.int .i64 xa,.bool da,.int .i64 ea]) rfl (by kernel_rfl) (fun _ _ _ h=>h) (by rfl) (fun w hSw=>by obtain⟨s0,s1,s2,s3,s4,s5,s6,s7,s8,s9,s10,s11,s12,s13,s14,s15,s16,s17,s18,s19⟩:=hSw;go_simp) hHeld ?_
    refine tk 1 (.agg #[.string tb,.slice A6 nb c6,.int .i64 xb,.bool db,.int .i64 eb]) rfl (by kernel_rfl) (fun _ _ _ h=>h) (by rfl) (fun w hSw=>by obtain⟨s0,s1,s2,s3,s4,s5,s6,s7,s8,s9,s10,s11,s12,s13,s14,s15,s16,s17,s18,s19⟩:=hSw;go_simp) hHeld ?_
    refine tk 3 (.agg #[.string ta,.slice A na c,.int .i64 xa,.bool da,.int .i64 ea]) rfl (by kernel_rfl) (fun _ _ _ h=>h) (by rfl) (fun w hSw=>by obtain⟨s0,s1,s2,s3,s4,s5,s6,s7,s8,s9,s10,s11,s12,s13,s14,s15,s16,s17,s18,s19⟩:=hSw;go_simp) hHeld ?_
    refine tk 4 (.agg #[.string tb,.slice B nb d,.int .i64 xb,.bool db,.int .i64 eb]) rfl (by kernel_rfl) (fun _ _ _ h=>h) (by rfl) (fun w hSw=>by obtain⟨s0,s1,s2,s3,s4,s5,s6,s7,s8,s9,s10,s11,s12,s13,s14,s15,s16,s17,s18,s19⟩:=hSw;go_simp) hHeld ?_
    try simp only [Act.put,List.getElem_toArray,List.getElem_cons_succ,List.getElem_cons_zero,List.setIfInBounds_toArray,List.set_cons_zero,List.set_cons_succ]
    refine wpAnyH_ready (rs:=[2]) (by kernel_rfl) (by simp) ?_
    refine AllReadyH.cons rfl (fun K hK=> ?_) AllReadyH.nil
    go_simp
    go_at_call 39
    refine(HS1.out _ ((Dr.drew w6).below _)).mono ?_
    rintro e y1⟨rfl,hb1⟩
    have hz1:Below w6.heap.size w6 y1:=((Dr.drew w6).below _).trans hb1
    refine hK.out _ _ (HK7.out _ hz1) (fun hHeld=> ?_)
    clear hK K
    try simp only [Act.put,List.getElem_toArray,List.getElem_cons_succ,List.getElem_cons_zero,List.setIfInBounds_toArray,List.set_cons_zero,List.set_cons_succ]
    refine wpAnyH_ready (rs:=[5]) (by kernel_rfl) (by simp) ?_
    refine AllReadyH.cons rfl (fun K hK=> ?_) AllReadyH.nil
    go_simp
    go_at_call 40
    refine(HS2.out _ hz1).mono ?_
    rintro e y2⟨rfl,hb2⟩
    have hz2:Below w6.heap.size w6 y2:=hz1.trans (hb2.mono hz1.size)
    refine hK.out _ _ (HK7.out _ hz2) (fun hHeld=> ?_)
    clear hK K
    try simp only [Act.put,List.getElem_toArray,List.getElem_cons_succ,List.getElem_cons_zero,List.setIfInBounds_toArray,List.set_cons_zero,List.set_cons_succ]
    refine tk 6 (.bool true) rfl (by kernel_rfl) (fun _ _ _ h=>h) (by rfl) (fun w hSw=>by clear hSw;go_simp) hHeld ?_
    refine tk 7 (.bool true) rfl (by kernel_rfl) (fun _ _ _ h=>h) (by rfl) (fun w hSw=>by clear hSw;go_simp) hHeld ?_
    refine tk 8 (.agg #[.string ta,.slice A5 na c5,.int .i64 xa,.bool da,.int .i64 ea]) rfl (by kernel_rfl) (fun _ _ _ h=>h) (by rfl) (fun w hSw=>by obtain⟨s0,s1,s2,s3,s4,s5,s6,s7,s8,s9,s10,s11,s12,s13,s14,s15,s16,s17,s18,s19⟩:=hSw;go_simp) hHeld ?_
    refine tk 9 (.agg #[.string ta,.slice A5 na c5,.int .i64 xa,.bool da,.int .i64 ea]) rfl (by kernel_rfl) (fun _ _ _ h=>h) (by rfl) (fun w hSw=>by obtain⟨s0,s1,s2,s3,s4,s5,s6,s7,s8,s9,s10,s11,s12,s13,s14,s15,s16,s17,s18,s19⟩:=hSw;go_simp) hHeld ?_
    try simp only [Act.put,List.getElem_toArray,List.getElem_cons_succ,List.getElem_cons_zero,List.setIfInBounds_toArray,List.set_cons_zero,List.set_cons_succ]
    refine wpAnyH_ready (rs:=[10]) (by kernel_rfl) (by simp) ?_
    refine AllReadyH.cons rfl (fun K hK=> ?_) AllReadyH.nil
    go_simp
    go_at_call 39
    refine(HS3.out _ hz2).mono ?_
    rintro e y3⟨rfl,hb3⟩
    have hz3:Below w6.heap.size w6 y3:=hz2.trans (hb3.mono hz2.size)
    refine hK.out _ _ (HK7.out _ hz3) (fun hHeld=> ?_)
    clear hK K
    try simp only [Act.put,List.getElem_toArray,List.getElem_cons_succ,List.getElem_cons_zero,List.setIfInBounds_toArray,List.set_cons_zero,List.set_cons_succ]
    refine tk 11 (.bool true) rfl (by kernel_rfl) (fun _ _ _ h=>h) (by rfl) (fun w hSw=>by clear hSw;go_simp) hHeld ?_
    refine tk 12 (.bool true) rfl (by kernel_rfl) (fun _ _ _ h=>h) (by rfl) (fun w hSw=>by clear hSw;go_simp) hHeld ?_
    refine tk 13 (.agg #[.string tb,.slice A6 nb c6,.int .i64 xb,.bool db,.int .i64 eb]) rfl (by kernel_rfl) (fun _ _ _ h=>h) (by rfl) (fun w hSw=>by obtain⟨s0,s1,s2,s3,s4,s5,s6,s7,s8,s9,s10,s11,s12,s13,s14,s15,s16,s17,s18,s19⟩:=hSw;go_simp) hHeld ?_
    refine tk 14 (.agg #[.string ta,.slice A5 na c5,.int .i64 xa,.bool da,.int .i64 ea]) rfl (by kernel_rfl) (fun _ _ _ h=>h) (by rfl) (fun w hSw=>by obtain⟨s0,s1,s2,s3,s4,s5,s6,s7,s8,s9,s10,s11,s12,s13,s14,s15,s16,s17,s18,s19⟩:=hSw;go_simp) hHeld ?_
    try simp only [Act.put,List.getElem_toArray,List.getElem_cons_succ,List.getElem_cons_zero,List.setIfInBounds_toArray,List.set_cons_zero,List.set_cons_succ]
    refine tk 16 (.agg #[.string ta,.slice A5 na c5,.int .i64 xa,.bool da,.int .i64 ea]) rfl (by kernel_rfl) (fun _ _ _ h=>h) (by rfl) (fun w hSw=>by obtain⟨s0,s1,s2,s3,s4,s5,s6,s7,s8,s9,s10,s11,s12,s13,s14,s15,s16,s17,s18,s19⟩:=hSw;go_simp) hHeld ?_
    refine tk 17 (.agg #[.string tb,.slice A6 nb c6,.int .i64 xb,.bool db,.int .i64 eb]) rfl (by kernel_rfl) (fun _ _ _ h=>h) (by rfl) (fun w hSw=>by obtain⟨s0,s1,s2,s3,s4,s5,s6,s7,s8,s9,s10,s11,s12,s13,s14,s15,s16,s17,s18,s19⟩:=hSw;go_simp) hHeld ?_
    try simp only [Act.put,List.getElem_toArray,List.getElem_cons_succ,List.getElem_cons_zero,List.setIfInBounds_toArray,List.set_cons_zero,List.set_cons_succ]
    refine wpAnyH_ready (rs:=[15]) (by kernel_rfl) (by simp) ?_
    refine AllReadyH.cons rfl (fun K hK=> ?_) AllReadyH.nil
    go_simp
    go_at_call 39
    refine(HS4.out _ hz3).mono ?_
    rintro e y4⟨rfl,hb4⟩
    have hz4:Below w6.heap.size w6 y4:=hz3.trans (hb4.mono hz3.size)
    refine hK.out _ _ (HK7.out _ hz4) (fun hHeld=> ?_)
    clear hK K
    try simp only [Act.put,List.getElem_toArray,List.getElem_cons_succ,List.getElem_cons_zero,List.setIfInBounds_toArray,List.set_cons_zero,List.set_cons_succ]
    refine wpAnyH_ready (rs:=[18]) (by kernel_rfl) (by simp) ?_
    refine AllReadyH.cons rfl (fun K hK=> ?_) AllReadyH.nil
    go_simp
    go_at_call 39
    refine(HS1.out _ hz4).mono ?_
    rintro e y5⟨rfl,hb5⟩
    have hz5:Below w6.heap.size w6 y5:=hz4.trans (hb5.mono hz4.size)
    refine hK.out _ _ (HK7.out _ hz5) (fun hHeld=> ?_)
    clear hK K
    try simp only [Act.put,List.getElem_toArray,List.getElem_cons_succ,List.getElem_cons_zero,List.setIfInBounds_toArray,List.set_cons_zero,List.set_cons_succ]
    refine tk 19 (.bool true) rfl (by kernel_rfl) (fun _ _ _ h=>h) (by rfl) (fun w hSw=>by clear hSw;go_simp) hHeld ?_
    refine tk 20 (.bool true) rfl (by kernel_rfl) (fun _ _ _ h=>h) (by rfl) (fun w hSw=>by clear hSw;go_simp) hHeld ?_
    refine tk 21 (.bool true) rfl (by kernel_rfl) (fun _ _ _ h=>h) (by rfl) (fun w hSw=>by clear hSw;go_simp) hHeld ?_
    try simp only [Act.put,List.getElem_toArray,List.getElem_cons_succ,List.getElem_cons_zero,List.setIfInBounds_toArray,List.set_cons_zero,List.set_cons_succ]
    refine wpAnyH_done (by kernel_rfl) ?_ _
    have HB7:=Lib.hid (HBd.out.trans (hz5.mono HBd.out.size))
    clear hz1 hz2 hz3 hz4 hz5 hb1 hb2 hb3 hb4 hb5 hHeld
    go_wp2_with fail
    go_ret
    exact⟨rfl,HB7.out⟩
end Go.Proofs.YtbkpiojejmhfcaaGreatDoor
