import Derived.Test.YtbkpiojejmhfcaaGreatDoorG33
import Derived.Test.YtbkpiojejmhfcaaGreatDoorG37
namespace Go.Proofs.YtbkpiojejmhfcaaGreatDoor
open Go.RowKit
theorem tk{P:Program}{ops:Array Oper}{Q:Exit→Act→World→Prop}{md:Region.Mode}{S:World→Prop}(i:Nat)(v:Value){oi:Oper}{fuel:Nat}{listed:Array Bool}{a:Act}{w:World}(hi:ops[i]? =some oi)
 (hs:(Region.noSelect ops&&(Region.free md ops listed i&&(Region.ready md ops listed).contains i))=true)(hQ:∀c a w,Q (.panic c) (a.put oi.dst v) w→Q (.panic c) a w)(hg:Region.wanted oi (yielded ops a.tmps)=true)
 (hy:∀w,S w→(execOp a.eval oi).run P w= .ok (.value v) w)(hS:S w)(h:wpAnyH P md ops Q S fuel (listed.setIfInBounds i true) (a.put oi.dst v) w):wpAnyH P md ops Q S (fuel+1) listed a w:=by
 rw [Bool.and_eq_true,Bool.and_eq_true]at hs
 exact wpAnyH_take hi hs.1 hs.2.1 hs.2.2 hQ (.inl ⟨hg,hy⟩) hS h
def bs21:List UInt8:=[0,0,0,1,97,18,5,0,0,6,0,0,6,0,0,7]
theorem dec21:decP bs21=oneL ⟨#[97]⟩ ⟨#[117,117]⟩:=by rfl
theorem one21:oneB sh100' ⟨#[97]⟩ ⟨#[117,117]⟩=true:=by decide+kernel
def az21:List Av:=[⟨⟨#[]⟩,.slice none 0 0,0,false,0⟩,⟨⟨#[]⟩,.slice none 0 0,0,false,0⟩,⟨⟨#[]⟩,.slice none 0 0,0,false,0⟩,⟨⟨#[]⟩,.slice none 0 0,0,false,0⟩,⟨⟨#[]⟩,.slice none 0 0,0,true,0⟩]
theorem Tryz.eqStep(a1 a2 b1 b2:Int)(a3 a4 b3 b4:ByteArray)(w:World):(Op.equalIn 10000 170 (.agg #[.int .i64 a1,.int .i64 a2,.string a3,.string a4]) (.agg #[.int .i64 b1,.int .i64 b2,.string b3,.string b4])).run Tryz.prog w= .ok ((a1==b1&&a2==b2)&&(a3.toList==b3.toList&&a4.toList==b4.toList)) w:=by
 have hS:Tryz.prog.underlying 170=some (.struct (Tryz.prog.fieldsOf 170)):=by kernel_rfl
 rw [show(10000:Nat)=9999+1 from rfl]
 first
  | rw [run_equalIn_agg w 9999 170 _ _ hS (by kernel_rfl)]
  | rw [run_equalIn_agg w 9999 170 _ _ hS (fun w=>by kernel_rfl)]
 have u9:=Tryz.underlying9
 have u3:=Tryz.underlying3
 simp only [Program.fieldsOf,Tryz.underlying170]
 go_simp
 by_cases h1:a1=b1<;>by_cases h2:a2=b2<;>by_cases h3:a3.toList=b3.toList<;>by_cases h4:a4.toList=b4.toList<;>simp [h1,h2,h3,h4]
set_option maxHeartbeats 8000000 in
set_option maxRecDepth 100000 in
theorem alive21{w:World}(hT:Tabs w):Calls Tryz.prog 37 #[] w fun e w'=>e= .returned (.bool true)∧Below w.heap.size w w':=by
 have htl:=hT.lt
 obtain⟨W1,hW1⟩:∃W1,W1=w.alloc (.cells #[.int .u8 0,.int .u8 0,.int .u8 0,.int .u8 1,.int .u8 97,.int .u8 18,.int .u8 5,.int .u8 0,.int .u8 0,.int .u8 6,.int .u8 0,.int .u8 0,.int .u8 6,.int .u8 0,.int .u8 0,.int .u8 7] 5):=⟨_,rfl⟩
 have hb1:Below w.heap.size w W1:=hW1▸(Below.refl _ _).alloc (Nat.le_refl _) _
 have hr1:Bs W1 (some ⟨w.heap.size,0,none⟩) bs21.length bs21:=by
  have h:=rd_new w 5 (bs21.map bv) 16 rfl
  rw [show(bs21.map bv).toArray= #[.int .u8 0,.int .u8 0,.int .u8 0,.int .u8 1,.int .u8 97,.int .u8 18,.int .u8 5,.int .u8 0,.int .u8 0,.int .u8 6,.int .u8 0,.int .u8 0,.int .u8 6,.int .u8 0,.int .u8 0,.int .u8 7]from rfl,←hW1]at h
  exact h
 have HD:=scrDecode bs21 (some ⟨w.heap.size,0,none⟩) 16 W1 (by decide) (by decide) hr1
 rw [dec21]at HD
 have HD:=Lib.hid HD
 have HB1:=Lib.hid hb1
 have HW1:=Lib.hid hW1
 have HT:=Lib.hid hT
 rw [show bs21.length=16 from rfl]at HD
 clear hb1 hr1 hW1 hT
 go_enter Tryz.func37,Tryz.ntmps37
 go_wp2_with fail
 rw [←HW1.out]
 refine HD.out.mono ?_
 rintro e w2⟨v2,rfl,ho2,hb2⟩
 obtain⟨L5,hL5⟩:∃L5,L5=oneL ⟨#[97]⟩ ⟨#[117,117]⟩:=⟨_,rfl⟩
 have hl5:L5.length=5:=by rw [hL5];rfl
 rw [←hL5,hl5]at ho2
 obtain⟨Al,cl,rfl,hcl,hrl⟩:=own_rowk ho2
 have hAl:=own_at ho2
 have hb12:=HB1.out.trans (hb2.mono HB1.out.size)
 have HB2:=Lib.hid hb12
 have HBg:=egBegun (L:=100) (sh:=sh100') (by decide) (by decide) shape100' (HT.out.below hb12)
 rw [show((100:Nat):Int)=100 from rfl]at HBg
 have HBg:=Lib.hid HBg
 have HR2:=Lib.hid hrl
 have HA2:=Lib.hid hAl
 have HL5:=Lib.hid hL5
 have hsz1:=HB1.out.size
 clear HD hb2 hb12 ho2 hrl hcl hAl hL5
 go_wp2_with fail
 refine HBg.out.mono ?_
 rintro e w3⟨d,g,p,x,tt,bk,nt,F,rfl,hE,hb3,hf⟩
 have hI:=hE.begun hf (X:=fun q=>q<w2.heap.size∧q≠0∧q≠1) (fun q hq=>hq)
 have hR3:SpR w3 Al L5:=by
  have h:=Rd.below HR2.out hb3
  unfold SpR
  rw [hl5]
  exact h
 have HRn:=scrRun g L5 Al cl w3 (by omega) hR3 az21 (by rw [hl5];rfl) (fun k hk=>⟨none,0,0,by
  have h5:k<5:=hk
  rcases(show k=0∨k=1∨k=2∨k=3∨k=4 by omega)with rfl| rfl| rfl| rfl| rfl<;>rfl⟩)
  (oneS g d p x tt bk 100 sh100' ⟨#[97]⟩ ⟨#[117,117]⟩) (fun k W W' X X'=>oneS.frames k W W' X X')
  (fun k W X hk hk2 hS=>by
   have h5:k<5:=hk2
   have hLL:=HL5.out
   subst hLL
   rcases(show k=0∨k=1∨k=2∨k=3∨k=4 by omega)with rfl| rfl| rfl| rfl| rfl
   ·exact do_frame (oneS.frames 0) (oneS.frames 1) one_s0 hS (fun hG hc=>doBegin g 0 ⟨#[]⟩ ⟨#[]⟩ 0 0 _ hG hc)
   ·exact do_frame (oneS.frames 1) (oneS.frames 2) (one_s1 (by decide) (by decide)) hS (fun hG hc=>doPut g 0 ⟨#[97]⟩ ⟨#[117,117]⟩ 0 _ hG hc)
   ·exact do_frame (oneS.frames 2) (oneS.frames 3) (one_s2 (by decide) (by decide)) hS (fun hG hc=>doCommit g 0 ⟨#[]⟩ ⟨#[]⟩ 0 _ hG hc)
   ·exact do_frame (oneS.frames 3) (oneS.frames 4) (one_s3 (by decide) (by decide) one21) hS (fun hG hc=>doWork g 0 ⟨#[]⟩ ⟨#[]⟩ 0 false 0 _ hG hc)
   ·exact do_frame (oneS.frames 4) (oneS.frames 5) one_s4 hS (fun hG hc=>doWork g 0 ⟨#[]⟩ ⟨#[]⟩ 0 true 0 _ hG hc))
  (X0:=fun q=>q<w2.heap.size∧q≠0∧q≠1) hI (fun a ea=>⟨(HA2.out a ea).2,by have:=(HA2.out a ea).1;omega,by have:=(HA2.out a ea).1;omega⟩)
 rw [hl5,show az21.length=5 from rfl]at HRn
 have HRn:=Lib.hid HRn
 have HB3:=Lib.hid (HB2.out.trans (hb3.mono HB2.out.size))
 have HR3:=Lib.hid hR3
 clear HBg hE hb3 hf hI hR3
 go_wp2_with fail
 refine HRn.out.mono ?_
 rintro e w4⟨v4,X,rfl,ho4,hS4,hX1,hX2,hX3,hT4⟩
 obtain⟨Av,cv,rfl,hcv,hrv⟩:=own_rowk ho4
 obtain⟨vb,vo,rfl,hvb,hvc⟩:=hrv.2 (by decide)
 have hRl:=Rd.touch HR3.out hT4 (fun a ea h=>h (.inl ⟨(HA2.out a ea).2,by have:=(HA2.out a ea).1;omega,by have:=(HA2.out a ea).1;omega⟩))
 rw [hl5]at hRl
 obtain⟨lb,lo,rfl,hlb,hlc⟩:=hRl.2 (by decide)
 have hb4:Below w.heap.size w w4:=HB3.out.trans (hT4.below HB3.out.size (fun q h=>by
  by_cases hq:w.heap.size≤q
  ·exact hq
  ·exact absurd (show _ from by
   by_cases h1:q=0
   ·exact .inr (.inl h1)
   ·by_cases h2:q=1
    ·exact .inr (.inr h2)
    ·exact .inl ⟨by have:=HB2.out.size;omega,h1,h2⟩) h))
 obtain⟨b,J,F5,hE5,hm5,_,ha5⟩:=(show EgI g d p x tt bk 100 (one3 sh100' ⟨#[97]⟩ ⟨#[117,117]⟩) _ 1 1 (fun _=>True) w4 X from hS4)
 have HSl:=Lib.hid (fun W(k:Below w4.heap.size w4 W)=>egSlot (hE5.below k))
 have HSm:=Lib.hid (fun W=>scrSame ⟨⟨#[]⟩,[],0,false,0⟩ ⟨⟨#[]⟩,[],0,false,0⟩ none none 0 0 W (by decide) (PrR.nil W) (PrR.nil W))
 rw [sameAn_refl]at HSm
 have HSn:=Lib.hid (fun W=>scrSame ⟨⟨#[]⟩,[],0,false,0⟩ ⟨⟨#[]⟩,[],0,true,0⟩ none none 0 0 W (by decide) (PrR.nil W) (PrR.nil W))
 rw [show sameAn ⟨⟨#[]⟩,[],0,false,0⟩ ⟨⟨#[]⟩,[],0,true,0⟩=false by simp [sameAn]]at HSn
 unfold anW at HSm HSn
 simp only [List.length_nil]at HSm HSn
 have HOd:=Lib.hid (fun W=>doOdd g 9 (by decide) 0 ⟨#[]⟩ ⟨#[]⟩ W)
 unfold anV at HOd
 rw [show((0:Nat):Int)=0 from rfl]at HOd
 rw [show(((1:UInt64).toNat:Nat):Int)=1 from rfl]at HSl
 have HK:Hid (∀w',Below w4.heap.size w4 w'→w'.cell? ⟨lb,lo+4,none⟩=some (.int .i64 1)∧w'.cell? ⟨lb,lo+5,none⟩=some (.int .i64 0)∧w'.cell? ⟨lb,lo+6,none⟩=some (.string ⟨#[97]⟩)∧w'.cell? ⟨lb,lo+7,none⟩=some (.string ⟨#[117,117]⟩)∧w'.cell? ⟨vb,vo,none⟩=some (.string ⟨#[]⟩)∧w'.cell? ⟨vb,vo+1,none⟩=some (.slice none 0 0)∧w'.cell? ⟨vb,vo+2,none⟩=some (.int .i64 0)∧w'.cell? ⟨vb,vo+3,none⟩=some (.bool false)∧w'.cell? ⟨vb,vo+4,none⟩=some (.int .i64 0)∧w'.cell? ⟨vb,vo+10,none⟩=some (.string ⟨#[]⟩)∧w'.cell? ⟨vb,vo+11,none⟩=some (.slice none 0 0)∧w'.cell? ⟨vb,vo+12,none⟩=some (.int .i64 0)∧w'.cell? ⟨vb,vo+13,none⟩=some (.bool false)∧w'.cell? ⟨vb,vo+14,none⟩=some (.int .i64 0)∧w'.cell? ⟨vb,vo+15,none⟩=some (.string ⟨#[]⟩)∧w'.cell? ⟨vb,vo+16,none⟩=some (.slice none 0 0)∧w'.cell? ⟨vb,vo+17,none⟩=some (.int .i64 0)∧w'.cell? ⟨vb,vo+18,none⟩=some (.bool false)∧w'.cell? ⟨vb,vo+19,none⟩=some (.int .i64 0)∧w'.cell? ⟨vb,vo+20,none⟩=some (.string ⟨#[]⟩)∧w'.cell? ⟨vb,vo+21,none⟩=some (.slice none 0 0)∧w'.cell? ⟨vb,vo+22,none⟩=some (.int .i64 0)∧w'.cell? ⟨vb,vo+23,none⟩=some (.bool true)∧w'.cell? ⟨vb,vo+24,none⟩=some (.int .i64 0)):=Lib.hid (fun w' k=>by
  obtain⟨vb',vo',ev,_,hvc'⟩:=(Rd.below hrv k).2 (by decide)
  injection ev with ev
  injection ev with ev1 ev2
  subst ev1 ev2
  obtain⟨lb',lo',el,_,hlc'⟩:=(Rd.below hRl k).2 (by decide)
  injection el with el
  injection el with el1 el2
  subst el1 el2
  rw [HL5.out]at hlc'
  exact⟨hlc' 4 (by decide),hlc' 5 (by decide),hlc' 6 (by decide),hlc' 7 (by decide),hvc' 0 (by decide),hvc' 1 (by decide),hvc' 2 (by decide),hvc' 3 (by decide),hvc' 4 (by decide),hvc' 10 (by decide),hvc' 11 (by decide),hvc' 12 (by decide),hvc' 13 (by decide),hvc' 14 (by decide),hvc' 15 (by decide),hvc' 16 (by decide),hvc' 17 (by decide),hvc' 18 (by decide),hvc' 19 (by decide),hvc' 20 (by decide),hvc' 21 (by decide),hvc' 22 (by decide),hvc' 23 (by decide),hvc' 24 (by decide)⟩)
 obtain⟨z0,z1,z2,z3,z4,z5,z6,z7,z8,z9,z10,z11,z12,z13,z14,z15,z16,z17,z18,z19,z20,z21,z22,z23⟩:=HK.out w4 (Below.refl _ _)
 have HB4:=Lib.hid hb4
 have hm:Tryz.prog.eqGuardType Tryz.prog.depth 170=false:=by kernel_rfl
 have hq:=fun W=>Tryz.eqStep 1 0 1 0 ⟨#[97]⟩ ⟨#[117,117]⟩ ⟨#[97]⟩ ⟨#[117,117]⟩ W
 have hqq:((((1:Int)==1)&&((0:Int)==0))&&((ByteArray.toList ⟨#[97]⟩==ByteArray.toList ⟨#[97]⟩)&&(ByteArray.toList ⟨#[117,117]⟩==ByteArray.toList ⟨#[117,117]⟩)))=true:=by simp
 rw [hqq]at hq
 have hs1:=HK.out
 clear HRn ho4 hS4 hX1 hX2 hX3 hT4 hcv hrv hvc hRl hlc hE5 hm5 ha5 hb4 hs1 hqq
 go_wp2_with fail
 refine wp_region_held_drew (S:=(fun w'=>w'.cell? ⟨lb,lo+4,none⟩=some (.int .i64 1)∧w'.cell? ⟨lb,lo+5,none⟩=some (.int .i64 0)∧w'.cell? ⟨lb,lo+6,none⟩=some (.string ⟨#[97]⟩)∧w'.cell? ⟨lb,lo+7,none⟩=some (.string ⟨#[117,117]⟩)∧w'.cell? ⟨vb,vo,none⟩=some (.string ⟨#[]⟩)∧w'.cell? ⟨vb,vo+1,none⟩=some (.slice none 0 0)∧w'.cell? ⟨vb,vo+2,none⟩=some (.int .i64 0)∧w'.cell? ⟨vb,vo+3,none⟩=some (.bool false)∧w'.cell? ⟨vb,vo+4,none⟩=some (.int .i64 0)∧w'.cell? ⟨vb,vo+10,none⟩=some (.string ⟨#[]⟩)∧w'.cell? ⟨vb,vo+11,none⟩=some (.slice none 0 0)∧w'.cell? ⟨vb,vo+12,none⟩=some (.int .i64 0)∧w'.cell? ⟨vb,vo+13,none⟩=some (.bool false)∧w'.cell? ⟨vb,vo+14,none⟩=some (.int .i64 0)∧w'.cell? ⟨vb,vo+15,none⟩=some (.string ⟨#[]⟩)∧w'.cell? ⟨vb,vo+16,none⟩=some (.slice none 0 0)∧w'.cell? ⟨vb,vo+17,none⟩=some (.int .i64 0)∧w'.cell? ⟨vb,vo+18,none⟩=some (.bool false)∧w'.cell? ⟨vb,vo+19,none⟩=some (.int .i64 0)∧w'.cell? ⟨vb,vo+20,none⟩=some (.string ⟨#[]⟩)∧w'.cell? ⟨vb,vo+21,none⟩=some (.slice none 0 0)∧w'.cell? ⟨vb,vo+22,none⟩=some (.int .i64 0)∧w'.cell? ⟨vb,vo+23,none⟩=some (.bool true)∧w'.cell? ⟨vb,vo+24,none⟩=some (.int .i64 0))) (by kernel_rfl) ⟨z0,z1,z2,z3,z4,z5,z6,z7,z8,z9,z10,z11,z12,z13,z14,z15,z16,z17,z18,z19,z20,z21,z22,z23⟩ (fun hHeld=> ?_)
 refine tk 0 (.slice (some ⟨lb,lo,none⟩) 5 cl) rfl (by kernel_rfl) (fun _ _ _ h=>h) (by rfl) (fun w hSw=>by clear hSw;go_simp) hHeld ?_
 refine tk 1 (.pointer (some ⟨lb,lo+4,none⟩)) rfl (by kernel_rfl) (fun _ _ _ h=>h) (by rfl) (fun w hSw=>by clear hSw;go_simp) hHeld ?_
 refine tk 2 (.agg #[.int .i64 1,.int .i64 0,.string ⟨#[97]⟩,.string ⟨#[117,117]⟩]) rfl (by kernel_rfl) (fun _ _ _ h=>h) (by rfl) (fun w hSw=>by obtain⟨s0,s1,s2,s3,s4,s5,s6,s7,s8,s9,s10,s11,s12,s13,s14,s15,s16,s17,s18,s19,s20,s21,s22,s23⟩:=hSw;go_simp) hHeld ?_
 refine tk 3 (.agg #[.int .i64 1,.int .i64 0,.string ⟨#[97]⟩,.string ⟨#[117,117]⟩]) rfl (by kernel_rfl) (fun _ _ _ h=>h) (by rfl) (fun w hSw=>by clear hSw;go_simp) hHeld ?_
 try simp only [Act.put,List.getElem_toArray,List.getElem_cons_succ,List.getElem_cons_zero,List.setIfInBounds_toArray,List.set_cons_zero,List.set_cons_succ]
 refine tk 4 (.bool true) rfl (by kernel_rfl) (fun _ _ _ h=>h) (by rfl) (fun w hSw=>by clear hSw;go_simp) hHeld ?_
 refine tk 5 (.bool true) rfl (by kernel_rfl) (fun _ _ _ h=>h) (by rfl) (fun w hSw=>by clear hSw;go_simp) hHeld ?_
 refine tk 6 (.slice (some ⟨vb,vo,none⟩) 5 cv) rfl (by kernel_rfl) (fun _ _ _ h=>h) (by rfl) (fun w hSw=>by clear hSw;go_simp) hHeld ?_
 refine tk 7 (.int .i64 5) rfl (by kernel_rfl) (fun _ _ _ h=>h) (by rfl) (fun w hSw=>by clear hSw;go_simp) hHeld ?_
 try simp only [Act.put,List.getElem_toArray,List.getElem_cons_succ,List.getElem_cons_zero,List.setIfInBounds_toArray,List.set_cons_zero,List.set_cons_succ]
 refine tk 8 (.bool true) rfl (by kernel_rfl) (fun _ _ _ h=>h) (by rfl) (fun w hSw=>by clear hSw;go_simp) hHeld ?_
 refine tk 9 (.bool true) rfl (by kernel_rfl) (fun _ _ _ h=>h) (by rfl) (fun w hSw=>by clear hSw;go_simp) hHeld ?_
 refine tk 10 (.bool true) rfl (by kernel_rfl) (fun _ _ _ h=>h) (by rfl) (fun w hSw=>by clear hSw;go_simp) hHeld ?_
 refine tk 11 (.slice (some ⟨vb,vo,none⟩) 5 cv) rfl (by kernel_rfl) (fun _ _ _ h=>h) (by rfl) (fun w hSw=>by clear hSw;go_simp) hHeld ?_
 try simp only [Act.put,List.getElem_toArray,List.getElem_cons_succ,List.getElem_cons_zero,List.setIfInBounds_toArray,List.set_cons_zero,List.set_cons_succ]
 refine tk 12 (.pointer (some ⟨vb,vo+20,none⟩)) rfl (by kernel_rfl) (fun _ _ _ h=>h) (by rfl) (fun w hSw=>by clear hSw;go_simp) hHeld ?_
 refine tk 13 (.pointer (some ⟨vb,vo+23,none⟩)) rfl (by kernel_rfl) (fun _ _ _ h=>h) (by rfl) (fun w hSw=>by clear hSw;go_simp) hHeld ?_
 refine tk 14 (.bool true) rfl (by kernel_rfl) (fun _ _ _ h=>h) (by rfl) (fun w hSw=>by obtain⟨s0,s1,s2,s3,s4,s5,s6,s7,s8,s9,s10,s11,s12,s13,s14,s15,s16,s17,s18,s19,s20,s21,s22,s23⟩:=hSw;go_simp) hHeld ?_
 refine tk 15 (.bool true) rfl (by kernel_rfl) (fun _ _ _ h=>h) (by rfl) (fun w hSw=>by clear hSw;go_simp) hHeld ?_
 try simp only [Act.put,List.getElem_toArray,List.getElem_cons_succ,List.getElem_cons_zero,List.setIfInBounds_toArray,List.set_cons_zero,List.set_cons_succ]
 refine tk 16 (.bool true) rfl (by kernel_rfl) (fun _ _ _ h=>h) (by rfl) (fun w hSw=>by clear hSw;go_simp) hHeld ?_
 refine tk 17 (.slice (some ⟨vb,vo,none⟩) 5 cv) rfl (by kernel_rfl) (fun _ _ _ h=>h) (by rfl) (fun w hSw=>by clear hSw;go_simp) hHeld ?_
 refine tk 18 (.pointer (some ⟨vb,vo+20,none⟩)) rfl (by kernel_rfl) (fun _ _ _ h=>h) (by rfl) (fun w hSw=>by clear hSw;go_simp) hHeld ?_
 refine tk 19 (.pointer (some ⟨vb,vo+24,none⟩)) rfl (by kernel_rfl) (fun _ _ _ h=>h) (by rfl) (fun w hSw=>by clear hSw;go_simp) hHeld ?_
 try simp only [Act.put,List.getElem_toArray,List.getElem_cons_succ,List.getElem_cons_zero,List.setIfInBounds_toArray,List.set_cons_zero,List.set_cons_succ]
 refine tk 20 (.int .i64 0) rfl (by kernel_rfl) (fun _ _ _ h=>h) (by rfl) (fun w hSw=>by obtain⟨s0,s1,s2,s3,s4,s5,s6,s7,s8,s9,s10,s11,s12,s13,s14,s15,s16,s17,s18,s19,s20,s21,s22,s23⟩:=hSw;go_simp) hHeld ?_
 refine tk 21 (.bool true) rfl (by kernel_rfl) (fun _ _ _ h=>h) (by rfl) (fun w hSw=>by clear hSw;go_simp) hHeld ?_
 refine tk 22 (.bool true) rfl (by kernel_rfl) (fun _ _ _ h=>h) (by rfl) (fun w hSw=>by clear hSw;go_simp) hHeld ?_
 refine tk 23 (.bool true) rfl (by kernel_rfl) (fun _ _ _ h=>h) (by rfl) (fun w hSw=>by clear hSw;go_simp) hHeld ?_
 try simp only [Act.put,List.getElem_toArray,List.getElem_cons_succ,List.getElem_cons_zero,List.setIfInBounds_toArray,List.set_cons_zero,List.set_cons_succ]
 refine tk 24 (.pointer (some ⟨g,0,none⟩)) rfl (by kernel_rfl) (fun _ _ _ h=>h) (by rfl) (fun w hSw=>by clear hSw;go_simp) hHeld ?_
 try simp only [Act.put,List.getElem_toArray,List.getElem_cons_succ,List.getElem_cons_zero,List.setIfInBounds_toArray,List.set_cons_zero,List.set_cons_succ]
 refine wpAnyH_ready (rs:=[25]) (by kernel_rfl) (by simp) ?_
 refine AllReadyH.cons rfl (fun K hK=> ?_) AllReadyH.nil
 go_simp
 go_at_call 29
 refine(HSl.out _ ((Dr.drew w4).below _)).mono ?_
 rintro e ws⟨rfl,rfl⟩
 refine hK.out _ _ (HK.out _ ((Dr.drew w4).below _)) (fun hHeld=> ?_)
 clear hK K
 try simp only [Act.put,List.getElem_toArray,List.getElem_cons_succ,List.getElem_cons_zero,List.setIfInBounds_toArray,List.set_cons_zero,List.set_cons_succ]
 refine tk 26 (.bool true) rfl (by kernel_rfl) (fun _ _ _ h=>h) (by rfl) (fun w hSw=>by clear hSw;go_simp) hHeld ?_
 refine tk 27 (.bool true) rfl (by kernel_rfl) (fun _ _ _ h=>h) (by rfl) (fun w hSw=>by clear hSw;go_simp) hHeld ?_
 refine tk 28 (.bool true) rfl (by kernel_rfl) (fun _ _ _ h=>h) (by rfl) (fun w hSw=>by clear hSw;go_simp) hHeld ?_
 refine tk 29 (.slice (some ⟨vb,vo,none⟩) 5 cv) rfl (by kernel_rfl) (fun _ _ _ h=>h) (by rfl) (fun w hSw=>by clear hSw;go_simp) hHeld ?_
 try simp only [Act.put,List.getElem_toArray,List.getElem_cons_succ,List.getElem_cons_zero,List.setIfInBounds_toArray,List.set_cons_zero,List.set_cons_succ]
 refine tk 30 (.pointer (some ⟨vb,vo,none⟩)) rfl (by kernel_rfl) (fun _ _ _ h=>h) (by rfl) (fun w hSw=>by clear hSw;go_simp) hHeld ?_
 refine tk 31 (.agg #[.string ⟨#[]⟩,.slice none 0 0,.int .i64 0,.bool false,.int .i64 0]) rfl (by kernel_rfl) (fun _ _ _ h=>h) (by rfl) (fun w hSw=>by obtain⟨s0,s1,s2,s3,s4,s5,s6,s7,s8,s9,s10,s11,s12,s13,s14,s15,s16,s17,s18,s19,s20,s21,s22,s23⟩:=hSw;go_simp) hHeld ?_
 refine tk 32 (.slice (some ⟨vb,vo,none⟩) 5 cv) rfl (by kernel_rfl) (fun _ _ _ h=>h) (by rfl) (fun w hSw=>by clear hSw;go_simp) hHeld ?_
 refine tk 33 (.pointer (some ⟨vb,vo+10,none⟩)) rfl (by kernel_rfl) (fun _ _ _ h=>h) (by rfl) (fun w hSw=>by clear hSw;go_simp) hHeld ?_
 try simp only [Act.put,List.getElem_toArray,List.getElem_cons_succ,List.getElem_cons_zero,List.setIfInBounds_toArray,List.set_cons_zero,List.set_cons_succ]
 refine tk 34 (.agg #[.string ⟨#[]⟩,.slice none 0 0,.int .i64 0,.bool false,.int .i64 0]) rfl (by kernel_rfl) (fun _ _ _ h=>h) (by rfl) (fun w hSw=>by obtain⟨s0,s1,s2,s3,s4,s5,s6,s7,s8,s9,s10,s11,s12,s13,s14,s15,s16,s17,s18,s19,s20,s21,s22,s23⟩:=hSw;go_simp) hHeld ?_
 try simp only [Act.put,List.getElem_toArray,List.getElem_cons_succ,List.getElem_cons_zero,List.setIfInBounds_toArray,List.set_cons_zero,List.set_cons_succ]
 refine wpAnyH_ready (rs:=[35]) (by kernel_rfl) (by simp) ?_
 refine AllReadyH.cons rfl (fun K hK=> ?_) AllReadyH.nil
 go_simp
 go_at_call 39
 refine(HSm.out _).mono ?_
 rintro e w5⟨rfl,hb5⟩
 have hz5:Below w4.heap.size w4 w5:=((Dr.drew w4).below _).trans hb5
 refine hK.out _ _ (HK.out _ hz5) (fun hHeld=> ?_)
 clear hK K
 try simp only [Act.put,List.getElem_toArray,List.getElem_cons_succ,List.getElem_cons_zero,List.setIfInBounds_toArray,List.set_cons_zero,List.set_cons_succ]
 refine tk 36 (.bool true) rfl (by kernel_rfl) (fun _ _ _ h=>h) (by rfl) (fun w hSw=>by clear hSw;go_simp) hHeld ?_
 refine tk 37 (.bool true) rfl (by kernel_rfl) (fun _ _ _ h=>h) (by rfl) (fun w hSw=>by clear hSw;go_simp) hHeld ?_
 refine tk 38 (.slice (some ⟨vb,vo,none⟩) 5 cv) rfl (by kernel_rfl) (fun _ _ _ h=>h) (by rfl) (fun w hSw=>by clear hSw;go_simp) hHeld ?_
 refine tk 39 (.pointer (some ⟨vb,vo+15,none⟩)) rfl (by kernel_rfl) (fun _ _ _ h=>h) (by rfl) (fun w hSw=>by clear hSw;go_simp) hHeld ?_
 try simp only [Act.put,List.getElem_toArray,List.getElem_cons_succ,List.getElem_cons_zero,List.setIfInBounds_toArray,List.set_cons_zero,List.set_cons_succ]
 refine tk 40 (.agg #[.string ⟨#[]⟩,.slice none 0 0,.int .i64 0,.bool false,.int .i64 0]) rfl (by kernel_rfl) (fun _ _ _ h=>h) (by rfl) (fun w hSw=>by obtain⟨s0,s1,s2,s3,s4,s5,s6,s7,s8,s9,s10,s11,s12,s13,s14,s15,s16,s17,s18,s19,s20,s21,s22,s23⟩:=hSw;go_simp) hHeld ?_
 refine tk 41 (.slice (some ⟨vb,vo,none⟩) 5 cv) rfl (by kernel_rfl) (fun _ _ _ h=>h) (by rfl) (fun w hSw=>by clear hSw;go_simp) hHeld ?_
 refine tk 42 (.pointer (some ⟨vb,vo+20,none⟩)) rfl (by kernel_rfl) (fun _ _ _ h=>h) (by rfl) (fun w hSw=>by clear hSw;go_simp) hHeld ?_
 refine tk 43 (.agg #[.string ⟨#[]⟩,.slice none 0 0,.int .i64 0,.bool true,.int .i64 0]) rfl (by kernel_rfl) (fun _ _ _ h=>h) (by rfl) (fun w hSw=>by obtain⟨s0,s1,s2,s3,s4,s5,s6,s7,s8,s9,s10,s11,s12,s13,s14,s15,s16,s17,s18,s19,s20,s21,s22,s23⟩:=hSw;go_simp) hHeld ?_
 try simp only [Act.put,List.getElem_toArray,List.getElem_cons_succ,List.getElem_cons_zero,List.setIfInBounds_toArray,List.set_cons_zero,List.set_cons_succ]
 refine wpAnyH_ready (rs:=[44]) (by kernel_rfl) (by simp) ?_
 refine AllReadyH.cons rfl (fun K hK=> ?_) AllReadyH.nil
 go_simp
 go_at_call 39
 refine(HSn.out _).mono ?_
 rintro e w6⟨rfl,hb6⟩
 have hz6:Below w4.heap.size w4 w6:=hz5.trans (hb6.mono hz5.size)
 refine hK.out _ _ (HK.out _ hz6) (fun hHeld=> ?_)
 clear hK K
 try simp only [Act.put,List.getElem_toArray,List.getElem_cons_succ,List.getElem_cons_zero,List.setIfInBounds_toArray,List.set_cons_zero,List.set_cons_succ]
 refine tk 45 (.bool true) rfl (by kernel_rfl) (fun _ _ _ h=>h) (by rfl) (fun w hSw=>by clear hSw;go_simp) hHeld ?_
 refine tk 46 (.bool true) rfl (by kernel_rfl) (fun _ _ _ h=>h) (by rfl) (fun w hSw=>by clear hSw;go_simp) hHeld ?_
 refine tk 47 (.bool true) rfl (by kernel_rfl) (fun _ _ _ h=>h) (by rfl) (fun w hSw=>by clear hSw;go_simp) hHeld ?_
 refine tk 48 (.pointer (some ⟨g,0,none⟩)) rfl (by kernel_rfl) (fun _ _ _ h=>h) (by rfl) (fun w hSw=>by clear hSw;go_simp) hHeld ?_
 try simp only [Act.put,List.getElem_toArray,List.getElem_cons_succ,List.getElem_cons_zero,List.setIfInBounds_toArray,List.set_cons_zero,List.set_cons_succ]
 refine tk 49 (.agg #[.int .i64 9,.int .i64 0,.string ⟨#[]⟩,.string ⟨#[]⟩]) rfl (by kernel_rfl) (fun _ _ _ h=>h) (by rfl) (fun w hSw=>by clear hSw;go_simp) hHeld ?_
 try simp only [Act.put,List.getElem_toArray,List.getElem_cons_succ,List.getElem_cons_zero,List.setIfInBounds_toArray,List.set_cons_zero,List.set_cons_succ]
 refine wpAnyH_ready (rs:=[50]) (by kernel_rfl) (by simp) ?_
 refine AllReadyH.cons rfl (fun K hK=> ?_) AllReadyH.nil
 go_simp
 go_at_call 81
 refine(HOd.out _).mono ?_
 rintro e w7⟨rfl,hb7⟩
 have hz7:Below w4.heap.size w4 w7:=hz6.trans (hb7.mono hz6.size)
 refine hK.out _ _ (HK.out _ hz7) (fun hHeld=> ?_)
 clear hK K
 try simp only [Act.put,List.getElem_toArray,List.getElem_cons_succ,List.getElem_cons_zero,List.setIfInBounds_toArray,List.set_cons_zero,List.set_cons_succ]
 refine tk 51 (.int .i64 13) rfl (by kernel_rfl) (fun _ _ _ h=>h) (by rfl) (fun w hSw=>by clear hSw;go_simp;rw [show Sem.run Tryz.prog (Instr.field 91 (.agg #[.string ⟨#[]⟩,.slice none 0 0,.int .i64 0,.bool false,.int .i64 13]) 4) w= .ok (.int .i64 13) w from by kernel_rfl];rfl) hHeld ?_
 refine tk 52 (.bool true) rfl (by kernel_rfl) (fun _ _ _ h=>h) (by rfl) (fun w hSw=>by clear hSw;go_simp) hHeld ?_
 refine tk 53 (.bool true) rfl (by kernel_rfl) (fun _ _ _ h=>h) (by rfl) (fun w hSw=>by clear hSw;go_simp) hHeld ?_
 refine tk 54 (.bool true) rfl (by kernel_rfl) (fun _ _ _ h=>h) (by rfl) (fun w hSw=>by clear hSw;go_simp) hHeld ?_
 try simp only [Act.put,List.getElem_toArray,List.getElem_cons_succ,List.getElem_cons_zero,List.setIfInBounds_toArray,List.set_cons_zero,List.set_cons_succ]
 refine wpAnyH_done (by kernel_rfl) ?_ _
 have HB7:=Lib.hid (HB4.out.trans (hz7.mono HB4.out.size))
 clear hz5 hz6 hz7 hb5 hb6 hb7 hHeld
 go_wp2_with fail
 go_ret
 exact⟨rfl,HB7.out⟩
end Go.Proofs.YtbkpiojejmhfcaaGreatDoor
