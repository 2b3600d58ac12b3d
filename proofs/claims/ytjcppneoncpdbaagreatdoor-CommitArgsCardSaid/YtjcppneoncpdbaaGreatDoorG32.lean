import Derived.Test.YtjcppneoncpdbaaGreatDoorG21
import Derived.Test.YtjcppneoncpdbaaGreatDoorG29
import Derived.Test.YtjcppneoncpdbaaGreatDoorG31
namespace Go.Proofs.YtjcppneoncpdbaaGreatDoor
open Go.RowKit
theorem one_map{m:List (ByteArray×LkV)}{k:ByteArray}{l:List Lk}(h:m.map (fun q=>(q.1,q.2.l))=[(k,l)]):∃y:LkV,m=[(k,y)]∧y.l=l:=by
 match m,h with
 | [q],h=>
   simp only [List.map_cons,List.map_nil,List.cons.injEq,and_true,Prod.mk.injEq]at h
   exact⟨q.2,by rw [←h.1],h.2⟩
def set18:List Wr:=[wa18,wb18]
theorem fits18:newB 0 1 set18=true:=by decide+kernel
theorem nofit18:newB 1 1 []=false:=by decide+kernel
set_option maxHeartbeats 16000000 in
set_option maxRecDepth 100000 in
theorem alive18{w:World}(hT:Tabs w):Calls Tryz.prog 8 #[] w fun e w'=>e= .returned (.bool true)∧Below w.heap.size w w':=by
 have HBg:=begin18 (L:=100) (by decide) (by decide) shape18 hT
 rw [show((100:Nat):Int)=100 from rfl]at HBg
 have HBg:=Lib.hid HBg
 have HTl:=Lib.hid hT.lt
 clear hT
 go_enter Tryz.func8,Tryz.ntmps8
 go_wp2_with fail
 refine HBg.out.mono ?_
 rintro e w1⟨d,p,x,F,rfl,hx,hb1,hF,hxw⟩
 unfold wV
 obtain⟨W2,hW2⟩:∃W2,W2=w1.alloc (.cells #[.pointer (some ⟨d,0,none⟩),.pointer (some ⟨p,0,none⟩),.pointer (some ⟨x,0,none⟩)] 31):=⟨_,rfl⟩
 obtain⟨W3,hW3⟩:∃W3,W3=W2.alloc (.cells #[.string ka18,.string tx18,.bool false,.string kb18,.string ⟨#[]⟩,.bool true] 87):=⟨_,rfl⟩
 have hb2:Below w1.heap.size w1 W2:=hW2▸(Below.refl _ _).alloc (Nat.le_refl _) _
 have hb3:Below W2.heap.size W2 W3:=hW3▸(Below.refl _ _).alloc (Nat.le_refl _) _
 have B2:Blk W2 w1.heap.size 31 [.pointer (some ⟨d,0,none⟩),.pointer (some ⟨p,0,none⟩),.pointer (some ⟨x,0,none⟩)]:=hW2▸heap_alloc_new _ _
 have S3:Blk W3 W2.heap.size 87 [.string ka18,.string tx18,.bool false,.string kb18,.string ⟨#[]⟩,.bool true]:=hW3▸heap_alloc_new _ _
 have hset:SetR W3 (fun _=>False) (.slice (some ⟨W2.heap.size,0,none⟩) 2 2) set18:=⟨some ⟨W2.heap.size,0,none⟩,2,rfl,Nat.le_refl _,Blk.rd S3,fun _ _ _ h=>h⟩
 have hb13:Below w1.heap.size w1 W3:=hb2.trans (hb3.mono hb2.size)
 have hx3:=hx.below hb13
 have hsz2:W2.heap.size=w1.heap.size+1:=by rw [hW2];simp
 have hFl:∀b,F b→b<w1.heap.size:=hx.sys.lt
 have htl:=hx.sys.tabs.lt
 have hxl:=hx.box.lt
 rw [hsz2]at hset
 have hNw:=commitNewAny hx3.sys hset (by decide) (by decide) 1 (x:=x)
 have h80:(st0 sh18).ws 8=0:=format_above sh18 8 (by decide)
 rw [h80]at hNw
 rw [show((1:UInt64).toNat:Int)=1 from rfl]at hNw
 have HNw:=Lib.hid hNw
 have HX3:=Lib.hid hx3
 have HB3:=Lib.hid (hb1.trans (hb13.mono hb1.size))
 have HBk3:=Lib.hid (B2.below hb3 B2.lt)
 have HW2:=Lib.hid hW2
 have HW3:=Lib.hid hW3
 have HF:Hid (∀b,F b→w.heap.size≤b∧b<w1.heap.size):=Lib.hid (fun b h=>⟨hF b h,hFl b h⟩)
 have y0:=B2.cell 0
 have y1:=B2.cell 1
 have y2:=B2.cell 2
 simp only [List.getElem?_cons_zero,List.getElem?_cons_succ]at y0 y1 y2
 rw [hW2]at y0 y1 y2
 have hb1s:=hb1.size
 clear HBg hx hb1 hF hW2 hW3 hb2 hb3 B2 S3 hset hb13 hx3 hNw hFl h80
 go_wp2_with fail
 rw [←HW2.out]
 rw [show W2.alloc (.cells #[.string {data:= #[97]},.string {data:= #[120]},.bool false,.string {data:= #[98]},.string {data:= #[]},.bool true] 87)=W3 from HW3.out.symm]
 refine HNw.out.mono ?_
 rintro e w4⟨hb4,hy4,_⟩
 obtain⟨jb,vs,rfl,hjb,hJ,hS⟩:=hy4 fits18
 have hW3s:=HBk3.out.lt
 have hC4:CJob w4 W3.heap.size jb x d p 100 (st0 sh18) 1 vs set18 [] false 0 F (.slice none 0 0):=⟨HX3.out.below hb4,hJ,World.ownsRow_nil _ _ _ _,hS _ (fun b h1 h2 h=>by
  rcases h with h| h| h
  ·have:=(HF.out b h).2;omega
  ·omega
  ·cases h),fun h=>by have:=(HF.out jb h).2;omega,hjb,by omega,by omega,(fun h=>nomatch h),(fun b h=>nomatch h)⟩
 obtain⟨vA,vc,hvs⟩:=hC4.set.slice
 have hvs':vs= .slice vA 2 vc:=hvs
 subst hvs'
 have HB4:=Lib.hid (HB3.out.trans (hb4.mono HB3.out.size))
 have HBk4:=Lib.hid (HBk3.out.below hb4 HBk3.out.lt)
 have HG4:Hid (∀b,JG F jb (.slice none 0 0) b→w.heap.size≤b∧b≠w1.heap.size):=Lib.hid (fun b h=>by
  rcases h with h| h| h
  ·have:=HF.out b h;omega
  ·omega
  ·cases h)
 have HLf:=leftJob hC4.box (by decide) (by decide) (jb:=jb)
 rw [show((2-0+1:Nat):Int)=3 from rfl]at HLf
 have HLf:=Lib.hid HLf
 have HC4:=Lib.hid hC4
 clear HNw hb4 hy4 hJ hS hC4 hvs y0 y1 y2
 go_wp2_with fail
 refine HLf.out.mono ?_
 rintro e w5⟨rfl,hb5⟩
 have hC5:=HC4.out.below hb5
 have HSt1:=Lib.hid (jobStepW hC5 (by decide) (by decide) (pv:=0) (pl:=onePl sh18 tx18) (s2:=one2 sh18 ka18 tx18) (fun W' k=>(jobWrite (hC5.ix.below k) ⟨hC5.box.below k hC5.box.lt,hC5.fj⟩ wa18 (by decide) (by decide) (one_get sh18 ka18 (by decide)) rfl (one_take one18) (one_add one18) (one_put one18)).mono (fun e w'' hh=>⟨hh.1,hh.2⟩)))
 have HB5:=Lib.hid (HB4.out.trans (hb5.mono HB4.out.size))
 have HBk5:=Lib.hid (HBk4.out.below hb5 HBk4.out.lt)
 clear HLf hb5 hC5 HC4
 go_wp2_with fail
 refine HSt1.out.mono ?_
 rintro e w6⟨rfl,F6,v6,hC6,hM6⟩
 have HB6:=Lib.hid (HB5.out.trans (hM6.touch.below HB5.out.size (fun b h=>(HG4.out b h).1)))
 have HBk6:=Lib.hid (HBk5.out.touch hM6.touch (fun h=>(HG4.out _ h).2 rfl))
 have HG6:Hid (∀b,JG F6 jb v6 b→w.heap.size≤b∧b≠w1.heap.size):=Lib.hid (fun b h=>(hM6.own b h).elim (HG4.out b) (fun h2=>by have:=HBk5.out.lt;have:=HB5.out.size;omega))
 have HSt2:=Lib.hid (jobStepW hC6 (by decide) (by decide) (pv:=0) (pl:=0) (s2:=one2 sh18 ka18 tx18) (fun W' k=>(jobWrite_skip (hC6.ix.below k) ⟨hC6.box.below k hC6.box.lt,hC6.fj⟩ wb18 (by decide) (by decide) getb18 rfl).mono (fun e w'' hh=>⟨hh.1,hh.2⟩)))
 clear HSt1 hC6 hM6
 go_wp2_with fail
 refine HSt2.out.mono ?_
 rintro e w7⟨rfl,F7,v7,hC7,hM7⟩
 have HB7:=Lib.hid (HB6.out.trans (hM7.touch.below HB6.out.size (fun b h=>(HG6.out b h).1)))
 have HBk7:=Lib.hid (HBk6.out.touch hM7.touch (fun h=>(HG6.out _ h).2 rfl))
 have HG7:Hid (∀b,JG F7 jb v7 b→w.heap.size≤b∧b≠w1.heap.size):=Lib.hid (fun b h=>(hM7.own b h).elim (HG6.out b) (fun h2=>by have:=HBk6.out.lt;have:=HB6.out.size;omega))
 have h80:(one2 sh18 ka18 tx18).ws 8=0:=by obtain⟨_,_,_,h⟩:=behind18;exact h
 have HSl:=slot18 hC7.ix.sys (x:=x)
 rw [h80,show((0:UInt64).toNat:Int)=0 from rfl]at HSl
 have HSl:=Lib.hid HSl
 have HC7:=Lib.hid hC7
 have y0:=HBk7.out.cell 0
 have y1:=HBk7.out.cell 1
 have y2:=HBk7.out.cell 2
 simp only [List.getElem?_cons_zero,List.getElem?_cons_succ]at y0 y1 y2
 unfold wV at HSl
 clear HSt2 hC7 hM7 h80
 go_wp2_with fail
 refine HSl.out.mono ?_
 rintro e w8⟨rfl,hb8⟩
 have hC8:=HC7.out.below hb8
 have HSt3:=Lib.hid (jobStepEnd hC8 rfl)
 have HB8:=Lib.hid (HB7.out.trans (hb8.mono HB7.out.size))
 have HBk8:=Lib.hid (HBk7.out.below hb8 HBk7.out.lt)
 clear HSl hb8 hC8 HC7 y0 y1 y2
 go_wp2_with fail
 refine HSt3.out.mono ?_
 rintro e w9⟨rfl,F9,hx9,⟨A9,n9,c9,B9,d9,hJ9⟩,hM9⟩
 obtain⟨o,hal,hli⟩:=end18
 obtain⟨s3,hs3⟩:∃s3,s3=({one2 sh18 ka18 tx18 with ws:=put1 (one2 sh18 ka18 tx18).ws 8 1}:St):=⟨_,rfl⟩
 rw [←hs3]at hx9 hal hli
 have HB9:=Lib.hid (HB8.out.trans (hM9.touch.below HB8.out.size (fun b h=>(HG7.out b h).1)))
 have HBk9:=Lib.hid (HBk8.out.touch hM9.touch (fun h=>(HG7.out _ h).2 rfl))
 have HLs:=Lib.hid (lists18 hx9 hal (fun _=>[⟨o,⟨1,0,false,tx18⟩⟩]) (fun it hit=>by rw [List.mem_singleton]at hit;rw [hit];exact hli) (List.pairwise_singleton _ _))
 have h81:s3.ws 8=1:=by rw [hs3];show put1 (one2 sh18 ka18 tx18).ws 8 1 8=1;unfold put1;rw [if_pos rfl]
 have HX9:=Lib.hid hx9
 have HJ9:=Lib.hid hJ9.box
 have H81:=Lib.hid h81
 have y0:=HBk9.out.cell 0
 have y1:=HBk9.out.cell 1
 have y2:=HBk9.out.cell 2
 simp only [List.getElem?_cons_zero,List.getElem?_cons_succ]at y0 y1 y2
 unfold wV at HLs
 clear HSt3 hx9 hJ9 hM9 hal hli h81 hs3
 go_wp2_with fail
 refine HLs.out.mono ?_
 rintro e w10⟨mb,m,rfl,hm,hmb,hmm,hb10⟩
 have HB10:=Lib.hid (HB9.out.trans (hb10.mono HB9.out.size))
 have HBk10:=Lib.hid (HBk9.out.below hb10 HBk9.out.lt)
 have hx10:=HX9.out.below hb10
 have hNw:=commitNewAny hx10.sys (SetR.nil (w:=w10) (G:=fun _=>False)) (by decide) (fun _ h=>(nomatch h)) 1 (x:=x)
 rw [H81.out,show((1:UInt64).toNat:Int)=1 from rfl]at hNw
 have HNw:=Lib.hid hNw
 have HM:=Lib.hid hm
 have HMm:=Lib.hid hmm
 have HX10:=Lib.hid hx10
 have HJ10:=Lib.hid (HJ9.out.below hb10 HJ9.out.lt)
 replace y0:=HBk10.out.cell 0
 replace y1:=HBk10.out.cell 1
 replace y2:=HBk10.out.cell 2
 simp only [List.getElem?_cons_zero,List.getElem?_cons_succ]at y0 y1 y2
 clear HLs hm hmm hb10 hx10 hNw
 go_wp2_with fail
 refine HNw.out.mono ?_
 rintro e w11⟨hb11,_,hn11⟩
 have hn11:=hn11 nofit18
 subst hn11
 have HB11:=Lib.hid (HB10.out.trans (hb11.mono HB10.out.size))
 have HBk11:=Lib.hid (HBk10.out.below hb11 HBk10.out.lt)
 have HM11:=Lib.hid (HM.out.below hb11)
 have HJ11:=Lib.hid (HJ10.out.below hb11 HJ10.out.lt)
 have HSl:=slot18 ((HX10.out.below hb11).sys) (x:=x)
 rw [H81.out,show((1:UInt64).toNat:Int)=1 from rfl]at HSl
 unfold wV at HSl
 have HSl:=Lib.hid HSl
 replace y0:=HBk11.out.cell 0
 replace y1:=HBk11.out.cell 1
 replace y2:=HBk11.out.cell 2
 simp only [List.getElem?_cons_zero,List.getElem?_cons_succ]at y0 y1 y2
 clear HNw hb11
 go_wp2_with fail
 refine HSl.out.mono ?_
 rintro e w12⟨rfl,hb12⟩
 have HB12:=Lib.hid (HB11.out.trans (hb12.mono HB11.out.size))
 have hm12:=HM11.out.below hb12
 have hJ12:=HJ11.out.below hb12 HJ11.out.lt
 obtain⟨y,rfl,hyl⟩:=one_map HMm.out
 have hrow:=(hm12.rows _ (List.mem_singleton.2 rfl)).1
 simp only [hyl]at hrow
 obtain⟨rb,ro,hA,hrb,r0,_,_,_,r4⟩:=hrow.at 0 (by simp)
 have hmap:w12.heap[mb]? =some (.map #[{key:= .string ⟨#[97]⟩,val:= .slice (some ⟨rb,ro,none⟩) 1 y.c,born:=0}] 1):=by
  have:=hm12.map
  unfold TxMap lkE lkV at this
  simp only [List.map_cons,List.map_nil,hyl,hA]at this
  exact this
 have hlk:=fun W(hW:W.heap[mb]? =w12.heap[mb]?)=>lookTx_yes (P:=Tryz.prog) Tryz.underlying55 Tryz.underlying9 W mb [] [] ⟨#[97]⟩ (.slice (some ⟨rb,ro,none⟩) 1 y.c) (by show W.heap[mb]? =_;rw [hW,hmap];rfl) (fun _ h=>(nomatch h))
 have hlk0:=hlk w12 rfl
 have hln:=run_len_map (P:=Tryz.prog) (w:=w12) 55 3 mb _ 1 (by kernel_rfl) hmap
 have HLo:=Lib.hid (leftOver hJ12)
 simp only [Nat.zero_mul,Nat.add_zero,List.getElem_cons_zero]at r4
 replace r4:w12.cell? ⟨rb,ro+4,none⟩=some (.string ⟨#[120]⟩):=r4
 have HB12':=HB12
 clear hb12 hm12 hJ12 hrow hyl hlk HMm HM11 HM HJ9 HJ10 HJ11
 go_wp2_with fail
 refine HLo.out.mono ?_
 rintro e w13⟨rfl,rfl⟩
 go_wp2_with fail
 go_ret
 exact⟨rfl,HB12.out⟩
end Go.Proofs.YtjcppneoncpdbaaGreatDoor
