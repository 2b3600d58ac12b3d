import Derived.Test.YtjcppneoncpdbaaGreatDoorG25
import Derived.Test.YtjcppneoncpdbaaGreatDoorG32
import Derived.Test.YtjcppneoncpdbaaGreatDoorG33
namespace Go.Proofs.YtjcppneoncpdbaaGreatDoor
open Go.RowKit
theorem args_shape:shapeOf 40=some ((shapeOf 40).getD sh18):=by decide+kernel
theorem newB_is(slot stamp:UInt64)(l:List Wr):newB slot stamp l=((decide (slot.toNat<stamp.toNat)&&decide (stamp.toNat≤60000)&&riseWr l&&decide (l.length≤16))&&l.all rightWr):=by
 unfold newB fitsB
 cases decide (slot.toNat<stamp.toNat)<;>cases decide (stamp.toNat≤60000)<;>cases riseWr l<;>cases decide (l.length≤16)<;>cases l.all rightWr<;>rfl
theorem all_takeW(l:List Wr)(k:Nat)(hk:k<l.length):(l.take (k+1)).all rightWr=((l.take k).all rightWr&&rightWr l[k]):=by
 rw [List.take_succ_eq_append_getElem hk,List.all_append]
 simp
set_option maxHeartbeats 32000000 in
set_option maxRecDepth 100000 in
theorem commitArgs_any(l:List Wr)(A:Option Addr)(c:Nat)(stamp:UInt64)(sl:Nat)(w:World)(hm:l.length≤maxLen)(hsl:sl<65536)(h:Rd w A (l.length*3) (wrCs l))(hT:Tabs w):
 Calls Tryz.prog 3 #[.slice A l.length c,.int .u64 (stamp.toNat:Int),.int .u16 (sl:Int)] w fun e w'=>e= .returned (.bool true)∧Below w.heap.size w w':=by
 unfold maxLen at hm
 have HA:=Lib.hid (alive18 hT)
 have HR:=Lib.hid h
 have HFw:=Lib.hid (fun W(k:Below w.heap.size w W)=>few_writes l A c W (by omega) (Rd.below h k))
 obtain⟨sh,hsh⟩:∃sh,sh=(shapeOf 40).getD sh18:=⟨_,rfl⟩
 have hs:=args_shape
 rw [←hsh]at hs
 have HBg:=Lib.hid (fun W(k:Below w.heap.size w W)=>begin18 (L:=40) (by decide) (by decide) hs (hT.below k))
 rw [show((40:Nat):Int)=40 from rfl]at HBg
 clear hT h hs hsh
 go_enter Tryz.func3,Tryz.ntmps3
 go_wp2_with fail
 refine HA.out.mono ?_
 rintro e w1⟨rfl,hb1⟩
 have HB1:=Lib.hid hb1
 clear hb1 HA
 obtain⟨fw,hfw⟩:∃fw,fewW l=fw:=⟨_,rfl⟩
 rw [hfw]at HFw
 have HFo:=Lib.hid hfw
 clear hfw
 cases fw with
 | false=>
   go_wp2_with fail
   refine(HFw.out w1 HB1.out).mono ?_
   rintro e w2⟨rfl,hb2⟩
   have HB2:=Lib.hid (HB1.out.trans (hb2.mono HB1.out.size))
   go_wp2_with fail
   go_ret
   exact⟨rfl,HB2.out⟩
 | true=>
 obtain⟨hl60,hsz0⟩:=fewW_out HFo.out
 have HSz:Hid (∀x∈l,x.key.size≤4294967296∧x.text.size≤4294967296):=Lib.hid (fun x hx=>by have:=hsz0 x hx;omega)
 clear hsz0
 go_wp2_with fail
 refine(HFw.out w1 HB1.out).mono ?_
 rintro e w2⟨rfl,hb2⟩
 have HB2:=Lib.hid (HB1.out.trans (hb2.mono HB1.out.size))
 clear hb2 HFw HB1
 go_wp2_with fail
 refine(HBg.out w2 HB2.out).mono ?_
 rintro e w3⟨d,p,x,F,rfl,hx,hb3,hF,hxw⟩
 unfold wV
 obtain⟨W4,hW4⟩:∃W4,W4=w3.alloc (.cells #[.pointer (some ⟨d,0,none⟩),.pointer (some ⟨p,0,none⟩),.pointer (some ⟨x,0,none⟩)] 31):=⟨_,rfl⟩
 have hb4:Below w3.heap.size w3 W4:=hW4▸(Below.refl _ _).alloc (Nat.le_refl _) _
 have B4:Blk W4 w3.heap.size 31 [.pointer (some ⟨d,0,none⟩),.pointer (some ⟨p,0,none⟩),.pointer (some ⟨x,0,none⟩)]:=hW4▸heap_alloc_new _ _
 obtain⟨slot,hslot⟩:∃slot:UInt64,slot=UInt64.ofNat sl:=⟨_,rfl⟩
 have hsn:slot.toNat=sl:=by rw [hslot];exact ofNat_toNat_lt (by omega)
 have hSt:=store_sysL (hx.below hb4) 8 slot (by decide) (by decide)
 rw [hsn,show((8*8:Nat):Int)=64 from rfl]at hSt
 have HSt:=Lib.hid hSt
 have HB4:=Lib.hid ((HB2.out.trans (hb3.mono HB2.out.size)).trans (hb4.mono (Nat.le_trans HB2.out.size hb3.size)))
 have HBk4:=Lib.hid B4
 have HW4:=Lib.hid hW4
 have HF:Hid (∀b,F b→w.heap.size≤b∧b<w3.heap.size):=Lib.hid (fun b hb=>⟨Nat.le_trans HB2.out.size (hF b hb),hx.sys.lt b hb⟩)
 have y0:=B4.cell 0
 simp only [List.getElem?_cons_zero]at y0
 rw [hW4]at y0
 have HSn:=Lib.hid hsn
 have hwk2:IntKind.u64.wrap (sl:Int)=(sl:Int):=by simp [IntKind.wrap,IntKind.bits,IntKind.signed];omega
 clear HBg hx hb3 hF hxw hb4 B4 hW4 hSt hslot hsn HB2
 go_wp2_with fail
 rw [←HW4.out]
 refine HSt.out.mono ?_
 rintro e w5⟨rfl,len',F5,hx5,hM5⟩
 have hne5:¬F w3.heap.size:=fun hb=>by have:=(HF.out _ hb).2;omega
 have HBk5:=Lib.hid (HBk4.out.touch hM5.touch hne5)
 have HB5:=Lib.hid (HB4.out.trans (hM5.touch.below HB4.out.size (fun b hb=>(HF.out b hb).1)))
 obtain⟨s5,hs5⟩:∃s5,s5=({st0 sh with ws:=put1 (st0 sh).ws 8 slot}:St):=⟨_,rfl⟩
 rw [←hs5]at hx5
 have hs58:s5.ws 8=slot:=by rw [hs5];show put1 (st0 sh).ws 8 slot 8=slot;unfold put1;rw [if_pos rfl]
 have HS58:=Lib.hid hs58
 have HX5:=Lib.hid hx5
 obtain⟨wb,hwb⟩:∃wb,wb=w3.heap.size:=⟨_,rfl⟩
 have HWb5:Hid (∀W',Below w5.heap.size w5 W'→Blk W' wb 31 [.pointer (some ⟨d,0,none⟩),.pointer (some ⟨p,0,none⟩),.pointer (some ⟨x,0,none⟩)]):=Lib.hid (fun W' k=>hwb▸HBk5.out.below k HBk5.out.lt)
 rw [←hwb]
 obtain⟨b1,e1⟩:∃b,b=decide (sl<stamp.toNat):=⟨_,rfl⟩
 obtain⟨b2,e2⟩:∃b,b=decide (stamp.toNat≤60000):=⟨_,rfl⟩
 obtain⟨b3,e3⟩:∃b,b=riseWr l:=⟨_,rfl⟩
 obtain⟨b4,e4⟩:∃b,b=decide (l.length≤16):=⟨_,rfl⟩
 have T1:decide ((sl:Int)<(stamp.toNat:Int))=b1:=by rw [e1];exact decide_eq_decide.2 (by omega)
 have T2:decide ((stamp.toNat:Int)≤60000)=b2:=by rw [e2];exact decide_eq_decide.2 (by omega)
 have T4:decide ((l.length:Int)≤16)=b4:=by rw [e4];exact decide_eq_decide.2 (by omega)
 have T1':decide (sl<stamp.toNat)=b1:=e1.symm
 have T2':decide (stamp.toNat≤60000)=b2:=e2.symm
 have T4':decide (l.length≤16)=b4:=e4.symm
 obtain⟨r0,hr0⟩:∃r0,r0=(b1&&b2&&b3&&b4):=⟨_,rfl⟩
 have HNB:Hid (newB slot stamp l=(r0&&l.all rightWr)):=Lib.hid (by rw [newB_is,HSn.out,hr0,e1,e2,e3,e4])
 have HRi:=Lib.hid (fun W(k:Below w.heap.size w W)=>rise15 l A c W (by omega) (Rd.below HR.out k))
 rw [←e3]at HRi
 have HR0:=Lib.hid hr0
 clear HSt hx5 hM5 hne5 hs5 hs58 hr0 e1 e2 e3 e4 y0 hwb HBk4 HB4
 have hcases:(b1=false)∨(b1=true∧b2=false)∨(b1=true∧b2=true∧b3=false)∨(b1=true∧b2=true∧b3=true∧b4=false)∨(b1=true∧b2=true∧b3=true∧b4=true):=by
  cases b1<;>cases b2<;>cases b3<;>cases b4<;>simp
 rcases hcases with rfl| ⟨rfl,rfl⟩| ⟨rfl,rfl,rfl⟩| ⟨rfl,rfl,rfl,rfl⟩| ⟨rfl,rfl,rfl,rfl⟩
 all_goals(go_wp2_with fail)
 all_goals(
  first
  | (refine(HRi.out w5 HB5.out).mono ?_
     rintro e w6⟨rfl,hd6⟩
     have HB56:Hid (Below w5.heap.size w5 w6):=Lib.hid (hd6.below _)
     clear hd6
     go_wp2_with fail)
  | (obtain⟨w6,hw6⟩:∃w6,w6=w5:=⟨_,rfl⟩
     rw [←hw6]
     have HB56:Hid (Below w5.heap.size w5 w6):=Lib.hid (hw6▸Below.refl _ _)
     clear hw6))
 all_goals(clear T1 T2 T4 T1' T2' T4' HRi)
 all_goals(go_loopw [9,62](fun u i wr=>∃(k:Nat)(bb:Bool),k≤l.length∧i= .int .i64 (k:Nat)∧u= .bool bb∧Hid (bb=(r0&&(l.take k).all rightWr))∧Below w5.heap.size w5 wr)(fun _ i _=>l.length- (intOf i).toNat))
 all_goals first
  | (case atStart=>exact⟨0,_,Nat.zero_le _,rfl,rfl,Lib.hid (by rw [HR0.out];simp),HB56.out⟩)
  | skip
 all_goals(
  case round=>
   obtain⟨k,bb,hk,rfl,rfl,HBb,hb⟩:=hrel
   have HB:=Lib.hid hb
   have HBw:Hid (Below w.heap.size w wr):=Lib.hid (HB5.out.trans (hb.mono HB5.out.size))
   clear hb HB56 HR0
   by_cases hlt:k<l.length
   ·obtain⟨b,off,rfl,hbw,q0,q1,q2⟩:=wr_at (Rd.below HR.out HBw.out) k hlt
    have hx1:(k:Int)<(l.length:Int):=by omega
    have hx2:decide ((k:Int)<(l.length:Int))=true:=decide_eq_true hx1
    have hx5:decide (k<l.length)=true:=decide_eq_true hlt
    have hwk:IntKind.i64.wrap ((k:Int)+1)=(k:Int)+1:=IntWalk.i64_in _ (by omega)
    have HTk:=Lib.hid (all_takeW l k hlt)
    have hszy:=HSz.out l[k] (List.getElem_mem hlt)
    generalize l[k]=y at*
    obtain⟨W,hW⟩:∃W,W=wr.alloc (.cells #[.string y.key,.string y.text,.bool y.gone] 37):=⟨_,rfl⟩
    have hbW:Below wr.heap.size wr W:=hW▸(Below.refl _ _).alloc (Nat.le_refl _) _
    have BW:Blk W wr.heap.size 37 [.string y.key,.string y.text,.bool y.gone]:=hW▸heap_alloc_new _ _
    have z0:=BW.cell 0
    have z1:=BW.cell 1
    have z2:=BW.cell 2
    simp only [List.getElem?_cons_zero,List.getElem?_cons_succ]at z0 z1 z2
    rw [hW]at z0 z1 z2
    have HW:=Lib.hid hW
    have HBW:=Lib.hid (HB.out.trans (hbW.mono HB.out.size))
    have HRt:=refRight15 y W hszy.1 hszy.2
    unfold wrV at HRt
    have HRt:=Lib.hid HRt
    clear hW hbW BW hszy
    cases bb with
    | false=>
      go_wp2_with fail
      go_roundw
      case rel=>exact⟨k+1,false,by omega,by go_num,rfl,Lib.hid (by rw [HTk.out,←Bool.and_assoc,←HBb.out];rfl),HW.out▸HBW.out⟩
      case measure=>simp [intOf];omega
    | true=>
      go_wp2_with fail
      rw [←HW.out]
      refine HRt.out.mono ?_
      rintro e w7⟨rfl,hb7⟩
      have HB7:=Lib.hid (HBW.out.trans (hb7.mono HBW.out.size))
      clear hb7 z0 z1 z2
      go_wp2_with fail
      go_roundw
      case rel=>exact⟨k+1,rightWr y,by omega,by go_num,rfl,Lib.hid (by rw [HTk.out,←Bool.and_assoc,←HBb.out];rfl),HB7.out⟩
      case measure=>simp [intOf];omega
   ·have hx2:decide ((k:Int)<(l.length:Int))=false:=decide_eq_false (by omega)
    have hx5:decide (k<l.length)=false:=decide_eq_false hlt
    have hkn:l.take k=l:=List.take_of_length_le (by omega)
    have HN0:Hid (newB (s5.ws 8) stamp l=bb):=Lib.hid (by rw [HS58.out,HNB.out,HBb.out,hkn])
    obtain⟨img,himg⟩:∃img,img=imgB s5.ws 40:=⟨_,rfl⟩
    have HIm0:=Lib.hid (fun W(k:Below w5.heap.size w5 W)=>image18 ((HX5.out.below k).sys))
    rw [←himg]at HIm0
    have HImg:=Lib.hid himg.symm
    have B8:=HWb5.out wr HB.out
    have y0:=B8.cell 0
    simp only [List.getElem?_cons_zero]at y0
    clear hkn himg B8 hlt HBb HNB
    go_wp2_with fail
    refine(HIm0.out wr HB.out).mono ?_
    rintro e w9⟨gA,cA,rfl,hIA,hb9⟩
    have HB9:=Lib.hid (HB.out.trans (hb9.mono HB.out.size))
    have HBw9:=Lib.hid (HBw.out.trans (hb9.mono HBw.out.size))
    have HIA9:=Lib.hid hIA
    have B9:=HWb5.out w9 HB9.out
    replace y0:=B9.cell 0
    have y1:=B9.cell 1
    have y2:=B9.cell 2
    simp only [List.getElem?_cons_zero,List.getElem?_cons_succ]at y0 y1 y2
    have HWB:Hid (∀W',Below w9.heap.size w9 W'→W'.cell? ⟨wb,0,none⟩=some (.pointer (some ⟨d,0,none⟩))∧W'.cell? ⟨wb,1,none⟩=some (.pointer (some ⟨p,0,none⟩))∧W'.cell? ⟨wb,2,none⟩=some (.pointer (some ⟨x,0,none⟩))):=Lib.hid (fun W' k=>⟨(B9.below k B9.lt).cell 0,(B9.below k B9.lt).cell 1,(B9.below k B9.lt).cell 2⟩)
    have HTh:=Lib.hid (fun W(k:Below w9.heap.size w9 W)=>theirs15 l A c W (by omega) (Rd.below HR.out (HBw9.out.trans (k.mono HBw9.out.size))))
    have HNw:=Lib.hid (fun W(k:Below w9.heap.size w9 W)v(hv:SetR W (fun _=>False) v l)=>commitNewAny (x:=x) ((HX5.out.below (HB9.out.trans (k.mono HB9.out.size))).sys) hv (by omega) HSz.out stamp)
    clear hb9 hIA B9 HIm0 HB HBw
    cases bb with
    | true=>
      have HN:=HN0
      go_wp2_with fail
      refine wp_region_held_drew (S:=(fun w'=>w'.cell? ⟨wb,0,none⟩=some (.pointer (some ⟨d,0,none⟩))∧w'.cell? ⟨wb,1,none⟩=some (.pointer (some ⟨p,0,none⟩))∧w'.cell? ⟨wb,2,none⟩=some (.pointer (some ⟨x,0,none⟩)))) (by kernel_rfl) ⟨y0,y1,y2⟩ (fun hHeld=> ?_)
      refine tkv 0 (.pointer (some ⟨wb,0,none⟩)) rfl (by kernel_rfl) (fun _ _ _ h=>h) (by rfl) (fun w hSw=>by clear hSw;go_simp) hHeld ?_
      refine tkv 1 (.pointer (some ⟨d,0,none⟩)) rfl (by kernel_rfl) (fun _ _ _ h=>h) (by rfl) (fun w hSw=>by obtain⟨s0,s1,s2⟩:=hSw;go_simp) hHeld ?_
      refine tkv 2 (.pointer (some ⟨wb,1,none⟩)) rfl (by kernel_rfl) (fun _ _ _ h=>h) (by rfl) (fun w hSw=>by clear hSw;go_simp) hHeld ?_
      refine tkv 3 (.pointer (some ⟨p,0,none⟩)) rfl (by kernel_rfl) (fun _ _ _ h=>h) (by rfl) (fun w hSw=>by obtain⟨s0,s1,s2⟩:=hSw;go_simp) hHeld ?_
      try simp only [Act.put,List.getElem_toArray,List.getElem_cons_succ,List.getElem_cons_zero,List.setIfInBounds_toArray,List.set_cons_zero,List.set_cons_succ]
      refine tkv 4 (.pointer (some ⟨wb,2,none⟩)) rfl (by kernel_rfl) (fun _ _ _ h=>h) (by rfl) (fun w hSw=>by clear hSw;go_simp) hHeld ?_
      refine tkv 5 (.pointer (some ⟨x,0,none⟩)) rfl (by kernel_rfl) (fun _ _ _ h=>h) (by rfl) (fun w hSw=>by obtain⟨s0,s1,s2⟩:=hSw;go_simp) hHeld ?_
      refine tkv 6 (.int .u64 (stamp.toNat:Int)) rfl (by kernel_rfl) (fun _ _ _ h=>h) (by rfl) (fun w hSw=>by clear hSw;go_simp) hHeld ?_
      refine tkv 7 (.slice A l.length c) rfl (by kernel_rfl) (fun _ _ _ h=>h) (by rfl) (fun w hSw=>by clear hSw;go_simp) hHeld ?_
      try simp only [Act.put,List.getElem_toArray,List.getElem_cons_succ,List.getElem_cons_zero,List.setIfInBounds_toArray,List.set_cons_zero,List.set_cons_succ]
      refine wpAnyH_ready (rs:=[8]) (by kernel_rfl) (by simp) ?_
      refine AllReadyH.cons rfl (fun K hK=> ?_) AllReadyH.nil
      go_simp
      go_at_call 16
      refine(HTh.out _ ((Dr.drew _).below _)).mono ?_
      rintro e w10⟨vt,rfl,hot,hb10⟩
      have hb10':Below w9.heap.size w9 w10:=((Dr.drew w9).below _).trans hb10
      obtain⟨At,ct,rfl,_,_⟩:=own_rowk hot
      refine hK.out _ _ (HWB.out _ hb10') (fun hHeld=> ?_)
      clear hK K
      try simp only [Act.put,List.getElem_toArray,List.getElem_cons_succ,List.getElem_cons_zero,List.setIfInBounds_toArray,List.set_cons_zero,List.set_cons_succ]
      refine wpAnyH_ready (rs:=[9]) (by kernel_rfl) (by simp) ?_
      refine AllReadyH.cons rfl (fun K hK=> ?_) AllReadyH.nil
      go_simp
      go_at_call 15
      refine(HNw.out _ hb10' _ (own_setR (G:=fun _=>False) hot rfl (fun _ _ _ h=>h))).mono ?_
      rintro e w11⟨hb11,hy11,hn11⟩
      have hb11':Below w9.heap.size w9 w11:=hb10'.trans (hb11.mono hb10'.size)
      obtain⟨jb,vs,rfl,_,_,_⟩:=hy11 HN.out
      refine hK.out _ _ (HWB.out _ hb11') (fun hHeld=> ?_)
      clear hK K
      try simp only [Act.put,List.getElem_toArray,List.getElem_cons_succ,List.getElem_cons_zero,List.setIfInBounds_toArray,List.set_cons_zero,List.set_cons_succ]
      refine tkv 10 (.tuple #[.pointer (some ⟨jb,0,none⟩),.int .i64 0]) rfl (by kernel_rfl) (fun _ _ _ h=>h) (by rfl) (fun w hSw=>by clear hSw;go_simp) hHeld ?_
      refine tkv 11 (.pointer (some ⟨jb,0,none⟩)) rfl (by kernel_rfl) (fun _ _ _ h=>h) (by rfl) (fun w hSw=>by clear hSw;go_simp) hHeld ?_
      refine tkv 12 (.int .i64 0) rfl (by kernel_rfl) (fun _ _ _ h=>h) (by rfl) (fun w hSw=>by clear hSw;go_simp) hHeld ?_
      refine tkv 13 (.pointer (some ⟨jb,0,none⟩)) rfl (by kernel_rfl) (fun _ _ _ h=>h) (by rfl) (fun w hSw=>by clear hSw;go_simp) hHeld ?_
      try simp only [Act.put,List.getElem_toArray,List.getElem_cons_succ,List.getElem_cons_zero,List.setIfInBounds_toArray,List.set_cons_zero,List.set_cons_succ]
      refine tkv 14 (.int .i64 0) rfl (by kernel_rfl) (fun _ _ _ h=>h) (by rfl) (fun w hSw=>by clear hSw;go_simp) hHeld ?_
      try simp only [Act.put,List.getElem_toArray,List.getElem_cons_succ,List.getElem_cons_zero,List.setIfInBounds_toArray,List.set_cons_zero,List.set_cons_succ]
      refine wpAnyH_done (by kernel_rfl) ?_ _
      have HB11:=Lib.hid hb11'
      have hw11:=HWB.out w11 hb11'
      have HIA:=Lib.hid (HIA9.out.below hb11')
      have HW0:Hid (∀W',Below w11.heap.size w11 W'→W'.cell? ⟨wb,0,none⟩=some (.pointer (some ⟨d,0,none⟩))):=Lib.hid (fun W' k=>(HWB.out W' (HB11.out.trans (k.mono HB11.out.size))).1)
      have HIm:=Lib.hid (fun W(k:Below w11.heap.size w11 W)=>image18 ((HX5.out.below (HB9.out.trans ((HB11.out.trans (k.mono HB11.out.size)).mono HB9.out.size))).sys))
      rw [show imgB s5.ws 40=img from HImg.out]at HIm
      have hIA:=HIA.out
      replace y0:=hw11.1
      clear hb11' hb11 hb10' hb10 hot hy11 hn11 hw11 y1 y2 hHeld HTh HNw
      go_wp2_with fail
      refine wp_region_held_drew (S:=(fun w'=>w'.cell? ⟨wb,0,none⟩=some (.pointer (some ⟨d,0,none⟩))∧ImgAt w' gA img)) (by kernel_rfl) ⟨y0,hIA⟩ (fun hHeld=> ?_)
      refine tkv 0 (.int .i64 0) rfl (by kernel_rfl) (fun _ _ _ h=>h) (by rfl) (fun w hSw=>by clear hSw;go_simp) hHeld ?_
      refine tkv 1 (.bool true) rfl (by kernel_rfl) (fun _ _ _ h=>h) (by rfl) (fun w hSw=>by clear hSw;go_simp) hHeld ?_
      refine tkv 2 (.bool true) rfl (by kernel_rfl) (fun _ _ _ h=>h) (by rfl) (fun w hSw=>by clear hSw;go_simp) hHeld ?_
      refine tkv 3 (.bool false) rfl (by kernel_rfl) (fun _ _ _ h=>h) (by rfl) (fun w hSw=>by clear hSw;go_simp) hHeld ?_
      try simp only [Act.put,List.getElem_toArray,List.getElem_cons_succ,List.getElem_cons_zero,List.setIfInBounds_toArray,List.set_cons_zero,List.set_cons_succ]
      refine tkv 4 (.bool false) rfl (by kernel_rfl) (fun _ _ _ h=>h) (by rfl) (fun w hSw=>by clear hSw;go_simp) hHeld ?_
      refine tkv 5 (.pointer (some ⟨jb,0,none⟩)) rfl (by kernel_rfl) (fun _ _ _ h=>h) (by rfl) (fun w hSw=>by clear hSw;go_simp) hHeld ?_
      refine tkv 6 (.bool true) rfl (by kernel_rfl) (fun _ _ _ h=>h) (by rfl) (fun w hSw=>by clear hSw;go_simp) hHeld ?_
      refine tkv 7 (.bool true) rfl (by kernel_rfl) (fun _ _ _ h=>h) (by rfl) (fun w hSw=>by clear hSw;go_simp) hHeld ?_
      try simp only [Act.put,List.getElem_toArray,List.getElem_cons_succ,List.getElem_cons_zero,List.setIfInBounds_toArray,List.set_cons_zero,List.set_cons_succ]
      refine tkv 8 (.bool false) rfl (by kernel_rfl) (fun _ _ _ h=>h) (by rfl) (fun w hSw=>by clear hSw;go_simp) hHeld ?_
      refine tkv 9 (.bool false) rfl (by kernel_rfl) (fun _ _ _ h=>h) (by rfl) (fun w hSw=>by clear hSw;go_simp) hHeld ?_
      refine tkv 10 (.bool false) rfl (by kernel_rfl) (fun _ _ _ h=>h) (by rfl) (fun w hSw=>by clear hSw;go_simp) hHeld ?_
      refine tkv 11 (.bool true) rfl (by kernel_rfl) (fun _ _ _ h=>h) (by rfl) (fun w hSw=>by clear hSw;go_simp) hHeld ?_
      try simp only [Act.put,List.getElem_toArray,List.getElem_cons_succ,List.getElem_cons_zero,List.setIfInBounds_toArray,List.set_cons_zero,List.set_cons_succ]
      refine tkv 12 (.bool false) rfl (by kernel_rfl) (fun _ _ _ h=>h) (by rfl) (fun w hSw=>by clear hSw;go_simp) hHeld ?_
      refine tkv 13 (.bool false) rfl (by kernel_rfl) (fun _ _ _ h=>h) (by rfl) (fun w hSw=>by clear hSw;go_simp) hHeld ?_
      refine wpAnyH_take (i:=14) (v:=undef) rfl (by kernel_rfl) (by kernel_rfl) (by kernel_rfl) (fun _ _ _ h=>h) (Or.inr ⟨by rfl,rfl⟩) (by assumption) ?_
      refine wpAnyH_take (i:=15) (v:=undef) rfl (by kernel_rfl) (by kernel_rfl) (by kernel_rfl) (fun _ _ _ h=>h) (Or.inr ⟨by rfl,rfl⟩) (by assumption) ?_
      try simp only [Act.put,List.getElem_toArray,List.getElem_cons_succ,List.getElem_cons_zero,List.setIfInBounds_toArray,List.set_cons_zero,List.set_cons_succ]
      refine tkv 16 (.bool false) rfl (by kernel_rfl) (fun _ _ _ h=>h) (by rfl) (fun w hSw=>by clear hSw;go_simp) hHeld ?_
      refine tkv 17 (.bool false) rfl (by kernel_rfl) (fun _ _ _ h=>h) (by rfl) (fun w hSw=>by clear hSw;go_simp) hHeld ?_
      refine tkv 18 (.bool false) rfl (by kernel_rfl) (fun _ _ _ h=>h) (by rfl) (fun w hSw=>by clear hSw;go_simp) hHeld ?_
      refine tkv 19 (.pointer (some ⟨wb,0,none⟩)) rfl (by kernel_rfl) (fun _ _ _ h=>h) (by rfl) (fun w hSw=>by clear hSw;go_simp) hHeld ?_
      try simp only [Act.put,List.getElem_toArray,List.getElem_cons_succ,List.getElem_cons_zero,List.setIfInBounds_toArray,List.set_cons_zero,List.set_cons_succ]
      refine tkv 20 (.pointer (some ⟨d,0,none⟩)) rfl (by kernel_rfl) (fun _ _ _ h=>h) (by rfl) (fun w hSw=>by obtain⟨s0,s1⟩:=hSw;go_simp) hHeld ?_
      refine tkv 23 (.slice (some ⟨gA,0,none⟩) img.length cA) rfl (by kernel_rfl) (fun _ _ _ h=>h) (by rfl) (fun w hSw=>by clear hSw;go_simp) hHeld ?_
      refine tkv 24 (.string ⟨img.toArray⟩) rfl (by kernel_rfl) (fun _ _ _ h=>h) (by rfl) (fun w hSw=>by obtain⟨s0,s1⟩:=hSw;have q:=imgStr w gA cA img s1;go_simp) hHeld ?_
      try simp only [Act.put,List.getElem_toArray,List.getElem_cons_succ,List.getElem_cons_zero,List.setIfInBounds_toArray,List.set_cons_zero,List.set_cons_succ]
      refine wpAnyH_ready (rs:=[21]) (by kernel_rfl) (by simp) ?_
      refine AllReadyH.cons rfl (fun K hK=> ?_) AllReadyH.nil
      go_simp
      go_at_call 14
      refine(HIm.out _ ((Dr.drew _).below _)).mono ?_
      rintro e w12⟨gB,cB,rfl,hIB,hb12⟩
      have hb12':Below w11.heap.size w11 w12:=((Dr.drew w11).below _).trans hb12
      refine hK.out _ _ (⟨HW0.out _ hb12',HIA.out.below hb12'⟩) (fun hHeld=> ?_)
      clear hK K
      refine wpAnyH_narrow (S':=fun w'=>w'.cell? ⟨wb,0,none⟩=some (.pointer (some ⟨d,0,none⟩))∧ImgAt w' gA img∧ImgAt w' gB img) (fun _ h=>⟨h.1,h.2.1⟩) _ _ _ _ ?_
      replace hHeld:w12.cell? ⟨wb,0,none⟩=some (.pointer (some ⟨d,0,none⟩))∧ImgAt w12 gA img∧ImgAt w12 gB img:=⟨hHeld.1,hHeld.2,hIB⟩
      try simp only [Act.put,List.getElem_toArray,List.getElem_cons_succ,List.getElem_cons_zero,List.setIfInBounds_toArray,List.set_cons_zero,List.set_cons_succ]
      refine tkv 22 (.string ⟨img.toArray⟩) rfl (by kernel_rfl) (fun _ _ _ h=>h) (by rfl) (fun w hSw=>by obtain⟨s0,s1,s2⟩:=hSw;have q:=imgStr w gB cB img s2;go_simp) hHeld ?_
      refine tkv 25 (.bool false) rfl (by kernel_rfl) (fun _ _ _ h=>h) (by rfl) (fun w hSw=>by clear hSw;go_simp) hHeld ?_
      refine tkv 26 (.bool false) rfl (by kernel_rfl) (fun _ _ _ h=>h) (by rfl) (fun w hSw=>by clear hSw;go_simp) hHeld ?_
      try simp only [Act.put,List.getElem_toArray,List.getElem_cons_succ,List.getElem_cons_zero,List.setIfInBounds_toArray,List.set_cons_zero,List.set_cons_succ]
      refine wpAnyH_done (by kernel_rfl) ?_ _
      have HB12:=Lib.hid (HB11.out.trans (hb12'.mono HB11.out.size))
      clear hHeld hb12' hb12 hIB hIA y0 HIm HIA HW0
      have hw12:=HWB.out w12 HB12.out
      obtain⟨y0,y1,y2⟩:=hw12
      have HX12:=Lib.hid (HX5.out.below (HB9.out.trans (HB12.out.mono HB9.out.size)))
      have HBe:=Lib.hid (HBw9.out.trans (HB12.out.mono HBw9.out.size))
      have HC1:=Lib.hid (commitNewD (w:=w12) 1 (.pointer (some ⟨p,0,none⟩)) (.pointer (some ⟨x,0,none⟩)) (.slice none 0 0))
      have HC2:=Lib.hid (commitNewP HX12.out.sys 1 (.pointer (some ⟨x,0,none⟩)) (.slice none 0 0))
      have HC3:=Lib.hid (commitNewX HX12.out.sys 1 (.slice none 0 0))
      rw [show((1:UInt64).toNat:Int)=1 from rfl]at HC1 HC2 HC3
      have HC4:=Lib.hid (stepNil (w:=w12))
      have HC5:=Lib.hid (leftNil (w:=w12))
      go_wp2_with fail
      refine HC1.out.mono ?_
      rintro e w'⟨rfl,rfl⟩
      go_wp2_with fail
      refine HC2.out.mono ?_
      rintro e w'⟨rfl,rfl⟩
      go_wp2_with fail
      refine HC3.out.mono ?_
      rintro e w'⟨rfl,rfl⟩
      go_wp2_with fail
      refine HC4.out.mono ?_
      rintro e w'⟨rfl,rfl⟩
      go_wp2_with fail
      refine HC5.out.mono ?_
      rintro e w'⟨rfl,rfl⟩
      go_wp2_with fail
      go_ret
      exact⟨rfl,HBe.out⟩
    | false=>
      have HN:=HN0
      go_wp2_with fail
      refine wp_region_held_drew (S:=(fun w'=>w'.cell? ⟨wb,0,none⟩=some (.pointer (some ⟨d,0,none⟩))∧w'.cell? ⟨wb,1,none⟩=some (.pointer (some ⟨p,0,none⟩))∧w'.cell? ⟨wb,2,none⟩=some (.pointer (some ⟨x,0,none⟩)))) (by kernel_rfl) ⟨y0,y1,y2⟩ (fun hHeld=> ?_)
      refine tkv 0 (.pointer (some ⟨wb,0,none⟩)) rfl (by kernel_rfl) (fun _ _ _ h=>h) (by rfl) (fun w hSw=>by clear hSw;go_simp) hHeld ?_
      refine tkv 1 (.pointer (some ⟨d,0,none⟩)) rfl (by kernel_rfl) (fun _ _ _ h=>h) (by rfl) (fun w hSw=>by obtain⟨s0,s1,s2⟩:=hSw;go_simp) hHeld ?_
      refine tkv 2 (.pointer (some ⟨wb,1,none⟩)) rfl (by kernel_rfl) (fun _ _ _ h=>h) (by rfl) (fun w hSw=>by clear hSw;go_simp) hHeld ?_
      refine tkv 3 (.pointer (some ⟨p,0,none⟩)) rfl (by kernel_rfl) (fun _ _ _ h=>h) (by rfl) (fun w hSw=>by obtain⟨s0,s1,s2⟩:=hSw;go_simp) hHeld ?_
      try simp only [Act.put,List.getElem_toArray,List.getElem_cons_succ,List.getElem_cons_zero,List.setIfInBounds_toArray,List.set_cons_zero,List.set_cons_succ]
      refine tkv 4 (.pointer (some ⟨wb,2,none⟩)) rfl (by kernel_rfl) (fun _ _ _ h=>h) (by rfl) (fun w hSw=>by clear hSw;go_simp) hHeld ?_
      refine tkv 5 (.pointer (some ⟨x,0,none⟩)) rfl (by kernel_rfl) (fun _ _ _ h=>h) (by rfl) (fun w hSw=>by obtain⟨s0,s1,s2⟩:=hSw;go_simp) hHeld ?_
      refine tkv 6 (.int .u64 (stamp.toNat:Int)) rfl (by kernel_rfl) (fun _ _ _ h=>h) (by rfl) (fun w hSw=>by clear hSw;go_simp) hHeld ?_
      refine tkv 7 (.slice A l.length c) rfl (by kernel_rfl) (fun _ _ _ h=>h) (by rfl) (fun w hSw=>by clear hSw;go_simp) hHeld ?_
      try simp only [Act.put,List.getElem_toArray,List.getElem_cons_succ,List.getElem_cons_zero,List.setIfInBounds_toArray,List.set_cons_zero,List.set_cons_succ]
      refine wpAnyH_ready (rs:=[8]) (by kernel_rfl) (by simp) ?_
      refine AllReadyH.cons rfl (fun K hK=> ?_) AllReadyH.nil
      go_simp
      go_at_call 16
      refine(HTh.out _ ((Dr.drew _).below _)).mono ?_
      rintro e w10⟨vt,rfl,hot,hb10⟩
      have hb10':Below w9.heap.size w9 w10:=((Dr.drew w9).below _).trans hb10
      obtain⟨At,ct,rfl,_,_⟩:=own_rowk hot
      refine hK.out _ _ (HWB.out _ hb10') (fun hHeld=> ?_)
      clear hK K
      try simp only [Act.put,List.getElem_toArray,List.getElem_cons_succ,List.getElem_cons_zero,List.setIfInBounds_toArray,List.set_cons_zero,List.set_cons_succ]
      refine wpAnyH_ready (rs:=[9]) (by kernel_rfl) (by simp) ?_
      refine AllReadyH.cons rfl (fun K hK=> ?_) AllReadyH.nil
      go_simp
      go_at_call 15
      refine(HNw.out _ hb10' _ (own_setR (G:=fun _=>False) hot rfl (fun _ _ _ h=>h))).mono ?_
      rintro e w11⟨hb11,hy11,hn11⟩
      have hb11':Below w9.heap.size w9 w11:=hb10'.trans (hb11.mono hb10'.size)
      have hr11:=hn11 HN.out;subst hr11
      refine hK.out _ _ (HWB.out _ hb11') (fun hHeld=> ?_)
      clear hK K
      try simp only [Act.put,List.getElem_toArray,List.getElem_cons_succ,List.getElem_cons_zero,List.setIfInBounds_toArray,List.set_cons_zero,List.set_cons_succ]
      refine tkv 10 (.tuple #[.pointer none,.int .i64 2]) rfl (by kernel_rfl) (fun _ _ _ h=>h) (by rfl) (fun w hSw=>by clear hSw;go_simp) hHeld ?_
      refine tkv 11 (.pointer none) rfl (by kernel_rfl) (fun _ _ _ h=>h) (by rfl) (fun w hSw=>by clear hSw;go_simp) hHeld ?_
      refine tkv 12 (.int .i64 2) rfl (by kernel_rfl) (fun _ _ _ h=>h) (by rfl) (fun w hSw=>by clear hSw;go_simp) hHeld ?_
      refine tkv 13 (.pointer none) rfl (by kernel_rfl) (fun _ _ _ h=>h) (by rfl) (fun w hSw=>by clear hSw;go_simp) hHeld ?_
      try simp only [Act.put,List.getElem_toArray,List.getElem_cons_succ,List.getElem_cons_zero,List.setIfInBounds_toArray,List.set_cons_zero,List.set_cons_succ]
      refine tkv 14 (.int .i64 2) rfl (by kernel_rfl) (fun _ _ _ h=>h) (by rfl) (fun w hSw=>by clear hSw;go_simp) hHeld ?_
      try simp only [Act.put,List.getElem_toArray,List.getElem_cons_succ,List.getElem_cons_zero,List.setIfInBounds_toArray,List.set_cons_zero,List.set_cons_succ]
      refine wpAnyH_done (by kernel_rfl) ?_ _
      have HB11:=Lib.hid hb11'
      have hw11:=HWB.out w11 hb11'
      have HIA:=Lib.hid (HIA9.out.below hb11')
      have HW0:Hid (∀W',Below w11.heap.size w11 W'→W'.cell? ⟨wb,0,none⟩=some (.pointer (some ⟨d,0,none⟩))):=Lib.hid (fun W' k=>(HWB.out W' (HB11.out.trans (k.mono HB11.out.size))).1)
      have HIm:=Lib.hid (fun W(k:Below w11.heap.size w11 W)=>image18 ((HX5.out.below (HB9.out.trans ((HB11.out.trans (k.mono HB11.out.size)).mono HB9.out.size))).sys))
      rw [show imgB s5.ws 40=img from HImg.out]at HIm
      have hIA:=HIA.out
      replace y0:=hw11.1
      clear hb11' hb11 hb10' hb10 hot hy11 hn11 hw11 y1 y2 hHeld HTh HNw
      go_wp2_with fail
      refine wp_region_held_drew (S:=(fun w'=>w'.cell? ⟨wb,0,none⟩=some (.pointer (some ⟨d,0,none⟩))∧ImgAt w' gA img)) (by kernel_rfl) ⟨y0,hIA⟩ (fun hHeld=> ?_)
      refine tkv 0 (.int .i64 2) rfl (by kernel_rfl) (fun _ _ _ h=>h) (by rfl) (fun w hSw=>by clear hSw;go_simp) hHeld ?_
      refine tkv 1 (.bool false) rfl (by kernel_rfl) (fun _ _ _ h=>h) (by rfl) (fun w hSw=>by clear hSw;go_simp) hHeld ?_
      refine tkv 2 (.bool false) rfl (by kernel_rfl) (fun _ _ _ h=>h) (by rfl) (fun w hSw=>by clear hSw;go_simp) hHeld ?_
      refine tkv 3 (.bool false) rfl (by kernel_rfl) (fun _ _ _ h=>h) (by rfl) (fun w hSw=>by clear hSw;go_simp) hHeld ?_
      try simp only [Act.put,List.getElem_toArray,List.getElem_cons_succ,List.getElem_cons_zero,List.setIfInBounds_toArray,List.set_cons_zero,List.set_cons_succ]
      refine tkv 4 (.bool false) rfl (by kernel_rfl) (fun _ _ _ h=>h) (by rfl) (fun w hSw=>by clear hSw;go_simp) hHeld ?_
      refine tkv 5 (.pointer none) rfl (by kernel_rfl) (fun _ _ _ h=>h) (by rfl) (fun w hSw=>by clear hSw;go_simp) hHeld ?_
      refine tkv 6 (.bool false) rfl (by kernel_rfl) (fun _ _ _ h=>h) (by rfl) (fun w hSw=>by clear hSw;go_simp) hHeld ?_
      refine tkv 7 (.bool false) rfl (by kernel_rfl) (fun _ _ _ h=>h) (by rfl) (fun w hSw=>by clear hSw;go_simp) hHeld ?_
      try simp only [Act.put,List.getElem_toArray,List.getElem_cons_succ,List.getElem_cons_zero,List.setIfInBounds_toArray,List.set_cons_zero,List.set_cons_succ]
      refine tkv 8 (.bool false) rfl (by kernel_rfl) (fun _ _ _ h=>h) (by rfl) (fun w hSw=>by clear hSw;go_simp) hHeld ?_
      refine tkv 9 (.bool false) rfl (by kernel_rfl) (fun _ _ _ h=>h) (by rfl) (fun w hSw=>by clear hSw;go_simp) hHeld ?_
      refine tkv 10 (.bool false) rfl (by kernel_rfl) (fun _ _ _ h=>h) (by rfl) (fun w hSw=>by clear hSw;go_simp) hHeld ?_
      refine tkv 11 (.bool false) rfl (by kernel_rfl) (fun _ _ _ h=>h) (by rfl) (fun w hSw=>by clear hSw;go_simp) hHeld ?_
      try simp only [Act.put,List.getElem_toArray,List.getElem_cons_succ,List.getElem_cons_zero,List.setIfInBounds_toArray,List.set_cons_zero,List.set_cons_succ]
      refine tkv 12 (.bool true) rfl (by kernel_rfl) (fun _ _ _ h=>h) (by rfl) (fun w hSw=>by clear hSw;go_simp) hHeld ?_
      refine tkv 13 (.bool true) rfl (by kernel_rfl) (fun _ _ _ h=>h) (by rfl) (fun w hSw=>by clear hSw;go_simp) hHeld ?_
      refine tkv 14 (.int .i64 2) rfl (by kernel_rfl) (fun _ _ _ h=>h) (by rfl) (fun w hSw=>by clear hSw;go_simp) hHeld ?_
      refine tkv 15 (.bool false) rfl (by kernel_rfl) (fun _ _ _ h=>h) (by rfl) (fun w hSw=>by clear hSw;go_simp) hHeld ?_
      try simp only [Act.put,List.getElem_toArray,List.getElem_cons_succ,List.getElem_cons_zero,List.setIfInBounds_toArray,List.set_cons_zero,List.set_cons_succ]
      refine tkv 16 (.bool false) rfl (by kernel_rfl) (fun _ _ _ h=>h) (by rfl) (fun w hSw=>by clear hSw;go_simp) hHeld ?_
      refine tkv 17 (.bool false) rfl (by kernel_rfl) (fun _ _ _ h=>h) (by rfl) (fun w hSw=>by clear hSw;go_simp) hHeld ?_
      refine tkv 18 (.bool false) rfl (by kernel_rfl) (fun _ _ _ h=>h) (by rfl) (fun w hSw=>by clear hSw;go_simp) hHeld ?_
      refine tkv 19 (.pointer (some ⟨wb,0,none⟩)) rfl (by kernel_rfl) (fun _ _ _ h=>h) (by rfl) (fun w hSw=>by clear hSw;go_simp) hHeld ?_
      try simp only [Act.put,List.getElem_toArray,List.getElem_cons_succ,List.getElem_cons_zero,List.setIfInBounds_toArray,List.set_cons_zero,List.set_cons_succ]
      refine tkv 20 (.pointer (some ⟨d,0,none⟩)) rfl (by kernel_rfl) (fun _ _ _ h=>h) (by rfl) (fun w hSw=>by obtain⟨s0,s1⟩:=hSw;go_simp) hHeld ?_
      refine tkv 23 (.slice (some ⟨gA,0,none⟩) img.length cA) rfl (by kernel_rfl) (fun _ _ _ h=>h) (by rfl) (fun w hSw=>by clear hSw;go_simp) hHeld ?_
      refine tkv 24 (.string ⟨img.toArray⟩) rfl (by kernel_rfl) (fun _ _ _ h=>h) (by rfl) (fun w hSw=>by obtain⟨s0,s1⟩:=hSw;have q:=imgStr w gA cA img s1;go_simp) hHeld ?_
      try simp only [Act.put,List.getElem_toArray,List.getElem_cons_succ,List.getElem_cons_zero,List.setIfInBounds_toArray,List.set_cons_zero,List.set_cons_succ]
      refine wpAnyH_ready (rs:=[21]) (by kernel_rfl) (by simp) ?_
      refine AllReadyH.cons rfl (fun K hK=> ?_) AllReadyH.nil
      go_simp
      go_at_call 14
      refine(HIm.out _ ((Dr.drew _).below _)).mono ?_
      rintro e w12⟨gB,cB,rfl,hIB,hb12⟩
      have hb12':Below w11.heap.size w11 w12:=((Dr.drew w11).below _).trans hb12
      refine hK.out _ _ (⟨HW0.out _ hb12',HIA.out.below hb12'⟩) (fun hHeld=> ?_)
      clear hK K
      refine wpAnyH_narrow (S':=fun w'=>w'.cell? ⟨wb,0,none⟩=some (.pointer (some ⟨d,0,none⟩))∧ImgAt w' gA img∧ImgAt w' gB img) (fun _ h=>⟨h.1,h.2.1⟩) _ _ _ _ ?_
      replace hHeld:w12.cell? ⟨wb,0,none⟩=some (.pointer (some ⟨d,0,none⟩))∧ImgAt w12 gA img∧ImgAt w12 gB img:=⟨hHeld.1,hHeld.2,hIB⟩
      try simp only [Act.put,List.getElem_toArray,List.getElem_cons_succ,List.getElem_cons_zero,List.setIfInBounds_toArray,List.set_cons_zero,List.set_cons_succ]
      refine tkv 22 (.string ⟨img.toArray⟩) rfl (by kernel_rfl) (fun _ _ _ h=>h) (by rfl) (fun w hSw=>by obtain⟨s0,s1,s2⟩:=hSw;have q:=imgStr w gB cB img s2;go_simp) hHeld ?_
      refine tkv 25 (.bool false) rfl (by kernel_rfl) (fun _ _ _ h=>h) (by rfl) (fun w hSw=>by clear hSw;go_simp) hHeld ?_
      refine tkv 26 (.bool false) rfl (by kernel_rfl) (fun _ _ _ h=>h) (by rfl) (fun w hSw=>by clear hSw;go_simp) hHeld ?_
      try simp only [Act.put,List.getElem_toArray,List.getElem_cons_succ,List.getElem_cons_zero,List.setIfInBounds_toArray,List.set_cons_zero,List.set_cons_succ]
      refine wpAnyH_done (by kernel_rfl) ?_ _
      have HB12:=Lib.hid (HB11.out.trans (hb12'.mono HB11.out.size))
      clear hHeld hb12' hb12 hIB hIA y0 HIm HIA HW0
      have hw12:=HWB.out w12 HB12.out
      obtain⟨y0,y1,y2⟩:=hw12
      have HX12:=Lib.hid (HX5.out.below (HB9.out.trans (HB12.out.mono HB9.out.size)))
      have HBe:=Lib.hid (HBw9.out.trans (HB12.out.mono HBw9.out.size))
      have HC1:=Lib.hid (commitNewD (w:=w12) 1 (.pointer (some ⟨p,0,none⟩)) (.pointer (some ⟨x,0,none⟩)) (.slice none 0 0))
      have HC2:=Lib.hid (commitNewP HX12.out.sys 1 (.pointer (some ⟨x,0,none⟩)) (.slice none 0 0))
      have HC3:=Lib.hid (commitNewX HX12.out.sys 1 (.slice none 0 0))
      rw [show((1:UInt64).toNat:Int)=1 from rfl]at HC1 HC2 HC3
      have HC4:=Lib.hid (stepNil (w:=w12))
      have HC5:=Lib.hid (leftNil (w:=w12))
      go_wp2_with fail
      refine HC1.out.mono ?_
      rintro e w'⟨rfl,rfl⟩
      go_wp2_with fail
      refine HC2.out.mono ?_
      rintro e w'⟨rfl,rfl⟩
      go_wp2_with fail
      refine HC3.out.mono ?_
      rintro e w'⟨rfl,rfl⟩
      go_wp2_with fail
      refine HC4.out.mono ?_
      rintro e w'⟨rfl,rfl⟩
      go_wp2_with fail
      refine HC5.out.mono ?_
      rintro e w'⟨rfl,rfl⟩
      go_wp2_with fail
      go_ret
      exact⟨rfl,HBe.out⟩)
end Go.Proofs.YtjcppneoncpdbaaGreatDoor
