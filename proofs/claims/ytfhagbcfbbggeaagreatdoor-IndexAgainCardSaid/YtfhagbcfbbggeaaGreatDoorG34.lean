import Derived.Test.YtfhagbcfbbggeaaGreatDoorG27
import Derived.Test.YtfhagbcfbbggeaaGreatDoorG32
import Derived.Test.YtfhagbcfbbggeaaGreatDoorG33
namespace Go.Proofs.YtfhagbcfbbggeaaGreatDoor
open Go.RowKit
section
variable{L:Nat}{s:St}{items:List Kv}{sh:Sh}
def againS(s:St):St:={sh:=s.sh,ws:=s.ws,tk:=s.tk,hd:=List.replicate s.sh.slabs 0}
theorem again_words(ok:PoolOk L s):wordsAt s.ws (s.sh.table/8) s.sh.slabs=s.tk:=by
 apply List.ext_getElem
 ·simp [wordsAt,ok.ntk]
 ·intro i h1 h2
  rw [wordsAt_get,ok.sh.table,show 128/8+i=16+i by omega,ok.tab i (by rw [←ok.ntk];exact h2),List.getD_eq_getElem?_getD,List.getElem?_eq_getElem h2]
  rfl
theorem again_right(ok:PoolOk L s):∀i,i<s.sh.slabs→rightW (s.ws (s.sh.table/8+i)).toNat=true:=fun i hi=>by
 rw [ok.sh.table,show 128/8+i=16+i by omega,ok.tab i hi]
 exact(ok.tk i hi).right
theorem again_head(h:Low (st0 sh) s):wordsAt s.ws 0 8=wordsOf s.sh:=by
 have h2:wordsAt s.ws 0 8=wordsAt (formatW sh) 0 8:=by
  apply List.ext_getElem
  ·simp [wordsAt]
  ·intro i h1 h2
   rw [wordsAt_get,wordsAt_get]
   exact h.2 _ (by have:=h1;simp [wordsAt]at this;omega)
 rw [h2,format_head,h.1]
 rfl
theorem again_hd(s:St)(i:Nat):hdN (againS s) i=0:=by
 unfold hdN againS
 simp only [List.getD_eq_getElem?_getD,List.getElem?_replicate]
 split<;>rfl
theorem again_ok(h:IxOk L s items):IxOk L (againS s) items:=by
 have hnh:∀o d,¬HeldAt (againS s) o d:=fun o d=>by
  rintro⟨i,a,_,ha,_⟩
  rw [again_hd,has_zero]at ha
  cases ha
 refine h.same ⟨h.ok.sh,h.ok.L1,h.ok.ntk,by simp [againS],h.ok.tk,fun i _=> .inl (again_hd s i),fun i _=> .inr (.inl (again_hd s i)),fun i a _ _=>by rw [again_hd,has_zero],h.ok.tab⟩ hnh (fun o=>Iff.rfl) (fun o c _ ht=>⟨ht,fun _ _=>rfl⟩) rfl
end
section
variable{w:World}{d p L:Nat}{s:St}{F:Nat→Prop}{items:List Kv}{sh:Sh}
theorem crash_sys(h:Sys w d p L s F)(A:Option Addr)(n c:Nat):Calls Tryz.prog 25 #[.pointer (some ⟨d,0,none⟩),.slice A n c] w fun e w'=>
 (∃v,e= .returned v)∧∃own,Dev w' d L s.ws (fun _=>0) (fun _=>0) own∧(∀b,own b→F b)∧Touch F w w'∧Tabs w'∧¬own 0∧¬own 1:=by
 obtain⟨tb,hb,m,cT,cH,own,hr,hF⟩:=h
 obtain⟨g,hbk,hd,ho⟩:=hr.dev
 refine(crash_dev d L s.ws g hbk w hr.L1 hr.L0 hd A n c).mono ?_
 rintro e w1⟨he,hb',h1,h2,h3⟩
 have hsub:∀b,devOwn d L g hb' b→own b:=fun b hb=>(ho b).2 (by
  rcases hb with h| h| ⟨i,hi,h⟩
  ·exact .inl h
  ·exact .inr (.inl h)
  ·exact .inr (.inr ⟨i,hi,h2 i b h⟩))
 have ht:Touch own w w1:=h3.mono (fun b hb=>(ho b).2 hb)
 have q1:¬own 0:=fun h=>hr.g1 (.inl h)
 have q2:¬own 1:=fun h=>hr.g2 (.inl h)
 exact⟨he,devOwn d L g hb',⟨g,hb',h1,fun _=>Iff.rfl⟩,fun b hb=>(hF b).2 (.inl (hsub b hb)),ht.mono (fun b hb=>(hF b).2 (.inl hb)),hr.tabs.keep (ht.block _ hr.tabs.lt.1 q1) (ht.block _ hr.tabs.lt.2 q2),fun h=>q1 (hsub _ h),fun h=>q2 (hsub _ h)⟩
set_option maxHeartbeats 2000000 in
theorem again10{own:Nat→Prop}(hL0:0<L)(hL:L≤1024)(hs:shapeOf L=some s.sh)(h:Dev w d L s.ws (fun _=>0) (fun _=>0) own)(hT:Tabs w)(g1:¬own 0)(g2:¬own 1)(ok:IxOk L s items)(hh:wordsAt s.ws 0 8=wordsOf s.sh):
 Calls Tryz.prog 13 #[.pointer (some ⟨d,0,none⟩)] w fun e w'=>∃p x F,e= .returned (.tuple #[.pointer (some ⟨p,0,none⟩),.pointer (some ⟨x,0,none⟩),.int .i64 0])∧Ix w' x d p L (againS s) F∧Below w.heap.size w w':=by
 have HO:=Lib.hid (open_pool hL0 hL hs h hT g1 g2 hh (again_right ok.ok))
 rw [again_words ok.ok]at HO
 have hok:=again_ok ok
 have HK:=Lib.hid hok
 clear hL0 hL hs h hT g1 g2 hh ok hok
 go_enter Tryz.func13,Tryz.ntmps13
 go_wp2_with fail
 refine HO.out.mono ?_
 rintro e w1⟨p1,F1,rfl,hs1,hb1,_⟩
 have hs1':Sys w1 d p1 L (againS s) F1:=hs1
 have HI:=Lib.hid (open_index hs1')
 have HB:=Lib.hid hb1
 clear HO hs1 hb1 hs1'
 go_wp2_with fail
 refine HI.out.mono ?_
 rintro e w2⟨hb2,hp2⟩
 obtain⟨met,hm,_⟩:=survey_ok HK.out
 rw [hm]at hp2
 obtain⟨x,rfl,hx,_⟩:=(hp2:∃x,e= .returned (.tuple #[.pointer (some ⟨x,0,none⟩),.int .i64 0])∧Ix w2 x d p1 L (againS s) F1∧w1.heap.size≤x)
 have HX:=Lib.hid hx
 have HB2:=Lib.hid (HB.out.trans (hb2.mono HB.out.size))
 clear HI hb2 hm hx
 go_wp2_with fail
 refine bodyPost_ret (v:= .tuple #[.pointer (some ⟨p1,0,none⟩),.pointer (some ⟨x,0,none⟩),.int .i64 0]) (by simp [results,Tryz.results13,go_sem]) rfl ?_
 exact⟨p1,x,F1,rfl,HX.out,HB2.out⟩
end
theorem again_shape:shapeOf 400=some ((shapeOf 400).getD sh100):=by decide+kernel
set_option maxHeartbeats 8000000 in
set_option maxRecDepth 100000 in
theorem indexAgain_any(l:List Ac)(A:Option Addr)(c m:Nat)(B:Option Addr)(bc:Nat)(w:World)(hl:l.length≤9223372036854775807)(h:Rd w A (l.length*3) (acCs l))(hT:Tabs w):
 Calls Tryz.prog 5 #[.slice A l.length c,.slice B m bc] w fun e w'=>e= .returned (.bool true)∧Below w.heap.size w w':=by
 have HAl:=Lib.hid (alive10 hT)
 have HR:=Lib.hid h
 have HHv:=Lib.hid (fun W(k:Below w.heap.size w W)=>heavy10 l A c W hl (h.below k))
 obtain⟨sh,hsh⟩:∃sh,sh=(shapeOf 400).getD sh100:=⟨_,rfl⟩
 have hs:=again_shape
 rw [←hsh]at hs
 have HBg:Hid (∀W,Below w.heap.size w W→Calls Tryz.prog 9 #[.int .i64 400] W fun e w'=>∃d p x F,e= .returned (.tuple #[.pointer (some ⟨d,0,none⟩),.pointer (some ⟨p,0,none⟩),.pointer (some ⟨x,0,none⟩)])∧
  Ix w' x d p 400 (st0 sh) F∧Below W.heap.size W w'∧(∀b,F b→W.heap.size≤b)∧W.heap.size≤x):=Lib.hid (fun W k=>begin10_any (L:=400) (by decide) (by decide) hs (hT.below k))
 have HOk0:=Lib.hid (st0_ok (L:=400) (by decide) hs)
 have HSh:=Lib.hid hs
 clear hT h hl hs hsh
 go_enter Tryz.func5,Tryz.ntmps5
 go_wp2_with fail
 refine HAl.out.mono ?_
 rintro e w1⟨rfl,hb1⟩
 have HB1:=Lib.hid hb1
 clear hb1 HAl
 go_wp2_with fail
 refine(HHv.out w1 HB1.out).mono ?_
 rintro e w2⟨rfl,hb2⟩
 have HB2:=Lib.hid (HB1.out.trans (hb2.mono HB1.out.size))
 clear hb2 HHv HB1
 cases hv:heavyB l with
 | true=>
   go_wp2_with fail
   go_ret
   exact⟨rfl,HB2.out⟩
 | false=>
   obtain⟨hl1,hk1⟩:=heavy_out hv
   have HK:=Lib.hid hk1
   clear hv hk1
   by_cases hm:(100:Int)<(m:Int)
   ·have t1:decide ((100:Int)<(m:Int))=true:=decide_eq_true hm
    go_wp2_with fail
    go_ret
    exact⟨rfl,HB2.out⟩
   ·have t1:decide ((100:Int)<(m:Int))=false:=decide_eq_false hm
    go_wp2_with fail
    refine(HBg.out w2 HB2.out).mono ?_
    rintro e w3⟨d,p,x,F,rfl,hx,hb3,hF,hxw⟩
    have HB3:=Lib.hid (HB2.out.trans (hb3.mono HB2.out.size))
    have HX:=Lib.hid hx
    have HF:Hid (∀b,F b→w.heap.size≤b):=Lib.hid (fun b h=>Nat.le_trans HB2.out.size (hF b h))
    have HLo:Hid (Low (st0 sh) (st0 sh)):=Lib.hid (Low.refl _)
    clear HBg hx hb3 hF hxw
    obtain⟨s0,hs0⟩:∃s0,s0=st0 sh:=⟨_,rfl⟩
    rw [←hs0]at HX HOk0
    have HLo0:Hid (Low (st0 sh) s0):=Lib.hid (hs0▸Low.refl _)
    clear HLo hs0
    go_wp2_with fail
    go_loopw [35](fun i wr=>∃(k:Nat)(s:St)(items:List Kv)(F:Nat→Prop),k≤l.length∧i= .int .i64 (k:Nat)∧Ix wr x d p 400 s F∧IxOk 400 s items∧items.length≤k∧(∀b,F b→w.heap.size≤b)∧Low (st0 sh) s∧Below w.heap.size w wr)(fun i _=>l.length- (intOf i).toNat)
    case atStart=>exact⟨0,s0,[],F,Nat.zero_le _,rfl,HX.out,HOk0.out,Nat.le_refl _,HF.out,HLo0.out,HB3.out⟩
    case round=>
     obtain⟨k,s,items,F1,hk,rfl,hx1,hok1,hil,hF1,hlo1,hb1⟩:=hrel
     have HX1:=Lib.hid hx1
     have HO1:=Lib.hid hok1
     have HF1:=Lib.hid hF1
     have HL1:=Lib.hid hlo1
     have HB:=Lib.hid hb1
     clear HX HOk0 HF HB3 hx1 hok1 hF1 hb1 HB2 hlo1 HLo0
     by_cases hlt:k<l.length
     ·have hx1:(k:Int)<(l.length:Int):=by omega
      have hx2:decide ((k:Int)<(l.length:Int))=true:=decide_eq_true hx1
      have hx5:decide (k<l.length)=true:=decide_eq_true hlt
      have hwk:IntKind.i64.wrap ((k:Int)+1)=(k:Int)+1:=IntWalk.i64_in _ (by omega)
      obtain⟨b,off,rfl,hbw,q0,q1,q2⟩:=ac_at (Rd.below HR.out HB.out) k hlt
      have hks:=HK.out _ (List.getElem_mem hlt)
      generalize l[k]=a at*
      obtain⟨W,hW⟩:∃W,W=wr.alloc (.cells #[.int .u8 (a.kind.toNat:Int),.string a.key,.int .u64 (a.n.toNat:Int)] 35):=⟨_,rfl⟩
      have hbW:Below wr.heap.size wr W:=hW▸(Below.refl _ _).alloc (Nat.le_refl _) _
      have HW:=Lib.hid hW
      have HXW:=Lib.hid (HX1.out.below hbW)
      have HBW:=Lib.hid (HB.out.trans (hbW.mono HB.out.size))
      have hfar:Far s.sh:=far_of HO1.out.ok.sh
      by_cases hpar:a.kind.toNat%4=0
      ·have t3:((a.kind.toNat:Int)%4==0)=true:=by simp;omega
       have HCp:=Lib.hid (cut_any HXW.out a.key (by omega))
       have HRo:=Lib.hid (cut_round HO1.out a.key)
       have HLs:=Lib.hid (HL1.out.trans (low_cutK s hfar a.key.data.toList))
       clear hW hbW HX1 hpar hfar
       go_wp2_with fail
       rw [←HW.out]
       refine HCp.out.mono ?_
       rintro e w5⟨rfl,F5,hx5',hm5⟩
       obtain⟨items5,ho5,hl5,_⟩:=HRo.out
       have HX5:=Lib.hid hx5'
       have HO5:=Lib.hid ho5
       have HF5:Hid (∀b,F5 b→w.heap.size≤b):=Lib.hid (fun b h=>(hm5.own b h).elim (HF1.out b) (fun h=>Nat.le_trans HBW.out.size h))
       have HB5:=Lib.hid (HBW.out.trans (hm5.touch.below HBW.out.size HF1.out))
       clear HCp hx5' hm5 ho5 HRo
       go_wp2_with fail
       go_roundw
       case rel=>exact⟨k+1,_,items5,F5,by omega,by go_num,HX5.out,HO5.out,by omega,HF5.out,HLs.out,HB5.out⟩
       case measure=>simp [intOf];omega
      ·have t3:((a.kind.toNat:Int)%4==0)=false:=by rw [beq_eq_false_iff_ne];omega
       have HCp:=Lib.hid (put_index HXW.out a.key (by omega) a.n)
       have HRo:=Lib.hid (put_round HO1.out a.key a.n)
       have HLs:=Lib.hid (HL1.out.trans (low_putK s hfar a.key.data.toList a.n))
       clear hW hbW HX1 hpar hfar
       go_wp2_with fail
       rw [←HW.out]
       refine HCp.out.mono ?_
       rintro e w5⟨rfl,F5,hx5',hm5⟩
       obtain⟨items5,ho5,hl5,_⟩:=HRo.out
       have HX5:=Lib.hid hx5'
       have HO5:=Lib.hid ho5
       have HF5:Hid (∀b,F5 b→w.heap.size≤b):=Lib.hid (fun b h=>(hm5.own b h).elim (HF1.out b) (fun h=>Nat.le_trans HBW.out.size h))
       have HB5:=Lib.hid (HBW.out.trans (hm5.touch.below HBW.out.size HF1.out))
       clear HCp hx5' hm5 ho5 HRo
       go_wp2_with fail
       go_roundw
       case rel=>exact⟨k+1,_,items5,F5,by omega,by go_num,HX5.out,HO5.out,by omega,HF5.out,HLs.out,HB5.out⟩
       case measure=>simp [intOf];omega
     ·have hx1:decide ((k:Int)<(l.length:Int))=false:=decide_eq_false (by omega)
      have hx5:decide (k<l.length)=false:=decide_eq_false hlt
      have HAll:=Lib.hid (all_right HX1.out HO1.out)
      have HsE:Hid (s.sh=sh):=Lib.hid HL1.out.1
      have HHd:=Lib.hid (again_head HL1.out)
      obtain⟨D0,hD0⟩:∃D0,D0=items.map kvIt:=⟨_,rfl⟩
      have hd1:D0.length≤200:=by rw [hD0,List.length_map];omega
      have HD0:=Lib.hid hD0
      rw [←hD0]at HAll
      clear hD0
      go_wp2_with fail
      refine HAll.out.mono ?_
      rintro e w4⟨A4,c4,rfl,hr4,hn4,_,hb4⟩
      have HB4:=Lib.hid (HB.out.trans (hb4.mono HB.out.size))
      have hx4:=HX1.out.below hb4
      have HCr:=Lib.hid (crash_sys hx4.sys B m bc)
      have HR4:=Lib.hid hr4
      have HN4:=Lib.hid hn4
      clear HAll hr4 hn4 hb4 hx4 HX1
      go_wp2_with fail
      refine HCr.out.mono ?_
      rintro e w5⟨⟨v,rfl⟩,own,hd5,ho5,ht5,hT5,g1,g2⟩
      have HB5:=Lib.hid (HB4.out.trans (ht5.below HB4.out.size HF1.out))
      have HR5:Hid (ItR w5 A4 D0):=Lib.hid (Rd.touch HR4.out ht5 HN4.out)
      have HAg:=Lib.hid (again10 (s:=s) (by decide) (by decide) (by rw [HsE.out];exact HSh.out) hd5 hT5 g1 g2 HO1.out HHd.out)
      clear HCr hd5 ho5 ht5 hT5 g1 g2 HR4
      go_wp2_with fail
      refine HAg.out.mono ?_
      rintro e w6⟨p6,x6,F6,rfl,hx6,hb6⟩
      have HB6:=Lib.hid (HB5.out.trans (hb6.mono HB5.out.size))
      have HR6:=Lib.hid (HR5.out.below hb6)
      have HAl6:=Lib.hid (all_right hx6 (again_ok HO1.out))
      rw [←HD0.out]at HAl6
      clear HAg hx6 hb6 HR5
      go_wp2_with fail
      refine HAl6.out.mono ?_
      rintro e w7⟨A7,c7,rfl,hr7,_,_,hb7⟩
      have HB7:=Lib.hid (HB6.out.trans (hb7.mono HB6.out.size))
      have HR7:=Lib.hid (HR6.out.below hb7)
      have HOu:=Lib.hid (ours_right D0 A7 c7 w7 (by omega) hr7)
      clear HAl6 hr7 hb7 HR6
      go_wp2_with fail
      refine HOu.out.mono ?_
      rintro e w8⟨A8,c8,rfl,_,_,hr8,hb8⟩
      have HB8:=Lib.hid (HB7.out.trans (hb8.mono HB7.out.size))
      have HR8:=Lib.hid hr8
      have HOv:=Lib.hid (ours_right D0 A4 c4 w8 (by omega) (HR7.out.below hb8))
      clear HOu hr8 hb8 HR7
      go_wp2_with fail
      refine HOv.out.mono ?_
      rintro e w9⟨A9,c9,rfl,_,_,hr9,hb9⟩
      have HB9:=Lib.hid (HB8.out.trans (hb9.mono HB8.out.size))
      have HSa:=Lib.hid (same_right D0 D0 A8 A9 c8 c9 w9 (by omega) (HR8.out.below hb9) hr9 rfl)
      clear HOv hr9 hb9 HR8
      go_wp2_with fail
      refine HSa.out.mono ?_
      rintro e w10⟨rfl,hd10⟩
      have HB10:=Lib.hid (HB9.out.trans (hd10.below _))
      clear HSa hd10
      go_wp2_with fail
      go_ret
      exact⟨rfl,HB10.out⟩
end Go.Proofs.YtfhagbcfbbggeaaGreatDoor
