import Derived.Test.YtfhagbcfbbggeaaGreatDoorG32
namespace Go.Proofs.YtfhagbcfbbggeaaGreatDoor
open Go.RowKit
section
variable{w:World}{d p L:Nat}{s:St}{F:Nat→Prop}{sh:Sh}{len:Nat→Nat}{ws:Nat→UInt64}
theorem put1_self(ws:Nat→UInt64)(j:Nat):put1 ws j (ws j)=ws:=by
 funext i
 unfold put1
 split
 ·rename_i h;rw [h]
 ·rfl
theorem load_sys(h:SysL len w d p L s F)(j:Nat)(hj:j<8*L):Calls Tryz.prog 11 #[.pointer (some ⟨d,0,none⟩),.int .i64 ((8*j:Nat):Int)] w fun e w'=>
 e= .returned (.tuple #[.int .u64 ((s.ws j).toNat:Int),.int .i64 0])∧w=w':=by
 obtain⟨tb,hb,m,cT,cH,own,hr,hF⟩:=h
 obtain⟨g,hbk,hd,ho⟩:=hr.dev
 exact load_dev d L s.ws len _ g hbk j w hr.L1 hd hj
theorem store_sys(h:SysL len w d p L s F)(j:Nat)(x:UInt64)(hj:j<8*L)(hlen:len (j/8)≤1000000):Calls Tryz.prog 12 #[.pointer (some ⟨d,0,none⟩),.int .i64 ((8*j:Nat):Int),.int .u64 (x.toNat:Int)] w fun e w'=>
 e= .returned (.int .i64 0)∧∃len' own,Dev w' d L (put1 s.ws j x) len' (fun _=>0) own∧Touch F w w'∧Tabs w'∧¬own 0∧¬own 1:=by
 obtain⟨tb,hb,m,cT,cH,own,hr,hF⟩:=h
 obtain⟨g,hbk,hd,ho⟩:=hr.dev
 have q1:¬own 0:=fun h=>hr.g1 (.inl h)
 have q2:¬own 1:=fun h=>hr.g2 (.inl h)
 by_cases hx:s.ws j=x
 ·subst hx
  refine(store_same d L s.ws len _ g hbk j w hr.L1 hd hj).mono ?_
  rintro e w'⟨rfl,st,rfl⟩
  have ht:Touch own w (w.setCell ⟨d,3,none⟩ (.int .i64 st)):=(Touch.refl own w).setCell (p:=⟨d,3,none⟩) (.inl ((ho d).2 (.inl rfl))) _
  exact⟨rfl,len,own,⟨g,hbk,by rw [put1_self];exact hd.step st,ho⟩,ht.mono (fun b hb=>(hF b).2 (.inl hb)),hr.tabs.keep (ht.block _ hr.tabs.lt.1 q1) (ht.block _ hr.tabs.lt.2 q2),q1,q2⟩
 ·refine(store_new d L s.ws len _ g hbk j x w hr.L1 hd hj hx hlen).mono ?_
  rintro e w'⟨rfl,g2,hg2,h1,ht0⟩
  have ht:Touch own w w':=ht0.mono (fun b hb=>(ho b).2 hb)
  have hout:∀b,b<w.heap.size→¬own b→¬devOwn d L g (fun k=>if k=j/8 then some g2 else hbk k) b:=fun b hlt hn hb=>by
   rcases hb with h| h| ⟨i,hi,h⟩
   ·exact hn ((ho b).2 (.inl h))
   ·exact hn ((ho b).2 (.inr (.inl h)))
   ·simp only at h
    split at h
    ·injection h with h
     subst h
     rcases hg2 with h| h
     ·exact hn ((ho g2).2 (.inr (.inr ⟨j/8,by omega,h⟩)))
     ·omega
    ·exact hn ((ho b).2 (.inr (.inr ⟨i,hi,h⟩)))
  exact⟨rfl,_,devOwn d L g (fun k=>if k=j/8 then some g2 else hbk k),⟨g,_,h1,fun _=>Iff.rfl⟩,ht.mono (fun b hb=>(hF b).2 (.inl hb)),hr.tabs.keep (ht.block _ hr.tabs.lt.1 q1) (ht.block _ hr.tabs.lt.2 q2),hout _ hr.tabs.lt.1 q1,hout _ hr.tabs.lt.2 q2⟩
def openS(ws:Nat→UInt64)(sh:Sh):St:={sh:=sh,ws:=ws,tk:=wordsAt ws (sh.table/8) sh.slabs,hd:=List.replicate sh.slabs 0}
def AgainPost(len:Nat→Nat)(d L:Nat)(ws:Nat→UInt64)(sh:Sh)(w:World)(e:Ending)(w':World):Prop:=
 Below w.heap.size w w'∧((∃v,e= .returned (.tuple #[v,.pointer none,.int .i64 5]))∨
  ∃p x F,e= .returned (.tuple #[.pointer (some ⟨p,0,none⟩),.pointer (some ⟨x,0,none⟩),.int .i64 0])∧IxL len w' x d p L (openS ws sh) F∧(surveyP (openS ws sh)).isSome=true)
set_option maxHeartbeats 2000000 in
theorem again10_any{own:Nat→Prop}(hL0:0<L)(hL:L≤1024)(hs:shapeOf L=some sh)(h:Dev w d L ws len (fun _=>0) own)(hT:Tabs w)(g1:¬own 0)(g2:¬own 1)(hh:wordsAt ws 0 8=wordsOf sh):
 Calls Tryz.prog 13 #[.pointer (some ⟨d,0,none⟩)] w (AgainPost len d L ws sh w):=by
 have HO:=Lib.hid (open_pool_any hL0 hL hs h hT g1 g2 hh)
 clear hL0 hL hs h hT g1 g2 hh
 by_cases hall:∀i,i<sh.slabs→rightW (ws (sh.table/8+i)).toNat=true
 ·have HAl:=Lib.hid hall
  clear hall
  go_enter Tryz.func13,Tryz.ntmps13
  go_wp2_with fail
  refine HO.out.mono ?_
  rintro e w1⟨hb1,hp1,_⟩
  obtain⟨p1,F1,rfl,hs1,_⟩:=hp1 HAl.out
  have hs1':SysL len w1 d p1 L (openS ws sh) F1:=hs1
  have HI:=Lib.hid (open_index hs1')
  have HB:=Lib.hid hb1
  clear HO hs1 hb1 hs1' hp1
  go_wp2_with fail
  refine HI.out.mono ?_
  rintro e w2⟨hb2,hp2⟩
  have HB2:=Lib.hid (HB.out.trans (hb2.mono HB.out.size))
  cases hm:surveyP (openS ws sh)with
  | none=>
    rw [hm]at hp2
    replace hp2:e= .returned (.tuple #[.pointer none,.int .i64 5]):=hp2
    subst hp2
    clear HI hb2 hm
    go_wp2_with fail
    refine bodyPost_ret (v:= .tuple #[.pointer (some ⟨p1,0,none⟩),.pointer none,.int .i64 5]) (by simp [results,Tryz.results13,go_sem]) rfl ?_
    exact⟨HB2.out,.inl ⟨_,rfl⟩⟩
  | some r=>
    rw [hm]at hp2
    obtain⟨x,rfl,hx,_⟩:=(hp2:∃x,e= .returned (.tuple #[.pointer (some ⟨x,0,none⟩),.int .i64 0])∧IxL len w2 x d p1 L (openS ws sh) F1∧w1.heap.size≤x)
    have HX:=Lib.hid hx
    have HM:Hid ((surveyP (openS ws sh)).isSome=true):=Lib.hid (by rw [hm];rfl)
    clear HI hb2 hm hx
    go_wp2_with fail
    refine bodyPost_ret (v:= .tuple #[.pointer (some ⟨p1,0,none⟩),.pointer (some ⟨x,0,none⟩),.int .i64 0]) (by simp [results,Tryz.results13,go_sem]) rfl ?_
    exact⟨HB2.out,.inr ⟨p1,x,F1,rfl,HX.out,HM.out⟩⟩
 ·have HN:Hid (∃i,i<sh.slabs∧¬rightW (ws (sh.table/8+i)).toNat=true):=Lib.hid (by
  rcases Classical.not_forall.1 hall with⟨i,hi⟩
  rcases Classical.not_imp.1 hi with⟨h1,h2⟩
  exact⟨i,h1,h2⟩)
  clear hall
  go_enter Tryz.func13,Tryz.ntmps13
  go_wp2_with fail
  refine HO.out.mono ?_
  rintro e w1⟨hb1,_,hp1⟩
  have hp2:=hp1 HN.out
  subst hp2
  have HB:=Lib.hid hb1
  clear HO hb1 hp1
  go_wp2_with fail
  refine bodyPost_ret (v:= .tuple #[.pointer none,.pointer none,.int .i64 5]) (by simp [results,Tryz.results13,go_sem]) rfl ?_
  exact⟨HB.out,.inl ⟨_,rfl⟩⟩
end
end Go.Proofs.YtfhagbcfbbggeaaGreatDoor
