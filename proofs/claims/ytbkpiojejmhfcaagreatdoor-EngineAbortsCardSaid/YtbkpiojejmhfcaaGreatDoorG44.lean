import Derived.Test.YtbkpiojejmhfcaaGreatDoorG29
import Derived.Test.YtbkpiojejmhfcaaGreatDoorG33
import Derived.Test.YtbkpiojejmhfcaaGreatDoorG37
import Derived.Test.YtbkpiojejmhfcaaGreatDoorG43
namespace Go.Proofs.YtbkpiojejmhfcaaGreatDoor
open Go.RowKit
theorem wsetPut_any{w:World}{G:Nat→Prop}{v:Value}{s:List Wr}(h:SetR w G v s)(hs:s.length≤16)(x:Wr)(hk:x.key.size≤4294967296)(ht:x.text.size≤4294967296)(hu:UpS s):
 Calls Tryz.prog 174 #[v,wrV x] w fun e w'=>∃u,e= .returned (.tuple #[u,.int .i64 (putS s x).2])∧w'.ownsRow w.heap.size 94 3 u (putS s x).1.length (wrCs (putS s x).1)∧Below w.heap.size w w':=by
 cases hx:rightWr x with
 | false=>exact wsetPut_bad h hs x hk ht hx
 | true=>
   cases hn:inS s x.key with
   | true=>exact wsetPut_has h hs x hk ht hx hu hn
   | false=>
     by_cases hl:16≤s.length
     ·exact wsetPut_full h hs x hk ht hx hu hn hl
     ·exact wsetPut_new h hs x hk ht hx hu hn (by omega)
theorem putS_code(s:List Wr)(x:Wr):(putS s x).2=0∨(putS s x).2=2∨(putS s x).2=3:=by
 unfold putS
 repeat' split
 all_goals simp
section
variable{w w':World}{F F':Nat→Prop}{tt bk:Nat}{b:Bk}{t:Tb}
set_option maxHeartbeats 4000000 in
set_option maxRecDepth 100000 in
theorem tabWrite_no(h:TbAt w F tt bk b t){i:Nat}(hi:i<8)(ho:t.wt.ops i=true)(x:Wr){cd:Int}(hcd:cd=2∨cd=3)
 (hP:∀W,Below w.heap.size w W→Calls Tryz.prog 174 #[b.st i,wrV x] W fun e w'=>∃A n c,e= .returned (.tuple #[.slice A n c,.int .i64 cd])∧Below W.heap.size W w'):
 Calls Tryz.prog 116 #[.pointer (some ⟨tt,0,none⟩),.int .i64 (i:Int),wrV x] w fun e w'=>e= .returned (.int .i64 cd)∧Below w.heap.size w w':=by
 obtain⟨W,hW⟩:∃W,W=w.alloc (.cells #[.string x.key,.string x.text,.bool x.gone] 94):=⟨_,rfl⟩
 have B:Blk W w.heap.size 94 [.string x.key,.string x.text,.bool x.gone]:=hW▸heap_alloc_new _ _
 have hb:Below w.heap.size w W:=hW▸(Below.refl _ _).alloc (Nat.le_refl _) _
 have h1:TbAt W F tt bk b t:=h.below hb
 have y0:=B.cell 0
 have y1:=B.cell 1
 have y2:=B.cell 2
 simp only [List.getElem?_cons_zero,List.getElem?_cons_succ]at y0 y1 y2
 have HN:=Lib.hid (tabNone h1)
 have HA:=Lib.hid (watchAt h1.book (i:Int))
 rw [h1.wt,atV_open hi ho]at HA
 have c:=h1.box.cell 0
 simp only [List.getElem?_cons_zero]at c
 have cs:=h1.book.cellSt i hi
 have bi:(i:Int)<8:=by omega
 have Hb:=Lib.hid hb
 have HW:=Lib.hid hW
 have HP:=Lib.hid hP
 obtain⟨vs,hvs⟩:∃vs,b.st i=vs:=⟨_,rfl⟩
 rw [hvs]at HP cs
 rw [hW]at y0 y1 y2 c cs
 unfold wrV at HP⊢
 clear h h1 hb hW hP B
 rcases hcd with rfl| rfl
 all_goals(
  go_enter Tryz.func116,Tryz.ntmps116
  go_wp2_with fail
  rw [←HW.out]at y0 y1 y2 c cs⊢
  refine HN.out.mono ?_
  rintro e w1⟨rfl,rfl⟩
  go_wp2_with fail
  refine HA.out.mono ?_
  rintro e w1⟨rfl,rfl⟩
  go_wp2_with fail
  go_region_with(go_at_call 174;refine(HP.out _ (by first| exact Hb.out| exact Hb.out.trans (((Dr.drew _).below _).mono Hb.out.size))).mono ?_;rintro e w2⟨A5,n5,c5,rfl,hB2⟩))
 all_goals(
  have Hb2:Hid (Below w.heap.size w w2):=Lib.hid (by
   first
   | exact Hb.out.trans (hB2.mono Hb.out.size)
   | exact Hb.out.trans ((((Dr.drew _).below _).trans hB2).mono Hb.out.size))
  clear hB2 y0 y1 y2 c cs HN HA
  go_wp2_with fail
  go_ret
  exact⟨rfl,Hb2.out⟩)
end
def wrT(t:Tb)(i:Nat)(y:Wr):Tb:=if(putS (t.sets i) y).2=0 then writeT t i (putS (t.sets i) y).1 else t
section
variable{w w':World}{F F':Nat→Prop}{tt bk:Nat}{b:Bk}{t:Tb}
theorem tabWrite_any(h:TbAt w F tt bk b t)(hFl:∀k,F k→k<w.heap.size){i:Nat}(hi:i<8)(ho:t.wt.ops i=true)(hs:(t.sets i).length≤16)(hu:UpS (t.sets i))(x:Wr)(hk:x.key.size≤4294967296)(ht:x.text.size≤4294967296):
 Calls Tryz.prog 116 #[.pointer (some ⟨tt,0,none⟩),.int .i64 (i:Int),wrV x] w fun e w'=>e= .returned (.int .i64 (putS (t.sets i) x).2)∧
  ∃b',b'.many=b.many∧b'.nt=b.nt∧TbAt w' F tt bk b' (wrT t i x)∧Touch (fun k=>k=bk) w w':=by
 have hP:=fun W(kb:Below w.heap.size w W)=>wsetPut_any ((h.sets i hi).below kb) hs x hk ht hu
 rcases putS_code (t.sets i) x with hc| hc| hc
 ·rw [hc]at hP
  unfold wrT
  rw [if_pos hc,hc]
  exact tabWrite h hFl hi ho x _ (fun W kb=>(hP W kb).mono (by rintro e w'⟨u,rfl,hO,hB⟩;exact⟨u,rfl,hO,hB⟩))
 ·rw [hc]at hP
  unfold wrT
  rw [if_neg (by rw [hc];decide),hc]
  refine(tabWrite_no h hi ho x (.inl rfl) (fun W kb=>(hP W kb).mono ?_)).mono ?_
  ·rintro e w'⟨u,rfl,hO,hB⟩
   obtain⟨A,c,rfl,_⟩:=own_rowk hO
   exact⟨A,_,c,rfl,hB⟩
  ·rintro e w'⟨rfl,hB⟩
   exact⟨rfl,b,rfl,rfl,h.below hB,Touch.of_below hB⟩
 ·rw [hc]at hP
  unfold wrT
  rw [if_neg (by rw [hc];decide),hc]
  refine(tabWrite_no h hi ho x (.inr rfl) (fun W kb=>(hP W kb).mono ?_)).mono ?_
  ·rintro e w'⟨u,rfl,hO,hB⟩
   obtain⟨A,c,rfl,_⟩:=own_rowk hO
   exact⟨A,_,c,rfl,hB⟩
  ·rintro e w'⟨rfl,hB⟩
   exact⟨rfl,b,rfl,rfl,h.below hB,Touch.of_below hB⟩
end
section
variable{w w':World}{g d p x tt bk L:Nat}{s:St}{b:Bk}{t:Tb}{F J:Nat→Prop}{slot:UInt64}{jv:Value}{id:Int}{sv:Value}{st:UInt64}
theorem hasW8_open{t:Wt}{i:Nat}(hi:i<8)(ho:t.ops i=true):hasW8 t (i:Int)=true:=by
 unfold hasW8
 simp only [Bool.and_eq_true,decide_eq_true_eq]
 exact⟨by omega,by omega,ho⟩
set_option maxHeartbeats 4000000 in
set_option maxRecDepth 100000 in
theorem egWrite_any(h:EngAt w g d p x tt bk L s b t F J slot .nilIface id sv st){i:Nat}(hi:i<8)(ho:t.wt.ops i=true)(hs:(t.sets i).length≤16)(hu:UpS (t.sets i))(y:Wr)(hk:y.key.size≤4294967296)(ht:y.text.size≤4294967296):
 Calls Tryz.prog 72 #[.pointer (some ⟨g,0,none⟩),.int .i64 (i:Int),wrV y] w fun e w'=>e= .returned (.int .i64 (putS (t.sets i) y).2)∧
  ∃b',b'.many=b.many∧b'.nt=b.nt∧EngAt w' g d p x tt bk L s b' (wrT t i y) F J slot .nilIface id sv st∧Touch (fun k=>k=bk) w w':=by
 obtain⟨W,hW⟩:∃W,W=w.alloc (.cells #[.string y.key,.string y.text,.bool y.gone] 94):=⟨_,rfl⟩
 have B:Blk W w.heap.size 94 [.string y.key,.string y.text,.bool y.gone]:=hW▸heap_alloc_new _ _
 have hb:Below w.heap.size w W:=hW▸(Below.refl _ _).alloc (Nat.le_refl _) _
 have h1:=h.below hb
 have HF:=Lib.hid (egFree h1 (i:Int))
 rw [if_pos (hasW8_open hi ho)]at HF
 have HTw:=Lib.hid (fun W'(k:Below W.heap.size W W')=>tabWrite_any (h1.tb.below k) (fun c hc=>hc.elim ((h1.ix.below k).sys.lt c) (fun hj=>Nat.lt_of_lt_of_le (h1.jl c hj) k.size)) hi ho hs hu y hk ht)
 obtain⟨cd,hcd⟩:∃cd,(putS (t.sets i) y).2=cd:=⟨_,rfl⟩
 rw [hcd]at HTw⊢
 unfold wrV at HTw⊢
 have c3:=h1.box.cell 3
 unfold engCells at c3
 simp only [List.getElem?_cons_zero,List.getElem?_cons_succ]at c3
 have y0:=B.cell 0
 have y1:=B.cell 1
 have y2:=B.cell 2
 simp only [List.getElem?_cons_zero,List.getElem?_cons_succ]at y0 y1 y2
 have HK:Hid (∀W',Touch (fun k=>k=bk) W W'→W'.cell? ⟨g,3,none⟩=some (.pointer (some ⟨tt,0,none⟩))∧W'.cell? ⟨w.heap.size,0,none⟩=some (.string y.key)∧W'.cell? ⟨w.heap.size,1,none⟩=some (.string y.text)∧W'.cell? ⟨w.heap.size,2,none⟩=some (.bool y.gone)):=Lib.hid (fun W' k=>
  have hne:¬w.heap.size=bk:=by have:=h.tb.book.lt;omega
  ⟨(h1.box.touch k h.g2).cell 3,(B.touch k hne).cell 0,(B.touch k hne).cell 1,(B.touch k hne).cell 2⟩)
 have HE:=Lib.hid h1
 have HW:=Lib.hid hW
 have Hb:=Lib.hid hb
 clear h h1 hb hW B hcd
 go_enter Tryz.func72,Tryz.ntmps72
 go_wp2_with fail
 rw [←HW.out]
 refine HF.out.mono ?_
 rintro e w1⟨rfl,rfl⟩
 go_wp2_with fail
 go_region_held3(fun w'=>w'.cell? ⟨g,3,none⟩=some (.pointer (some ⟨tt,0,none⟩))∧w'.cell? ⟨w.heap.size,0,none⟩=some (.string y.key)∧w'.cell? ⟨w.heap.size,1,none⟩=some (.string y.text)∧w'.cell? ⟨w.heap.size,2,none⟩=some (.bool y.gone))
  (first| exact⟨c3,y0,y1,y2⟩| exact HK.out _ ((Touch.of_below ((Dr.drew W).below _)).trans ht2 (fun _ e=> .inl e)))
  ((first| (go_at_call 116;refine(HTw.out _ ((Dr.drew W).below _)).mono ?_;rintro e w2⟨rfl,b2,hm2,hn2,hb2,ht2⟩)))
 all_goals(go_wp2_with fail)
 all_goals(go_ret)
 all_goals(
  have k2:Touch (fun k=>k=bk) W w2:=(Touch.of_below ((Dr.drew W).below _)).trans ht2 (fun _ e=> .inl e)
  exact⟨rfl,b2,hm2,hn2,HE.out.book hb2 hn2 k2,(Touch.of_below Hb.out).trans k2 (fun _ e=> .inl e)⟩)
theorem egPut_any(h:EngAt w g d p x tt bk L s b t F J slot .nilIface id sv st){i:Nat}(hi:i<8)(ho:t.wt.ops i=true)(hs:(t.sets i).length≤16)(hu:UpS (t.sets i))(ky tx:ByteArray)(hk:ky.size≤4294967296)(ht:tx.size≤4294967296):
 Calls Tryz.prog 25 #[.pointer (some ⟨g,0,none⟩),.int .i64 (i:Int),.string ky,.string tx] w fun e w'=>e= .returned (.int .i64 (putS (t.sets i) ⟨ky,tx,false⟩).2)∧
  ∃b',b'.many=b.many∧b'.nt=b.nt∧EngAt w' g d p x tt bk L s b' (wrT t i ⟨ky,tx,false⟩) F J slot .nilIface id sv st∧Touch (fun k=>k=bk) w w':=by
 have HW:=Lib.hid (egWrite_any h hi ho hs hu ⟨ky,tx,false⟩ hk ht)
 obtain⟨cd,hcd⟩:∃cd,(putS (t.sets i) ⟨ky,tx,false⟩).2=cd:=⟨_,rfl⟩
 rw [hcd]at HW⊢
 unfold wrV at HW
 clear h ho hs hu hcd
 go_enter Tryz.func25,Tryz.ntmps25
 go_wp2_with fail
 refine HW.out.mono ?_
 rintro e w1⟨rfl,hp⟩
 have HP:=Lib.hid hp
 clear hp HW
 go_wp2_with fail
 go_ret
 exact⟨rfl,HP.out⟩
theorem egDel_any(h:EngAt w g d p x tt bk L s b t F J slot .nilIface id sv st){i:Nat}(hi:i<8)(ho:t.wt.ops i=true)(hs:(t.sets i).length≤16)(hu:UpS (t.sets i))(ky:ByteArray)(hk:ky.size≤4294967296):
 Calls Tryz.prog 26 #[.pointer (some ⟨g,0,none⟩),.int .i64 (i:Int),.string ky] w fun e w'=>e= .returned (.int .i64 (putS (t.sets i) ⟨ky,⟨#[]⟩,true⟩).2)∧
  ∃b',b'.many=b.many∧b'.nt=b.nt∧EngAt w' g d p x tt bk L s b' (wrT t i ⟨ky,⟨#[]⟩,true⟩) F J slot .nilIface id sv st∧Touch (fun k=>k=bk) w w':=by
 have HW:=Lib.hid (egWrite_any h hi ho hs hu ⟨ky,⟨#[]⟩,true⟩ hk (by show 0≤_;omega))
 obtain⟨cd,hcd⟩:∃cd,(putS (t.sets i) ⟨ky,⟨#[]⟩,true⟩).2=cd:=⟨_,rfl⟩
 rw [hcd]at HW⊢
 unfold wrV at HW
 clear h ho hs hu hcd
 go_enter Tryz.func26,Tryz.ntmps26
 go_wp2_with fail
 refine HW.out.mono ?_
 rintro e w1⟨rfl,hp⟩
 have HP:=Lib.hid hp
 clear hp HW
 go_wp2_with fail
 go_ret
 exact⟨rfl,HP.out⟩
set_option maxHeartbeats 4000000 in
set_option maxRecDepth 100000 in
theorem egAbort(h:EngAt w g d p x tt bk L s b t F J slot .nilIface id sv st){i:Nat}(hi:i<8)(ho:t.wt.ops i=true):
 Calls Tryz.prog 28 #[.pointer (some ⟨g,0,none⟩),.int .i64 (i:Int)] w fun e w'=>e= .returned (.int .i64 0)∧
  ∃b',b'.many=b.many∧b'.nt=b.nt∧EngAt w' g d p x tt bk L s b' (endT t i) F J slot .nilIface id sv st∧Touch (fun k=>k=bk) w w':=by
 have HF:=Lib.hid (egFree h (i:Int))
 rw [if_pos (hasW8_open hi ho)]at HF
 have HTe:=Lib.hid (fun W'(k:Below w.heap.size w W')=>tabEnd (h.tb.below k) hi ho)
 have c3:=h.box.cell 3
 unfold engCells at c3
 simp only [List.getElem?_cons_zero,List.getElem?_cons_succ]at c3
 have HK:Hid (∀W',Touch (fun k=>k=bk) w W'→W'.cell? ⟨g,3,none⟩=some (.pointer (some ⟨tt,0,none⟩))):=Lib.hid (fun W' k=>(h.box.touch k h.g2).cell 3)
 have HE:=Lib.hid h
 clear h
 go_enter Tryz.func28,Tryz.ntmps28
 go_wp2_with fail
 refine HF.out.mono ?_
 rintro e w1⟨rfl,rfl⟩
 go_wp2_with fail
 refine(HTe.out _ (Below.refl _ _)).mono ?_
 rintro e w2⟨rfl,b2,hm2,hn2,hb2,ht2⟩
 go_wp2_with fail
 go_ret
 exact⟨rfl,b2,hm2,hn2,HE.out.book hb2 hn2 ht2,ht2⟩
theorem egAbort_no(h:EngAt w g d p x tt bk L s b t F J slot .nilIface id sv st){i:Int}(ho:hasW8 t.wt i=false):
 Calls Tryz.prog 28 #[.pointer (some ⟨g,0,none⟩),.int .i64 i] w fun e w'=>e= .returned (.int .i64 2)∧w=w':=by
 have HF:=Lib.hid (egFree h i)
 rw [ho,if_neg Bool.false_ne_true]at HF
 clear h ho
 go_enter Tryz.func28,Tryz.ntmps28
 go_wp2_with fail
 refine HF.out.mono ?_
 rintro e w1⟨rfl,rfl⟩
 go_wp2_with fail
 go_ret
 exact⟨rfl,rfl⟩
end
def withinB(key from_ to:ByteArray):Bool:= !Op.bytesLess key.toList from_.toList&&(to.toList==[]|| Op.bytesLess key.toList to.toList)
set_option maxHeartbeats 1000000 in
theorem within_any(key from_ to:ByteArray)(w:World):Calls Tryz.prog 64 #[.string key,.string from_,.string to] w fun e w'=>e= .returned (.bool (withinB key from_ to))∧w=w':=by
 have he:(⟨#[]⟩:ByteArray).toList=[]:=by unfold ByteArray.toList ByteArray.toList.loop;rfl
 cases h1:Op.bytesLess key.toList from_.toList<;>cases h2:(to.toList==[])<;>cases h3:Op.bytesLess key.toList to.toList
 all_goals(have HG:Hid (withinB key from_ to=_):=Lib.hid (by unfold withinB;rw [h1,h2,h3]))
 all_goals(go_enter Tryz.func64,Tryz.ntmps64)
 all_goals(go_wp2)
 all_goals(go_ret)
 all_goals(exact⟨by rw [HG.out];rfl,rfl⟩)
theorem one_prCs(l:List Pr):∀u∈prCs l,u.oneCell'=true:=by
 intro u hu
 simp only [prCs,List.mem_flatten,List.mem_map]at hu
 obtain⟨_,⟨x,_,rfl⟩,hu⟩:=hu
 simp only [prC,List.mem_cons,List.not_mem_nil,or_false]at hu
 rcases hu with rfl| rfl<;>rfl
set_option maxHeartbeats 4000000 in
set_option maxRecDepth 100000 in
theorem wsetOver0(l:List Pr)(A B:Option Addr)(c cb:Nat)(w:World)(hl:l.length≤100000)(h:PrR w A l)(hc:l.length≤c):
 Calls Tryz.prog 65 #[.slice A l.length c,.slice B 0 cb] w fun e w'=>∃v,e= .returned v∧w'.ownsRow w.heap.size 147 2 v l.length (prCs l)∧Below w.heap.size w w':=by
 have HR:=Lib.hid h
 have HL:=Lib.hid hl
 have t1:decide (l.length≤c)=true:=decide_eq_true hc
 have hN:Hid (∀W:World,W.ownsRow W.heap.size 147 2 (.slice none 0 0) 0 []):=Lib.hid (fun W=>World.ownsRow_nil _ _ _ _)
 clear h hl
 go_enter Tryz.func65,Tryz.ntmps65
 go_wp2_with fail
 go_loopw [5,6,11](fun o i r wr=>o= .slice none 0 0∧i= .int .i64 0∧r= .int .i64 0∧w=wr)(fun _ _ _ _=>0)
 case atStart=>exact⟨rfl,rfl,rfl,rfl⟩
 case round=>
  obtain⟨rfl,rfl,rfl,rfl⟩:=hrel
  go_wp2_with(at_builtin;refine wpList_app_rows rfl (.tmp 66) (.tmp 69) 64 rfl Tryz.pairTyK (by decide) w.heap.size (.slice none 0 0) 0 [] rfl (hN.out _) A l.length c (prCs l) rfl (HR.out) (one_prCs l) (by have:=HL.out;omega) (by decide) (by simp) ?_;intro v' w' hO hB hK)
  go_ret
  exact⟨_,rfl,by simpa using hO,hB⟩
section
variable{w w':World}{g d p x tt bk L:Nat}{s:St}{b:Bk}{t:Tb}{F J:Nat→Prop}{slot:UInt64}{jv:Value}{id:Int}{sv:Value}{st:UInt64}
set_option maxHeartbeats 8000000 in
set_option maxRecDepth 100000 in
theorem egScan0(h:EngAt w g d p x tt bk L s b t F J slot jv id sv st){i:Nat}(hi:i<8)(ho:t.wt.ops i=true)(hs:t.sets i=[])(from_ to:ByteArray)
 {items:List (List UInt8×UInt64)}{met:List Int}(hsv:surveyP s=some (items,met))(pl:List Pr)(hpl:pl.length=items.length)(hn:items.length≤100000)
 (hp:∀k(h1:k<items.length)(h2:k<pl.length),pl[k].key=⟨items[k].1.toArray⟩∧withinB pl[k].key from_ to=true∧∃l,listP s items[k].2=some l∧l.length≤100000∧seeP l (t.wt.ats i).toNat=some pl[k].text):
 Calls Tryz.prog 21 #[.pointer (some ⟨g,0,none⟩),.int .i64 (i:Int),.string from_,.string to] w fun e w'=>∃v,e= .returned (.tuple #[v,.int .i64 0])∧w'.ownsRow w.heap.size 147 2 v pl.length (prCs pl)∧Below w.heap.size w w':=by
 have hh:hasW8 t.wt (i:Int)=true:=by
  unfold hasW8
  simp only [Bool.and_eq_true,decide_eq_true_eq]
  exact⟨by omega,by omega,ho⟩
 have HM:=Lib.hid (egMay h (i:Int))
 rw [if_pos hh]at HM
 have HAl:=Lib.hid (all_index h.ix)
 have HA:=Lib.hid (fun W(k:Below w.heap.size w W)=>tabAt (h.tb.below k) (i:Int))
 rw [atV_open hi ho]at HA
 have HS:=Lib.hid (fun W(k:Below w.heap.size w W)=>tabSet (h.tb.below k) hi ho (by rw [hs];simp))
 rw [hs]at HS
 have HE:=Lib.hid h
 obtain⟨at_,hat⟩:∃at_,t.wt.ats i=at_:=⟨_,rfl⟩
 rw [hat]at HA hp
 have HP:=Lib.hid hp
 have HPl:=Lib.hid hpl
 have HSv:=Lib.hid hsv
 have HCl:Hid (∀W,Below w.heap.size w W→W.cell? ⟨g,2,none⟩=some (.pointer (some ⟨x,0,none⟩))∧W.cell? ⟨g,3,none⟩=some (.pointer (some ⟨tt,0,none⟩))):=Lib.hid (fun W k=>⟨(h.box.below k h.box.lt).cell 2,(h.box.below k h.box.lt).cell 3⟩)
 obtain⟨c2,c3⟩:=HCl.out w (Below.refl _ _)
 clear h hs hp hpl hsv hh hat
 go_enter Tryz.func21,Tryz.ntmps21
 go_wp2_with fail
 refine HM.out.mono ?_
 rintro e w1⟨rfl,rfl⟩
 go_wp2_with fail
 refine HAl.out.mono ?_
 rintro e w2⟨hb2,hp2⟩
 rw [HSv.out]at hp2
 obtain⟨v2,rfl,ho2,hm2⟩:=hp2
 obtain⟨A2,cc2,rfl,hc2,hr2⟩:=own_rowk ho2
 have HB2:=Lib.hid hb2
 have HR2:=Lib.hid hr2
 clear HAl ho2 hc2 hr2 hb2 hm2 HM c2 c3
 obtain⟨c2,c3⟩:=HCl.out _ HB2.out
 go_wp2_with fail
 refine(HA.out _ HB2.out).mono ?_
 rintro e w3⟨rfl,rfl⟩
 go_wp2_with fail
 refine(HS.out _ HB2.out).mono ?_
 rintro e w3⟨u,rfl,hO3,hb3⟩
 obtain⟨A3,c3',hu3,_,_⟩:=own_rowk hO3
 subst hu3
 have HB3:=Lib.hid (HB2.out.trans (hb3.mono HB2.out.size))
 have HR3:=Lib.hid (Rd.below HR2.out hb3)
 clear hO3 hb3 HS HA HR2 c2 c3
 go_wp2_with fail
 go_loopw [17,62](fun o i wr=>o= .slice none 0 0∧i= .int .i64 0∧w3=wr)(fun _ _ _=>0)
 case atStart=>exact⟨rfl,rfl,rfl⟩
 case round=>
 obtain⟨rfl,rfl,rfl⟩:=hrel
 go_wp2_with fail
 go_loopw [20,78](fun v r wr=>∃k:Nat,k≤items.length∧r= .int .i64 (k:Nat)∧wr.ownsRow w3.heap.size 147 2 v k (prCs (pl.take k))∧Below w3.heap.size w3 wr)(fun _ r _=>items.length- (intOf r).toNat)
 case atStart=>exact⟨0,Nat.zero_le _,rfl,World.ownsRow_nil _ _ _ _,Below.refl _ _⟩
 case round=>
  obtain⟨k,hk,rfl,hown,hb⟩:=hrel
  have HO:=Lib.hid hown
  have HB:=Lib.hid hb
  clear hown hb
  by_cases hlt:k<items.length
  ·obtain⟨bb,off,rfl,hbw,q0,q1⟩:=itV_at (Rd.below HR3.out HB.out) k hlt
   have hkl:k<pl.length:=by have:=HPl.out;omega
   obtain⟨e1,e2,l,hl1,hl2,hl3⟩:=HP.out k hlt hkl
   have hx1:(k:Int)<(items.length:Int):=by omega
   have hx2:decide ((k:Int)<(items.length:Int))=true:=decide_eq_true hx1
   have hx5:decide (k<items.length)=true:=decide_eq_true hlt
   have hwk:IntKind.i64.wrap ((k:Int)+1)=(k:Int)+1:=IntWalk.i64_in _ (by omega)
   obtain⟨⟨ky,vl⟩,hit⟩:∃it,it=items[k]:=⟨_,rfl⟩
   rw [←hit]at q0 q1 e1 hl1
   have HT:Hid (prCs (pl.take (k+1))=prCs (pl.take k)++prC pl[k]):=Lib.hid (by rw [List.take_succ_eq_append_getElem hkl,prCs_app])
   generalize pl[k]=y at*
   obtain⟨y1,y2⟩:=y
   simp only at q0 q1 e1 e2 hl1 hl3
   subst e1
   obtain⟨w4,hw4⟩:∃w4,w4=wr.alloc (.cells #[.string ⟨ky.toArray⟩,.int .u64 (vl.toNat:Int)] 145):=⟨_,rfl⟩
   have B4:Blk w4 wr.heap.size 145 [.string ⟨ky.toArray⟩,.int .u64 (vl.toNat:Int)]:=hw4▸heap_alloc_new _ _
   have hb4:Below wr.heap.size wr w4:=hw4▸(Below.refl _ _).alloc (Nat.le_refl _) _
   have hb34:=HB.out.trans (hb4.mono HB.out.size)
   have HSe:=Lib.hid (egSee (HE.out.below (HB3.out.trans (hb34.mono HB3.out.size))) vl at_ hl1 hl2 hl3)
   have HWi:=Lib.hid (fun W=>within_any ⟨ky.toArray⟩ from_ to W)
   rw [e2]at HWi
   have HB4:=Lib.hid B4
   have Hb34:=Lib.hid hb34
   have HO4:=Lib.hid (own_below5 HO.out hb4)
   have HW4:=Lib.hid hw4
   clear hl1 hl3 hl2 e2 hit hw4 hb4 hb34 B4 HO HB
   go_wp2_with fail
   rw [←HW4.out]
   refine HSe.out.mono ?_
   rintro e w5⟨rfl,hb5⟩
   have B5:=HB4.out.below hb5 HB4.out.lt
   have z0:=B5.cell 0
   simp only [List.getElem?_cons_zero]at z0
   have Hb5:=Lib.hid (Hb34.out.trans (hb5.mono Hb34.out.size))
   have HO5:=Lib.hid (own_below5 HO4.out hb5)
   clear HSe hb5 B5 HB4 HO4 Hb34 q0 q1
   go_wp2_with fail
   refine(HWi.out _).mono ?_
   rintro e w6⟨rfl,rfl⟩
   go_wp2_with(at_builtin;refine wpList_app_one rfl (.tmp 100) (.tmp 105) 64 rfl Tryz.pairTyK w5 w3.heap.size u20 k (prCs (pl.take k)) (prC ⟨⟨ky.toArray⟩,y2⟩) rfl (by exact HO5.out) rfl _ 1 rfl (by simp) rfl (by decide) (by intro u hu;simp [prC]at hu;rcases hu with rfl| rfl<;>rfl) (by omega) (by decide) (by exact Hb5.out.size) ?_;intro g8 c8 w8 hO8 hB8 hK8 hg8)
   have HO8:=Lib.hid hO8
   have HB8:=Lib.hid (Hb5.out.trans hB8)
   clear hO8 hB8 hK8 hg8
   go_wp2_with fail
   go_roundw
   case rel=>exact⟨k+1,by omega,by go_num,by rw [HT.out];exact HO8.out,HB8.out⟩
   case measure=>simp [intOf];omega
  ·have hkn:k=pl.length:=by have:=HPl.out;omega
   have hx2:decide ((k:Int)<(items.length:Int))=false:=decide_eq_false (by omega)
   have hx5:decide (k<items.length)=false:=decide_eq_false hlt
   have HO5:=HO.out
   rw [List.take_of_length_le (by omega),hkn]at HO5
   obtain⟨A6,c6,rfl,hc6,hr6⟩:=own_rowk HO5
   have HOv:=Lib.hid (wsetOver0 pl A6 none c6 0 wr (by have:=HPl.out;omega) hr6 hc6)
   have HPn:=Lib.hid hkn
   clear HO5 hr6 hc6 HO
   go_wp2_with fail
   refine HOv.out.mono ?_
   rintro e w7⟨v7,rfl,hO7,hb7⟩
   have HO7:=Lib.hid (own_monok hO7 (Nat.le_trans HB3.out.size HB.out.size))
   have HB7:=Lib.hid (HB3.out.trans ((HB.out.trans (hb7.mono HB.out.size)).mono HB3.out.size))
   clear hO7 hb7 HOv
   go_wp2_with fail
   go_ret2
   exact⟨v7,rfl,HO7.out,HB7.out⟩
end
section
variable{g d p x tt bk L:Nat}{s s2:St}{t:Tb}{slot:UInt64}{m i:Nat}{P:Bk→Prop}{y:Wr}
theorem EgI.below{W W':World}{X:Nat→Prop}(h:EgI g d p x tt bk L s t slot m P W X)(hb:Below W.heap.size W W'):EgI g d p x tt bk L s t slot m P W' (fun q=>X q∨(W.heap.size≤q∧q<W'.heap.size)):=
 EgI.frames _ _ _ _ h (Touch.of_below hb) (fun _ hq=>hq)
theorem EgI.stay{W W':World}{X:Nat→Prop}(h:EgI g d p x tt bk L s t slot m P W X)(hb:Below W.heap.size W W'):EgI g d p x tt bk L s t slot m P W' X:=
 EgI.frames _ _ _ _ h (Touch.of_below hb) (fun _ hq=> .inl hq)
theorem sPutAny(hi:i<8)(ho:t.wt.ops i=true)(hs:(t.sets i).length≤16)(hu:UpS (t.sets i))(ky tx:ByteArray)(hk:ky.size≤4294967296)(ht:tx.size≤4294967296):Steps (EgI g d p x tt bk L s t slot m P) (EgI g d p x tt bk L s (wrT t i ⟨ky,tx,false⟩) slot m (fun _=>True)) 25 #[.pointer (some ⟨g,0,none⟩),.int .i64 (i:Int),.string ky,.string tx] (.int .i64 (putS (t.sets i) ⟨ky,tx,false⟩).2):=by
 rintro W X⟨b,J,F,h,hm,hp,a⟩
 refine(egPut_any h hi ho hs hu ky tx hk ht).mono ?_
 rintro e w'⟨rfl,b',h1,h2,h4,h5⟩
 exact⟨rfl,⟨b',J,F,h4,by rw [h1,hm],trivial,a⟩,h5.mono (fun q e=>e▸outs_of h.apart.1 h.c1.1 h.c1.2)⟩
theorem sDelAny(hi:i<8)(ho:t.wt.ops i=true)(hs:(t.sets i).length≤16)(hu:UpS (t.sets i))(ky:ByteArray)(hk:ky.size≤4294967296):Steps (EgI g d p x tt bk L s t slot m P) (EgI g d p x tt bk L s (wrT t i ⟨ky,⟨#[]⟩,true⟩) slot m (fun _=>True)) 26 #[.pointer (some ⟨g,0,none⟩),.int .i64 (i:Int),.string ky] (.int .i64 (putS (t.sets i) ⟨ky,⟨#[]⟩,true⟩).2):=by
 rintro W X⟨b,J,F,h,hm,hp,a⟩
 refine(egDel_any h hi ho hs hu ky hk).mono ?_
 rintro e w'⟨rfl,b',h1,h2,h4,h5⟩
 exact⟨rfl,⟨b',J,F,h4,by rw [h1,hm],trivial,a⟩,h5.mono (fun q e=>e▸outs_of h.apart.1 h.c1.1 h.c1.2)⟩
theorem sAbort(hi:i<8)(ho:t.wt.ops i=true):Steps (EgI g d p x tt bk L s t slot m P) (EgI g d p x tt bk L s (endT t i) slot m (fun _=>True)) 28 #[.pointer (some ⟨g,0,none⟩),.int .i64 (i:Int)] (.int .i64 0):=by
 rintro W X⟨b,J,F,h,hm,hp,a⟩
 refine(egAbort h hi ho).mono ?_
 rintro e w'⟨rfl,b',h1,h2,h4,h5⟩
 exact⟨rfl,⟨b',J,F,h4,by rw [h1,hm],trivial,a⟩,h5.mono (fun q e=>e▸outs_of h.apart.1 h.c1.1 h.c1.2)⟩
theorem wrT_wt(t:Tb)(i:Nat)(y:Wr):(wrT t i y).wt=t.wt:=by unfold wrT;split<;>rfl
theorem wrT_set(t:Tb)(i:Nat)(y:Wr)(hs:(t.sets i).length≤16)(hu:UpS (t.sets i)):((wrT t i y).sets i).length≤16∧UpS ((wrT t i y).sets i):=by
 unfold wrT
 split
 ·show(updF t.sets i _ i).length≤16∧UpS (updF t.sets i _ i)
  unfold updF
  rw [if_pos rfl]
  exact⟨by have:=putS_len (t.sets i) y;omega,putS_up hu y⟩
 ·exact⟨hs,hu⟩
end
end Go.Proofs.YtbkpiojejmhfcaaGreatDoor
