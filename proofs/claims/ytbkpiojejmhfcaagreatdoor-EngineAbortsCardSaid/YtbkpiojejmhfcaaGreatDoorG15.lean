import Derived.Deep.RegionHeldLaw
import Derived.Test.YtbkpiojejmhfcaaGreatDoorG14
namespace Go.Proofs.YtbkpiojejmhfcaaGreatDoor
open Go.RowKit
section
variable{w w':World}{F F':Nat→Prop}{tt bk:Nat}{b:Bk}{t:Tb}
theorem atV_open{t:Wt}{i:Nat}(hi:i<8)(ho:t.ops i=true):atV t (i:Int)= .tuple #[.int .u64 ((t.ats i).toNat:Int),.bool true]:=by
 unfold atV
 rw [if_pos,Int.toNat_natCast]
 unfold hasW8
 simp only [Bool.and_eq_true,decide_eq_true_eq]
 exact⟨by omega,by omega,ho⟩
set_option maxHeartbeats 2000000 in
theorem tabSet(h:TbAt w F tt bk b t){i:Nat}(hi:i<8)(ho:t.wt.ops i=true)(hs:(t.sets i).length≤100000):
 Calls Tryz.prog 58 #[.pointer (some ⟨tt,0,none⟩),.int .i64 (i:Int)] w fun e w'=>∃u,e= .returned (.tuple #[u,.bool true])∧
  w'.ownsRow w.heap.size 94 3 u (t.sets i).length (wrCs (t.sets i))∧Below w.heap.size w w':=by
 have c:=h.box.cell 0
 simp only [List.getElem?_cons_zero]at c
 have bi:(i:Int)<8:=by omega
 have cs:=h.book.cellSt i hi
 have HA:=Lib.hid (tabAt h (i:Int))
 rw [atV_open hi ho]at HA
 have HC:=Lib.hid (wsetClone (h.sets i hi) hs)
 clear h hs
 go_enter Tryz.func58,Tryz.ntmps58
 go_wp2_with fail
 refine HA.out.mono ?_
 rintro e w1⟨rfl,rfl⟩
 go_wp2_with fail
 refine HC.out.mono ?_
 rintro e w1⟨u,rfl,hO,hB⟩
 have HO:=Lib.hid hO
 have HB:=Lib.hid hB
 clear hO hB cs c
 go_wp2_with fail
 go_ret2
 exact⟨u,rfl,HO.out,HB.out⟩
def writeT(t:Tb)(i:Nat)(s:List Wr):Tb:={t with sets:=updF t.sets i s}
set_option maxHeartbeats 4000000 in
set_option maxRecDepth 100000 in
theorem tabWrite(h:TbAt w F tt bk b t)(hFl:∀k,F k→k<w.heap.size){i:Nat}(hi:i<8)(ho:t.wt.ops i=true)(x:Wr)(s:List Wr)
 (hP:∀W,Below w.heap.size w W→Calls Tryz.prog 174 #[b.st i,wrV x] W fun e w'=>∃u,e= .returned (.tuple #[u,.int .i64 0])∧w'.ownsRow W.heap.size 94 3 u s.length (wrCs s)∧Below W.heap.size W w'):
 Calls Tryz.prog 116 #[.pointer (some ⟨tt,0,none⟩),.int .i64 (i:Int),wrV x] w fun e w'=>e= .returned (.int .i64 0)∧
  ∃b',b'.many=b.many∧b'.nt=b.nt∧TbAt w' F tt bk b' (writeT t i s)∧Touch (fun k=>k=bk) w w':=by
 obtain⟨W,hW⟩:∃W,W=w.alloc (.cells #[.string x.key,.string x.text,.bool x.gone] 94):=⟨_,rfl⟩
 have B:Blk W w.heap.size 94 [.string x.key,.string x.text,.bool x.gone]:=hW▸heap_alloc_new _ _
 have hb:Below w.heap.size w W:=hW▸(Below.refl _ _).alloc (Nat.le_refl _) _
 have h1:TbAt W F tt bk b t:=h.below hb
 have y0:=B.cell 0
 have y1:=B.cell 1
 have y2:=B.cell 2
 simp only [List.getElem?_cons_zero,List.getElem?_cons_succ]at y0 y1 y2
 have HN:=Lib.hid (tabNone h1)
 have HA:=Lib.hid (watchAt h1.book (i:Int))
 rw [h1.wt,atV_open hi ho]at HA
 have c:=h1.box.cell 0
 simp only [List.getElem?_cons_zero]at c
 have cs:=h1.book.cellSt i hi
 have bi:(i:Int)<8:=by omega
 have HH:=Lib.hid h
 have HFl:Hid (∀k,F k→w.heap.size≤k→False):=Lib.hid (fun k hk h2=>absurd (hFl k hk) (by omega))
 have Hb:=Lib.hid hb
 have HW:=Lib.hid hW
 have HP:=Lib.hid hP
 obtain⟨vs,hvs⟩:∃vs,b.st i=vs:=⟨_,rfl⟩
 rw [hvs]at HP cs
 rw [hW]at y0 y1 y2 c cs
 unfold wrV at HP⊢
 clear h h1 hb hW hP B hFl
 go_enter Tryz.func116,Tryz.ntmps116
 go_wp2_with fail
 rw [←HW.out]at y0 y1 y2 c cs⊢
 refine HN.out.mono ?_
 rintro e w1⟨rfl,rfl⟩
 go_wp2_with fail
 refine HA.out.mono ?_
 rintro e w1⟨rfl,rfl⟩
 go_wp2_with fail
 go_region_with(go_at_call 174;refine(HP.out _ (by first| exact Hb.out| exact Hb.out.trans (((Dr.drew _).below _).mono Hb.out.size))).mono ?_;rintro e w2⟨u,rfl,hO2,hB2⟩;obtain⟨A5,c5,hu5,_,_⟩:=own_rowk hO2;subst hu5)
 all_goals(
  have hb2:Below w.heap.size w w2:=by
   first
   | exact Hb.out.trans (hB2.mono Hb.out.size)
   | exact Hb.out.trans ((((Dr.drew _).below _).trans hB2).mono Hb.out.size)
  have hS:SetR w2 (TF F bk b.nt) (.slice A5 s.length c5) s:=own_setR hO2 rfl (fun k hk _ hG=>by
   have hk2:w.heap.size≤k:=Nat.le_trans Hb.out.size hk
   rcases hG with hf| rfl| rfl
   ·exact HFl.out k hf hk2
   ·exact absurd HH.out.book.lt (by omega)
   ·exact absurd HH.out.map.lt (by omega))
  have hT2:TbAt w2 F tt bk b t:=HH.out.below hb2
  have c2:=hT2.box.cell 0
  simp only [List.getElem?_cons_zero]at c2
  have cs2:=hT2.book.cellSt i hi
  have fs2:=hT2.book.frozen (49+i)
  have hlt2:=hT2.book.lt
  have HT2:=Lib.hid hT2
  have Hb2:=Lib.hid hb2
  have HS2:=Lib.hid hS
  clear hT2 hb2 hS hO2 hB2 y0 y1 y2 c cs HN HA
  go_wp2_with fail
  go_ret
  have k2:Touch (fun k=>k=bk) w2 (w2.setCell ⟨bk,49+i,none⟩ (.slice A5 s.length c5)):=(Touch.refl (fun k=>k=bk) w2).setCell (p:=⟨bk,49+i,none⟩) (.inl rfl) _
  refine⟨rfl,{b with st:=fun k=>if k=i then(.slice A5 s.length c5)else b.st k},rfl,rfl,HT2.out.turn k2 (HT2.out.book.setSt i hi _) rfl HT2.out.wt rfl ⟨HT2.out.pile.heap,HT2.out.pile.ids,HT2.out.pile.has,HT2.out.pile.len⟩ ?_,(Touch.of_below Hb2.out).trans k2 (fun _ e=> .inl e)⟩
  intro j hj
  show SetR _ _ (if j=i then _ else b.st j) (if j=i then s else t.sets j)
  by_cases e:j=i
  ·rw [if_pos e,if_pos e]
   exact HS2.out.moved ⟨k2.mono (fun _ e=> .inr (.inl e)),fun _ hk=> .inl hk⟩
  ·rw [if_neg e,if_neg e];exact HT2.out.sets_turn k2 j hj)
end
theorem SetR.at{w:World}{G:Nat→Prop}{v:Value}{s:List Wr}(h:SetR w G v s)(k:Nat)(hk:k<s.length):∃b off c,v= .slice (some ⟨b,off,none⟩) s.length c∧s.length≤c∧b<w.heap.size∧¬G b∧
 w.cell? ⟨b,off+k*3,none⟩=some (.string s[k].key)∧w.cell? ⟨b,off+k*3+1,none⟩=some (.string s[k].text)∧w.cell? ⟨b,off+k*3+2,none⟩=some (.bool s[k].gone):=by
 obtain⟨A,c,e,hc,hr,hG⟩:=h
 obtain⟨b,off,rfl,hb,hcl⟩:=hr.2 (by omega)
 have key:∀i,i<3→w.cell? ⟨b,off+k*3+i,none⟩=(wrC s[k])[i]? :=fun i hi=>by
  rw [Nat.add_assoc,hcl (k*3+i) (by omega)]
  exact flat_get wrC 3 (fun _=>rfl) s k i hk hi
 exact⟨b,off,c,e,hc,hb,hG (by omega) _ rfl,key 0 (by decide),key 1 (by decide),key 2 (by decide)⟩
theorem zero64(W:World):(zeroValue 23).run Tryz.prog W= .ok (.int .u64 0) W:=by kernel_rfl
section
variable{w w':World}{F F':Nat→Prop}{tt bk:Nat}{b:Bk}{t:Tb}
theorem SetR.slice{w:World}{G:Nat→Prop}{v:Value}{s:List Wr}(h:SetR w G v s):∃A c,v= .slice A s.length c:=by
 obtain⟨A,c,e,_⟩:=h
 exact⟨A,c,e⟩
set_option maxHeartbeats 4000000 in
theorem tabClash(h:TbAt w F tt bk b t){i:Nat}(hi:i<8)(ho:t.wt.ops i=true)(hs:(t.sets i).length≤100000):
 Calls Tryz.prog 73 #[.pointer (some ⟨tt,0,none⟩),.int .i64 (i:Int)] w fun e w'=>e= .returned (.bool (clashS t.noted (t.sets i) (t.wt.ats i)))∧Below w.heap.size w w':=by
 have c:=h.box.cell 0
 simp only [List.getElem?_cons_zero]at c
 have bi:(i:Int)<8:=by omega
 have cs:=h.book.cellSt i hi
 have HA:=Lib.hid (tabAt h (i:Int))
 rw [atV_open hi ho]at HA
 obtain⟨A0,c0,hv0⟩:=(h.sets i hi).slice
 rw [hv0]at cs
 have HSt:=Lib.hid (h.sets i hi)
 rw [hv0]at HSt
 have HH:=Lib.hid h
 obtain⟨s,hse⟩:∃s,t.sets i=s:=⟨_,rfl⟩
 rw [hse]at hs HSt cs⊢
 obtain⟨x,hx⟩:∃x,t.wt.ats i=x:=⟨_,rfl⟩
 rw [hx]at HA⊢
 clear h hse hx hv0
 go_enter Tryz.func73,Tryz.ntmps73
 go_wp2_with fail
 refine HA.out.mono ?_
 rintro e w1⟨rfl,rfl⟩
 go_wp2_with fail
 go_loopw [27](fun i wr=>∃k:Nat,k≤s.length∧i= .int .i64 (k:Nat)∧clashS t.noted s x=clashS t.noted (s.drop k) x∧Below w.heap.size w wr)(fun i _=>s.length- (intOf i).toNat)
 case atStart=>exact⟨0,Nat.zero_le _,rfl,rfl,Below.refl _ _⟩
 case round=>
  obtain⟨k,hk,rfl,hcl,hb⟩:=hrel
  have HC:=Lib.hid hcl
  have HB:=Lib.hid hb
  clear hcl hb c cs
  have HH2:=Lib.hid (HH.out.below HB.out)
  have c:=HH2.out.box.cell 0
  simp only [List.getElem?_cons_zero]at c
  have cn:=HH2.out.book.cellNt
  have hm:=HH2.out.map
  by_cases hlt:k<s.length
  ·obtain⟨b2,off,c2,hv2,hc2,hbw,hnG,q0,q1,q2⟩:=(HSt.out.below HB.out).at k hlt
   simp only [Value.slice.injEq]at hv2
   obtain⟨rfl, -,rfl⟩:=hv2
   have hx1:(k:Int)<(s.length:Int):=by omega
   have hx2:decide ((k:Int)<(s.length:Int))=true:=decide_eq_true hx1
   have hx5:decide (k<s.length)=true:=decide_eq_true hlt
   have hwk:IntKind.i64.wrap ((k:Int)+1)=(k:Int)+1:=IntWalk.i64_in _ (by omega)
   have HE:Hid (clashS t.noted s x=(decide (x.toNat<(notedOf t.noted s[k].key).toNat)|| clashS t.noted (s.drop (k+1)) x)):=Lib.hid (by
    rw [HC.out,List.drop_eq_getElem_cons hlt];rfl)
   generalize s[k]=y at*
   obtain⟨ky,tx,g⟩:=y
   simp only at q0 q1 q2 HE
   obtain⟨W2,hW2⟩:∃W2,W2=wr.alloc (.cells #[.string ky,.string tx,.bool g] 94):=⟨_,rfl⟩
   have hbt:Below wr.heap.size wr W2:=hW2▸(Below.refl _ _).alloc (Nat.le_refl _) _
   have B2:Blk W2 wr.heap.size 94 [.string ky,.string tx,.bool g]:=hW2▸heap_alloc_new _ _
   have hT2:=(show TbAt W2 F tt bk b t from HH2.out.below hbt)
   have d:=hT2.box.cell 0
   have z0:=B2.cell 0
   simp only [List.getElem?_cons_zero]at d z0
   have dn:=hT2.book.cellNt
   have kl:=fun n=>lookStr (P:=Tryz.prog) Tryz.underlying206 Tryz.underlying9 zero64 (W2.drewN n) b.nt t.noted ky (hT2.map.below ((Dr.one _ n).below _))
   have kl0:=lookStr (P:=Tryz.prog) Tryz.underlying206 Tryz.underlying9 zero64 W2 b.nt t.noted ky hT2.map
   have HBt:=Lib.hid (HB.out.trans (hbt.mono HB.out.size))
   have HW2:=Lib.hid hW2
   clear hm HC hbt hW2 B2 hT2
   cases hd:decide (x.toNat<(notedOf t.noted ky).toNat)with
   | true=>
     rw [hd]at HE
     have t1:decide ((x.toNat:Int)<((notedOf t.noted ky).toNat:Int))=true:=decide_eq_true (by have:=of_decide_eq_true hd;omega)
     generalize(notedOf t.noted ky).toNat=nn at*
     go_wp2_with fail
     rw [←HW2.out]
     go_quiet(fail)
     go_wp2_with fail
     go_ret
     exact⟨by rw [HE.out];rfl,HBt.out.trans (((Dr.one _ _).below _))⟩
   | false=>
     rw [hd]at HE
     have t1:decide ((x.toNat:Int)<((notedOf t.noted ky).toNat:Int))=false:=decide_eq_false (by have:=of_decide_eq_false hd;omega)
     generalize(notedOf t.noted ky).toNat=nn at*
     go_wp2_with fail
     rw [←HW2.out]
     go_quiet(fail)
     go_wp2_with fail
     go_roundw
     case rel=>exact⟨k+1,by omega,by go_num,by rw [HE.out];rfl,HBt.out.trans (((Dr.one _ _).below _))⟩
     case measure=>simp [intOf];omega
  ·have hx2:decide ((k:Int)<(s.length:Int))=false:=decide_eq_false (by omega)
   have hx5:decide (k<s.length)=false:=decide_eq_false hlt
   have HE:Hid (clashS t.noted s x=false):=Lib.hid (by rw [HC.out,List.drop_of_length_le (by omega)];rfl)
   clear hm HC
   go_wp2_with fail
   go_ret
   exact⟨by rw [HE.out];rfl,HB.out⟩
end
def bk0(m:Nat):Bk:={ats:=fun _=>0,ops:=fun _=>false,mks:=fun _=>(0,0),many:=0,st:=fun _=> .slice none 0 0,nt:=m}
def tb0:Tb:={wt:={ats:=fun _=>0,ops:=fun _=>false},sets:=fun _=>[],noted:=[]}
def bkL(m:Nat):List Value:=[wv 0,wv 0,wv 0,wv 0,wv 0,wv 0,wv 0,wv 0,.bool false,.bool false,.bool false,.bool false,.bool false,.bool false,.bool false,.bool false,
 wv 0,.int .i64 0,wv 0,.int .i64 0,wv 0,.int .i64 0,wv 0,.int .i64 0,wv 0,.int .i64 0,wv 0,.int .i64 0,wv 0,.int .i64 0,wv 0,.int .i64 0,
 wv 0,.int .i64 0,wv 0,.int .i64 0,wv 0,.int .i64 0,wv 0,.int .i64 0,wv 0,.int .i64 0,wv 0,.int .i64 0,wv 0,.int .i64 0,wv 0,.int .i64 0,
 .int .i64 0,.slice none 0 0,.slice none 0 0,.slice none 0 0,.slice none 0 0,.slice none 0 0,.slice none 0 0,.slice none 0 0,.slice none 0 0,.map (some m)]
theorem lt8{i:Nat}(h:i<8):i=0∨i=1∨i=2∨i=3∨i=4∨i=5∨i=6∨i=7:=by omega
theorem lt16{i:Nat}(h:i<16):i=0∨i=1∨i=2∨i=3∨i=4∨i=5∨i=6∨i=7∨i=8∨i=9∨i=10∨i=11∨i=12∨i=13∨i=14∨i=15:=by omega
theorem bkAt_new{w:World}{bk m:Nat}(h:Blk w bk 208 (bkL m)):BkAt w bk (bk0 m):=by
 refine⟨_,h,rfl,fun i hi=> ?_,fun i hi=> ?_,fun i hi=> ?_,rfl,fun i hi=> ?_,rfl⟩
 ·rcases lt8 hi with rfl| rfl| rfl| rfl| rfl| rfl| rfl| rfl<;>rfl
 ·rcases lt8 hi with rfl| rfl| rfl| rfl| rfl| rfl| rfl| rfl<;>rfl
 ·rcases lt16 hi with rfl| rfl| rfl| rfl| rfl| rfl| rfl| rfl| rfl| rfl| rfl| rfl| rfl| rfl| rfl| rfl<;>exact⟨rfl,rfl⟩
 ·rcases lt8 hi with rfl| rfl| rfl| rfl| rfl| rfl| rfl| rfl<;>rfl
theorem pile_new(m:Nat):PileB (bk0 m):=⟨fun k _ hk=>absurd hk (Nat.not_lt_zero _),fun _⟨k,hk,_⟩=>absurd hk (Nat.not_lt_zero _),fun _ _ h=>Bool.noConfusion h,by show 0≤16;omega⟩
set_option maxHeartbeats 4000000 in
set_option maxRecDepth 100000 in
theorem tabNew(F:Nat→Prop)(w:World)(hF:∀k,F k→k<w.heap.size):Calls Tryz.prog 77 #[] w fun e w'=>∃tt bk nt,e= .returned (.pointer (some ⟨tt,0,none⟩))∧w.heap.size≤tt∧w.heap.size≤bk∧w.heap.size≤nt∧TbAt w' F tt bk (bk0 nt) tb0∧Below w.heap.size w w':=by
 have mm:=fun W=>run_makeMap (P:=Tryz.prog) 206 W
 go_enter Tryz.func77,Tryz.ntmps77
 go_wp2_with fail
 go_ret
 refine⟨w.heap.size+1+1,w.heap.size+1,w.heap.size,rfl,by omega,by omega,by omega,?_,(((Below.refl _ _).alloc (Nat.le_refl _) _).alloc (by simp) _).alloc (by simp;omega) _⟩
 have s1:(w.alloc (.map #[] 0)).heap.size=w.heap.size+1:=by simp
 obtain⟨W1,hW1⟩:∃W1,W1=(w.alloc (.map #[] 0)).alloc (.cells (bkL w.heap.size).toArray 208):=⟨_,rfl⟩
 have s2:W1.heap.size=w.heap.size+1+1:=by rw [hW1];simp
 have h1:Blk W1 (w.heap.size+1) 208 (bkL w.heap.size):=by
  have:=heap_alloc_new (w.alloc (.map #[] 0)) (.cells (bkL w.heap.size).toArray 208)
  rw [s1,←hW1]at this;exact this
 have h2:=heap_alloc_new W1 (.cells #[.pointer (some ⟨w.heap.size+1,0,none⟩)] 195)
 rw [s2]at h2
 have h0:W1.heap[w.heap.size]? =some (.map #[] 0):=by rw [hW1];exact(heap_alloc_old _ _ (by omega)).trans (heap_alloc_new _ _)
 show TbAt (((w.alloc (.map #[] 0)).alloc (.cells (bkL w.heap.size).toArray 208)).alloc (.cells #[.pointer (some ⟨w.heap.size+1,0,none⟩)] 195)) _ _ _ _ _
 rw [←hW1]
 refine⟨h2,bkAt_new ((heap_alloc_old _ _ (by omega)).trans h1),(heap_alloc_old _ _ (by show w.heap.size<_;omega)).trans h0,rfl,fun _ _=>SetR.nil,pile_new _,fun h=>absurd (hF _ h) (by omega),fun h=>absurd (hF _ h) (by show¬w.heap.size<w.heap.size;omega),fun h=>absurd (hF _ h) (by omega),by omega,?_,?_⟩
 ·show w.heap.size+1+1≠w.heap.size;omega
 ·show w.heap.size+1≠w.heap.size;omega
end Go.Proofs.YtbkpiojejmhfcaaGreatDoor
