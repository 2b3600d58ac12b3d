import Derived.Laws.OwnMore
import Derived.Test.YtbkpiojejmhfcaaGreatDoorG42
namespace Go.Proofs.YtbkpiojejmhfcaaGreatDoor
open Go.RowKit
theorem own_monok{w:World}{base base' k n:Nat}{e:TypeId}{v:Value}{xs:List Value}(h:w.ownsRow base e k v n xs)(hb:base'≤base):w.ownsRow base' e k v n xs:=
 ⟨h.1,h.2.imp id fun⟨g,cap,cur,a,b,c⟩=>⟨g,cap,cur,a,Nat.le_trans hb b,c⟩⟩
theorem wrCs_set:∀(s:List Wr)(k:Nat)(x:Wr),k<s.length→(((wrCs s).set (k*3) (.string x.key)).set (k*3+1) (.string x.text)).set (k*3+2) (.bool x.gone)=wrCs (s.set k x)
 | y::t,0,x,_=>by simp [wrCs,wrC]
 | y::t,k+1,x,h=>by
   have ih:=wrCs_set t k x (by simpa using h)
   have e:wrCs (y::t)= .string y.key:: .string y.text:: .bool y.gone::wrCs t:=by simp [wrCs,wrC]
   have e2:wrCs ((y::t).set (k+1) x)= .string y.key:: .string y.text:: .bool y.gone::wrCs (t.set k x):=by simp [wrCs,wrC]
   rw [e,e2,show(k+1)*3=k*3+1+1+1 by omega]
   simp only [List.set_cons_succ]
   rw [ih]
theorem wrCs_take(s:List Wr)(k:Nat)(hk:k≤s.length):(wrCs s).take (k*3)=wrCs (s.take k):=by
 have h:=wrCs_app (s.take k) (s.drop k)
 rw [List.take_append_drop]at h
 rw [h,List.take_append_of_le_length (by rw [wrCs_len];simp;omega),List.take_of_length_le (by rw [wrCs_len];simp;omega)]
theorem wrCs_drop(s:List Wr)(k:Nat)(hk:k≤s.length):(wrCs s).drop (k*3)=wrCs (s.drop k):=by
 have h:=wrCs_app (s.take k) (s.drop k)
 rw [List.take_append_drop]at h
 have hl:(wrCs (s.take k)).length=k*3:=by rw [wrCs_len];simp;omega
 rw [h,List.drop_append_of_le_length (by omega),←hl,List.drop_length,List.nil_append]
section
variable{w:World}{G:Nat→Prop}{v:Value}{s:List Wr}
set_option maxHeartbeats 4000000 in
set_option maxRecDepth 100000 in
theorem wsetPut_bad(h:SetR w G v s)(hs:s.length≤16)(x:Wr)(hk:x.key.size≤4294967296)(ht:x.text.size≤4294967296)(hx:rightWr x=false):
 Calls Tryz.prog 174 #[v,wrV x] w fun e w'=>∃u,e= .returned (.tuple #[u,.int .i64 (putS s x).2])∧w'.ownsRow w.heap.size 94 3 u (putS s x).1.length (wrCs (putS s x).1)∧Below w.heap.size w w':=by
 obtain⟨W,hW⟩:∃W,W=w.alloc (.cells #[.string x.key,.string x.text,.bool x.gone] 94):=⟨_,rfl⟩
 have B:Blk W w.heap.size 94 [.string x.key,.string x.text,.bool x.gone]:=hW▸heap_alloc_new _ _
 have hb:Below w.heap.size w W:=hW▸(Below.refl _ _).alloc (Nat.le_refl _) _
 have HR:=Lib.hid (fun W=>wsetRight x W hk ht)
 rw [hx]at HR
 have HCl:=Lib.hid (fun W(k:Below w.heap.size w W)=>wsetClone (h.below k) (by omega))
 obtain⟨A,c,rfl,hc,hro⟩:=h
 have HRd:=Lib.hid hro.1
 have HB:=Lib.hid B
 have Hb:=Lib.hid hb
 have HW:=Lib.hid hW
 have y0:=B.cell 0
 have y1:=B.cell 1
 have y2:=B.cell 2
 simp only [List.getElem?_cons_zero,List.getElem?_cons_succ]at y0 y1 y2
 rw [hW]at y0 y1 y2
 unfold wrV at HR⊢
 have HP:Hid (putS s x=(s,2)):=Lib.hid (by unfold putS;rw [if_pos hx])
 clear hx B hb hW hro
 go_enter Tryz.func174,Tryz.ntmps174
 go_wp2_with fail
 rw [←HW.out]
 refine(HR.out _).mono ?_
 rintro e w1⟨rfl,hb1⟩
 have Hb1:=Lib.hid (Hb.out.trans (hb1.mono Hb.out.size))
 clear HR hb1 HB Hb y0 y1 y2
 go_wp2_with fail
 refine(HCl.out _ Hb1.out).mono ?_
 rintro e w2⟨u,rfl,hO,hb2⟩
 have HO:=Lib.hid (own_monok hO Hb1.out.size)
 have Hb2:=Lib.hid (Hb1.out.trans (hb2.mono Hb1.out.size))
 clear hO hb2
 go_wp2_with fail
 go_ret2
 exact⟨u,by rw [HP.out];rfl,by rw [HP.out];exact HO.out,Hb2.out⟩
set_option maxHeartbeats 4000000 in
set_option maxRecDepth 100000 in
theorem wsetPut_full(h:SetR w G v s)(hs:s.length≤16)(x:Wr)(hk:x.key.size≤4294967296)(ht:x.text.size≤4294967296)(hx:rightWr x=true)(hu:UpS s)(hn:inS s x.key=false)(hl:16≤s.length):
 Calls Tryz.prog 174 #[v,wrV x] w fun e w'=>∃u,e= .returned (.tuple #[u,.int .i64 (putS s x).2])∧w'.ownsRow w.heap.size 94 3 u (putS s x).1.length (wrCs (putS s x).1)∧Below w.heap.size w w':=by
 obtain⟨W,hW⟩:∃W,W=w.alloc (.cells #[.string x.key,.string x.text,.bool x.gone] 94):=⟨_,rfl⟩
 have B:Blk W w.heap.size 94 [.string x.key,.string x.text,.bool x.gone]:=hW▸heap_alloc_new _ _
 have hb:Below w.heap.size w W:=hW▸(Below.refl _ _).alloc (Nat.le_refl _) _
 have HR:=Lib.hid (fun W=>wsetRight x W hk ht)
 rw [hx]at HR
 have HCl:=Lib.hid (fun W(k:Below w.heap.size w W)=>wsetClone (h.below k) (by omega))
 obtain⟨A,c,rfl,hc,hro⟩:=h
 have HRd:=Lib.hid hro.1
 have HB:=Lib.hid B
 have Hb:=Lib.hid hb
 have HW:=Lib.hid hW
 have y0:=B.cell 0
 have y1:=B.cell 1
 have y2:=B.cell 2
 simp only [List.getElem?_cons_zero,List.getElem?_cons_succ]at y0 y1 y2
 rw [hW]at y0 y1 y2
 unfold wrV at HR⊢
 have HP:Hid (putS s x=(s,3)):=Lib.hid (by unfold putS;rw [if_neg (by rw [hx];decide),if_neg (by rw [hn];decide),if_pos hl])
 have HF:=Lib.hid (fun W(k:Below w.heap.size w W)=>wsetFind (c:=c) x.key (by omega) (Rd.below HRd.out k) hu)
 rw [hn]at HF
 obtain⟨fi,hfi⟩:∃fi,findS s x.key=fi:=⟨_,rfl⟩
 rw [hfi]at HF
 have t1:decide ((16:Int)≤(s.length:Int))=true:=decide_eq_true (by omega)
 clear hx hn hu hfi hl B hb hW hro
 go_enter Tryz.func174,Tryz.ntmps174
 go_wp2_with fail
 rw [←HW.out]
 refine(HR.out _).mono ?_
 rintro e w1⟨rfl,hb1⟩
 have B1:=HB.out.below hb1 HB.out.lt
 have Hb1:=Lib.hid (Hb.out.trans (hb1.mono Hb.out.size))
 replace y0:=B1.cell 0
 replace y1:=B1.cell 1
 replace y2:=B1.cell 2
 simp only [List.getElem?_cons_zero,List.getElem?_cons_succ]at y0 y1 y2
 have HB1:=Lib.hid B1
 clear HR hb1 B1 HB Hb
 go_wp2_with fail
 refine(HF.out _ Hb1.out).mono ?_
 rintro e w2⟨rfl,hb2⟩
 have Hb2:=Lib.hid (Hb1.out.trans (hb2.mono Hb1.out.size))
 have HB2:=Lib.hid (HB1.out.below hb2 HB1.out.lt)
 replace y0:=HB2.out.cell 0
 replace y1:=HB2.out.cell 1
 replace y2:=HB2.out.cell 2
 simp only [List.getElem?_cons_zero,List.getElem?_cons_succ]at y0 y1 y2
 clear HF hb2 HB1 Hb1
 go_wp2_with fail
 refine(HCl.out _ Hb2.out).mono ?_
 rintro e w3⟨u,rfl,hO,hb3⟩
 have HO:=Lib.hid (own_monok hO Hb2.out.size)
 have Hb3:=Lib.hid (Hb2.out.trans (hb3.mono Hb2.out.size))
 clear hO hb3
 go_wp2_with fail
 go_ret2
 exact⟨u,by rw [HP.out];rfl,by rw [HP.out];exact HO.out,Hb3.out⟩
set_option maxHeartbeats 4000000 in
set_option maxRecDepth 100000 in
theorem wsetPut_has(h:SetR w G v s)(hs:s.length≤16)(x:Wr)(hk:x.key.size≤4294967296)(ht:x.text.size≤4294967296)(hx:rightWr x=true)(hu:UpS s)(hn:inS s x.key=true):
 Calls Tryz.prog 174 #[v,wrV x] w fun e w'=>∃u,e= .returned (.tuple #[u,.int .i64 (putS s x).2])∧w'.ownsRow w.heap.size 94 3 u (putS s x).1.length (wrCs (putS s x).1)∧Below w.heap.size w w':=by
 obtain⟨W,hW⟩:∃W,W=w.alloc (.cells #[.string x.key,.string x.text,.bool x.gone] 94):=⟨_,rfl⟩
 have B:Blk W w.heap.size 94 [.string x.key,.string x.text,.bool x.gone]:=hW▸heap_alloc_new _ _
 have hb:Below w.heap.size w W:=hW▸(Below.refl _ _).alloc (Nat.le_refl _) _
 have HR:=Lib.hid (fun W=>wsetRight x W hk ht)
 rw [hx]at HR
 have HCl:=Lib.hid (fun W(k:Below w.heap.size w W)=>wsetClone (h.below k) (by omega))
 obtain⟨A,c,rfl,hc,hro⟩:=h
 have HRd:=Lib.hid hro.1
 have HB:=Lib.hid B
 have Hb:=Lib.hid hb
 have HW:=Lib.hid hW
 have y0:=B.cell 0
 have y1:=B.cell 1
 have y2:=B.cell 2
 simp only [List.getElem?_cons_zero,List.getElem?_cons_succ]at y0 y1 y2
 rw [hW]at y0 y1 y2
 unfold wrV at HR⊢
 have HP:Hid (putS s x=(s.set (findS s x.key) x,0)):=Lib.hid (by unfold putS;rw [if_neg (by rw [hx];decide),if_pos hn])
 have HF:=Lib.hid (fun W(k:Below w.heap.size w W)=>wsetFind (c:=c) x.key (by omega) (Rd.below HRd.out k) hu)
 rw [hn]at HF
 have hfl:=inS_lt hn
 obtain⟨fi,hfi⟩:∃fi,findS s x.key=fi:=⟨_,rfl⟩
 rw [hfi]at HF HP hfl
 have t1:decide ((fi:Int)<(s.length:Int))=true:=decide_eq_true (by omega)
 have t2:decide (fi<s.length)=true:=decide_eq_true hfl
 clear hx hn hu hfi B hb hW hro
 go_enter Tryz.func174,Tryz.ntmps174
 go_wp2_with fail
 rw [←HW.out]
 refine(HR.out _).mono ?_
 rintro e w1⟨rfl,hb1⟩
 have B1:=HB.out.below hb1 HB.out.lt
 have Hb1:=Lib.hid (Hb.out.trans (hb1.mono Hb.out.size))
 replace y0:=B1.cell 0
 replace y1:=B1.cell 1
 replace y2:=B1.cell 2
 simp only [List.getElem?_cons_zero,List.getElem?_cons_succ]at y0 y1 y2
 have HB1:=Lib.hid B1
 clear HR hb1 B1 HB Hb
 go_wp2_with fail
 refine(HF.out _ Hb1.out).mono ?_
 rintro e w2⟨rfl,hb2⟩
 have Hb2:=Lib.hid (Hb1.out.trans (hb2.mono Hb1.out.size))
 have HB2:=Lib.hid (HB1.out.below hb2 HB1.out.lt)
 replace y0:=HB2.out.cell 0
 replace y1:=HB2.out.cell 1
 replace y2:=HB2.out.cell 2
 simp only [List.getElem?_cons_zero,List.getElem?_cons_succ]at y0 y1 y2
 clear HF hb2 HB1 Hb1
 go_wp2_with fail
 refine(HCl.out _ Hb2.out).mono ?_
 rintro e w3⟨u,rfl,hO,hb3⟩
 obtain⟨b5,c5,rfl,hb5⟩:∃b5 c5,u= .slice (some ⟨b5,0,none⟩) s.length c5∧w2.heap.size≤b5:=by
  rcases hO.2 with⟨_,e2⟩| ⟨g,cap,cur,e1,e2,_⟩
  ·omega
  ·exact⟨g,cap,e1,e2⟩
 have HO:=Lib.hid (own_monok hO Hb2.out.size)
 have Hb3:=Lib.hid (Hb2.out.trans (hb3.mono Hb2.out.size))
 have HB3:=Lib.hid (HB2.out.below hb3 HB2.out.lt)
 have fz:=HO.out.frozenAt
 have Hlt:Hid (w.heap.size<w2.heap.size):=Lib.hid HB2.out.lt
 replace y0:=HB3.out.cell 0
 replace y1:=HB3.out.cell 1
 replace y2:=HB3.out.cell 2
 simp only [List.getElem?_cons_zero,List.getElem?_cons_succ]at y0 y1 y2
 have hz:w3.cell? ⟨b5,fi*3,none⟩=some (.string s[fi].key)∧w3.cell? ⟨b5,fi*3+1,none⟩=some (.string s[fi].text)∧w3.cell? ⟨b5,fi*3+2,none⟩=some (.bool s[fi].gone):=by
  obtain⟨A9,c9,e9,_,r9⟩:=own_rowk HO.out
  obtain⟨b8,o8,e8,_,z⟩:=wr_at r9 fi hfl
  subst e8
  simp only [Value.slice.injEq,Option.some.injEq,Addr.mk.injEq]at e9
  obtain⟨⟨e1,e2,_⟩,_⟩:=e9
  subst e1 e2
  simpa using z
 obtain⟨z0,z1,z2⟩:=hz
 generalize s[fi].key=k9,s[fi].text=k8,s[fi].gone=k7 at z0 z1 z2
 clear hO hb3 HCl
 have hle5:w.heap.size≤b5:=Nat.le_trans Hb2.out.size hb5
 have HFl:=Lib.hid hfl
 go_wp2_with fail
 have s3:=(((HO.out.stored (fi*3) (.string x.key)).1.stored (fi*3+1) (.string x.text)).1.stored (fi*3+2) (.bool x.gone)).1
 have k3:=((Hb3.out.setCell (p:=⟨b5,fi*3,none⟩) hle5 (.string x.key)).setCell (p:=⟨b5,fi*3+1,none⟩) hle5 (.string x.text)).setCell (p:=⟨b5,fi*3+2,none⟩) hle5 (.bool x.gone)
 rw [wrCs_set s fi x HFl.out]at s3
 go_ret2
 exact⟨_,by rw [HP.out];rfl,by rw [HP.out];simpa using s3,k3⟩
set_option maxHeartbeats 4000000 in
set_option maxRecDepth 100000 in
theorem wsetPut_new(h:SetR w G v s)(hs:s.length≤16)(x:Wr)(hk:x.key.size≤4294967296)(ht:x.text.size≤4294967296)(hx:rightWr x=true)(hu:UpS s)(hn:inS s x.key=false)(hl:s.length<16):
 Calls Tryz.prog 174 #[v,wrV x] w fun e w'=>∃u,e= .returned (.tuple #[u,.int .i64 (putS s x).2])∧w'.ownsRow w.heap.size 94 3 u (putS s x).1.length (wrCs (putS s x).1)∧Below w.heap.size w w':=by
 obtain⟨W,hW⟩:∃W,W=w.alloc (.cells #[.string x.key,.string x.text,.bool x.gone] 94):=⟨_,rfl⟩
 have B:Blk W w.heap.size 94 [.string x.key,.string x.text,.bool x.gone]:=hW▸heap_alloc_new _ _
 have hb:Below w.heap.size w W:=hW▸(Below.refl _ _).alloc (Nat.le_refl _) _
 have HR:=Lib.hid (fun W=>wsetRight x W hk ht)
 rw [hx]at HR
 have HCl:=Lib.hid (fun W(k:Below w.heap.size w W)=>wsetClone (h.below k) (by omega))
 obtain⟨A,c,rfl,hc,hro⟩:=h
 have HRd:=Lib.hid hro.1
 have HB:=Lib.hid B
 have Hb:=Lib.hid hb
 have HW:=Lib.hid hW
 have y0:=B.cell 0
 have y1:=B.cell 1
 have y2:=B.cell 2
 simp only [List.getElem?_cons_zero,List.getElem?_cons_succ]at y0 y1 y2
 rw [hW]at y0 y1 y2
 unfold wrV at HR⊢
 have HP:Hid (putS s x=(s.take (findS s x.key)++x::s.drop (findS s x.key),0)):=Lib.hid (by unfold putS;rw [if_neg (by rw [hx];decide),if_neg (by rw [hn];decide),if_neg (by omega)])
 have HF:=Lib.hid (fun W(k:Below w.heap.size w W)=>wsetFind (c:=c) x.key (by omega) (Rd.below HRd.out k) hu)
 rw [hn]at HF
 have hfl:=findS_le s x.key
 obtain⟨fi,hfi⟩:∃fi,findS s x.key=fi:=⟨_,rfl⟩
 rw [hfi]at HF HP hfl
 have t1:decide ((16:Int)≤(s.length:Int))=false:=decide_eq_false (by omega)
 clear hx hn hu hfi B hb hW hro
 have hmk:∀W:World,(Instr.makeSlice 45 (.int .i64 0) (.int .i64 ((s.length:Int)+1))).run Tryz.prog W= .ok (.slice (some ⟨W.heap.size,0,none⟩) 0 (s.length+1)) (W.alloc (.cells (madeCells (Value.agg #[.string ⟨#[]⟩,.string ⟨#[]⟩,.bool false]).cells ((s.length+1)*3)) 94)):=fun W=>by
  obtain⟨i0,hi,hz0,hz1,hz2⟩:=info_parts Tryz.wrTyK.hi
  have:=run_make (P:=Tryz.prog) (w:=W) 45 94 i0 _ Tryz.underlying45 hi hz0 .i64 .i64 0 ((s.length:Int)+1) (by omega) (by omega) (by rw [hz2];omega) (by omega)
  rw [hz1]at this
  simpa [show((s.length:Int)+1).toNat=s.length+1 by omega]using this
 obtain⟨zc,hz⟩:∃zc,madeCells (Value.agg #[.string ⟨#[]⟩,.string ⟨#[]⟩,.bool false]).cells ((s.length+1)*3)=zc:=⟨_,rfl⟩
 have hzs:zc.size=(s.length+1)*3:=by rw [←hz];simp [madeCells]
 rw [hz]at hmk
 have hc':=hc
 have c1:decide ((fi:Int)≤(c:Int))=true:=decide_eq_true (by omega)
 have c2:decide (fi≤c)=true:=decide_eq_true (by omega)
 have c3:decide ((fi:Int)≤(s.length:Int))=true:=decide_eq_true (by omega)
 have c4:decide (fi≤s.length)=true:=decide_eq_true hfl
 clear hz
 go_enter Tryz.func174,Tryz.ntmps174
 go_wp2_with fail
 rw [←HW.out]
 refine(HR.out _).mono ?_
 rintro e w1⟨rfl,hb1⟩
 have B1:=HB.out.below hb1 HB.out.lt
 have Hb1:=Lib.hid (Hb.out.trans (hb1.mono Hb.out.size))
 replace y0:=B1.cell 0
 replace y1:=B1.cell 1
 replace y2:=B1.cell 2
 simp only [List.getElem?_cons_zero,List.getElem?_cons_succ]at y0 y1 y2
 have HB1:=Lib.hid B1
 clear HR hb1 B1 HB Hb
 go_wp2_with fail
 refine(HF.out _ Hb1.out).mono ?_
 rintro e w2⟨rfl,hb2⟩
 have Hb2:=Lib.hid (Hb1.out.trans (hb2.mono Hb1.out.size))
 have HB2:=Lib.hid (HB1.out.below hb2 HB1.out.lt)
 replace y0:=HB2.out.cell 0
 replace y1:=HB2.out.cell 1
 replace y2:=HB2.out.cell 2
 simp only [List.getElem?_cons_zero,List.getElem?_cons_succ]at y0 y1 y2
 clear HF hb2 HB1 Hb1
 have hm1:=hmk w2
 obtain⟨W2,hW2⟩:∃W2,W2=w2.alloc (.cells zc 94):=⟨_,rfl⟩
 rw [←hW2]at hm1
 have hO2:W2.ownsRow w.heap.size 94 3 (.slice (some ⟨w2.heap.size,0,none⟩) 0 (s.length+1)) 0 []:=⟨by simp,.inr ⟨w2.heap.size,s.length+1,zc,rfl,Hb2.out.size,hW2▸heap_alloc_new _ _,by omega,Nat.le_trans (show s.length+1≤17 by omega) (by decide),by rw [hzs],by simp⟩⟩
 have hb3:Below w2.heap.size w2 W2:=hW2▸(Below.refl _ _).alloc (Nat.le_refl _) _
 have HB3:=Lib.hid (HB2.out.below hb3 HB2.out.lt)
 have Hb3:=Lib.hid (Hb2.out.trans (hb3.mono Hb2.out.size))
 have HO2:=Lib.hid hO2
 replace y0:=HB3.out.cell 0
 replace y1:=HB3.out.cell 1
 replace y2:=HB3.out.cell 2
 simp only [List.getElem?_cons_zero,List.getElem?_cons_succ]at y0 y1 y2
 have hRt:Rd W2 A (fi*3) (wrCs (s.take fi)):=by
  have h0:=Rd.below HRd.out Hb3.out
  refine⟨by rw [wrCs_len];simp;omega,fun hn=> ?_⟩
  obtain⟨b9,o9,e9,l9,z9⟩:=h0.2 (by omega)
  exact⟨b9,o9,e9,l9,fun j hj=>by rw [z9 j (by omega),←wrCs_take s fi hfl,List.getElem?_take,if_pos hj]⟩
 have HRt:=Lib.hid hRt
 clear hmk hW2 hO2 hb3 hRt
 go_wp2_with(at_builtin;first
  | (refine wpList_app_rows rfl (.tmp 39) (.tmp 42) 45 rfl Tryz.wrTyK (by decide) w.heap.size (.slice (some ⟨w2.heap.size,0,none⟩) 0 (s.length+1)) 0 [] rfl HO2.out A fi c (wrCs (s.take fi)) rfl HRt.out (one_wrCs _) (by omega) (by decide) Hb3.out.size ?_
     intro v4 w4 hO4 hB4 hK4
     rw [Nat.zero_add,List.nil_append]at hO4
     obtain⟨A4,c4,hv4,_,_⟩:=own_rowk hO4
     subst hv4
     have HO4:=Lib.hid hO4
     have Hb4:=Lib.hid (Hb3.out.trans hB4)
     have B4:Blk w4 w.heap.size 94 [.string x.key,.string x.text,.bool x.gone]:=(hK4.2 w.heap.size HB3.out.lt (by have:=HB2.out.lt;simp only [Value.ownBlock,ne_eq,Option.some.injEq];omega)).trans HB3.out
     replace y0:=B4.cell 0
     replace y1:=B4.cell 1
     replace y2:=B4.cell 2
     simp only [List.getElem?_cons_zero,List.getElem?_cons_succ]at y0 y1 y2
     clear hO4 hB4 hK4 B4)
  | (refine wpList_app_one rfl (.tmp 44) (.tmp 46) 45 rfl Tryz.wrTyK w4 w.heap.size (.slice A4 fi c4) fi (wrCs (s.take fi)) [.string x.key,.string x.text,.bool x.gone] rfl HO4.out rfl w4.heap.size 1 rfl rfl rfl (by decide) (by intro u hu;simp at hu;rcases hu with rfl| rfl| rfl<;>rfl) (by omega) (by decide) Hb4.out.size ?_
     intro g5 c5 w5 hO5 hB5 hK5 hg5
     have HO5:=Lib.hid hO5
     have Hb5:=Lib.hid (Hb4.out.trans hB5)
     have hRt:Rd w5 (if c=fi then A else A.map fun a=>a.add (fi*3)) ((s.length-fi)*3) (wrCs (s.drop fi)):=by
      have h0:=Rd.below HRd.out Hb5.out
      refine⟨by rw [wrCs_len];simp,fun hn=> ?_⟩
      obtain⟨b9,o9,e9,l9,z9⟩:=h0.2 (by omega)
      subst e9
      exact⟨b9,o9+fi*3,by rw [if_neg (by omega),Option.map_some,Addr.add_lit],l9,fun j hj=>by rw [Nat.add_assoc,z9 (fi*3+j) (by omega),←wrCs_drop s fi hfl,List.getElem?_drop]⟩
     have HRt5:=Lib.hid hRt
     clear hO5 hB5 hK5 hg5 hRt)
  | (refine wpList_app_rows rfl (.tmp 48) (.tmp 51) 45 rfl Tryz.wrTyK (by decide) w.heap.size (.slice (some ⟨g5,0,none⟩) (fi+1) c5) (fi+1) (wrCs (s.take fi)++[.string x.key,.string x.text,.bool x.gone]) rfl HO5.out (if c=fi then A else A.map fun a=>a.add (fi*3)) (s.length-fi) (c-fi) (wrCs (s.drop fi)) rfl HRt5.out (one_wrCs _) (by omega) (by decide) Hb5.out.size ?_
     intro v6 w6 hO6 hB6 hK6
     have HO6:=Lib.hid hO6
     have Hb6:=Lib.hid (Hb5.out.trans hB6)
     clear hO6 hB6 hK6)
  | fail)
 all_goals(
  go_ret2
  have e1:fi+1+(s.length-fi)=(s.take fi++x::s.drop fi).length:=by simp;omega
  have e2:wrCs (s.take fi)++[.string x.key,.string x.text,.bool x.gone]++wrCs (s.drop fi)=wrCs (s.take fi++x::s.drop fi):=by rw [wrCs_app];simp [wrCs,wrC]
  exact⟨v6,by rw [HP.out];rfl,by rw [HP.out,←e1,←e2];exact HO6.out,Hb6.out⟩)
end
end Go.Proofs.YtbkpiojejmhfcaaGreatDoor
