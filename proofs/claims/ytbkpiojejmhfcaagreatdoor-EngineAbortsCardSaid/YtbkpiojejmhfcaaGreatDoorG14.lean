import Derived.Test.YtbkpiojejmhfcaaGreatDoorG04
import Derived.Test.YtbkpiojejmhfcaaGreatDoorG11
import Derived.Test.YtbkpiojejmhfcaaGreatDoorG12
import Derived.Test.YtbkpiojejmhfcaaGreatDoorG13
namespace Go.Proofs.YtbkpiojejmhfcaaGreatDoor
open Go.RowKit
def wrC(x:Wr):List Value:=[.string x.key,.string x.text,.bool x.gone]
def wrCs(l:List Wr):List Value:=(l.map wrC).flatten
theorem wrCs_len:∀(l:List Wr),(wrCs l).length=l.length*3
 | []=>rfl
 | a::t=>by
   have:=wrCs_len t
   simp only [wrCs,List.map_cons,List.flatten_cons,List.length_append,List.length_cons]at this⊢
   rw [this];simp [wrC];omega
def SetR(w:World)(G:Nat→Prop)(v:Value)(s:List Wr):Prop:=∃A c,v= .slice A s.length c∧s.length≤c∧RdO w G A (s.length*3) (wrCs s)
theorem SetR.nil{w:World}{G:Nat→Prop}:SetR w G (.slice none 0 0) []:=⟨none,0,rfl,Nat.le_refl _,RdO.nil⟩
theorem SetR.moved{w w':World}{G G':Nat→Prop}{v:Value}{s:List Wr}(h:SetR w G v s)(m:Moved G G' w w'):SetR w' G' v s:=by
 obtain⟨A,c,e,h1,h2⟩:=h
 exact⟨A,c,e,h1,h2.moved m⟩
theorem SetR.below{w w':World}{G:Nat→Prop}{v:Value}{s:List Wr}(h:SetR w G v s)(k:Below w.heap.size w w'):SetR w' G v s:=h.moved (Moved.of_below k)
theorem SetR.mono{w:World}{F G:Nat→Prop}{v:Value}{s:List Wr}(h:SetR w G v s)(k:∀b,b<w.heap.size→F b→G b):SetR w F v s:=by
 obtain⟨A,c,e,h1,h2⟩:=h
 exact⟨A,c,e,h1,h2.mono k⟩
def TF(F:Nat→Prop)(bk nt:Nat)(k:Nat):Prop:=F k∨k=bk∨k=nt
structure TbAt(w:World)(F:Nat→Prop)(tt bk:Nat)(b:Bk)(t:Tb):Prop where
 box:Blk w tt 195 [.pointer (some ⟨bk,0,none⟩)]
 book:BkAt w bk b
 map:StrMap w b.nt t.noted
 wt:b.wt=t.wt
 sets:∀i,i<8→SetR w (TF F bk b.nt) (b.st i) (t.sets i)
 pile:PileB b
 fb:¬F bk
 fn:¬F b.nt
 ft:¬F tt
 ne1:tt≠bk
 ne2:tt≠b.nt
 ne3:bk≠b.nt
section
variable{w w':World}{F F':Nat→Prop}{tt bk:Nat}{b:Bk}{t:Tb}
theorem TbAt.moved(h:TbAt w F tt bk b t)(m:Moved F F' w w'):TbAt w' F' tt bk b t:=by
 have hm:Moved (TF F bk b.nt) (TF F' bk b.nt) w w':=⟨m.touch.mono (fun k hk=> .inl hk),fun k hk=>by
  rcases hk with hk| hk
  ·exact(m.own k hk).imp .inl id
  ·exact .inl (.inr hk)⟩
 exact⟨h.box.touch m.touch h.ft,h.book.touch m.touch h.fb,(m.touch.block _ h.map.lt h.fn).trans h.map,h.wt,fun i hi=>(h.sets i hi).moved hm,h.pile,
  m.out h.book.lt h.fb,m.out h.map.lt h.fn,m.out h.box.lt h.ft,h.ne1,h.ne2,h.ne3⟩
theorem TbAt.below(h:TbAt w F tt bk b t)(k:Below w.heap.size w w'):TbAt w' F tt bk b t:=h.moved (Moved.of_below k)
theorem TbAt.turn(h:TbAt w F tt bk b t){b':Bk}{t':Tb}(k:Touch (fun k=>k=bk) w w')(hb:BkAt w' bk b')(hn:b'.nt=b.nt)(hw:b'.wt=t'.wt)(hno:t'.noted=t.noted)(hp:PileB b')
 (hs:∀i,i<8→SetR w' (TF F bk b.nt) (b'.st i) (t'.sets i)):TbAt w' F tt bk b' t':=
 ⟨h.box.touch k h.ne1,hb,by rw [hn,hno];exact(k.block _ h.map.lt (fun e=>h.ne3 e.symm)).trans h.map,hw,by rw [hn];exact hs,hp,h.fb,by rw [hn];exact h.fn,h.ft,h.ne1,by rw [hn];exact h.ne2,by rw [hn];exact h.ne3⟩
theorem TbAt.sets_turn(h:TbAt w F tt bk b t)(k:Touch (fun k=>k=bk) w w'):∀i,i<8→SetR w' (TF F bk b.nt) (b.st i) (t.sets i):=fun i hi=>
 (h.sets i hi).moved ⟨k.mono (fun _ e=> .inr (.inl e)),fun _ hk=> .inl hk⟩
theorem tabNone(h:TbAt w F tt bk b t):Calls Tryz.prog 99 #[.pointer (some ⟨tt,0,none⟩)] w fun e w'=>e= .returned (.bool false)∧w=w':=by
 have c:=h.box.cell 0
 simp only [List.getElem?_cons_zero]at c
 clear h
 go_enter Tryz.func99,Tryz.ntmps99
 go_wp2
 go_ret
 exact⟨rfl,rfl⟩
theorem tabAt(h:TbAt w F tt bk b t)(id:Int):Calls Tryz.prog 61 #[.pointer (some ⟨tt,0,none⟩),.int .i64 id] w fun e w'=>e= .returned (atV t.wt id)∧w=w':=by
 have c:=h.box.cell 0
 simp only [List.getElem?_cons_zero]at c
 have HN:=Lib.hid (tabNone h)
 have HA:=Lib.hid (watchAt h.book id)
 rw [h.wt]at HA
 obtain⟨u,v,hV⟩:∃u v,atV t.wt id= .tuple #[u,v]:=by
  unfold atV
  split
  ·exact⟨_,_,rfl⟩
  ·exact⟨_,_,rfl⟩
 rw [hV]at HA⊢
 clear h hV
 go_enter Tryz.func61,Tryz.ntmps61
 go_wp2_with fail
 refine HN.out.mono ?_
 rintro e w1⟨rfl,rfl⟩
 go_wp2_with fail
 refine HA.out.mono ?_
 rintro e w1⟨rfl,rfl⟩
 go_wp2_with fail
 go_ret2
 exact⟨rfl,rfl⟩
def beginT(t:Tb)(i:Nat)(x:UInt64):Tb:={t with wt:=setW t.wt i x true,sets:=updF t.sets i []}
def endT(t:Tb)(i:Nat):Tb:={t with wt:=setW t.wt i 0 false,sets:=updF t.sets i []}
theorem tabBegin(h:TbAt w F tt bk b t){i:Nat}(ho:openW t.wt=some i)(hm:b.many<16)(x:UInt64):
 Calls Tryz.prog 56 #[.pointer (some ⟨tt,0,none⟩),.int .u64 (x.toNat:Int)] w fun e w'=>e= .returned (.tuple #[.int .i64 (i:Int),.int .i64 0])∧
  ∃b',b'.many=b.many+1∧b'.nt=b.nt∧b'.st i= .slice none 0 0∧TbAt w' F tt bk b' (beginT t i x)∧Touch (fun k=>k=bk) w w':=by
 have c:=h.box.cell 0
 simp only [List.getElem?_cons_zero]at c
 have hi:=(openW_some ho).1
 have bi:(i:Int)<8:=by omega
 have HN:=Lib.hid (tabNone h)
 have HA:=Lib.hid (watchOpen h.book h.pile (by rw [h.wt];exact ho) hm x)
 have HH:=Lib.hid h
 clear h ho
 go_enter Tryz.func56,Tryz.ntmps56
 go_wp2_with fail
 refine HN.out.mono ?_
 rintro e w1⟨rfl,rfl⟩
 go_wp2_with fail
 refine HA.out.mono ?_
 rintro e w1⟨rfl,b1,hO,hb1,ht1⟩
 replace c:=(HH.out.box.touch ht1 HH.out.ne1).cell 0
 simp only [List.getElem?_cons_zero]at c
 have cs:=hb1.cellSt i hi
 have fs:=hb1.frozen (49+i)
 have hlt:=hb1.lt
 have HB:=Lib.hid hb1
 have HO:=Lib.hid hO
 have HT:=Lib.hid ht1
 clear HA HN hb1 hO ht1
 go_wp2_with fail
 go_ret2
 have k2:Touch (fun k=>k=bk) w (w1.setCell ⟨bk,49+i,none⟩ (.slice none 0 0)):=HT.out.setCell (p:=⟨bk,49+i,none⟩) (.inl rfl) _
 refine⟨rfl,{b1 with st:=fun k=>if k=i then .slice none 0 0 else b1.st k},HO.out.many,HO.out.nt,if_pos rfl,HH.out.turn k2 (HB.out.setSt i hi _) HO.out.nt ?_ rfl ⟨HO.out.pile.heap,HO.out.pile.ids,HO.out.pile.has,HO.out.pile.len⟩ ?_,k2⟩
 ·show({ats:=b1.ats,ops:=b1.ops}:Wt)={ats:=updF t.wt.ats i x,ops:=updF t.wt.ops i true}
  rw [HO.out.ats,HO.out.ops,←HH.out.wt];rfl
 ·intro j hj
  show SetR _ _ (if j=i then _ else b1.st j) (if j=i then []else t.sets j)
  by_cases e:j=i
  ·rw [if_pos e,if_pos e];exact SetR.nil
  ·rw [if_neg e,if_neg e,HO.out.st];exact HH.out.sets_turn k2 j hj
theorem tabEnd(h:TbAt w F tt bk b t){i:Nat}(hi:i<8)(ho:t.wt.ops i=true):
 Calls Tryz.prog 67 #[.pointer (some ⟨tt,0,none⟩),.int .i64 (i:Int)] w fun e w'=>e= .returned (.int .i64 0)∧
  ∃b',b'.many=b.many∧b'.nt=b.nt∧TbAt w' F tt bk b' (endT t i)∧Touch (fun k=>k=bk) w w':=by
 have c:=h.box.cell 0
 simp only [List.getElem?_cons_zero]at c
 have bi:(i:Int)<8:=by omega
 have HN:=Lib.hid (tabNone h)
 have HA:=Lib.hid (watchClose h.book h.pile hi (by have:=h.wt;unfold Bk.wt at this;rw [←this]at ho;exact ho))
 have HH:=Lib.hid h
 clear h ho
 go_enter Tryz.func67,Tryz.ntmps67
 go_wp2_with fail
 refine HN.out.mono ?_
 rintro e w1⟨rfl,rfl⟩
 go_wp2_with fail
 refine HA.out.mono ?_
 rintro e w1⟨rfl,b1,hO,hb1,ht1⟩
 replace c:=(HH.out.box.touch ht1 HH.out.ne1).cell 0
 simp only [List.getElem?_cons_zero]at c
 have cs:=hb1.cellSt i hi
 have fs:=hb1.frozen (49+i)
 have hlt:=hb1.lt
 have HB:=Lib.hid hb1
 have HO:=Lib.hid hO
 have HT:=Lib.hid ht1
 clear HA HN hb1 hO ht1
 go_wp2_with fail
 go_ret
 have k2:Touch (fun k=>k=bk) w (w1.setCell ⟨bk,49+i,none⟩ (.slice none 0 0)):=HT.out.setCell (p:=⟨bk,49+i,none⟩) (.inl rfl) _
 refine⟨rfl,{b1 with st:=fun k=>if k=i then .slice none 0 0 else b1.st k},HO.out.many,HO.out.nt,HH.out.turn k2 (HB.out.setSt i hi _) HO.out.nt ?_ rfl ⟨HO.out.pile.heap,HO.out.pile.ids,HO.out.pile.has,HO.out.pile.len⟩ ?_,k2⟩
 ·show({ats:=b1.ats,ops:=b1.ops}:Wt)={ats:=updF t.wt.ats i 0,ops:=updF t.wt.ops i false}
  rw [HO.out.ats,HO.out.ops,←HH.out.wt];rfl
 ·intro j hj
  show SetR _ _ (if j=i then _ else b1.st j) (if j=i then []else t.sets j)
  by_cases e:j=i
  ·rw [if_pos e,if_pos e];exact SetR.nil
  ·rw [if_neg e,if_neg e,HO.out.st];exact HH.out.sets_turn k2 j hj
theorem tabLeast(h:TbAt w F tt bk b t)(x:UInt64):
 Calls Tryz.prog 69 #[.pointer (some ⟨tt,0,none⟩),.int .u64 (x.toNat:Int)] w fun e w'=>e= .returned (.int .u64 ((leastW t.wt x).toNat:Int))∧
  ∃b',b'.many≤b.many∧b'.nt=b.nt∧TbAt w' F tt bk b' t∧Touch (fun k=>k=bk) w w':=by
 have c:=h.box.cell 0
 simp only [List.getElem?_cons_zero]at c
 have HN:=Lib.hid (tabNone h)
 have HA:=Lib.hid (watchLeast h.book h.pile x)
 rw [h.wt]at HA
 have HH:=Lib.hid h
 clear h
 go_enter Tryz.func69,Tryz.ntmps69
 go_wp2_with fail
 refine HN.out.mono ?_
 rintro e w1⟨rfl,rfl⟩
 go_wp2_with fail
 refine HA.out.mono ?_
 rintro e w1⟨rfl,b1,hD,hb1,ht1⟩
 go_wp2_with fail
 go_ret
 refine⟨rfl,b1,hD.many,hD.nt,HH.out.turn ht1 hb1 hD.nt ?_ rfl hD.pile ?_,ht1⟩
 ·rw [←HH.out.wt];unfold Bk.wt;rw [hD.ats,hD.ops]
 ·intro j hj;rw [hD.st];exact HH.out.sets_turn ht1 j hj
end
theorem Tryz.wrTyK:RowTyK Tryz.prog 45 94 (.agg #[.string ⟨#[]⟩,.string ⟨#[]⟩,.bool false]) 3 40:=⟨Tryz.underlying45,by kernel_rfl,rfl⟩
def wrV(x:Wr):Value:= .agg #[.string x.key,.string x.text,.bool x.gone]
set_option maxHeartbeats 2000000 in
theorem wsetRight(x:Wr)(w:World)(h1:x.key.size≤4294967296)(h2:x.text.size≤4294967296):Calls Tryz.prog 89 #[wrV x] w fun e w'=>e= .returned (.bool (rightWr x))∧Below w.heap.size w w':=by
 obtain⟨ky,tx,g⟩:=x
 simp only [wrV]at h1 h2⊢
 obtain⟨W,hW⟩:∃W,W=w.alloc (.cells #[.string ky,.string tx,.bool g] 94):=⟨_,rfl⟩
 have B:Blk W w.heap.size 94 [.string ky,.string tx,.bool g]:=hW▸heap_alloc_new _ _
 have hb:Below w.heap.size w W:=hW▸(Below.refl _ _).alloc (Nat.le_refl _) _
 have y0:=B.cell 0
 have y1:=B.cell 1
 have y2:=B.cell 2
 simp only [List.getElem?_cons_zero,List.getElem?_cons_succ]at y0 y1 y2
 have HB:=Lib.hid hb
 rw [hW]at y0 y1 y2 HB
 have e4:=empty_list tx
 have E4:=Lib.hid e4
 clear B hb hW e4
 by_cases hk:16<ky.size
 ·have t1:decide ((16:Int)<(ky.size:Int))=true:=decide_eq_true (by omega)
  have HV:Hid (rightWr ⟨ky,tx,g⟩=false):=Lib.hid (by
   unfold rightWr
   rw [show decide (ky.size≤16)=false from decide_eq_false (by omega)];rfl)
  clear hk
  go_enter Tryz.func89,Tryz.ntmps89
  go_wp2_with fail
  go_ret
  exact⟨by rw [HV.out];rfl,HB.out⟩
 ·have t1:decide ((16:Int)<(ky.size:Int))=false:=decide_eq_false (by omega)
  by_cases ht:40<tx.size
  ·have t2:decide ((40:Int)<(tx.size:Int))=true:=decide_eq_true (by omega)
   have HV:Hid (rightWr ⟨ky,tx,g⟩=false):=Lib.hid (by
    unfold rightWr
    rw [show decide (tx.size≤40)=false from decide_eq_false (by omega),Bool.and_false];rfl)
   clear hk ht
   go_enter Tryz.func89,Tryz.ntmps89
   go_wp2_with fail
   go_ret
   exact⟨by rw [HV.out];rfl,HB.out⟩
  ·have t2:decide ((40:Int)<(tx.size:Int))=false:=decide_eq_false (by omega)
   have hR:Hid (rightWr ⟨ky,tx,g⟩=(!g|| (tx.toList==[]))):=Lib.hid (by
    unfold rightWr
    rw [E4.out,show decide (ky.size≤16)=true from decide_eq_true (by omega),show decide (tx.size≤40)=true from decide_eq_true (by omega)];rfl)
   clear hk ht
   cases g with
   | false=>
     go_enter Tryz.func89,Tryz.ntmps89
     go_wp2_with fail
     go_ret
     exact⟨by rw [hR.out];rfl,HB.out⟩
   | true=>
     have hie:∀l:List UInt8,(l==[])=l.isEmpty:=fun l=>by cases l<;>rfl
     rw [hie]at hR
     go_enter Tryz.func89,Tryz.ntmps89
     go_wp2_with fail
     go_ret
     exact⟨by rw [hR.out];rfl,HB.out⟩
set_option maxHeartbeats 2000000 in
theorem search0(A:Option Addr)(c:Nat)(key:ByteArray)(f:Value)(w:World):Calls Tryz.prog 159 #[.slice A 0 c,.string key,f] w fun e w'=>e= .returned (.tuple #[.int .i64 0,.bool false])∧w=w':=by
 go_enter Tryz.func159,Tryz.ntmps159
 go_wp2_with fail
 go_loopw [9,10](fun i j wr=>i= .int .i64 0∧j= .int .i64 0∧w=wr)(fun _ _ _=>0)
 case atStart=>exact⟨rfl,rfl,rfl⟩
 case round=>
  obtain⟨rfl,rfl,rfl⟩:=hrel
  go_wp2_with fail
  go_ret2
  exact⟨rfl,rfl⟩
theorem wsetFind0(A:Option Addr)(c:Nat)(key:ByteArray)(w:World):Calls Tryz.prog 101 #[.slice A 0 c,.string key] w fun e w'=>e= .returned (.tuple #[.int .i64 0,.bool false])∧w=w':=by
 have HS:=Lib.hid (search0 A c key (.func (.func 108) #[] #[]) w)
 go_enter Tryz.func101,Tryz.ntmps101
 go_wp2_with fail
 refine HS.out.mono ?_
 rintro e w1⟨rfl,rfl⟩
 go_wp2_with fail
 go_ret2
 exact⟨rfl,rfl⟩
theorem one_wrCs(l:List Wr):∀u∈wrCs l,u.oneCell'=true:=by
 intro u hu
 simp only [wrCs,List.mem_flatten,List.mem_map]at hu
 obtain⟨_,⟨x,_,rfl⟩,hu⟩:=hu
 simp only [wrC,List.mem_cons,List.not_mem_nil,or_false]at hu
 rcases hu with rfl| rfl| rfl<;>rfl
theorem wrCs_app(a b:List Wr):wrCs (a++b)=wrCs a++wrCs b:=by simp [wrCs]
theorem own_empty{w:World}{base g k:Nat}{e:TypeId}(hg:Blk w g e [])(hb:base≤g):w.ownsRow base e k (.slice (some ⟨g,0,none⟩) 0 0) 0 []:=by
 refine⟨by simp,.inr ⟨g,0,#[],rfl,hb,hg,Nat.le_refl _,by decide,by simp,by simp⟩⟩
theorem own_setR{w:World}{G:Nat→Prop}{base n:Nat}{v:Value}{s:List Wr}(h:w.ownsRow base 94 3 v n (wrCs s))(hn:s.length=n)(hG:∀b,base≤b→b<w.heap.size→¬G b):SetR w G v s:=by
 subst hn
 obtain⟨A,c,rfl,hc,hr⟩:=own_rowk h
 refine⟨A,c,rfl,hc,hr,fun hn a ea=> ?_⟩
 subst ea
 rcases h.2 with⟨h1,_⟩| ⟨g',cap,cur,h1,h2,h3,_⟩
 ·simp only [Value.slice.injEq]at h1;exact absurd h1.1 (by simp)
 ·simp only [Value.slice.injEq,Option.some.injEq]at h1
  rw [h1.1]
  exact hG _ h2 (Array.getElem?_eq_some_iff.1 h3).1
set_option maxHeartbeats 2000000 in
theorem wsetClone{w:World}{G:Nat→Prop}{v:Value}{s:List Wr}(h:SetR w G v s)(hs:s.length≤100000):
 Calls Tryz.prog 50 #[v] w fun e w'=>∃u,e= .returned u∧w'.ownsRow w.heap.size 94 3 u s.length (wrCs s)∧Below w.heap.size w w':=by
 obtain⟨A,c,rfl,hc,hr,hG⟩:=h
 have q1:=fun W=>Lib.run_eql_slice_nil (P:=Tryz.prog) W 45 94 A s.length c 0 0 Tryz.underlying45
 cases A with
 | none=>
   have hs0:s=[]:=by
    by_cases e:s=[]
    ·exact e
    ·obtain⟨b,off,e2,_⟩:=hr.2 (by have:=List.length_pos_iff.2 e;omega)
     cases e2
   subst hs0
   simp only [List.length_nil]at q1
   clear hr hG
   go_enter Tryz.func50,Tryz.ntmps50
   go_wp2_with fail
   go_ret
   exact⟨_,rfl,⟨by simp [wrCs],.inl ⟨rfl,rfl⟩⟩,Below.refl _ _⟩
 | some a=>
   have HR:=Lib.hid hr
   have HC:=Lib.hid hs
   have hb0:Below w.heap.size w (w.alloc (.cells #[] 94)):=(Below.refl _ _).alloc (Nat.le_refl _) _
   have HB0:=Lib.hid hb0
   have HO:Hid ((w.alloc (.cells #[] 94)).ownsRow w.heap.size 94 3 (.slice (some ⟨w.heap.size,0,none⟩) 0 0) 0 []):=Lib.hid (own_empty (heap_alloc_new _ _) (Nat.le_refl _))
   clear hb0 hr hG hs
   go_enter Tryz.func50,Tryz.ntmps50
   go_wp2_with(at_builtin;refine wpList_app_rows rfl (.tmp 5) (.tmp 6) 45 rfl Tryz.wrTyK (by decide) w.heap.size (.slice (some ⟨w.heap.size,0,none⟩) 0 0) 0 [] rfl HO.out (some a) s.length c (wrCs s) rfl (Rd.below HR.out HB0.out) (one_wrCs s) (by have:=HC.out;omega) (by decide) (by simp) ?_;intro v' w' hO hB hK)
   go_ret
   exact⟨_,rfl,by simpa using hO,HB0.out.trans hB⟩
set_option maxHeartbeats 4000000 in
set_option maxRecDepth 100000 in
theorem wsetPut0(x:Wr)(hx:rightWr x=true)(w:World):Calls Tryz.prog 174 #[.slice none 0 0,wrV x] w fun e w'=>∃u,e= .returned (.tuple #[u,.int .i64 0])∧
 w'.ownsRow w.heap.size 94 3 u 1 (wrCs [x])∧Below w.heap.size w w':=by
 have hsz:x.key.size≤16∧x.text.size≤40:=by
  unfold rightWr at hx
  simp only [Bool.and_eq_true,decide_eq_true_eq]at hx
  exact hx.1
 obtain⟨W,hW⟩:∃W,W=w.alloc (.cells #[.string x.key,.string x.text,.bool x.gone] 94):=⟨_,rfl⟩
 have B:Blk W w.heap.size 94 [.string x.key,.string x.text,.bool x.gone]:=hW▸heap_alloc_new _ _
 have hb:Below w.heap.size w W:=hW▸(Below.refl _ _).alloc (Nat.le_refl _) _
 have HR:=Lib.hid (fun W=>wsetRight x W (by omega) (by omega))
 rw [hx]at HR
 have HF:=Lib.hid (fun W=>wsetFind0 none 0 x.key W)
 have HB:=Lib.hid B
 have Hb:=Lib.hid hb
 have HW:=Lib.hid hW
 have hmk:∀W:World,(Instr.makeSlice 45 (.int .i64 0) (.int .i64 1)).run Tryz.prog W= .ok (.slice (some ⟨W.heap.size,0,none⟩) 0 1) (W.alloc (.cells (madeCells (Value.agg #[.string ⟨#[]⟩,.string ⟨#[]⟩,.bool false]).cells (1*3)) 94)):=fun W=>by
  obtain⟨i0,hi,hz0,hz1,hz2⟩:=info_parts Tryz.wrTyK.hi
  have:=run_make (P:=Tryz.prog) (w:=W) 45 94 i0 _ Tryz.underlying45 hi hz0 .i64 .i64 0 1 (by omega) (by omega) (by rw [hz2];omega) (by omega)
  rw [hz1]at this
  simpa using this
 obtain⟨zc,hz⟩:∃zc,madeCells (Value.agg #[.string ⟨#[]⟩,.string ⟨#[]⟩,.bool false]).cells (1*3)=zc:=⟨_,rfl⟩
 have hzs:zc.size=3:=by rw [←hz];simp [madeCells]
 rw [hz]at hmk
 have y0:=B.cell 0
 have y1:=B.cell 1
 have y2:=B.cell 2
 simp only [List.getElem?_cons_zero,List.getElem?_cons_succ]at y0 y1 y2
 rw [hW]at y0 y1 y2
 unfold wrV at HR⊢
 clear hx hsz hz B hb hW
 go_enter Tryz.func174,Tryz.ntmps174
 go_wp2_with fail
 rw [←HW.out]
 refine(HR.out _).mono ?_
 rintro e w1⟨rfl,hb1⟩
 have B1:=HB.out.below hb1 HB.out.lt
 have Hb1:=Lib.hid (Hb.out.trans (hb1.mono Hb.out.size))
 replace y0:=B1.cell 0
 replace y1:=B1.cell 1
 replace y2:=B1.cell 2
 simp only [List.getElem?_cons_zero,List.getElem?_cons_succ]at y0 y1 y2
 have HB1:=Lib.hid B1
 clear HR hb1 B1 HB Hb
 go_wp2_with fail
 refine(HF.out _).mono ?_
 rintro e w2⟨rfl,rfl⟩
 have hm1:=hmk w1
 obtain⟨W2,hW2⟩:∃W2,W2=w1.alloc (.cells zc 94):=⟨_,rfl⟩
 rw [←hW2]at hm1
 have hO2:W2.ownsRow w.heap.size 94 3 (.slice (some ⟨w1.heap.size,0,none⟩) 0 1) 0 []:=⟨by simp,.inr ⟨w1.heap.size,1,zc,rfl,Hb1.out.size,hW2▸heap_alloc_new _ _,by omega,by decide,by rw [hzs],by simp⟩⟩
 have hb2:Below w1.heap.size w1 W2:=hW2▸(Below.refl _ _).alloc (Nat.le_refl _) _
 have HB2:=Lib.hid (HB1.out.below hb2 HB1.out.lt)
 have Hb2:=Lib.hid (Hb1.out.trans (hb2.mono Hb1.out.size))
 have HO2:=Lib.hid hO2
 have HLT:Hid (w.heap.size<w1.heap.size):=Lib.hid HB1.out.lt
 replace y0:=HB2.out.cell 0
 replace y1:=HB2.out.cell 1
 replace y2:=HB2.out.cell 2
 simp only [List.getElem?_cons_zero,List.getElem?_cons_succ]at y0 y1 y2
 clear HF hmk hW2 hO2 hb2
 go_wp2_with(at_builtin;first
  | (refine wpList_app_one rfl (.tmp 44) (.tmp 46) 45 rfl Tryz.wrTyK W2 w.heap.size (.slice (some ⟨w1.heap.size,0,none⟩) 0 1) 0 [] [.string x.key,.string x.text,.bool x.gone] rfl HO2.out rfl W2.heap.size 1 rfl rfl rfl (by decide) (by intro u hu;simp at hu;rcases hu with rfl| rfl| rfl<;>rfl) (by omega) (by decide) Hb2.out.size ?_
     intro g4 c4 w4 hO4 hB4 hK4 hg4
     have HO4:=Lib.hid hO4
     have Hb4:=Lib.hid (Hb2.out.trans hB4)
     clear hO4 hB4 hK4 hg4)
  | (refine wpList_app_rows rfl (.tmp 48) (.tmp 51) 45 rfl Tryz.wrTyK (by decide) w.heap.size (.slice (some ⟨g4,0,none⟩) (0+1) c4) (0+1) ([]++[.string x.key,.string x.text,.bool x.gone]) rfl HO4.out none 0 0 [] rfl Rd.nil (by simp) (by omega) (by decide) Hb4.out.size ?_
     intro v5 w5 hO5 hB5 hK5
     have HO5:=Lib.hid hO5
     have Hb5:=Lib.hid (Hb4.out.trans hB5)
     clear hO5 hB5 hK5))
 go_ret2
 exact⟨v5,rfl,by simpa [wrCs,wrC]using HO5.out,Hb5.out⟩
end Go.Proofs.YtbkpiojejmhfcaaGreatDoor
