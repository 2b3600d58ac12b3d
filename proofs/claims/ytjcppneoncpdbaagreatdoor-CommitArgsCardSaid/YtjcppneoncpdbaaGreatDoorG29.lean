import Derived.Test.YtjcppneoncpdbaaGreatDoorG11
import Derived.Test.YtjcppneoncpdbaaGreatDoorG13
import Derived.Test.YtjcppneoncpdbaaGreatDoorG25
import Derived.Test.YtjcppneoncpdbaaGreatDoorG26
import Derived.Test.YtjcppneoncpdbaaGreatDoorG28
namespace Go.Proofs.YtjcppneoncpdbaaGreatDoor
open Go.RowKit
def wV(d p x:Nat):Value:= .agg #[.pointer (some ⟨d,0,none⟩),.pointer (some ⟨p,0,none⟩),.pointer (some ⟨x,0,none⟩)]
theorem survey_new(sh:Sh):surveyP (st0 sh)=some ([],[]):=by
 unfold surveyP
 rw [if_pos (show(st0 sh).ws 9=0 from format_above sh 9 (by decide))]
set_option maxHeartbeats 4000000 in
theorem begin18{w:World}{L:Nat}{sh:Sh}(hL0:0<L)(hL:L≤1024)(hs:shapeOf L=some sh)(hT:Tabs w):Calls Tryz.prog 10 #[.int .i64 (L:Int)] w fun e w'=>∃d p x F,e= .returned (.tuple #[wV d p x,.bool true])∧
 Ix w' x d p L (st0 sh) F∧Below w.heap.size w w'∧(∀b,F b→w.heap.size≤b)∧w.heap.size≤x:=by
 obtain⟨W0,hW0⟩:∃W0,W0=w.alloc (.cells #[.pointer none,.pointer none,.pointer none] 31):=⟨_,rfl⟩
 have hb0:Below w.heap.size w W0:=hW0▸(Below.refl _ _).alloc (Nat.le_refl _) _
 have B0:Blk W0 w.heap.size 31 [.pointer none,.pointer none,.pointer none]:=hW0▸heap_alloc_new _ _
 have HB0:=Lib.hid (begin_pool hL0 hL hs (hT.below hb0))
 have Hb0:=Lib.hid hb0
 have HBk:=Lib.hid B0
 have HW0:=Lib.hid hW0
 have HTl:=Lib.hid hT.lt
 clear hT hs hb0 B0 hW0
 go_enter Tryz.func10,Tryz.ntmps10
 go_wp2_with fail
 rw [←HW0.out]
 refine HB0.out.mono ?_
 rintro e w1⟨d,p,F,rfl,hs1,hb1,hF1⟩
 have HO:=Lib.hid (open_index hs1)
 have HB1:=Lib.hid (Hb0.out.trans (hb1.mono Hb0.out.size))
 have HBk1:=Lib.hid (HBk.out.below hb1 HBk.out.lt)
 have HF1:Hid (∀b,F b→w.heap.size<b):=Lib.hid (fun b hb=>by have:=hF1 b hb;have:=HBk.out.lt;omega)
 clear HB0 hs1 hb1 hF1
 go_wp2_with fail
 refine HO.out.mono ?_
 rintro e w2⟨hb2,hp2⟩
 rw [survey_new]at hp2
 obtain⟨x,rfl,hx2,hxw⟩:=hp2
 have hB2:=HBk1.out.below hb2 HBk1.out.lt
 have HB2:=Lib.hid (HB1.out.trans (hb2.mono HB1.out.size))
 have HX2:=Lib.hid hx2
 have hxw':w.heap.size<x:=Nat.lt_of_lt_of_le HBk1.out.lt hxw
 have f0:=hB2.frozen 0
 have f1:=hB2.frozen 1
 have f2:=hB2.frozen 2
 have c0:=hB2.cell 0
 have c1:=hB2.cell 1
 have c2:=hB2.cell 2
 simp only [List.getElem?_cons_zero,List.getElem?_cons_succ]at c0 c1 c2
 have HBk2:=Lib.hid hB2
 clear HO hb2 hx2 hxw hB2
 go_wp2_with fail
 have K:=((HBk2.out.set_ 0 (.pointer (some ⟨d,0,none⟩))).set_ 1 (.pointer (some ⟨p,0,none⟩))).set_ 2 (.pointer (some ⟨x,0,none⟩))
 have q0:=K.cell 0
 have q1:=K.cell 1
 have q2:=K.cell 2
 simp only [List.set_cons_zero,List.set_cons_succ,List.getElem?_cons_zero,List.getElem?_cons_succ]at q0 q1 q2
 have t3:Touch (fun k=>k=w.heap.size) w2 (((w2.setCell ⟨w.heap.size,0,none⟩ (.pointer (some ⟨d,0,none⟩))).setCell ⟨w.heap.size,1,none⟩ (.pointer (some ⟨p,0,none⟩))).setCell ⟨w.heap.size,2,none⟩ (.pointer (some ⟨x,0,none⟩))):=
  (((Touch.refl (fun k=>k=w.heap.size) w2).setCell (p:=⟨w.heap.size,0,none⟩) (.inl rfl) _).setCell (p:=⟨w.heap.size,1,none⟩) (.inl rfl) _).setCell (p:=⟨w.heap.size,2,none⟩) (.inl rfl) _
 refine bodyPost_ret (v:= .tuple #[wV d p x,.bool true]) (by simp [results,Tryz.results10,go_sem,q0,q1,q2,wV]) rfl ?_
 refine⟨d,p,x,F,rfl,⟨HX2.out.sys.keep t3 (fun b hb e=>by have:=HF1.out b hb;omega) (by have:=HTl.out;omega) (by have:=HTl.out;omega),HX2.out.box.touch t3 (by show x≠_;omega),HX2.out.out⟩,?_,fun b hb=>Nat.le_of_lt (HF1.out b hb),Nat.le_of_lt hxw'⟩
 exact((HB2.out.setCell (p:=⟨w.heap.size,0,none⟩) (Nat.le_refl _) _).setCell (p:=⟨w.heap.size,1,none⟩) (Nat.le_refl _) _).setCell (p:=⟨w.heap.size,2,none⟩) (Nat.le_refl _) _
theorem slot18{len:Nat→Nat}{w:World}{x d p L:Nat}{s:St}{F:Nat→Prop}(h:SysL len w d p L s F):Calls Tryz.prog 21 #[wV d p x] w fun e w'=>e= .returned (.int .u64 ((s.ws 8).toNat:Int))∧Below w.heap.size w w':=by
 obtain⟨W0,hW0⟩:∃W0,W0=w.alloc (.cells #[.pointer (some ⟨d,0,none⟩),.pointer (some ⟨p,0,none⟩),.pointer (some ⟨x,0,none⟩)] 31):=⟨_,rfl⟩
 have hb0:Below w.heap.size w W0:=hW0▸(Below.refl _ _).alloc (Nat.le_refl _) _
 have B0:Blk W0 w.heap.size 31 [.pointer (some ⟨d,0,none⟩),.pointer (some ⟨p,0,none⟩),.pointer (some ⟨x,0,none⟩)]:=hW0▸heap_alloc_new _ _
 have c0:=B0.cell 0
 simp only [List.getElem?_cons_zero]at c0
 have hL2:=h.pos.2.2.1.fits
 have hL3:=h.pos.2.2.1.tfits
 have HL:=Lib.hid ((h.below hb0).load 8 (by omega))
 rw [show((8*8:Nat):Int)=64 from rfl]at HL
 have HB0:=Lib.hid hb0
 have HW0:=Lib.hid hW0
 clear h hb0 hW0 B0 hL2 hL3
 unfold wV
 go_enter Tryz.func21,Tryz.ntmps21
 go_wp2_with fail
 rw [←HW0.out]
 go_wp2_with fail
 refine HL.out.mono ?_
 rintro e w1⟨rfl,rfl⟩
 go_wp2_with fail
 go_ret
 exact⟨rfl,HB0.out⟩
structure LkV where
 A:Option Addr
 c:Nat
 l:List Lk
def lkV(y:LkV):Value:= .slice y.A y.l.length y.c
def lkE(m:List (ByteArray×LkV)):List (ByteArray×Value):=m.map fun q=>(q.1,lkV q.2)
theorem lkE_app(m:List (ByteArray×LkV))(q:ByteArray×LkV):lkE (m++[q])=lkE m++[(q.1,lkV q.2)]:=by simp [lkE]
structure LkMap(w:World)(mb base:Nat)(m:List (ByteArray×LkV)):Prop where
 map:TxMap w mb (lkE m)
 rows:∀q∈m,LkR w q.2.A q.2.l∧q.2.l.length≤q.2.c∧∀a,q.2.A=some a→base≤a.block∧a.block<w.heap.size∧a.block≠mb
theorem LkMap.below{w w':World}{mb base:Nat}{m:List (ByteArray×LkV)}(h:LkMap w mb base m)(k:Below w.heap.size w w'):LkMap w' mb base m:=
 ⟨h.map.below k,fun q hq=>⟨(h.rows q hq).1.below k,(h.rows q hq).2.1,fun a ha=>⟨((h.rows q hq).2.2 a ha).1,Nat.lt_of_lt_of_le ((h.rows q hq).2.2 a ha).2.1 k.size,((h.rows q hq).2.2 a ha).2.2⟩⟩⟩
set_option maxHeartbeats 8000000 in
set_option maxRecDepth 100000 in
theorem lists18{w:World}{x d p L:Nat}{s:St}{F:Nat→Prop}(h:Ix w x d p L s F){its:List It}(hits:allK s=some its)(lk:It→List Lk)(hlk:∀it∈its,listP s it.v=some (lk it))(hkeys:its.Pairwise (fun a b=>a.k≠b.k)):
 Calls Tryz.prog 20 #[wV d p x] w fun e w'=>∃mb m,e= .returned (.tuple #[.map (some mb),.bool true])∧LkMap w' mb w.heap.size m∧w.heap.size≤mb∧m.map (fun q=>(q.1,q.2.l))=its.map (fun it=>(it.k,lk it))∧Below w.heap.size w w':=by
 obtain⟨W0,hW0⟩:∃W0,W0=w.alloc (.cells #[.pointer (some ⟨d,0,none⟩),.pointer (some ⟨p,0,none⟩),.pointer (some ⟨x,0,none⟩)] 31):=⟨_,rfl⟩
 have hb0:Below w.heap.size w W0:=hW0▸(Below.refl _ _).alloc (Nat.le_refl _) _
 have B0:Blk W0 w.heap.size 31 [.pointer (some ⟨d,0,none⟩),.pointer (some ⟨p,0,none⟩),.pointer (some ⟨x,0,none⟩)]:=hW0▸heap_alloc_new _ _
 have c2:=B0.cell 2
 simp only [List.getElem?_cons_zero,List.getElem?_cons_succ]at c2
 have HAl:=allK_own (h.below hb0)
 rw [hits]at HAl
 have HAl:=Lib.hid HAl
 have HX0:=Lib.hid (h.below hb0)
 have HB0:=Lib.hid hb0
 have HW0:=Lib.hid hW0
 have HC:Hid (∀W',Touch (fun b=>W0.heap.size≤b) W0 W'→W'.cell? ⟨w.heap.size,0,none⟩=some (.pointer (some ⟨d,0,none⟩))∧W'.cell? ⟨w.heap.size,1,none⟩=some (.pointer (some ⟨p,0,none⟩))):=Lib.hid (fun W' k=>⟨(B0.touch k (by have:=B0.lt;omega)).cell 0,(B0.touch k (by have:=B0.lt;omega)).cell 1⟩)
 have hFl:=h.sys.lt
 have htl:=h.sys.tabs.lt
 have hsz0:W0.heap.size=w.heap.size+1:=by rw [hW0];simp
 have HL:=Lib.hid (fun W'(k:Touch (fun b=>W0.heap.size≤b) W0 W')(first:UInt64)=>chainList (HX0.out.sys.keep k (fun b hb hn=>by have:=hFl b hb;omega) (by omega) (by omega)) first)
 have HLk:=Lib.hid hlk
 have HKeys:=Lib.hid hkeys
 have mm:=fun W=>run_makeMap (P:=Tryz.prog) 55 W
 clear h hb0 hW0 B0 hits hlk hkeys hFl htl
 unfold wV
 go_enter Tryz.func20,Tryz.ntmps20
 go_wp2_with fail
 rw [←HW0.out]
 go_wp2_with fail
 refine HAl.out.mono ?_
 rintro e w1⟨hb1,A,c,rfl,hc,hr,hlen,hA⟩
 obtain⟨w2,hw2⟩:∃w2,w2=w1.alloc (.map #[] 0):=⟨_,rfl⟩
 have hb2:Below w1.heap.size w1 w2:=hw2▸(Below.refl _ _).alloc (Nat.le_refl _) _
 have hm2:TxMap w2 w1.heap.size []:=hw2▸heap_alloc_new _ _
 have HB2:=Lib.hid (hb1.trans (hb2.mono hb1.size))
 have HR1:=Lib.hid hr
 have HB12:=Lib.hid hb2
 have HM2:Hid (LkMap w2 w1.heap.size w.heap.size []):=Lib.hid ⟨hm2,fun q hq=>nomatch hq⟩
 have HW2:=Lib.hid hw2
 have Hmb:Hid (w.heap.size≤w1.heap.size):=Lib.hid (Nat.le_trans HB0.out.size hb1.size)
 obtain⟨mb,hmb⟩:∃mb,mb=w1.heap.size:=⟨_,rfl⟩
 have Hmb0:Hid (W0.heap.size≤mb):=Lib.hid (hmb▸hb1.size)
 have Hmb1:Hid (w1.heap.size≤mb):=Lib.hid (Nat.le_of_eq hmb.symm)
 rw [←hmb]at HM2 Hmb
 clear HAl hb1 hr hb2 hm2 hw2
 go_wp2_with fail
 rw [←HW2.out]
 try rw [←hmb]
 clear hmb
 go_wp2_with fail
 go_loopw [22](fun i wr=>∃(k:Nat)(m:List (ByteArray×LkV)),k≤its.length∧i= .int .i64 (k:Nat)∧LkMap wr mb w.heap.size m∧m.map (fun q=>(q.1,q.2.l))=(its.take k).map (fun it=>(it.k,lk it))∧Touch (fun b=>b=mb) w2 wr)(fun i _=>its.length- (intOf i).toNat)
 case atStart=>exact⟨0,[],Nat.zero_le _,rfl,HM2.out,rfl,Touch.refl _ _⟩
 case round=>
  obtain⟨k,m,hk,rfl,hm,hmm,ht⟩:=hrel
  have HM:=Lib.hid hm
  have HMm:=Lib.hid hmm
  have HT:=Lib.hid ht
  have HT0:Hid (Touch (fun b=>W0.heap.size≤b) W0 wr):=Lib.hid ((Touch.of_below HB2.out).trans (ht.mono (fun b hb=>by subst hb;exact Hmb0.out)) (fun _ e=> .inl e))
  clear hm hmm ht HM2
  by_cases hlt:k<its.length
  ·obtain⟨b,off,rfl,hbw,q1,q2⟩:=HR1.out.at k hlt
   have hbn:b≠mb:=by have:=Hmb1.out;omega
   have hq:∀i,wr.cell? ⟨b,i,none⟩=w1.cell? ⟨b,i,none⟩:=fun i=>World.cell?_of_block (w:=w1) ((HT.out.block b (Nat.lt_of_lt_of_le hbw HB12.out.size) hbn).trans (HB12.out.block b hbw))
   rw [←hq]at q1 q2
   have hx1:(k:Int)<(its.length:Int):=by omega
   have hx2:decide ((k:Int)<(its.length:Int))=true:=decide_eq_true hx1
   have hx5:decide (k<its.length)=true:=decide_eq_true hlt
   have hwk:IntKind.i64.wrap ((k:Int)+1)=(k:Int)+1:=IntWalk.i64_in _ (by omega)
   have HNk:Hid (∀q∈lkE m,q.1≠its[k].k):=Lib.hid (fun q hq e=>by
    obtain⟨r,hr,rfl⟩:=List.mem_map.1 hq
    have h1:(r.1,r.2.l)∈(its.take k).map (fun it=>(it.k,lk it)):=HMm.out▸List.mem_map.2 ⟨r,hr,rfl⟩
    obtain⟨it,h2,h3⟩:=List.mem_map.1 h1
    obtain⟨j,hj,rfl⟩:=List.getElem_of_mem h2
    have hjk:j<k:=by simp at hj;omega
    rw [List.getElem_take]at h3
    have h4:=(List.pairwise_iff_getElem.1 HKeys.out) j k (by omega) hlt hjk
    injection h3 with h3 _
    exact h4 (h3.trans e))
   have HLi:=HLk.out its[k] (List.getElem_mem hlt)
   have HTk:Hid ((its.take (k+1)).map (fun it=>(it.k,lk it))=(its.take k).map (fun it=>(it.k,lk it))++[(its[k].k,lk its[k])]):=Lib.hid (by rw [List.take_succ_eq_append_getElem hlt,List.map_append];rfl)
   generalize lk its[k]=li at*
   generalize its[k]=it at*
   obtain⟨w3,hw3⟩:∃w3,w3=wr.alloc (.cells #[.string it.k,.int .u64 (it.v.toNat:Int)] 126):=⟨_,rfl⟩
   have hb3:Below wr.heap.size wr w3:=hw3▸(Below.refl _ _).alloc (Nat.le_refl _) _
   have ht3:Touch (fun b=>W0.heap.size≤b) W0 w3:=HT0.out.trans (Touch.of_below hb3) (fun _ e=> .inl e)
   have B3:Blk w3 wr.heap.size 126 [.string it.k,.int .u64 (it.v.toNat:Int)]:=hw3▸heap_alloc_new _ _
   have hC3:=HC.out w3 ht3
   have HCall:=Lib.hid (HL.out w3 ht3 it.v)
   obtain⟨d0,d1⟩:=hC3
   have HB3:=Lib.hid hb3
   have HM3:=Lib.hid (HM.out.below hb3)
   have HBk3:=Lib.hid B3
   have HW3:=Lib.hid hw3
   rw [hw3]at d0 d1
   clear hw3 hb3 ht3 B3 hq
   go_wp2_with fail
   rw [←HW3.out]
   refine HCall.out.mono ?_
   rintro e w4⟨hb4,hp4⟩
   rw [HLi]at hp4
   obtain⟨_,v4,rfl,ho4⟩:=hp4
   obtain⟨A4,c4,hv4,hc4,hr4⟩:=own_lkr ho4
   have hA4:∀a,A4=some a→w3.heap.size≤a.block∧a.block<w4.heap.size:=fun a ea=>by
    rcases ho4.2 with⟨h1,_⟩| ⟨g,cap,cur,h1,h2,h3,_⟩
    ·rw [hv4,ea]at h1;cases h1
    ·rw [hv4,ea]at h1
     injection h1 with h1
     injection h1 with h1
     rw [h1];exact⟨h2,(Array.getElem?_eq_some_iff.1 h3).1⟩
   subst hv4
   have hm4:=HM3.out.below hb4
   have B4:=HBk3.out.below hb4 HBk3.out.lt
   have z0:=B4.cell 0
   simp only [List.getElem?_cons_zero]at z0
   have um:=updTx_new (P:=Tryz.prog) Tryz.underlying55 Tryz.underlying9 w4 mb (lkE m) it.k (.slice A4 li.length c4) hm4.map HNk.out
   have HM4:=Lib.hid hm4
   have HB4:=Lib.hid (HB3.out.trans (hb4.mono HB3.out.size))
   have HR4:=Lib.hid hr4
   have HA4:=Lib.hid hA4
   have HC4:=Lib.hid hc4
   have hmbl:=hm4.map.lt
   clear HCall hb4 ho4 hr4 hA4 hm4 B4 hc4 q1 q2 d0 d1
   go_wp2_with fail
   have t5:Touch (fun b=>b=mb) w4 (putMap w4 mb (txE 0 (lkE m++[(it.k,Value.slice A4 li.length c4)])).toArray (lkE m++[(it.k,Value.slice A4 li.length c4)]).length):=putMap_touch _ _ _ _
   have hsw:w.heap.size≤wr.heap.size:=Nat.le_trans (Nat.le_trans HB0.out.size HB2.out.size) HT.out.size
   have hm5:LkMap (putMap w4 mb (txE 0 (lkE m++[(it.k,Value.slice A4 li.length c4)])).toArray (lkE m++[(it.k,Value.slice A4 li.length c4)]).length) mb w.heap.size (m++[(it.k,⟨A4,c4,li⟩)]):=by
    refine⟨by rw [lkE_app];exact putMap_at _ _ _ _ hmbl,fun q hq=> ?_⟩
    have hmbw:=HM.out.map.lt
    rcases List.mem_append.1 hq with hq| hq
    ·obtain⟨g1,g2,g3⟩:=HM4.out.rows q hq
     exact⟨Rd.touch g1 t5 (fun a ha=>(g3 a ha).2.2),g2,fun a ha=>⟨(g3 a ha).1,Nat.lt_of_lt_of_le (g3 a ha).2.1 t5.size,(g3 a ha).2.2⟩⟩
    ·rw [List.mem_singleton]at hq
     subst hq
     have hlt3:=HBk3.out.lt
     exact⟨Rd.touch HR4.out t5 (fun a ha=>by have:=HA4.out a ha;show a.block≠mb;omega),HC4.out,fun a ha=>by
      have h1:=HA4.out a ha
      have h2:=t5.size
      exact⟨by omega,by omega,by omega⟩⟩
   have hle:(lkE m++[(it.k,Value.slice A4 li.length c4)]).length=(lkE m).length+1:=by simp
   rw [hle]at hm5 t5
   go_roundw
   case rel=>exact⟨k+1,m++[(it.k,⟨A4,c4,li⟩)],by omega,by go_num,hm5,by rw [List.map_append,HMm.out,HTk.out];rfl,(HT.out.trans (Touch.of_below HB4.out) (fun _ e=> .inl e)).trans t5 (fun _ e=> .inl e)⟩
   case measure=>simp [intOf];omega
  ·have hx2:decide ((k:Int)<(its.length:Int))=false:=decide_eq_false (by omega)
   have hx5:decide (k<its.length)=false:=decide_eq_false hlt
   have hkn:its.take k=its:=List.take_of_length_le (by omega)
   have HMn:Hid (m.map (fun q=>(q.1,q.2.l))=its.map (fun it=>(it.k,lk it))):=Lib.hid (by rw [HMm.out,hkn])
   have HBe:Hid (Below w.heap.size w wr):=Lib.hid ((HB0.out.trans (HB2.out.mono HB0.out.size)).trans (HT.out.below (Nat.le_trans HB0.out.size HB2.out.size) (fun b hb=>by subst hb;exact Hmb.out)))
   clear hkn
   go_wp2_with fail
   go_ret2
   exact⟨mb,m,rfl,HM.out,Hmb.out,HMn.out,HBe.out⟩
end Go.Proofs.YtjcppneoncpdbaaGreatDoor
