import Derived.Test.YtjcppneoncpdbaaGreatDoorG12
import Derived.Test.YtjcppneoncpdbaaGreatDoorG17
namespace Go.Proofs.YtjcppneoncpdbaaGreatDoor
open Go.RowKit
theorem withOk_is(x:Nd)(label:UInt8)(kid:UInt64):withOkP x label kid=withOk x label kid:=rfl
theorem set4{w W:World}{base g:Nat}{e:TypeId}{a0 a1 a2 a3:Value}(h:Blk W g e [a0,a1,a2,a3])(hb:Below base w W)(hg:base≤g)(b0 b1 b2 b3:Value):
 ∃W',W'=(((W.setCell ⟨g,0,none⟩ b0).setCell ⟨g,1,none⟩ b1).setCell ⟨g,2,none⟩ b2).setCell ⟨g,3,none⟩ b3∧Blk W' g e [b0,b1,b2,b3]∧Below base w W'∧Kept W W' (some g):=
 ⟨_,rfl,(((h.set_ 0 b0).set_ 1 b1).set_ 2 b2).set_ 3 b3,
   (((hb.setCell (p:=⟨g,0,none⟩) hg b0).setCell (p:=⟨g,1,none⟩) hg b1).setCell (p:=⟨g,2,none⟩) hg b2).setCell (p:=⟨g,3,none⟩) hg b3,
   (((Kept.set_ W g 0 b0).trans' (Kept.set_ _ g 1 b1)).trans' (Kept.set_ _ g 2 b2)).trans' (Kept.set_ _ g 3 b3)⟩
theorem own_past{w w':World}{B g k n:Nat}{e:TypeId}{v:Value}{xs:List Value}(h:w.ownsRow B e k v n xs)(kp:Kept w w' (some g))(hg:g<B):w'.ownsRow B e k v n xs:=by
 refine own_stay h kp (.inl ?_)
 rcases h.2 with⟨h1,_⟩| ⟨g',cap,cur,h1,h2,_⟩
 ·subst h1;simp [Value.ownBlock]
 ·subst h1;simp [Value.ownBlock];omega
section
variable{w w':World}{base jb x d p L:Nat}{j:Jb}{G:Nat→Prop}
theorem JobPost.of_below{r:Jb×UInt64×Int}{W:World}(hb:Below w.heap.size w W){e:Ending}(h:JobPost r base jb x d p L G W e w'):JobPost r base jb x d p L G w e w':=by
 obtain⟨h1,G',h2,h3⟩:=h
 exact⟨h1,G',h2,(Moved.of_below hb).trans h3⟩
set_option maxHeartbeats 8000000 in
set_option maxRecDepth 100000 in
theorem above_job(h:JobAt w base jb x d p L j G)(nd:Nd)(A1 A2 A3:Option Addr)(c1 c2 c3:Nat)(label:UInt8)(kid:UInt64)(e:Int)(b1:nd.pre.length≤100)(b2:nd.labels.length≤100)(b3:nd.kids.length≤100)
 (h1:Bs w A1 nd.pre.length nd.pre)(h2:Bs w A2 nd.labels.length nd.labels)(h3:Ws w A3 nd.kids.length nd.kids)(hm:j.made.length≤1000):
 Calls Tryz.prog 178 #[.pointer (some ⟨jb,0,none⟩),.agg #[.slice A1 nd.pre.length c1,.int .u64 (nd.val.toNat:Int),.slice A2 nd.labels.length c2,.slice A3 nd.kids.length c3],.int .u8 (label.toNat:Int),.int .u64 (kid.toNat:Int),.int .i64 e] w (JobPost (aboveP j nd label kid e) base jb x d p L G w):=by
 obtain⟨W,hW,e0,e1,e2,e3,hb,hs⟩:=box4 w 225 (.slice A1 nd.pre.length c1) (.int .u64 (nd.val.toNat:Int)) (.slice A2 nd.labels.length c2) (.slice A3 nd.kids.length c3)
 have B0:Blk W w.heap.size 225 [.slice A1 nd.pre.length c1,.int .u64 (nd.val.toNat:Int),.slice A2 nd.labels.length c2,.slice A3 nd.kids.length c3]:=hW▸heap_alloc_new _ _
 have HW:=Lib.hid hW
 have HJ:=Lib.hid h
 have HB:=Lib.hid hb
 by_cases he:e=0
 ·subst he
  have g1:=h1.below hb
  have g2:=h2.below hb
  have g3:=h3.below hb
  clear h1 h2 h3 h hW hb
  cases hok:withOk nd label kid with
  | false=>
    have HP:Hid (aboveP j nd label kid 0=(j,0,5)):=Lib.hid (by unfold aboveP;rw [if_neg (by simp),withOk_is,hok];rfl)
    have HN:=Lib.hid (with_no A1 A2 A3 nd.pre.length c1 nd.labels.length c2 nd.kids.length c3 nd label kid W (by omega) (by omega) (by omega) g1 g2 g3 hok)
    unfold noNode at HN
    clear hok g1 g2 g3
    go_enter Tryz.func178,Tryz.ntmps178
    go_wp2_with fail
    rw [←HW.out]
    clear HW
    refine HN.out.mono ?_
    rintro e w1⟨rfl,hb1⟩
    have B1:=B0.below hb1 B0.lt
    have HB1:=Lib.hid (HB.out.trans (hb1.mono HB.out.size))
    clear e0 e1 e2 e3 B0 hb1 HN
    obtain⟨y0,y1,y2,y3,f0,f1,f2,f3⟩:=blk4' B1
    have HBk:=Lib.hid B1
    clear B1
    go_wp2_with fail
    go_ret2
    refine⟨by rw [HP.out];rfl,G,?_,?_⟩
    ·rw [HP.out]
     obtain⟨W9,hW9, -,hb9, -⟩:=set4 HBk.out HB1.out (Nat.le_refl _) (.slice none 0 0) (.int .u64 0) (.slice none 0 0) (.slice none 0 0)
     rw [←hW9]
     exact HJ.out.below hb9
    ·obtain⟨W9,hW9, -,hb9, -⟩:=set4 HBk.out HB1.out (Nat.le_refl _) (.slice none 0 0) (.int .u64 0) (.slice none 0 0) (.slice none 0 0)
     rw [←hW9]
     exact Moved.of_below hb9
  | true=>
    have hri:=hok
    have HP:Hid (aboveP j nd label kid 0=buildP j (withN nd label kid)):=Lib.hid (by unfold aboveP;rw [if_neg (by simp),withOk_is,hok];rfl)
    have HN:=Lib.hid (with_yes A1 A2 A3 nd.pre.length c1 nd.labels.length c2 nd.kids.length c3 nd label kid W (by omega) (by omega) (by omega) g1 g2 g3 hok)
    have hbl:(withN nd label kid).pre.length≤1000∧(withN nd label kid).labels.length≤1000∧(withN nd label kid).kids.length≤1000:=by
     unfold withN ins
     simp
     omega
    generalize withN nd label kid=nd' at*
    clear hok g1 g2 g3
    go_enter Tryz.func178,Tryz.ntmps178
    go_wp2_with fail
    rw [←HW.out]
    clear HW
    refine HN.out.mono ?_
    rintro e w1⟨⟨A1',c1',A2',c2',A3',c3',rfl,q1,q2,q3⟩,hb1⟩
    have B1:=B0.below hb1 B0.lt
    have HB1:=Lib.hid (HB.out.trans (hb1.mono HB.out.size))
    have Q:=Lib.hid (And.intro q1 (And.intro q2 q3))
    clear e0 e1 e2 e3 B0 hb1 HN q1 q2 q3
    obtain⟨y0,y1,y2,y3,f0,f1,f2,f3⟩:=blk4' B1
    have HBk:=Lib.hid B1
    clear B1
    go_wp2_with fail
    obtain⟨W9,hW9,B9,hb9,k9⟩:=set4 HBk.out HB1.out (Nat.le_refl _) (.slice A1' nd'.pre.length c1') (.int .u64 (nd'.val.toNat:Int)) (.slice A2' nd'.labels.length c2') (.slice A3' nd'.kids.length c3')
    rw [←hW9]
    have HQ:=Lib.hid (build_job (HJ.out.below hb9) nd' A1' A2' A3' c1' c2' c3' hbl.1 hbl.2.1 hbl.2.2 (rd_own (own_past Q.out.1 k9 (by omega))).2 (rd_own (own_past Q.out.2.1 k9 (by omega))).2 (rd_own (own_past Q.out.2.2 k9 (by omega))).2 hm)
    have HB9:=Lib.hid hb9
    obtain⟨y0,y1,y2,y3,f0,f1,f2,f3⟩:=blk4' B9
    clear hb9 k9 B9 hW9
    first
     | go_wp2_with fail
     | skip
    refine HQ.out.mono ?_
    rintro e w10⟨rfl,hg10⟩
    have HG:=Lib.hid hg10
    clear hg10
    go_wp2_with fail
    go_ret2
    rw [HP.out]
    exact(JobPost.of_below HB9.out ⟨rfl,HG.out⟩)
 ·have HP:Hid (aboveP j nd label kid e=(j,0,e)):=Lib.hid (by unfold aboveP;rw [if_pos he])
  have t1:(e !=0)=true:=by rw [bne_iff_ne];exact he
  clear h1 h2 h3 h hW hb he
  go_enter Tryz.func178,Tryz.ntmps178
  go_wp2_with fail
  rw [←HW.out]
  go_ret2
  refine⟨by rw [HP.out];rfl,G,?_,Moved.of_below HB.out⟩
  rw [HP.out]
  exact HJ.out.below HB.out
end
section
variable{base jb x d p L:Nat}
theorem rdo_cell{w:World}{G:Nat→Prop}{A:Option Addr}{l:List UInt8}(h:RdO w G A l.length (l.map bv))(k:Nat)(hk:k<l.length):∃b off,A=some ⟨b,off,none⟩∧b<w.heap.size∧w.cell? ⟨b,off+k,none⟩=some (.int .u8 ((l.getD k 0).toNat:Int)):=by
 obtain⟨b,off,e,hb,hc⟩:=h.1.2 (by omega)
 refine⟨b,off,e,hb,?_⟩
 rw [hc k hk,List.getElem?_map,List.getElem?_eq_getElem hk,List.getD_eq_getElem?_getD,List.getElem?_eq_getElem hk];rfl
set_option maxHeartbeats 8000000 in
set_option maxRecDepth 100000 in
theorem leaf_job:∀(f:Nat)(w:World)(j:Jb)(G:Nat→Prop)(l:List UInt8)(value:UInt64)(A:Option Addr)(c:Nat),JobAt w base jb x d p L j G→RdO w G A l.length (l.map bv)→l.length≤c→l.length<f→l.length≤100→j.made.length+f≤1000→
 Calls Tryz.prog 140 #[.pointer (some ⟨jb,0,none⟩),.slice A l.length c,.int .u64 (value.toNat:Int)] w (JobPost (leafP f j l value) base jb x d p L G w)
 | 0,w,j,G,l,value,A,c,h,hl,hc,hf,hle,hm=>absurd hf (by omega)
 | f+1,w,j,G,l,value,A,c,h,hl,hc,hf,hle,hm=>by
   by_cases h15:l.length≤15
   ·have HP:Hid (leafP (f+1) j l value=buildP j ⟨l,value,[],[]⟩):=Lib.hid (by rw [leafP,if_pos h15])
    have HB:=Lib.hid (build_job h ⟨l,value,[],[]⟩ A none none c 0 0 (by simp only;omega) (by simp) (by simp) hl.1 Rd.nil Rd.nil (by omega))
    have t1:decide ((l.length:Int)≤15)=true:=decide_eq_true (by omega)
    clear h hl
    go_enter Tryz.func140,Tryz.ntmps140
    go_wp2_with fail
    refine HB.out.mono ?_
    rintro e w1⟨rfl,hg⟩
    have HG:=Lib.hid hg
    clear hg
    go_wp2_with fail
    go_ret2
    rw [HP.out]
    exact⟨rfl,HG.out⟩
   ·have t1:decide ((l.length:Int)≤15)=false:=decide_eq_false (by omega)
    obtain⟨b,off,rfl,hbw, -⟩:=rdo_cell hl 15 (by omega)
    have hcut:=hl.cut 16 (by omega) hc
    rw [←List.map_drop,show l.length-16=(l.drop 16).length by simp]at hcut
    have HL:=leaf_job f w j G (l.drop 16) value _ (c-16) h hcut (by simp;omega) (by simp;omega) (by simp;omega) (by omega)
    rw [show(l.drop 16).length=l.length-16 by simp]at HL
    obtain⟨⟨j1,kid,er⟩,hr⟩:∃r,leafP f j (l.drop 16) value=r:=⟨_,rfl⟩
    have hmd:=leafP_made f j (l.drop 16) value
    have HP:Hid (leafP (f+1) j l value=aboveP j1 ⟨l.take 15,0,[],[]⟩ (l.getD 15 0) kid er):=Lib.hid (by rw [leafP,if_neg h15,hr])
    rw [hr]at HL hmd
    simp only at hmd
    have HL:Hid (∀P C,C=c-16→P=(if c=16 then some (⟨b,off,none⟩:Addr)else some ⟨b,off+16,none⟩)→Calls Tryz.prog 140 #[.pointer (some ⟨jb,0,none⟩),.slice P (l.length-16) C,.int .u64 (value.toNat:Int)] w (JobPost (j1,kid,er) base jb x d p L G w)):=Lib.hid (fun P C e1 e2=>by subst e1 e2;exact HL)
    have Hl:=Lib.hid hl
    clear h hl hcut hr
    go_enter Tryz.func140,Tryz.ntmps140
    go_wp2_with fail
    all_goals(refine(HL.out _ _ (by omega) (by split<;>first| rfl| omega)).mono ?_)
    all_goals(rintro e w1⟨rfl,G1,hj1,hm1⟩)
    all_goals(clear HL)
    all_goals(have hl1:=Hl.out.moved hm1)
    all_goals(obtain⟨b',off',e',hbw',hck⟩:=rdo_cell hl1 15 (by omega))
    all_goals(injection e' with e';injection e' with e1 e2;subst e1 e2)
    all_goals(have hln:(l.take 15).length=15:=by simp;omega)
    all_goals(have hrd:RdO w1 G1 (some ⟨b,off,none⟩) 15 ((l.take 15).map bv):=by have:=hl1.take 15 (by omega);rwa [←List.map_take]at this)
    all_goals(have hab:=fun(W:World)(hW:Below w1.heap.size w1 W)=>above_job (hj1.below hW) ⟨l.take 15,0,[],[]⟩ (some ⟨b,off,none⟩) none none 15 0 0 (l.getD 15 0) kid er (by show(l.take 15).length≤100;omega) (by simp) (by simp) (by show Rd W _ (l.take 15).length _;rw [hln];exact(hrd.below hW).1) Rd.nil Rd.nil (by show j1.made.length≤1000;omega))
    all_goals(replace hab:=Lib.hid hab)
    all_goals(rw [hln]at hab)
    all_goals(have HM1:=Lib.hid hm1)
    all_goals(generalize l.getD 15 0=lab at*)
    all_goals(generalize l.take 15=l15 at*)
    all_goals(clear hj1 hm1 hl1 HL hln hrd)
    all_goals(have hx1:(15:Int)<(l.length:Int):=by omega)
    all_goals(have hx2:decide ((15:Int)<(l.length:Int))=true:=decide_eq_true hx1)
    all_goals(have hx3:15<l.length:=by omega)
    all_goals(have hx4:15≤c:=by omega)
    all_goals(go_wp2_with fail)
    all_goals(go_region_with(go_at_call 178;go_loud(refine(hab.out _ ((Dr.drew w1).below _)).mono ?_;rintro e w2⟨rfl,hg2⟩)))
    all_goals(obtain⟨G2,q1,q2⟩:=hg2)
    all_goals(have HF:=Lib.hid (And.intro q1 (HM1.out.trans ((Moved.of_below ((Dr.drew w1).below _)).trans q2))))
    all_goals(clear q1 q2)
    all_goals(go_wp2_with fail)
    all_goals(go_ret2)
    all_goals(rw [HP.out])
    all_goals(exact⟨rfl,G2,HF.out.1,HF.out.2⟩)
end
section
variable{base jb x d p L:Nat}
theorem NdR.reads{w:World}{G:Nat→Prop}{A1 A2 A3:Option Addr}{n1 c1 n2 c2 n3 c3:Nat}{v:Value}{nd:Nd}(h:NdR w G (.slice A1 n1 c1) v (.slice A2 n2 c2) (.slice A3 n3 c3) nd):
 RdO w G A1 nd.pre.length (nd.pre.map bv)∧RdO w G A2 nd.labels.length (nd.labels.map bv)∧RdO w G A3 nd.kids.length (nd.kids.map wv)∧nd.pre.length≤c1:=by
 obtain⟨_,_,_,_,_,_,e1,_,e3,e4,hc,q1,q2,q3⟩:=h
 injection e1 with a1 a2 a3
 injection e3 with b1 b2 b3
 injection e4 with d1 d2 d3
 subst a1 a3 b1 d1
 exact⟨q1,q2,q3,hc⟩
theorem RdO.rest{w:World}{G:Nat→Prop}{b off c k n:Nat}{l:List UInt8}(h:RdO w G (some ⟨b,off,none⟩) n (l.map bv))(hn:n=l.length)(hk:k≤l.length)(hc:l.length≤c){P:Option Addr}(hP:P=(if c=k then some ⟨b,off,none⟩else some ⟨b,off+k,none⟩)):
 RdO w G P (l.drop k).length ((l.drop k).map bv):=by
 subst hn hP
 have:=h.cut k (by omega) hc
 rw [List.map_drop,List.length_drop]
 exact this
set_option maxHeartbeats 8000000 in
set_option maxRecDepth 100000 in
theorem grow_same{w:World}{j:Jb}{G:Nat→Prop}(h:JobAt w base jb x d p L j G)(nd:Nd)(A1 A2 A3:Option Addr)(c1 c2 c3:Nat)(off word:Int)(lb:UInt8)(rest:List UInt8)(A:Option Addr)(c:Nat)(value:UInt64)
 (hN:NdR w G (.slice A1 nd.pre.length c1) (.int .u64 (nd.val.toNat:Int)) (.slice A2 nd.labels.length c2) (.slice A3 nd.kids.length c3) nd)(b1:nd.pre.length≤100)(b2:nd.labels.length≤100)(b3:nd.kids.length≤100)
 (hR:RdO w G A rest.length (rest.map bv))(hrc:rest.length≤c)(hrl:rest.length≤100)(hm:j.made.length≤500)(hs:common nd.pre rest=nd.pre.length)(hlt:common nd.pre rest<rest.length):
 Calls Tryz.prog 142 #[.pointer (some ⟨jb,0,none⟩),.agg #[.slice A1 nd.pre.length c1,.int .u64 (nd.val.toNat:Int),.slice A2 nd.labels.length c2,.slice A3 nd.kids.length c3,.int .i64 off,.int .u8 (lb.toNat:Int),.int .i64 word],.slice A rest.length c,.int .u64 (value.toNat:Int)] w (JobPost (growP j nd rest value) base jb x d p L G w):=by
 have hb0:Below w.heap.size w (w.alloc (.cells #[.slice A1 nd.pre.length c1,.int .u64 (nd.val.toNat:Int),.slice A2 nd.labels.length c2,.slice A3 nd.kids.length c3,.int .i64 off,.int .u8 (lb.toNat:Int),.int .i64 word] 227)):=(Below.refl _ _).alloc (Nat.le_refl _) _
 have B0:Blk (w.alloc (.cells #[.slice A1 nd.pre.length c1,.int .u64 (nd.val.toNat:Int),.slice A2 nd.labels.length c2,.slice A3 nd.kids.length c3,.int .i64 off,.int .u8 (lb.toNat:Int),.int .i64 word] 227)) w.heap.size 227 [.slice A1 nd.pre.length c1,.int .u64 (nd.val.toNat:Int),.slice A2 nd.labels.length c2,.slice A3 nd.kids.length c3,.int .i64 off,.int .u8 (lb.toNat:Int),.int .i64 word]:=heap_alloc_new _ _
 obtain⟨W0,hW0⟩:∃W0,W0=w.alloc (.cells #[.slice A1 nd.pre.length c1,.int .u64 (nd.val.toNat:Int),.slice A2 nd.labels.length c2,.slice A3 nd.kids.length c3,.int .i64 off,.int .u8 (lb.toNat:Int),.int .i64 word] 227):=⟨_,rfl⟩
 rw [←hW0]at hb0 B0
 have HW:=Lib.hid hW0
 obtain⟨b,o,rfl,hbw, -⟩:=rdo_cell hR _ hlt
 obtain⟨k,hk⟩:∃k,k=common nd.pre rest:=⟨_,rfl⟩
 rw [←hk]at hs hlt
 obtain⟨⟨j1,kid,er⟩,hr⟩:∃r,leafP (rest.length+1) j (rest.drop (k+1)) value=r:=⟨_,rfl⟩
 have hmd:=leafP_made (rest.length+1) j (rest.drop (k+1)) value
 rw [hr]at hmd
 simp only at hmd
 have HP:Hid (growP j nd rest value=aboveP j1 nd (rest.getD k 0) kid er):=Lib.hid (by rw [growP,←hk,if_pos hs,hr])
 have HL:=Lib.hid (fun(W:World)(hW:Below w.heap.size w W)(P:Option Addr)(C:Nat)(hC:C=c- (k+1))(hP:P=(if c=k+1 then some (⟨b,o,none⟩:Addr)else some ⟨b,o+(k+1),none⟩))=>leaf_job (rest.length+1) W j G (rest.drop (k+1)) value P C (h.below hW) ((hR.below hW).rest rfl (by omega) hrc hP) (by rw [List.length_drop];omega) (by rw [List.length_drop];omega) (by rw [List.length_drop];omega) (by omega))
 rw [hr,List.length_drop]at HL
 have HC:=Lib.hid (fun(W:World)(hW:Below w.heap.size w W)=>common_any A1 (some ⟨b,o,none⟩) nd.pre.length rest.length c1 c nd.pre rest W (by omega) (by omega) (hN.reads.1.below hW).1 (hR.below hW).1)
 rw [←hk]at HC
 have HN:=Lib.hid hN
 have HR:=Lib.hid hR
 have HGl:=Lib.hid h.lt
 clear h hN hR hr hW0
 have t1:((k:Int)==(nd.pre.length:Int))=true:=by rw [beq_iff_eq];omega
 have hw1:IntKind.i64.wrap ((k:Int)+1)=(k:Int)+1:=wrap64 _ (by omega) (by omega)
 obtain⟨y0,y1,y2,y3,y4,y5,y6⟩:=cell7 B0
 have Hs:=Lib.hid hs
 clear hk hs
 go_enter Tryz.func142,Tryz.ntmps142
 go_wp2_with fail
 rw [←HW.out]
 clear HW
 refine(HC.out W0 hb0).mono ?_
 rintro e w1⟨rfl,hd1⟩
 have hb1:=hb0.trans ((hd1.below W0.heap.size).mono hb0.size)
 have B1:=B0.below (hd1.below _) B0.lt
 have HB1:=Lib.hid hb1
 have HBk:=Lib.hid B1
 clear B0 hb0 hd1 y0 y1 y2 y3 y4 y5 y6 hb1
 obtain⟨y0,y1,y2,y3,y4,y5,y6⟩:=cell7 B1
 clear B1
 go_wp2_with fail
 all_goals(refine(HL.out w1 HB1.out _ _ (by omega) (by split<;>first| rfl| omega)).mono ?_)
 all_goals(rintro e w2⟨rfl,G2,hj2,hm2⟩)
 all_goals(have HM2:=Lib.hid ((Moved.of_below (F:=G) HB1.out).trans hm2))
 all_goals(have hrd:=HN.out.moved HM2.out)
 all_goals(obtain⟨r1,r2,r3, -⟩:=hrd.reads)
 all_goals(have hrr:=HR.out.moved HM2.out)
 all_goals(obtain⟨b',o',e',hbw',hck⟩:=rdo_cell hrr k hlt)
 all_goals(injection e' with e';injection e' with e1 e2;subst e1 e2)
 all_goals(have hab:=fun(W:World)(hW:Below w2.heap.size w2 W)=>above_job (hj2.below hW) nd A1 A2 A3 c1 c2 c3 (rest.getD k 0) kid er b1 b2 b3 (r1.below hW).1 (r2.below hW).1 (r3.below hW).1 (by show j1.made.length≤1000;omega))
 all_goals(replace hab:=Lib.hid hab)
 all_goals(have B2:=HBk.out.touch hm2.touch (fun hg=>by have:=HGl.out _ hg;omega))
 all_goals(generalize rest.getD k 0=lab at*)
 all_goals(clear hj2 hm2 hrd r1 r2 r3 hrr HL hbw' y0 y1 y2 y3 y4 y5 y6)
 all_goals(obtain⟨y0,y1,y2,y3,y4,y5,y6⟩:=cell7 B2)
 all_goals(clear B2)
 all_goals(have hx1:(k:Int)<(rest.length:Int):=by omega)
 all_goals(have hx2:decide ((k:Int)<(rest.length:Int))=true:=decide_eq_true hx1)
 all_goals(go_wp2_with fail)
 all_goals(go_region_with(go_at_call 178;go_loud(refine(hab.out _ ((Dr.drew w2).below _)).mono ?_;rintro e w3⟨rfl,G3,q1,q2⟩)))
 all_goals(have HF:=Lib.hid (And.intro q1 (HM2.out.trans ((Moved.of_below ((Dr.drew w2).below _)).trans q2))))
 all_goals(clear q1 q2)
 all_goals(go_wp2_with fail)
 all_goals(go_ret2)
 all_goals(rw [HP.out])
 all_goals(exact⟨rfl,G3,HF.out.1,HF.out.2⟩)
end
section
variable{base jb x d p L:Nat}
set_option maxHeartbeats 16000000 in
set_option maxRecDepth 100000 in
theorem grow_end{w:World}{j:Jb}{G:Nat→Prop}(h:JobAt w base jb x d p L j G)(nd:Nd)(A1 A2 A3:Option Addr)(c1 c2 c3:Nat)(off word:Int)(lb:UInt8)(rest:List UInt8)(A:Option Addr)(c:Nat)(value:UInt64)
 (hN:NdR w G (.slice A1 nd.pre.length c1) (.int .u64 (nd.val.toNat:Int)) (.slice A2 nd.labels.length c2) (.slice A3 nd.kids.length c3) nd)(b1:nd.pre.length≤100)(b2:nd.labels.length≤100)(b3:nd.kids.length≤100)
 (hR:RdO w G A rest.length (rest.map bv))(_:rest.length≤c)(hrl:rest.length≤100)(hm:j.made.length≤500)(hs:common nd.pre rest<nd.pre.length)(he:common nd.pre rest=rest.length):
 Calls Tryz.prog 142 #[.pointer (some ⟨jb,0,none⟩),.agg #[.slice A1 nd.pre.length c1,.int .u64 (nd.val.toNat:Int),.slice A2 nd.labels.length c2,.slice A3 nd.kids.length c3,.int .i64 off,.int .u8 (lb.toNat:Int),.int .i64 word],.slice A rest.length c,.int .u64 (value.toNat:Int)] w (JobPost (growP j nd rest value) base jb x d p L G w):=by
 have hb0:Below w.heap.size w (w.alloc (.cells #[.slice A1 nd.pre.length c1,.int .u64 (nd.val.toNat:Int),.slice A2 nd.labels.length c2,.slice A3 nd.kids.length c3,.int .i64 off,.int .u8 (lb.toNat:Int),.int .i64 word] 227)):=(Below.refl _ _).alloc (Nat.le_refl _) _
 have B0:Blk (w.alloc (.cells #[.slice A1 nd.pre.length c1,.int .u64 (nd.val.toNat:Int),.slice A2 nd.labels.length c2,.slice A3 nd.kids.length c3,.int .i64 off,.int .u8 (lb.toNat:Int),.int .i64 word] 227)) w.heap.size 227 [.slice A1 nd.pre.length c1,.int .u64 (nd.val.toNat:Int),.slice A2 nd.labels.length c2,.slice A3 nd.kids.length c3,.int .i64 off,.int .u8 (lb.toNat:Int),.int .i64 word]:=heap_alloc_new _ _
 obtain⟨W0,hW0⟩:∃W0,W0=w.alloc (.cells #[.slice A1 nd.pre.length c1,.int .u64 (nd.val.toNat:Int),.slice A2 nd.labels.length c2,.slice A3 nd.kids.length c3,.int .i64 off,.int .u8 (lb.toNat:Int),.int .i64 word] 227):=⟨_,rfl⟩
 rw [←hW0]at hb0 B0
 have HW:=Lib.hid hW0
 obtain⟨q1,q2,q3,hpc⟩:=hN.reads
 obtain⟨pb,po,rfl,hpw, -⟩:=rdo_cell q1 _ hs
 obtain⟨k,hk⟩:∃k,k=common nd.pre rest:=⟨_,rfl⟩
 have hkr:k≤rest.length:=by rw [hk];exact common_le_right _ _
 have HC:=Lib.hid (fun(W:World)(hW:Below w.heap.size w W)=>common_any (some ⟨pb,po,none⟩) A nd.pre.length rest.length c1 c nd.pre rest W (by omega) (by omega) (q1.below hW).1 (hR.below hW).1)
 rw [←hk]at hs HC
 have HK:Hid (k=common nd.pre rest):=Lib.hid hk
 obtain⟨⟨j1,kid,er⟩,hr⟩:∃r,buildP j {nd with pre:=nd.pre.drop (k+1)}=r:=⟨_,rfl⟩
 have hmd:=buildP_made j {nd with pre:=nd.pre.drop (k+1)}
 rw [hr]at hmd
 simp only at hmd
 have HBr:=Lib.hid hr
 have HLo:=Lib.hid (fun(W:World)(hW:Below w.heap.size w W)(P:Option Addr)(C:Nat)(hP:P=(if c1=k+1 then some (⟨pb,po,none⟩:Addr)else some ⟨pb,po+(k+1),none⟩))=>build_job (h.below hW) {nd with pre:=nd.pre.drop (k+1)} P A2 A3 C c2 c3 (by simp;omega) (by simp only;omega) (by simp only;omega)
  (((q1.below hW).rest rfl (by omega) hpc hP).1) (q2.below hW).1 (q3.below hW).1 (by omega))
 rw [hr]at HLo
 simp only [List.length_drop]at HLo
 have HN:=Lib.hid q1
 have HR:=Lib.hid hR
 have HGl:=Lib.hid h.lt
 have HpC:=Lib.hid hpc
 rw [←hk]at he
 have HP:Hid (growP j nd rest value=aboveP j1 ⟨nd.pre.take k,value,[],[]⟩ (nd.pre.getD k 0) kid er):=Lib.hid (by rw [growP,←hk,if_neg (by omega),hr];simp only [if_pos he])
 have He:=Lib.hid he
 clear h hN hR hr hW0 q1 q2 q3
 have t1:((k:Int)==(nd.pre.length:Int))=false:=by rw [beq_eq_false_iff_ne];omega
 have hw1:IntKind.i64.wrap ((k:Int)+1)=(k:Int)+1:=wrap64 _ (by omega) (by omega)
 have t2:((k:Int)==(rest.length:Int))=true:=by rw [beq_iff_eq];omega
 obtain⟨y0,y1,y2,y3,y4,y5,y6⟩:=cell7 B0
 clear hk he
 go_enter Tryz.func142,Tryz.ntmps142
 go_wp2_with fail
 rw [←HW.out]
 clear HW
 refine(HC.out W0 hb0).mono ?_
 rintro e w1⟨rfl,hd1⟩
 have hb1:=hb0.trans ((hd1.below W0.heap.size).mono hb0.size)
 have B1:=B0.below (hd1.below _) B0.lt
 have hs1:w.heap.size<w1.heap.size:=B1.lt
 obtain⟨wl,hwl⟩:∃wl,wl=w1.alloc (.cells #[.slice (some ⟨pb,po,none⟩) nd.pre.length c1,.int .u64 (nd.val.toNat:Int),.slice A2 nd.labels.length c2,.slice A3 nd.kids.length c3] 225):=⟨_,rfl⟩
 have BL:Blk wl w1.heap.size 225 [.slice (some ⟨pb,po,none⟩) nd.pre.length c1,.int .u64 (nd.val.toNat:Int),.slice A2 nd.labels.length c2,.slice A3 nd.kids.length c3]:=hwl▸heap_alloc_new _ _
 have hbl:Below w1.heap.size w1 wl:=hwl▸(Below.refl _ _).alloc (Nat.le_refl _) _
 have HB1:=Lib.hid hb1
 have HBk:=Lib.hid B1
 obtain⟨y0,y1,y2,y3,y4,y5,y6⟩:=cell7 (B1.below hbl B1.lt)
 obtain⟨z0,z1,z2,z3,zf0,zf1,zf2,zf3⟩:=blk4' BL
 obtain⟨x0,x1,x2,x3,x4,x5,x6⟩:=cell7 B1
 rw [hwl]at y0 y1 y2 y3 y4 y5 y6 z0 z1 z2 z3 zf0 zf1 zf2 zf3
 have hne:w.heap.size≠w1.heap.size:=by omega
 have hne':w1.heap.size≠w.heap.size:=by omega
 clear B0 hb0 hd1 hb1 B1 BL hbl hwl
 go_wp2_with fail
 all_goals(refine(HLo.out _ (HB1.out.alloc HB1.out.size _) _ _ (by split<;>first| rfl| omega)).mono ?_)
 all_goals(rintro e w2⟨rfl,G2,hj2,hm2⟩)
 all_goals(have HM2:=Lib.hid ((Moved.of_below (F:=G) (HB1.out.alloc HB1.out.size _)).trans hm2))
 all_goals(have B2:=(HBk.out.below ((Below.refl _ _).alloc (Nat.le_refl _) _) HBk.out.lt).touch hm2.touch (fun hg=>by have:=HGl.out _ hg;omega))
 all_goals(have hpre:=HN.out.moved HM2.out)
 all_goals(obtain⟨b',o',e',hpb,hck⟩:=rdo_cell hpre k hs)
 all_goals(injection e' with e';injection e' with e1 e2;subst e1 e2)
 all_goals(clear y0 y1 y2 y3 y4 y5 y6 z0 z1 z2 z3 zf0 zf1 zf2 zf3 x0 x1 x2 x3 x4 x5 x6 HLo hm2 hne hne')
 all_goals(have hln:(nd.pre.take k).length=k:=by simp;omega)
 all_goals(have htk:RdO w2 G2 (some ⟨pb,po,none⟩) k ((nd.pre.take k).map bv):=by have:=hpre.take k (by omega);rwa [←List.map_take]at this)
 all_goals(have hs2:w.heap.size<w2.heap.size:=B2.lt)
 all_goals(have hne:w.heap.size≠w2.heap.size:=by omega)
 all_goals(have hne':w2.heap.size≠w.heap.size:=by omega)
 all_goals(obtain⟨x0,x1,x2,x3,x4,x5,x6⟩:=cell7 B2)
 all_goals(obtain⟨wt,hwt⟩:∃wt,wt=w2.alloc (.cells #[.slice (some ⟨pb,po,none⟩) k k,.int .u64 0,.slice none 0 0,.slice none 0 0] 225):=⟨_,rfl⟩)
 all_goals(have BT:Blk wt w2.heap.size 225 [.slice (some ⟨pb,po,none⟩) k k,.int .u64 0,.slice none 0 0,.slice none 0 0]:=hwt▸heap_alloc_new _ _)
 all_goals(have hbt:Below w2.heap.size w2 wt:=hwt▸(Below.refl _ _).alloc (Nat.le_refl _) _)
 all_goals(have B2t:=B2.below hbt B2.lt)
 all_goals(obtain⟨y0,y1,y2,y3,y4,y5,y6⟩:=cell7 B2t)
 all_goals(obtain⟨z0,z1,z2,z3,zf0,zf1,zf2,zf3⟩:=blk4' BT)
 all_goals(have hckt:=(hbt.cell (p:=⟨pb,po+k,none⟩) hpb).trans hck)
 all_goals(rw [hwt]at y0 y1 y2 y3 y4 y5 y6 z0 z1 z2 z3 zf0 zf1 zf2 zf3 hckt)
 all_goals(obtain⟨wv',hwv⟩:∃wv',wv'=w2.alloc (.cells #[.slice (some ⟨pb,po,none⟩) k k,.int .u64 (value.toNat:Int),.slice none 0 0,.slice none 0 0] 225):=⟨_,rfl⟩)
 all_goals(have BV:Blk wv' w2.heap.size 225 [.slice (some ⟨pb,po,none⟩) k k,.int .u64 (value.toNat:Int),.slice none 0 0,.slice none 0 0]:=hwv▸heap_alloc_new _ _)
 all_goals(have hbv:Below w2.heap.size w2 wv':=hwv▸(Below.refl _ _).alloc (Nat.le_refl _) _)
 all_goals(obtain⟨v0,v1,v2,v3,v4,v5,v6⟩:=cell7 (B2.below hbv B2.lt))
 all_goals(obtain⟨u0,u1,u2,u3, -⟩:=blk4' BV)
 all_goals(have hckv:=(hbv.cell (p:=⟨pb,po+k,none⟩) hpb).trans hck)
 all_goals(rw [hwv]at v0 v1 v2 v3 v4 v5 v6 u0 u1 u2 u3 hckv)
 all_goals(have hab:=fun(W:World)(hW:Below w2.heap.size w2 W)=>above_job (hj2.below hW) ⟨nd.pre.take k,value,[],[]⟩ (some ⟨pb,po,none⟩) none none k 0 0 (nd.pre.getD k 0) kid er (by show(nd.pre.take k).length≤100;omega) (by simp) (by simp) (by show Rd W _ (nd.pre.take k).length _;rw [hln];exact(htk.below hW).1) Rd.nil Rd.nil (by show j1.made.length≤1000;omega))
 all_goals(replace hab:=Lib.hid hab)
 all_goals(rw [hln]at hab)
 all_goals(have HBv:=Lib.hid (hwv▸hbv))
 all_goals(generalize nd.pre.getD k 0=lab at*)
 all_goals(generalize nd.pre.take k=prk at*)
 all_goals(clear hj2 B2 B2t BT BV hbt hbv hwt hwv hln htk hpre hck)
 all_goals(have hx1:(k:Int)<(nd.pre.length:Int):=by omega)
 all_goals(have hx2:decide ((k:Int)<(nd.pre.length:Int))=true:=decide_eq_true hx1)
 all_goals(go_wp2_with fail)
 all_goals(go_region_with(go_at_call 178;go_loud(refine(hab.out _ (HBv.out.trans ((Dr.drew _).below _))).mono ?_;rintro e w3⟨rfl,G3,q1,q2⟩)))
 all_goals(have HF:=Lib.hid (And.intro q1 (HM2.out.trans ((Moved.of_below (HBv.out.trans ((Dr.drew _).below _))).trans q2))))
 all_goals(clear q1 q2)
 all_goals(go_wp2_with fail)
 all_goals(go_ret2)
 all_goals(rw [HP.out])
 all_goals(exact⟨rfl,G3,HF.out.1,HF.out.2⟩)
set_option maxHeartbeats 16000000 in
set_option maxRecDepth 100000 in
theorem grow_err{w:World}{j:Jb}{G:Nat→Prop}(h:JobAt w base jb x d p L j G)(nd:Nd)(A1 A2 A3:Option Addr)(c1 c2 c3:Nat)(off word:Int)(lb:UInt8)(rest:List UInt8)(A:Option Addr)(c:Nat)(value:UInt64)
 (hN:NdR w G (.slice A1 nd.pre.length c1) (.int .u64 (nd.val.toNat:Int)) (.slice A2 nd.labels.length c2) (.slice A3 nd.kids.length c3) nd)(b1:nd.pre.length≤100)(b2:nd.labels.length≤100)(b3:nd.kids.length≤100)
 (hR:RdO w G A rest.length (rest.map bv))(_:rest.length≤c)(hrl:rest.length≤100)(hm:j.made.length≤500)(hs:common nd.pre rest<nd.pre.length)(hlt:common nd.pre rest<rest.length)(her:(buildP j {nd with pre:=nd.pre.drop (common nd.pre rest+1)}).2.2≠0):
 Calls Tryz.prog 142 #[.pointer (some ⟨jb,0,none⟩),.agg #[.slice A1 nd.pre.length c1,.int .u64 (nd.val.toNat:Int),.slice A2 nd.labels.length c2,.slice A3 nd.kids.length c3,.int .i64 off,.int .u8 (lb.toNat:Int),.int .i64 word],.slice A rest.length c,.int .u64 (value.toNat:Int)] w (JobPost (growP j nd rest value) base jb x d p L G w):=by
 have hb0:Below w.heap.size w (w.alloc (.cells #[.slice A1 nd.pre.length c1,.int .u64 (nd.val.toNat:Int),.slice A2 nd.labels.length c2,.slice A3 nd.kids.length c3,.int .i64 off,.int .u8 (lb.toNat:Int),.int .i64 word] 227)):=(Below.refl _ _).alloc (Nat.le_refl _) _
 have B0:Blk (w.alloc (.cells #[.slice A1 nd.pre.length c1,.int .u64 (nd.val.toNat:Int),.slice A2 nd.labels.length c2,.slice A3 nd.kids.length c3,.int .i64 off,.int .u8 (lb.toNat:Int),.int .i64 word] 227)) w.heap.size 227 [.slice A1 nd.pre.length c1,.int .u64 (nd.val.toNat:Int),.slice A2 nd.labels.length c2,.slice A3 nd.kids.length c3,.int .i64 off,.int .u8 (lb.toNat:Int),.int .i64 word]:=heap_alloc_new _ _
 obtain⟨W0,hW0⟩:∃W0,W0=w.alloc (.cells #[.slice A1 nd.pre.length c1,.int .u64 (nd.val.toNat:Int),.slice A2 nd.labels.length c2,.slice A3 nd.kids.length c3,.int .i64 off,.int .u8 (lb.toNat:Int),.int .i64 word] 227):=⟨_,rfl⟩
 rw [←hW0]at hb0 B0
 have HW:=Lib.hid hW0
 obtain⟨q1,q2,q3,hpc⟩:=hN.reads
 obtain⟨pb,po,rfl,hpw, -⟩:=rdo_cell q1 _ hs
 obtain⟨k,hk⟩:∃k,k=common nd.pre rest:=⟨_,rfl⟩
 have hkr:k≤rest.length:=by rw [hk];exact common_le_right _ _
 have HC:=Lib.hid (fun(W:World)(hW:Below w.heap.size w W)=>common_any (some ⟨pb,po,none⟩) A nd.pre.length rest.length c1 c nd.pre rest W (by omega) (by omega) (q1.below hW).1 (hR.below hW).1)
 rw [←hk]at hs HC
 have HK:Hid (k=common nd.pre rest):=Lib.hid hk
 obtain⟨⟨j1,kid,er⟩,hr⟩:∃r,buildP j {nd with pre:=nd.pre.drop (k+1)}=r:=⟨_,rfl⟩
 have hmd:=buildP_made j {nd with pre:=nd.pre.drop (k+1)}
 rw [hr]at hmd
 simp only at hmd
 have HBr:=Lib.hid hr
 have HLo:=Lib.hid (fun(W:World)(hW:Below w.heap.size w W)(P:Option Addr)(C:Nat)(hP:P=(if c1=k+1 then some (⟨pb,po,none⟩:Addr)else some ⟨pb,po+(k+1),none⟩))=>build_job (h.below hW) {nd with pre:=nd.pre.drop (k+1)} P A2 A3 C c2 c3 (by simp;omega) (by simp only;omega) (by simp only;omega)
  (((q1.below hW).rest rfl (by omega) hpc hP).1) (q2.below hW).1 (q3.below hW).1 (by omega))
 rw [hr]at HLo
 simp only [List.length_drop]at HLo
 have HN:=Lib.hid q1
 have HR:=Lib.hid hR
 have HGl:=Lib.hid h.lt
 have HpC:=Lib.hid hpc
 rw [←hk]at hlt her
 rw [hr]at her
 simp only at her
 have HP:Hid (growP j nd rest value=(j1,0,er)):=Lib.hid (by rw [growP,←hk,if_neg (by omega),hr];simp only;rw [if_neg (by omega),if_pos her])
 have te:(er !=0)=true:=by rw [bne_iff_ne];exact her
 clear her
 clear h hN hR hr hW0 q1 q2 q3
 have t1:((k:Int)==(nd.pre.length:Int))=false:=by rw [beq_eq_false_iff_ne];omega
 have hw1:IntKind.i64.wrap ((k:Int)+1)=(k:Int)+1:=wrap64 _ (by omega) (by omega)
 have t2:((k:Int)==(rest.length:Int))=false:=by rw [beq_eq_false_iff_ne];omega
 obtain⟨y0,y1,y2,y3,y4,y5,y6⟩:=cell7 B0
 clear hk
 go_enter Tryz.func142,Tryz.ntmps142
 go_wp2_with fail
 rw [←HW.out]
 clear HW
 refine(HC.out W0 hb0).mono ?_
 rintro e w1⟨rfl,hd1⟩
 have hb1:=hb0.trans ((hd1.below W0.heap.size).mono hb0.size)
 have B1:=B0.below (hd1.below _) B0.lt
 have hs1:w.heap.size<w1.heap.size:=B1.lt
 obtain⟨wl,hwl⟩:∃wl,wl=w1.alloc (.cells #[.slice (some ⟨pb,po,none⟩) nd.pre.length c1,.int .u64 (nd.val.toNat:Int),.slice A2 nd.labels.length c2,.slice A3 nd.kids.length c3] 225):=⟨_,rfl⟩
 have BL:Blk wl w1.heap.size 225 [.slice (some ⟨pb,po,none⟩) nd.pre.length c1,.int .u64 (nd.val.toNat:Int),.slice A2 nd.labels.length c2,.slice A3 nd.kids.length c3]:=hwl▸heap_alloc_new _ _
 have hbl:Below w1.heap.size w1 wl:=hwl▸(Below.refl _ _).alloc (Nat.le_refl _) _
 have HB1:=Lib.hid hb1
 have HBk:=Lib.hid B1
 obtain⟨y0,y1,y2,y3,y4,y5,y6⟩:=cell7 (B1.below hbl B1.lt)
 obtain⟨z0,z1,z2,z3,zf0,zf1,zf2,zf3⟩:=blk4' BL
 obtain⟨x0,x1,x2,x3,x4,x5,x6⟩:=cell7 B1
 rw [hwl]at y0 y1 y2 y3 y4 y5 y6 z0 z1 z2 z3 zf0 zf1 zf2 zf3
 have hne:w.heap.size≠w1.heap.size:=by omega
 have hne':w1.heap.size≠w.heap.size:=by omega
 clear B0 hb0 hd1 hb1 B1 BL hbl hwl
 go_wp2_with fail
 all_goals(refine(HLo.out _ (HB1.out.alloc HB1.out.size _) _ _ (by split<;>first| rfl| omega)).mono ?_)
 all_goals(rintro e w2⟨rfl,G2,hj2,hm2⟩)
 all_goals(have HM2:=Lib.hid ((Moved.of_below (F:=G) (HB1.out.alloc HB1.out.size _)).trans hm2))
 all_goals(have B2:=(HBk.out.below ((Below.refl _ _).alloc (Nat.le_refl _) _) HBk.out.lt).touch hm2.touch (fun hg=>by have:=HGl.out _ hg;omega))
 all_goals(have hpre:=HN.out.moved HM2.out)
 all_goals(obtain⟨b',o',e',hpb,hck⟩:=rdo_cell hpre k hs)
 all_goals(injection e' with e';injection e' with e1 e2;subst e1 e2)
 all_goals(clear y0 y1 y2 y3 y4 y5 y6 z0 z1 z2 z3 zf0 zf1 zf2 zf3 x0 x1 x2 x3 x4 x5 x6 HLo hm2 hne hne')
 all_goals(have hln:(nd.pre.take k).length=k:=by simp;omega)
 all_goals(have htk:RdO w2 G2 (some ⟨pb,po,none⟩) k ((nd.pre.take k).map bv):=by have:=hpre.take k (by omega);rwa [←List.map_take]at this)
 all_goals(have hs2:w.heap.size<w2.heap.size:=B2.lt)
 all_goals(have hne:w.heap.size≠w2.heap.size:=by omega)
 all_goals(have hne':w2.heap.size≠w.heap.size:=by omega)
 all_goals(obtain⟨x0,x1,x2,x3,x4,x5,x6⟩:=cell7 B2)
 all_goals(obtain⟨wt,hwt⟩:∃wt,wt=w2.alloc (.cells #[.slice (some ⟨pb,po,none⟩) k k,.int .u64 0,.slice none 0 0,.slice none 0 0] 225):=⟨_,rfl⟩)
 all_goals(have BT:Blk wt w2.heap.size 225 [.slice (some ⟨pb,po,none⟩) k k,.int .u64 0,.slice none 0 0,.slice none 0 0]:=hwt▸heap_alloc_new _ _)
 all_goals(have hbt:Below w2.heap.size w2 wt:=hwt▸(Below.refl _ _).alloc (Nat.le_refl _) _)
 all_goals(have B2t:=B2.below hbt B2.lt)
 all_goals(obtain⟨y0,y1,y2,y3,y4,y5,y6⟩:=cell7 B2t)
 all_goals(obtain⟨z0,z1,z2,z3,zf0,zf1,zf2,zf3⟩:=blk4' BT)
 all_goals(have hckt:=(hbt.cell (p:=⟨pb,po+k,none⟩) hpb).trans hck)
 all_goals(rw [hwt]at y0 y1 y2 y3 y4 y5 y6 z0 z1 z2 z3 zf0 zf1 zf2 zf3 hckt)
 all_goals(have HBv:=Lib.hid (hwt▸hbt))
 all_goals(have HJ2:=Lib.hid hj2)
 all_goals(clear hj2 B2 B2t BT hbt hwt hln htk hpre hck)
 all_goals(go_wp2_with fail)
 all_goals(go_ret2)
 all_goals(refine⟨by rw [HP.out];rfl,G2,?_,HM2.out.trans (Moved.of_below HBv.out)⟩)
 all_goals(rw [HP.out])
 all_goals(exact HJ2.out.below HBv.out)
end
section
variable{base jb x d p L:Nat}
set_option maxHeartbeats 16000000 in
set_option maxRecDepth 100000 in
theorem grow_no{w:World}{j:Jb}{G:Nat→Prop}(h:JobAt w base jb x d p L j G)(nd:Nd)(A1 A2 A3:Option Addr)(c1 c2 c3:Nat)(off word:Int)(lb:UInt8)(rest:List UInt8)(A:Option Addr)(c:Nat)(value:UInt64)
 (hN:NdR w G (.slice A1 nd.pre.length c1) (.int .u64 (nd.val.toNat:Int)) (.slice A2 nd.labels.length c2) (.slice A3 nd.kids.length c3) nd)(b1:nd.pre.length≤100)(b2:nd.labels.length≤100)(b3:nd.kids.length≤100)
 (hR:RdO w G A rest.length (rest.map bv))(_:rest.length≤c)(hrl:rest.length≤100)(hm:j.made.length≤500)(hs:common nd.pre rest<nd.pre.length)(hlt:common nd.pre rest<rest.length)(her:(buildP j {nd with pre:=nd.pre.drop (common nd.pre rest+1)}).2.2=0)(hok:withOkP ⟨nd.pre.take (common nd.pre rest),0,[],[]⟩ (nd.pre.getD (common nd.pre rest) 0) (buildP j {nd with pre:=nd.pre.drop (common nd.pre rest+1)}).2.1=false):
 Calls Tryz.prog 142 #[.pointer (some ⟨jb,0,none⟩),.agg #[.slice A1 nd.pre.length c1,.int .u64 (nd.val.toNat:Int),.slice A2 nd.labels.length c2,.slice A3 nd.kids.length c3,.int .i64 off,.int .u8 (lb.toNat:Int),.int .i64 word],.slice A rest.length c,.int .u64 (value.toNat:Int)] w (JobPost (growP j nd rest value) base jb x d p L G w):=by
 have hb0:Below w.heap.size w (w.alloc (.cells #[.slice A1 nd.pre.length c1,.int .u64 (nd.val.toNat:Int),.slice A2 nd.labels.length c2,.slice A3 nd.kids.length c3,.int .i64 off,.int .u8 (lb.toNat:Int),.int .i64 word] 227)):=(Below.refl _ _).alloc (Nat.le_refl _) _
 have B0:Blk (w.alloc (.cells #[.slice A1 nd.pre.length c1,.int .u64 (nd.val.toNat:Int),.slice A2 nd.labels.length c2,.slice A3 nd.kids.length c3,.int .i64 off,.int .u8 (lb.toNat:Int),.int .i64 word] 227)) w.heap.size 227 [.slice A1 nd.pre.length c1,.int .u64 (nd.val.toNat:Int),.slice A2 nd.labels.length c2,.slice A3 nd.kids.length c3,.int .i64 off,.int .u8 (lb.toNat:Int),.int .i64 word]:=heap_alloc_new _ _
 obtain⟨W0,hW0⟩:∃W0,W0=w.alloc (.cells #[.slice A1 nd.pre.length c1,.int .u64 (nd.val.toNat:Int),.slice A2 nd.labels.length c2,.slice A3 nd.kids.length c3,.int .i64 off,.int .u8 (lb.toNat:Int),.int .i64 word] 227):=⟨_,rfl⟩
 rw [←hW0]at hb0 B0
 have HW:=Lib.hid hW0
 obtain⟨q1,q2,q3,hpc⟩:=hN.reads
 obtain⟨pb,po,rfl,hpw, -⟩:=rdo_cell q1 _ hs
 obtain⟨k,hk⟩:∃k,k=common nd.pre rest:=⟨_,rfl⟩
 have hkr:k≤rest.length:=by rw [hk];exact common_le_right _ _
 have HC:=Lib.hid (fun(W:World)(hW:Below w.heap.size w W)=>common_any (some ⟨pb,po,none⟩) A nd.pre.length rest.length c1 c nd.pre rest W (by omega) (by omega) (q1.below hW).1 (hR.below hW).1)
 rw [←hk]at hs HC
 have HK:Hid (k=common nd.pre rest):=Lib.hid hk
 obtain⟨⟨j1,kid,er⟩,hr⟩:∃r,buildP j {nd with pre:=nd.pre.drop (k+1)}=r:=⟨_,rfl⟩
 have hmd:=buildP_made j {nd with pre:=nd.pre.drop (k+1)}
 rw [hr]at hmd
 simp only at hmd
 have HBr:=Lib.hid hr
 have HLo:=Lib.hid (fun(W:World)(hW:Below w.heap.size w W)(P:Option Addr)(C:Nat)(hP:P=(if c1=k+1 then some (⟨pb,po,none⟩:Addr)else some ⟨pb,po+(k+1),none⟩))=>build_job (h.below hW) {nd with pre:=nd.pre.drop (k+1)} P A2 A3 C c2 c3 (by simp;omega) (by simp only;omega) (by simp only;omega)
  (((q1.below hW).rest rfl (by omega) hpc hP).1) (q2.below hW).1 (q3.below hW).1 (by omega))
 rw [hr]at HLo
 simp only [List.length_drop]at HLo
 have HN:=Lib.hid q1
 have HR:=Lib.hid hR
 have HGl:=Lib.hid h.lt
 have HpC:=Lib.hid hpc
 rw [←hk]at hlt her hok
 rw [hr]at her hok
 simp only at her hok
 subst her
 have HP:Hid (growP j nd rest value=(j1,0,5)):=Lib.hid (by rw [growP,←hk,if_neg (by omega),hr];simp only;rw [if_neg (by omega),if_neg (by simp),if_neg (by rw [hok];exact Bool.false_ne_true)])
 have HOk:=Lib.hid hok
 clear hok
 clear h hN hR hr hW0 q1 q2 q3
 have t1:((k:Int)==(nd.pre.length:Int))=false:=by rw [beq_eq_false_iff_ne];omega
 have hw1:IntKind.i64.wrap ((k:Int)+1)=(k:Int)+1:=wrap64 _ (by omega) (by omega)
 have t2:((k:Int)==(rest.length:Int))=false:=by rw [beq_eq_false_iff_ne];omega
 obtain⟨y0,y1,y2,y3,y4,y5,y6⟩:=cell7 B0
 clear hk
 go_enter Tryz.func142,Tryz.ntmps142
 go_wp2_with fail
 rw [←HW.out]
 clear HW
 refine(HC.out W0 hb0).mono ?_
 rintro e w1⟨rfl,hd1⟩
 have hb1:=hb0.trans ((hd1.below W0.heap.size).mono hb0.size)
 have B1:=B0.below (hd1.below _) B0.lt
 have hs1:w.heap.size<w1.heap.size:=B1.lt
 obtain⟨wl,hwl⟩:∃wl,wl=w1.alloc (.cells #[.slice (some ⟨pb,po,none⟩) nd.pre.length c1,.int .u64 (nd.val.toNat:Int),.slice A2 nd.labels.length c2,.slice A3 nd.kids.length c3] 225):=⟨_,rfl⟩
 have BL:Blk wl w1.heap.size 225 [.slice (some ⟨pb,po,none⟩) nd.pre.length c1,.int .u64 (nd.val.toNat:Int),.slice A2 nd.labels.length c2,.slice A3 nd.kids.length c3]:=hwl▸heap_alloc_new _ _
 have hbl:Below w1.heap.size w1 wl:=hwl▸(Below.refl _ _).alloc (Nat.le_refl _) _
 have HB1:=Lib.hid hb1
 have HBk:=Lib.hid B1
 obtain⟨y0,y1,y2,y3,y4,y5,y6⟩:=cell7 (B1.below hbl B1.lt)
 obtain⟨z0,z1,z2,z3,zf0,zf1,zf2,zf3⟩:=blk4' BL
 obtain⟨x0,x1,x2,x3,x4,x5,x6⟩:=cell7 B1
 rw [hwl]at y0 y1 y2 y3 y4 y5 y6 z0 z1 z2 z3 zf0 zf1 zf2 zf3
 have hne:w.heap.size≠w1.heap.size:=by omega
 have hne':w1.heap.size≠w.heap.size:=by omega
 clear B0 hb0 hd1 hb1 B1 BL hbl hwl
 go_wp2_with fail
 all_goals(refine(HLo.out _ (HB1.out.alloc HB1.out.size _) _ _ (by split<;>first| rfl| omega)).mono ?_)
 all_goals(rintro e w2⟨rfl,G2,hj2,hm2⟩)
 all_goals(have HM2:=Lib.hid ((Moved.of_below (F:=G) (HB1.out.alloc HB1.out.size _)).trans hm2))
 all_goals(have B2:=(HBk.out.below ((Below.refl _ _).alloc (Nat.le_refl _) _) HBk.out.lt).touch hm2.touch (fun hg=>by have:=HGl.out _ hg;omega))
 all_goals(have hpre:=HN.out.moved HM2.out)
 all_goals(obtain⟨b',o',e',hpb,hck⟩:=rdo_cell hpre k hs)
 all_goals(injection e' with e';injection e' with e1 e2;subst e1 e2)
 all_goals(clear y0 y1 y2 y3 y4 y5 y6 z0 z1 z2 z3 zf0 zf1 zf2 zf3 x0 x1 x2 x3 x4 x5 x6 HLo hm2 hne hne')
 all_goals(have hln:(nd.pre.take k).length=k:=by simp;omega)
 all_goals(have htk:RdO w2 G2 (some ⟨pb,po,none⟩) k ((nd.pre.take k).map bv):=by have:=hpre.take k (by omega);rwa [←List.map_take]at this)
 all_goals(have hs2:w.heap.size<w2.heap.size:=B2.lt)
 all_goals(have hne:w.heap.size≠w2.heap.size:=by omega)
 all_goals(have hne':w2.heap.size≠w.heap.size:=by omega)
 all_goals(obtain⟨x0,x1,x2,x3,x4,x5,x6⟩:=cell7 B2)
 all_goals(obtain⟨wt,hwt⟩:∃wt,wt=w2.alloc (.cells #[.slice (some ⟨pb,po,none⟩) k k,.int .u64 0,.slice none 0 0,.slice none 0 0] 225):=⟨_,rfl⟩)
 all_goals(have BT:Blk wt w2.heap.size 225 [.slice (some ⟨pb,po,none⟩) k k,.int .u64 0,.slice none 0 0,.slice none 0 0]:=hwt▸heap_alloc_new _ _)
 all_goals(have hbt:Below w2.heap.size w2 wt:=hwt▸(Below.refl _ _).alloc (Nat.le_refl _) _)
 all_goals(have B2t:=B2.below hbt B2.lt)
 all_goals(obtain⟨y0,y1,y2,y3,y4,y5,y6⟩:=cell7 B2t)
 all_goals(obtain⟨z0,z1,z2,z3,zf0,zf1,zf2,zf3⟩:=blk4' BT)
 all_goals(have hckt:=(hbt.cell (p:=⟨pb,po+k,none⟩) hpb).trans hck)
 all_goals(rw [hwt]at y0 y1 y2 y3 y4 y5 y6 z0 z1 z2 z3 zf0 zf1 zf2 zf3 hckt)
 all_goals(have HWi:=Lib.hid (fun(W:World)(hW:Below w2.heap.size w2 W)=>with_no (some ⟨pb,po,none⟩) none none k k 0 0 0 0 ⟨nd.pre.take k,0,[],[]⟩ (nd.pre.getD k 0) kid W (by omega) (by omega) (by omega) (by show Rd W _ _ _;exact(htk.below hW).1) Rd.nil Rd.nil HOk.out))
 all_goals(unfold noNode at HWi)
 all_goals(have HBv:=Lib.hid (hwt▸hbt))
 all_goals(have HBT:=Lib.hid (hwt▸BT))
 all_goals(have HJ2:=Lib.hid hj2)
 all_goals(generalize nd.pre.getD k 0=lab at*)
 all_goals(generalize nd.pre.take k=prk at*)
 all_goals(clear hj2 B2 B2t BT hbt hwt hln htk hpre hck)
 all_goals(have hx1:(k:Int)<(nd.pre.length:Int):=by omega)
 all_goals(have hx2:decide ((k:Int)<(nd.pre.length:Int))=true:=decide_eq_true hx1)
 all_goals(go_wp2_with fail)
 all_goals(go_region_with(go_at_call 179;go_loud(refine(HWi.out _ (HBv.out.trans ((Dr.drew _).below _))).mono ?_;rintro e w3⟨rfl,hb3⟩;have hb23:=(HBv.out.trans ((Dr.drew _).below _)).trans (hb3.mono (HBv.out.trans ((Dr.drew _).below _)).size);have B3:=HBT.out.below (((Dr.drew _).below _).trans hb3) HBT.out.lt;obtain⟨r0,r1,r2,r3,rf0,rf1,rf2,rf3⟩:=blk4' B3)))
 all_goals(obtain⟨W9,hW9, -,hb9, -⟩:=set4 B3 hb23 (Nat.le_refl _) (.slice none 0 0) (.int .u64 0) (.slice none 0 0) (.slice none 0 0))
 all_goals(have HF:Hid (∀W,(W=(((w3.setCell ⟨w2.heap.size,0,none⟩ (.slice none 0 0)).setCell ⟨w2.heap.size,1,none⟩ (.int .u64 0)).setCell ⟨w2.heap.size,2,none⟩ (.slice none 0 0)).setCell ⟨w2.heap.size,3,none⟩ (.slice none 0 0))→Below w2.heap.size w2 W):=Lib.hid (fun W e=>by rw [e,←hW9];exact hb9))
 all_goals(clear hW9 hb9 W9)
 all_goals(go_wp2_with fail)
 all_goals(go_ret2)
 all_goals(have hfin:=HF.out _ rfl)
 all_goals(refine⟨by rw [HP.out];rfl,G2,?_,HM2.out.trans (Moved.of_below hfin)⟩)
 all_goals(rw [HP.out])
 all_goals(exact HJ2.out.below hfin)
end
def Gof(F:Nat→Prop)(jb:Nat)(v:Value)(b:Nat):Prop:=F b∨b=jb∨v.ownBlock=some b
section
variable{w w':World}{base jb x d p L:Nat}{j:Jb}{F G:Nat→Prop}{v:Value}
theorem JobR.move'(h:JobR w base jb x d p L j F v){s':St}{F':Nat→Prop}(hs:Sys w' d p L s' F')(m:Moved F F' w w'):JobR w' base jb x d p L {j with s:=s'} F' v∧Moved (Gof F jb v) (Gof F' jb v) w w':=by
 obtain⟨G',q1,q2,q3⟩:=h.move (G:=Gof F jb v) (fun _=>Iff.rfl) hs m
 refine⟨q1,q3.touch,fun b hb=>q3.own b ((q2 b).2 hb)⟩
theorem drop_get{α:Type}(l:List α)(k:Nat)(hk:k<l.length):l.drop k=l[k]::l.drop (k+1):=List.drop_eq_getElem_cons hk
def FinPost(r:St×Int)(base jb x d p L:Nat)(j:Jb)(G:Nat→Prop)(w:World)(e:Ending)(w':World):Prop:=
 e= .returned (.int .i64 r.2)∧∃G',JobAt w' base jb x d p L {j with s:=r.1} G'∧Moved G G' w w'
set_option maxHeartbeats 8000000 in
set_option maxRecDepth 100000 in
theorem finish_bad(h:JobAt w base jb x d p L j G)(e:Int)(he:e≠0)(word:Int)(name:UInt64)(A:Option Addr)(c:Nat)(old:List Int)(hm:j.made.length≤1000):
 Calls Tryz.prog 141 #[.pointer (some ⟨jb,0,none⟩),.int .i64 e,.int .i64 word,.int .u64 (name.toNat:Int),.slice A old.length c] w (FinPost (finishP j e word name old) base jb x d p L j G w):=by
 obtain⟨F,v,hj,hG⟩:=h
 have hGe:G=Gof F jb v:=funext fun b=>propext (hG b)
 subst hGe
 obtain⟨A0,c0,rfl,hc0, -⟩:=rd_of_own (own_mono hj.row (Nat.zero_le _))
 have HP:Hid (finishP j e word name old=(dropsP j.s j.made,e)):=Lib.hid (by unfold finishP;rw [if_pos he])
 have t1:(e==0)=false:=by rw [beq_eq_false_iff_ne];exact he
 have t2:(e !=0)=true:=by rw [bne_iff_ne];exact he
 have HJ:=Lib.hid hj
 have y0:=hj.box.cell 0
 have y1:=hj.box.cell 1
 simp only [List.getElem?_cons_zero,List.getElem?_cons_succ]at y0 y1
 clear hj hG he
 go_enter Tryz.func141,Tryz.ntmps141
 go_wp2_with fail
 go_loopw [35](fun i wr=>∃(k:Nat)(F':Nat→Prop)(s':St),k≤j.made.length∧i= .int .i64 (k:Nat)∧dropsP s' (j.made.drop k)=dropsP j.s j.made∧JobR wr base jb x d p L {j with s:=s'} F' (.slice A0 j.made.length c0)∧Moved (Gof F jb (.slice A0 j.made.length c0)) (Gof F' jb (.slice A0 j.made.length c0)) w wr)(fun i _=>j.made.length- (intOf i).toNat)
 case atStart=>exact⟨0,F,j.s,Nat.zero_le _,rfl,rfl,HJ.out,Moved.refl _ _⟩
 case round=>
  obtain⟨k,F',s',hk,rfl,hdr,hjr,hmv⟩:=hrel
  have HMv:=Lib.hid hmv
  have HDr:=Lib.hid hdr
  have HJr:=Lib.hid hjr
  clear hmv hdr hjr y0 y1
  by_cases hlt:k<j.made.length
  ·have y0:=HJr.out.box.cell 0
   have u1:=HJr.out.ix.box.cell 1
   simp only [List.getElem?_cons_zero,List.getElem?_cons_succ]at y0 u1
   obtain⟨rb,ro,rfl,hrb,hcs⟩:=(rd_own HJr.out.row).2.2 (by omega)
   have hck:=hcs k hlt
   rw [List.getElem?_map,List.getElem?_eq_getElem hlt]at hck
   replace hck:_=some (Value.int .i64 j.made[k]):=hck
   have hin: -9223372036854775808≤j.made[k]∧j.made[k]≤9223372036854775807:=HJr.out.mb _ (List.getElem_mem _)
   have HNx:Hid (dropsP (dropP s' j.made[k]).1 (j.made.drop (k+1))=dropsP j.s j.made):=Lib.hid (by rw [←HDr.out,drop_get _ _ hlt];rfl)
   have HDp:=Lib.hid (drop_pool HJr.out.ix.sys j.made[k] hin)
   generalize j.made[k]=o at*
   clear hcs hin
   have hx1:(k:Int)<(j.made.length:Int):=by omega
   have hx2:decide ((k:Int)<(j.made.length:Int))=true:=decide_eq_true hx1
   have hwk:IntKind.i64.wrap ((k:Int)+1)=(k:Int)+1:=wrap64 _ (by omega) (by omega)
   go_wp2_with fail
   refine HDp.out.mono ?_
   rintro e9 w9⟨rfl,F9,hs9,hm9⟩
   obtain⟨q1,q2⟩:=HJr.out.move' hs9 hm9
   have HQ:=Lib.hid q1
   have HM9:=Lib.hid (HMv.out.trans q2)
   clear q1 q2 hs9 hm9 HDp y0 u1 hck HJr HMv
   go_wp2_with fail
   go_roundw
   case rel=>exact⟨k+1,F9,(dropP s' o).1,by omega,by go_num,HNx.out,HQ.out,HM9.out⟩
   case measure=>simp [intOf];omega
  ·have hkn:k=j.made.length:=by omega
   subst hkn
   have HS:Hid (s'=dropsP j.s j.made):=Lib.hid (by have:=HDr.out;rw [List.drop_length]at this;exact this)
   go_wp2_with fail
   go_ret
   refine⟨by rw [HP.out];rfl,Gof F' jb _,?_,HMv.out⟩
   rw [HP.out,←HS.out]
   exact⟨F',_,HJr.out,fun _=>Iff.rfl⟩
set_option maxHeartbeats 8000000 in
set_option maxRecDepth 100000 in
theorem finish_good(h:JobAt w base jb x d p L j G)(word:Int)(jw:Nat)(hw:word=((8*jw:Nat):Int))(hjw:jw<8*L)(name:UInt64)(A:Option Addr)(c:Nat)(old:List Int)(hO:RdO w G A old.length (old.map zv))(hob:∀o∈old, -9223372036854775808≤o∧o≤9223372036854775807)(hol:old.length≤1000):
 Calls Tryz.prog 141 #[.pointer (some ⟨jb,0,none⟩),.int .i64 0,.int .i64 word,.int .u64 (name.toNat:Int),.slice A old.length c] w (FinPost (finishP j 0 word name old) base jb x d p L j G w):=by
 obtain⟨F,v,hj,hG⟩:=h
 have hGe:G=Gof F jb v:=funext fun b=>propext (hG b)
 subst hGe
 have HP:Hid (finishP j 0 word name old=dropsE {j.s with ws:=put1 j.s.ws jw name} old 0):=Lib.hid (by unfold finishP;rw [if_neg (by simp),hw,show((8*jw:Nat):Int).toNat/8=jw by omega])
 have HPt:=sys_put hj.ix.sys jw name hjw
 rw [←hw]at HPt
 have HPt:=Lib.hid HPt
 have HJ:=Lib.hid hj
 have HO:=Lib.hid hO
 have HOb:=Lib.hid hob
 have y0:=hj.box.cell 0
 have u0:=hj.ix.box.cell 0
 simp only [List.getElem?_cons_zero]at y0 u0
 clear hj hG hO hob hw
 go_enter Tryz.func141,Tryz.ntmps141
 go_wp2_with fail
 refine HPt.out.mono ?_
 rintro e w1⟨rfl,F1,hs1,hm1⟩
 obtain⟨q1,q2⟩:=HJ.out.move' hs1 hm1
 have HJ1:=Lib.hid q1
 have HM1:=Lib.hid q2
 clear q1 q2 hs1 hm1 HPt y0 u0
 go_wp2_with fail
 go_loopw [1,52](fun e1 i wr=>∃(k:Nat)(F':Nat→Prop)(s':St)(ec:Int),k≤old.length∧e1= .int .i64 ec∧i= .int .i64 (k:Nat)∧dropsE s' (old.drop k) ec=dropsE {j.s with ws:=put1 j.s.ws jw name} old 0∧JobR wr base jb x d p L {j with s:=s'} F' v∧Moved (Gof F jb v) (Gof F' jb v) w wr)(fun _ i _=>old.length- (intOf i).toNat)
 case atStart=>exact⟨0,F1,_,0,Nat.zero_le _,rfl,rfl,rfl,HJ1.out,HM1.out⟩
 case round=>
  obtain⟨k,F',s',ec,hk,rfl,rfl,hdr,hjr,hmv⟩:=hrel
  have HMv:=Lib.hid hmv
  have HDr:=Lib.hid hdr
  have HJr:=Lib.hid hjr
  clear hmv hdr hjr HJ1 HM1
  by_cases hlt:k<old.length
  ·have y0:=HJr.out.box.cell 0
   have u1:=HJr.out.ix.box.cell 1
   simp only [List.getElem?_cons_zero,List.getElem?_cons_succ]at y0 u1
   obtain⟨rb,ro,rfl,hrb,hcs⟩:=(HO.out.moved HMv.out).1.2 (by omega)
   have hck:=hcs k hlt
   rw [List.getElem?_map,List.getElem?_eq_getElem hlt]at hck
   replace hck:_=some (Value.int .i64 old[k]):=hck
   have hin: -9223372036854775808≤old[k]∧old[k]≤9223372036854775807:=HOb.out _ (List.getElem_mem _)
   have HNx:Hid (dropsE (dropP s' old[k]).1 (old.drop (k+1)) (if ec=0 then(dropP s' old[k]).2 else ec)=dropsE {j.s with ws:=put1 j.s.ws jw name} old 0):=Lib.hid (by rw [←HDr.out,drop_get _ _ hlt];rfl)
   have HDp:=Lib.hid (drop_pool HJr.out.ix.sys old[k] hin)
   generalize old[k]=o at*
   obtain⟨de,hde⟩:∃de,de=(dropP s' o).2:=⟨_,rfl⟩
   rw [←hde]at HNx HDp
   clear hcs hin hde
   have hx1:(k:Int)<(old.length:Int):=by omega
   have hx2:decide ((k:Int)<(old.length:Int))=true:=decide_eq_true hx1
   have hwk:IntKind.i64.wrap ((k:Int)+1)=(k:Int)+1:=wrap64 _ (by omega) (by omega)
   go_wp2_with fail
   refine HDp.out.mono ?_
   rintro e9 w9⟨rfl,F9,hs9,hm9⟩
   obtain⟨q1,q2⟩:=HJr.out.move' hs9 hm9
   have HQ:=Lib.hid q1
   have HM9:=Lib.hid (HMv.out.trans q2)
   clear q1 q2 hs9 hm9 HDp y0 u1 hck HJr HMv
   by_cases hec:ec=0
   ·subst hec
    rw [if_pos rfl]at HNx
    go_wp2_with fail
    go_roundw
    case rel=>exact⟨k+1,F9,(dropP s' o).1,de,by omega,rfl,by go_num,HNx.out,HQ.out,HM9.out⟩
    case measure=>simp [intOf];omega
   ·rw [if_neg hec]at HNx
    have t5:(ec==0)=false:=by rw [beq_eq_false_iff_ne];exact hec
    go_wp2_with fail
    go_roundw
    case rel=>exact⟨k+1,F9,(dropP s' o).1,ec,by omega,rfl,by go_num,HNx.out,HQ.out,HM9.out⟩
    case measure=>simp [intOf];omega
  ·have hkn:k=old.length:=by omega
   subst hkn
   have HS:Hid ((s',ec)=dropsE {j.s with ws:=put1 j.s.ws jw name} old 0):=Lib.hid (by have:=HDr.out;rw [List.drop_length]at this;exact this)
   go_wp2_with fail
   go_ret
   refine⟨by rw [HP.out,←HS.out];rfl,Gof F' jb _,?_,HMv.out⟩
   rw [HP.out,←HS.out]
   exact⟨F',_,HJr.out,fun _=>Iff.rfl⟩
end
theorem JobAt.done{w W w':World}{base jb x d p L:Nat}{j:Jb}{F G G':Nat→Prop}(h:JobAt w' base jb x d p L j G')(m:Moved G G' W w')(hb:Below w.heap.size w W)(hG:∀b,G b→F b∨w.heap.size≤b):∃F',Ix w' x d p L j.s F'∧Moved F F' w w':=by
 obtain⟨F',v,hj,hG'⟩:=h
 have hs:=hb.size
 refine⟨F',hj.ix,(Touch.of_below hb).trans m.touch hG,fun b hb'=> ?_⟩
 rcases m.own b ((hG' b).2 (.inl hb'))with h1| h1
 ·exact hG b h1
 ·exact .inr (by omega)
theorem job_new{w W:World}{x d p L:Nat}{s:St}{F:Nat→Prop}(h:Ix W x d p L s F)(hw:W=w.alloc (.cells #[.pointer (some ⟨x,0,none⟩),.slice none 0 0] 235))(hF:∀b,F b→b<w.heap.size)(hx:x<w.heap.size)(ht:0<w.heap.size∧1<w.heap.size):
 JobAt W w.heap.size w.heap.size x d p L ⟨s,[]⟩ (fun b=>F b∨b=w.heap.size):=by
 have e1:(Value.slice none 0 0).ownBlock=none:=rfl
 have row:W.ownsRow w.heap.size 3 1 (.slice none 0 0) 0 []:=World.ownsRow_nil _ _ _ _
 have box:Blk W w.heap.size 235 [.pointer (some ⟨x,0,none⟩),.slice none 0 0]:=hw▸heap_alloc_new _ _
 have fj:¬F w.heap.size:=fun hf=>Nat.lt_irrefl _ (hF _ hf)
 refine⟨F,.slice none 0 0,⟨h,box,row,fj,Nat.le_refl _,hx,ht,(by rw [e1];exact fun e=>nomatch e),fun b hb=>(by rw [e1]at hb;exact nomatch hb),fun o ho=>nomatch ho⟩,fun b=>⟨fun hb=>hb.elim .inl (fun e=> .inr (.inl e)),fun hb=> ?_⟩⟩
 rcases hb with h1| h1| h1
 ·exact .inl h1
 ·exact .inr h1
 ·rw [e1]at h1;exact nomatch h1
def PutPost(r:St×Int)(x d p L:Nat)(F:Nat→Prop)(w:World)(e:Ending)(w':World):Prop:=
 e= .returned (.int .i64 r.2)∧∃F',Ix w' x d p L r.1 F'∧Moved F F' w w'
section
variable{w:World}{x d p L:Nat}{s:St}{F:Nat→Prop}
theorem key_len(key:ByteArray):key.data.toList.length=key.size:=by rw [Array.length_toList];rfl
set_option maxHeartbeats 8000000 in
set_option maxRecDepth 100000 in
theorem put_early(h:Ix w x d p L s F)(key:ByteArray)(hk:key.size≤1000)(value:UInt64)(hc:16<key.size∨value=0∨pathP s key.data.toList=none):
 Calls Tryz.prog 93 #[.pointer (some ⟨x,0,none⟩),.string key,.int .u64 (value.toNat:Int)] w (PutPost (putK s key.data.toList value) x d p L F w):=by
 have HA:=Lib.hid (ask_index h key (by omega))
 have HX:=Lib.hid h
 have hkl:=key_len key
 by_cases h1:16<key.size
 ·have HP:Hid (putK s key.data.toList value=(s,3)):=Lib.hid (by unfold putK;rw [hkl,if_pos h1])
  rw [if_pos h1]at HA
  clear h hc h1 hkl
  go_enter Tryz.func93,Tryz.ntmps93
  go_wp2_with fail
  refine HA.out.mono ?_
  rintro e w1⟨rfl,rfl⟩
  clear HA
  go_wp2_with fail
  go_ret
  refine⟨by rw [HP.out];rfl,F,?_,Moved.refl _ _⟩
  rw [HP.out]
  exact HX.out
 ·rw [if_neg h1]at HA
  by_cases h2:value=0
  ·have HP:Hid (putK s key.data.toList value=(s,2)):=Lib.hid (by unfold putK;rw [hkl,if_neg h1,if_pos h2])
   subst h2
   clear h hc h1 hkl
   go_enter Tryz.func93,Tryz.ntmps93
   go_wp2_with fail
   refine HA.out.mono ?_
   rintro e w1⟨rfl,rfl⟩
   clear HA
   go_wp2_with fail
   go_ret
   refine⟨by rw [HP.out];rfl,F,?_,Moved.refl _ _⟩
   rw [HP.out]
   exact HX.out
  ·have hpn:=(hc.resolve_left h1).resolve_left h2
   have HP:Hid (putK s key.data.toList value=(s,5)):=Lib.hid (by unfold putK;rw [hkl,if_neg h1,if_neg h2,hpn])
   have HPa:=Lib.hid (path_index h key hk)
   have HPn:=Lib.hid hpn
   have t1:((value.toNat:Int)==0)=false:=by
    rw [beq_eq_false_iff_ne];intro e;exact h2 (UInt64.toNat_inj.1 (by simp;omega))
   clear h hc h1 h2 hkl hpn
   go_enter Tryz.func93,Tryz.ntmps93
   go_wp2_with fail
   refine HA.out.mono ?_
   rintro e w1⟨rfl,rfl⟩
   clear HA
   go_wp2_with fail
   refine HPa.out.mono ?_
   rintro e w1⟨hb1,hp1⟩
   rw [HPn.out]at hp1
   replace hp1:e= .returned (.tuple #[.slice none 0 0,.slice none 0 0,.int .i64 5]):=hp1
   subst hp1
   have HB:=Lib.hid hb1
   clear hb1 HPa
   go_wp2_with fail
   go_ret
   refine⟨by rw [HP.out];rfl,F,?_,Moved.of_below HB.out⟩
   rw [HP.out]
   exact HX.out.below HB.out
end
theorem pathGo_len{s:St}:∀(f:Nat)(name:UInt64)(rest:List UInt8)(label:UInt8)(word:Int)(way way':List Pl)(rest':List UInt8),pathGo s f name rest label word way=some (way',rest')→way'.length≤way.length+f
 | 0,name,rest,label,word,way,way',rest',h=>by
   rw [pathGo]at h
   injection h with h
   injection h with h1 h2
   subst h1
   omega
 | f+1,name,rest,label,word,way,way',rest',h=>by
   rw [pathGo]at h
   split at h
   ·injection h with h
    injection h with h1 h2
    subst h1
    omega
   ·split at h
    ·cases h
    ·split at h
     ·injection h with h
      injection h with h1 h2
      subst h1
      simp
     ·split at h
      ·injection h with h
       injection h with h1 h2
       subst h1
       simp
      ·have:=pathGo_len f _ _ _ _ _ _ _ h
       simp at this
       omega
theorem path_len{s:St}{key:List UInt8}{way:List Pl}{rest:List UInt8}(h:pathP s key=some (way,rest)):way.length≤2*key.length+1:=by
 have:=pathGo_len _ _ _ _ _ _ _ _ h
 simpa using this
theorem RsAt.below{w w':World}{base:Nat}{A:Option Addr}{l:List UInt8}(h:RsAt w base A l)(k:Below w.heap.size w w'):RsAt w' base A l:=(SameBut.of_below k).rs h
section
variable{w:World}{x d p L:Nat}{s:St}{F:Nat→Prop}
set_option maxHeartbeats 16000000 in
set_option maxRecDepth 100000 in
theorem put_value(h:Ix w x d p L s F)(key:ByteArray)(h16:¬16<key.size)(value:UInt64)(hv0:value≠0)(way:List Pl)(rest:List UInt8)(hpa:pathP s key.data.toList=some (way,rest))(last:Pl)(hst:standsP way rest=some last):
 Calls Tryz.prog 93 #[.pointer (some ⟨x,0,none⟩),.string key,.int .u64 (value.toNat:Int)] w (PutPost (putK s key.data.toList value) x d p L F w):=by
 have HA:=Lib.hid (ask_index h key (by omega))
 rw [if_neg h16]at HA
 have HX:=Lib.hid h
 have hkl:=key_len key
 obtain⟨l0,l1,ok,hntk⟩:=h.L0
 have hL16:16≤L:=by have:=ok.fits;have:=ok.slabs;omega
 obtain⟨hplk,hrl⟩:=path_ok ok (by omega) hntk hpa
 have hwl:=path_len hpa
 rw [hkl]at hrl hwl
 replace hrl:rest.length≤32:=by omega
 replace hwl:way.length≤33:=by omega
 have hpre:∀pl∈way,pl.nd.pre.length≤1000:=fun pl hm=>by have:=((rightB_iff _).1 (hplk pl hm).right).1;omega
 have HPk:=Lib.hid hplk
 have HPr:=Lib.hid hpre
 have HPa:=Lib.hid (path_index h key (by omega))
 have HPn:=Lib.hid hpa
 have hxl:=h.box.lt
 have HTl:=Lib.hid h.sys.tabs.lt
 have HFl:=Lib.hid h.sys.lt
 have HSt:=Lib.hid hst
 have hmem:last∈way:=by
  unfold standsP at hst
  split at hst
  ·cases hst
  ·rename_i l hl
   split at hst
   ·injection hst with hst;subst hst;exact List.mem_of_getLast? hl
   ·cases hst
 have HPl:=Lib.hid (hplk last hmem)
 have HP:Hid (putK s key.data.toList value=(valueP s last value,0)):=Lib.hid (by unfold putK;rw [hkl,if_neg h16,if_neg hv0,hpa];simp only;rw [hst])
 clear hst hmem
 have t1:((value.toNat:Int)==0)=false:=by
  rw [beq_eq_false_iff_ne];intro e;exact hv0 (UInt64.toNat_inj.1 (by simp;omega))
 clear h h16 hv0 hpa hkl ok hntk hplk hpre
 go_enter Tryz.func93,Tryz.ntmps93
 go_wp2_with fail
 refine HA.out.mono ?_
 rintro e w1⟨rfl,rfl⟩
 clear HA
 go_wp2_with fail
 refine HPa.out.mono ?_
 rintro e w1⟨hb1,hp1⟩
 rw [HPn.out]at hp1
 obtain⟨vw,A,c,rfl,hway,hrs,hrc⟩:=hp1
 have HW1:=Lib.hid hway
 have HR1:=Lib.hid hrs
 have HB1:=Lib.hid hb1
 clear hway hrs hb1 HPa
 go_wp2_with fail
 refine(stands_any HW1.out (by omega) HPr.out HR1.out.1 (by omega)).mono ?_
 rintro e w2⟨hb2,hp2⟩
 rw [HSt.out]at hp2
 obtain⟨a,b,c',d',rfl,hnd⟩:=hp2
 obtain⟨A1,m1,A2,m2,A3,m3,e,o1,o2,o3⟩:=hnd
 simp only [Value.agg.injEq]at e
 simp at e
 obtain⟨rfl,rfl,rfl,rfl⟩:=e
 have HB2:=Lib.hid (HB1.out.trans (hb2.mono HB1.out.size))
 obtain⟨W3,hW3⟩:∃W3,W3=w2.alloc (.cells #[.slice A1 last.nd.pre.length m1,.int .u64 (last.nd.val.toNat:Int),.slice A2 last.nd.labels.length m2,.slice A3 last.nd.kids.length m3,.int .i64 last.off,.int .u8 (last.label.toNat:Int),.int .i64 last.word] 227):=⟨_,rfl⟩
 have B3:Blk W3 w2.heap.size 227 [.slice A1 last.nd.pre.length m1,.int .u64 (last.nd.val.toNat:Int),.slice A2 last.nd.labels.length m2,.slice A3 last.nd.kids.length m3,.int .i64 last.off,.int .u8 (last.label.toNat:Int),.int .i64 last.word]:=hW3▸heap_alloc_new _ _
 have hb3:Below w2.heap.size w2 W3:=hW3▸(Below.refl _ _).alloc (Nat.le_refl _) _
 have HB3:=Lib.hid (HB2.out.trans (hb3.mono HB2.out.size))
 have HV:=Lib.hid (value_index (HX.out.below HB3.out) last (HPl.out) A1 A2 A3 last.nd.pre.length m1 last.nd.labels.length m2 last.nd.kids.length m3 value)
 have HW3:=Lib.hid hW3
 obtain⟨y0,y1,y2,y3,y4,y5,y6⟩:=cell7 B3
 rw [hW3]at y0 y1 y2 y3 y4 y5 y6
 clear o1 o2 o3 hb2 hb3 B3 hW3
 go_wp2_with fail
 rw [←HW3.out]
 refine HV.out.mono ?_
 rintro e w4⟨rfl,F4,hx4,hm4⟩
 have HF:=Lib.hid (And.intro hx4 ((Moved.of_below (F:=F) HB3.out).trans hm4))
 clear hx4 hm4 y0 y1 y2 y3 y4 y5 y6 HV HW3
 go_wp2_with fail
 go_ret
 refine⟨by rw [HP.out];rfl,F4,?_,HF.out.2⟩
 rw [HP.out]
 exact HF.out.1
set_option maxHeartbeats 16000000 in
set_option maxRecDepth 100000 in
theorem put_first(h:Ix w x d p L s F)(key:ByteArray)(h16:¬16<key.size)(value:UInt64)(hv0:value≠0)(way:List Pl)(rest:List UInt8)(hpa:pathP s key.data.toList=some (way,rest))(hw0:way=[])(hst:standsP way rest=none):
 Calls Tryz.prog 93 #[.pointer (some ⟨x,0,none⟩),.string key,.int .u64 (value.toNat:Int)] w (PutPost (putK s key.data.toList value) x d p L F w):=by
 have HA:=Lib.hid (ask_index h key (by omega))
 rw [if_neg h16]at HA
 have HX:=Lib.hid h
 have hkl:=key_len key
 obtain⟨l0,l1,ok,hntk⟩:=h.L0
 have hL16:16≤L:=by have:=ok.fits;have:=ok.slabs;omega
 obtain⟨hplk,hrl⟩:=path_ok ok (by omega) hntk hpa
 have hwl:=path_len hpa
 rw [hkl]at hrl hwl
 replace hrl:rest.length≤32:=by omega
 replace hwl:way.length≤33:=by omega
 have hpre:∀pl∈way,pl.nd.pre.length≤1000:=fun pl hm=>by have:=((rightB_iff _).1 (hplk pl hm).right).1;omega
 have HPk:=Lib.hid hplk
 have HPr:=Lib.hid hpre
 have HPa:=Lib.hid (path_index h key (by omega))
 have HPn:=Lib.hid hpa
 have hxl:=h.box.lt
 have HTl:=Lib.hid h.sys.tabs.lt
 have HFl:=Lib.hid h.sys.lt
 have HSt:=Lib.hid hst
 obtain⟨⟨j1,name,er⟩,hr⟩:∃r,leafP (rest.length+1) ⟨s,[]⟩ rest value=r:=⟨_,rfl⟩
 have HR:=Lib.hid hr
 have hw0':way.length=0:=by rw [hw0];rfl
 have HP:Hid (putK s key.data.toList value=finishP j1 er 72 name []):=Lib.hid (by unfold putK;rw [hkl,if_neg h16,if_neg hv0,hpa];simp only;rw [hst,hw0];simp only [List.getLast?_nil];rw [hr])
 clear hst hw0 hr
 have t1:((value.toNat:Int)==0)=false:=by
  rw [beq_eq_false_iff_ne];intro e;exact hv0 (UInt64.toNat_inj.1 (by simp;omega))
 clear h h16 hv0 hpa hkl ok hntk hplk hpre
 go_enter Tryz.func93,Tryz.ntmps93
 go_wp2_with fail
 refine HA.out.mono ?_
 rintro e w1⟨rfl,rfl⟩
 clear HA
 go_wp2_with fail
 refine HPa.out.mono ?_
 rintro e w1⟨hb1,hp1⟩
 rw [HPn.out]at hp1
 obtain⟨vw,A,c,rfl,hway,hrs,hrc⟩:=hp1
 have HW1:=Lib.hid hway
 have HR1:=Lib.hid hrs
 have HB1:=Lib.hid hb1
 clear hway hrs hb1 HPa
 go_wp2_with fail
 refine(stands_any HW1.out (by omega) HPr.out HR1.out.1 (by omega)).mono ?_
 rintro e w2⟨hb2,hp2⟩
 rw [HSt.out]at hp2
 replace hp2:e= .returned (.tuple #[.agg #[.slice none 0 0,.int .u64 0,.slice none 0 0,.slice none 0 0,.int .i64 0,.int .u8 0,.int .i64 0],.bool false]):=hp2
 subst hp2
 obtain⟨Av,cv,hvw⟩:∃Av cv,vw= .slice Av way.length cv:=by
  obtain⟨vs,ho,_⟩:=HW1.out
  rcases ho.2 with⟨e1,e2⟩| ⟨g,cap,cur,e1,_⟩
  ·exact⟨none,0,by rw [e1,e2]⟩
  ·exact⟨_,_,e1⟩
 subst hvw
 have HB2:=Lib.hid (HB1.out.trans (hb2.mono HB1.out.size))
 obtain⟨w3,hw3⟩:∃w3,w3=w2.alloc (.cells #[.slice none 0 0,.int .u64 0,.slice none 0 0,.slice none 0 0,.int .i64 0,.int .u8 0,.int .i64 0] 227):=⟨_,rfl⟩
 have hb23:Below w2.heap.size w2 w3:=hw3▸(Below.refl _ _).alloc (Nat.le_refl _) _
 obtain⟨w4,hw4⟩:∃w4,w4=w3.alloc (.cells #[.pointer (some ⟨x,0,none⟩),.slice none 0 0] 235):=⟨_,rfl⟩
 have hb34:Below w3.heap.size w3 w4:=hw4▸(Below.refl _ _).alloc (Nat.le_refl _) _
 have hs3:w3.heap.size=w2.heap.size+1:=by rw [hw3];simp
 have HB3:=Lib.hid (HB2.out.trans (hb23.mono HB2.out.size))
 have HB4:=Lib.hid (HB3.out.trans (hb34.mono HB3.out.size))
 have hsz:=HB3.out.size
 have hJ:=job_new (HX.out.below HB4.out) hw4 (fun b hb=>by have:=HFl.out b hb;omega) (by omega) (by have:=HTl.out;omega)
 have HGj:Hid (∀b,(fun b=>F b∨b=w3.heap.size) b→F b∨w.heap.size≤b):=Lib.hid (fun b hb=>hb.imp id (fun e=>by omega))
 have hb13:Below w1.heap.size w1 w3:=hb2.trans (hb23.mono hb2.size)
 have hrs3:=RsAt.below HR1.out hb13
 have hrd:RdO w4 (fun b=>F b∨b=w3.heap.size) A rest.length (rest.map bv):=by
  refine RdO.below (w:=w3) ⟨hrs3.1,fun hn a ea hg=> ?_⟩ hb34
  obtain⟨rb,ro,e',hrb,_⟩:=hrs3.1.2 hn
  rw [e']at ea
  injection ea with ea
  subst ea
  rcases hg with hg| hg
  ·have:=(hrs3.2 _ _ e').1;have:=HFl.out _ hg;simp only at this;omega
  ·simp only at hg;omega
 have HL:=leaf_job (rest.length+1) w4 ⟨s,[]⟩ _ rest value A c hJ hrd hrc (by omega) (by omega) (by simp only [List.length_nil];omega)
 rw [HR.out]at HL
 have HL:=Lib.hid HL
 have HW3:=Lib.hid hw3
 have HW4:=Lib.hid hw4
 have HS3:=Lib.hid hs3
 have hmd:=leafP_made (rest.length+1) ⟨s,[]⟩ rest value
 rw [HR.out]at hmd
 simp only [List.length_nil]at hmd
 rw [hw0']at*
 clear hb2 hb23 hb34 hs3 hJ hrd hrs3 hb13 hw3 hw4
 go_wp2_with fail
 rw [←HW3.out,←HW4.out,←HS3.out]
 refine HL.out.mono ?_
 rintro e w5⟨rfl,G5,hj5,hm5⟩
 have hfin:Calls Tryz.prog 141 #[.pointer (some ⟨w3.heap.size,0,none⟩),.int .i64 er,.int .i64 72,.int .u64 (name.toNat:Int),.slice none 0 0] w5 (FinPost (finishP j1 er 72 name []) w3.heap.size w3.heap.size x d p L j1 G5 w5):=by
  by_cases he:er=0
  ·subst he
   exact finish_good hj5 72 9 rfl (by omega) name none 0 [] RdO.nil (fun o ho=>nomatch ho) (Nat.zero_le _)
  ·exact finish_bad hj5 er he 72 name none 0 [] (by show j1.made.length≤1000;omega)
 have HFin:=Lib.hid hfin
 have HM5:=Lib.hid hm5
 clear hfin hm5 hj5 HL
 go_wp2_with fail
 first
  | refine HFin.out.mono ?_
  | (rw [←HS3.out];refine HFin.out.mono ?_)
 rintro e w6⟨rfl,G6,hj6,hm6⟩
 have HD:=Lib.hid (hj6.done (HM5.out.trans hm6) HB4.out HGj.out)
 clear hj6 hm6 HFin
 go_wp2_with fail
 go_ret
 refine⟨by rw [HP.out];rfl,?_⟩
 rw [HP.out]
 exact HD.out
end
end Go.Proofs.YtjcppneoncpdbaaGreatDoor
