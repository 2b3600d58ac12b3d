import Derived.Test.YtjcppneoncpdbaaGreatDoorG12
import Derived.Test.YtjcppneoncpdbaaGreatDoorG17
set_option maxHeartbeats 32000000
set_option maxRecDepth 100000
open Go.Lib renaming hid->Aa
open Nat renaming le_refl->Ad,le_trans->AL,le_add_right->V4,lt_succ_self->V5,zero_le->BA,lt_irrefl->Aeb
open List renaming getElem?_map->BC,getElem?_eq_getElem->Af,map_drop->dL,map_take->Lc,length_drop->Au,getElem?_cons_zero->Ac,getElem?_cons_succ->Ae,getElem_mem->BD,drop_length->xg,mem_of_getLast?->KT,length_nil->D8
namespace Go.Proofs.YtjcppneoncpdbaaGreatDoor
open Go.RowKit
theorem Zl(x:Nd)(label:UInt8)(kid:UInt64):Jk x label kid=Uk x label kid:=rfl
theorem uG{w W:World}{base g:Nat}{e:TypeId}{a0 a1 a2 a3:Value}(h:BH W g e [a0,a1,a2,a3])(hb:Below base w W)(hg:base<=g)(b0 b1 b2 b3:Value):
 ∃W',W'=(((W.setCell ⟨g,0,none⟩ b0).setCell ⟨g,1,none⟩ b1).setCell ⟨g,2,none⟩ b2).setCell ⟨g,3,none⟩ b3/\BH W' g e [b0,b1,b2,b3]/\Below base w W'/\Kept W W' (some g):=
 ⟨_,rfl,(((h.AV 0 b0).AV 1 b1).AV 2 b2).AV 3 b3,
   (((hb.setCell (p:=⟨g,0,none⟩) hg b0).setCell (p:=⟨g,1,none⟩) hg b1).setCell (p:=⟨g,2,none⟩) hg b2).setCell (p:=⟨g,3,none⟩) hg b3,
   (((Kept.AV W g 0 b0).trans' (Kept.AV _ g 1 b1)).trans' (Kept.AV _ g 2 b2)).trans' (Kept.AV _ g 3 b3)⟩
theorem Jr{w w':World}{B g k n:Nat}{e:TypeId}{v:Value}{xs:List Value}(h:w.ownsRow B e k v n xs)(kp:Kept w w' (some g))(hg:g<B):w'.ownsRow B e k v n xs:=by
 refine Ed h kp (.inl ?_);rcases h.2 with⟨h1,_⟩| ⟨g',cap,cur,h1,h2,_⟩
 ·subst h1;simp [Value.ownBlock]
 ·subst h1;simp [Value.ownBlock];omega
section
variable{w w':World}{base jb x d p L:Nat}{j:Jb}{G:Nat->Prop}
theorem Gu.of_below{r:Jb×UInt64×Int}{W:World}(hb:Below w.heap.size w W){e:Ending}(h:Gu r base jb x d p L G W e w'):Gu r base jb x d p L G w e w':=by
 obtain⟨h1,G',h2,h3⟩:=h;exact⟨h1,G',h2,(Aq.of_below hb).trans h3⟩
theorem Q5(h:EW w base jb x d p L j G)(nd:Nd)(A1 A2 A3:Option Addr)(c1 c2 c3:Nat)(label:UInt8)(kid:UInt64)(e:Int)(b1:nd.pre.length<=100)(b2:nd.labels.length<=100)(b3:nd.kids.length<=100)
 (h1:Bs w A1 nd.pre.length nd.pre)(h2:Bs w A2 nd.labels.length nd.labels)(h3:Ws w A3 nd.kids.length nd.kids)(hm:j.made.length<=1000):
 Calls Tryz.prog 178 #[.pointer (some ⟨jb,0,none⟩),.agg #[.slice A1 nd.pre.length c1,.int .u64 (nd.val.toNat:Int),.slice A2 nd.labels.length c2,.slice A3 nd.kids.length c3],.int .u8 (label.toNat:Int),.int .u64 (kid.toNat:Int),.int .i64 e] w (Gu (Ey j nd label kid e) base jb x d p L G w):=by
 obtain⟨W,hW,e0,e1,e2,e3,hb,hs⟩:=xG w 225 (.slice A1 nd.pre.length c1) (.int .u64 (nd.val.toNat:Int)) (.slice A2 nd.labels.length c2) (.slice A3 nd.kids.length c3);have B0:BH W w.heap.size 225 [.slice A1 nd.pre.length c1,.int .u64 (nd.val.toNat:Int),.slice A2 nd.labels.length c2,.slice A3 nd.kids.length c3]:=hW▸heap_alloc_new _ _;have HW:=Aa hW;have HJ:=Aa h;have HB:=Aa hb;by_cases he:e=0
 ·subst he;have g1:=h1.below hb;have g2:=h2.below hb;have g3:=h3.below hb;clear h1 h2 h3 h hW hb;cases hok:Uk nd label kid with
  | false=>
    have HP:Hid (Ey j nd label kid 0=(j,0,5)):=Aa (by unfold Ey;rw [if_neg (by simp),Zl,hok];rfl);have HN:=Aa (qB A1 A2 A3 nd.pre.length c1 nd.labels.length c2 nd.kids.length c3 nd label kid W (by omega) (by omega) (by omega) g1 g2 g3 hok);unfold Nw at HN;clear hok g1 g2 g3;go_enter Tryz.func178,Tryz.ntmps178
    go_wp2_with fail
    rw [<-HW.out];clear HW;refine HN.out.mono ?_;rintro e w1⟨rfl,hb1⟩;have B1:=B0.below hb1 B0.lt;have HB1:=Aa (HB.out.trans (hb1.mono HB.out.size));clear e0 e1 e2 e3 B0 hb1 HN;obtain⟨y0,y1,y2,y3,f0,f1,f2,f3⟩:=Cb B1;have Vx:=Aa B1;clear B1
    go_wp2_with fail
    go_ret2;refine⟨by rw [HP.out];rfl,G,?_,?_⟩
    ·rw [HP.out];obtain⟨W9,TQ, -,VD, -⟩:=uG Vx.out HB1.out (Ad _) (.slice none 0 0) (.int .u64 0) (.slice none 0 0) (.slice none 0 0);rw [<-TQ];exact HJ.out.below VD
    ·obtain⟨W9,TQ, -,VD, -⟩:=uG Vx.out HB1.out (Ad _) (.slice none 0 0) (.int .u64 0) (.slice none 0 0) (.slice none 0 0);rw [<-TQ];exact Aq.of_below VD
  | true=>
    have Yi:=hok;have HP:Hid (Ey j nd label kid 0=D5 j (KN nd label kid)):=Aa (by unfold Ey;rw [if_neg (by simp),Zl,hok];rfl);have HN:=Aa (iP A1 A2 A3 nd.pre.length c1 nd.labels.length c2 nd.kids.length c3 nd label kid W (by omega) (by omega) (by omega) g1 g2 g3 hok);have hbl:(KN nd label kid).pre.length<=1000/\(KN nd label kid).labels.length<=1000/\(KN nd label kid).kids.length<=1000:=by
     unfold KN ins;simp;omega
    generalize KN nd label kid=Ul at*;clear hok g1 g2 g3;go_enter Tryz.func178,Tryz.ntmps178
    go_wp2_with fail
    rw [<-HW.out];clear HW;refine HN.out.mono ?_;rintro e w1⟨⟨A1',c1',A2',c2',A3',c3',rfl,q1,q2,q3⟩,hb1⟩;have B1:=B0.below hb1 B0.lt;have HB1:=Aa (HB.out.trans (hb1.mono HB.out.size));have Q:=Aa (And.intro q1 (And.intro q2 q3));clear e0 e1 e2 e3 B0 hb1 HN q1 q2 q3;obtain⟨y0,y1,y2,y3,f0,f1,f2,f3⟩:=Cb B1;have Vx:=Aa B1;clear B1
    go_wp2_with fail
    obtain⟨W9,TQ,B9,VD,k9⟩:=uG Vx.out HB1.out (Ad _) (.slice A1' Ul.pre.length c1') (.int .u64 (Ul.val.toNat:Int)) (.slice A2' Ul.labels.length c2') (.slice A3' Ul.kids.length c3');rw [<-TQ];have HQ:=Aa (JQ (HJ.out.below VD) Ul A1' A2' A3' c1' c2' c3' hbl.1 hbl.2.1 hbl.2.2 (BK (Jr Q.out.1 k9 (by omega))).2 (BK (Jr Q.out.2.1 k9 (by omega))).2 (BK (Jr Q.out.2.2 k9 (by omega))).2 hm);have Vw:=Aa VD;obtain⟨y0,y1,y2,y3,f0,f1,f2,f3⟩:=Cb B9;clear VD k9 B9 TQ
    first
     | go_wp2_with fail
     | skip
    refine HQ.out.mono ?_;rintro e w10⟨rfl,Aiw⟩;have HG:=Aa Aiw;clear Aiw
    go_wp2_with fail
    go_ret2;rw [HP.out];exact(Gu.of_below Vw.out ⟨rfl,HG.out⟩)
 ·have HP:Hid (Ey j nd label kid e=(j,0,e)):=Aa (by unfold Ey;rw [if_pos he]);have t1:(e !=0)=true:=by rw [bne_iff_ne];exact he
  clear h1 h2 h3 h hW hb he;go_enter Tryz.func178,Tryz.ntmps178
  go_wp2_with fail
  rw [<-HW.out];go_ret2;refine⟨by rw [HP.out];rfl,G,?_,Aq.of_below HB.out⟩;rw [HP.out];exact HJ.out.below HB.out
end
section
variable{base jb x d p L:Nat}
theorem FN{w:World}{G:Nat->Prop}{A:Option Addr}{l:List UInt8}(h:Ja w G A l.length (l.map bv))(k:Nat)(hk:k<l.length):∃b off,A=some ⟨b,off,none⟩/\b<w.heap.size/\w.cell? ⟨b,off+k,none⟩=some (.int .u8 ((l.getD k 0).toNat:Int)):=by
 obtain⟨b,off,e,hb,hc⟩:=h.1.2 (by omega);refine⟨b,off,e,hb,?_⟩;rw [hc k hk,BC,Af hk,List.getD_eq_getElem?_getD,Af hk];rfl
theorem Tn:∀(f:Nat)(w:World)(j:Jb)(G:Nat->Prop)(l:List UInt8)(value:UInt64)(A:Option Addr)(c:Nat),EW w base jb x d p L j G->Ja w G A l.length (l.map bv)->l.length<=c->l.length<f->l.length<=100->j.made.length+f<=1000->
 Calls Tryz.prog 140 #[.pointer (some ⟨jb,0,none⟩),.slice A l.length c,.int .u64 (value.toNat:Int)] w (Gu (Ii f j l value) base jb x d p L G w)
 | 0,w,j,G,l,value,A,c,h,hl,hc,hf,hle,hm=>absurd hf (by omega)
 | f+1,w,j,G,l,value,A,c,h,hl,hc,hf,hle,hm=>by
   by_cases h15:l.length<=15
   ·have HP:Hid (Ii (f+1) j l value=D5 j ⟨l,value,[],[]⟩):=Aa (by rw [Ii,if_pos h15]);have HB:=Aa (JQ h ⟨l,value,[],[]⟩ A none none c 0 0 (by simp only;omega) (by simp) (by simp) hl.1 Rd.nil Rd.nil (by omega));have t1:decide ((l.length:Int)<=15)=true:=decide_eq_true (by omega);clear h hl;go_enter Tryz.func140,Tryz.ntmps140
    go_wp2_with fail
    refine HB.out.mono ?_;rintro e w1⟨rfl,hg⟩;have HG:=Aa hg;clear hg
    go_wp2_with fail
    go_ret2;rw [HP.out];exact⟨rfl,HG.out⟩
   ·have t1:decide ((l.length:Int)<=15)=false:=decide_eq_false (by omega);obtain⟨b,off,rfl,hbw, -⟩:=FN hl 15 (by omega);have hcut:=hl.cut 16 (by omega) hc;rw [<-dL,show l.length-16=(l.drop 16).length by simp]at hcut;have HL:=Tn f w j G (l.drop 16) value _ (c-16) h hcut (by simp;omega) (by simp;omega) (by simp;omega) (by omega);rw [show(l.drop 16).length=l.length-16 by simp]at HL;obtain⟨⟨j1,kid,er⟩,hr⟩:∃r,Ii f j (l.drop 16) value=r:=⟨_,rfl⟩;have hmd:=JO f j (l.drop 16) value;have HP:Hid (Ii (f+1) j l value=Ey j1 ⟨l.take 15,0,[],[]⟩ (l.getD 15 0) kid er):=Aa (by rw [Ii,if_neg h15,hr]);rw [hr]at HL hmd;simp only at hmd;have HL:Hid (∀P C,C=c-16->P=(if c=16 then some (⟨b,off,none⟩:Addr)else some ⟨b,off+16,none⟩)->Calls Tryz.prog 140 #[.pointer (some ⟨jb,0,none⟩),.slice P (l.length-16) C,.int .u64 (value.toNat:Int)] w (Gu (j1,kid,er) base jb x d p L G w)):=Aa (fun P C e1 e2=>by subst e1 e2;exact HL);have Hl:=Aa hl;clear h hl hcut hr;go_enter Tryz.func140,Tryz.ntmps140
    go_wp2_with fail
    all_goals(refine(HL.out _ _ (by omega) (by split<;>first| rfl| omega)).mono ?_)
    all_goals(rintro e w1⟨rfl,G1,hj1,hm1⟩)
    all_goals(clear HL)
    all_goals(have hl1:=Hl.out.moved hm1)
    all_goals(obtain⟨b',off',e',Aix,hck⟩:=FN hl1 15 (by omega))
    all_goals(injection e' with e';injection e' with e1 e2;subst e1 e2)
    all_goals(have hln:(l.take 15).length=15:=by simp;omega)
    all_goals(have hrd:Ja w1 G1 (some ⟨b,off,none⟩) 15 ((l.take 15).map bv):=by have:=hl1.take 15 (by omega);rwa [<-Lc]at this)
    all_goals(have hab:=fun(W:World)(hW:Below w1.heap.size w1 W)=>Q5 (hj1.below hW) ⟨l.take 15,0,[],[]⟩ (some ⟨b,off,none⟩) none none 15 0 0 (l.getD 15 0) kid er (by show(l.take 15).length<=100;omega) (by simp) (by simp) (by show Rd W _ (l.take 15).length _;rw [hln];exact(hrd.below hW).1) Rd.nil Rd.nil (by show j1.made.length<=1000;omega))
    all_goals(replace hab:=Aa hab)
    all_goals(rw [hln]at hab)
    all_goals(have HM1:=Aa hm1)
    all_goals(generalize l.getD 15 0=lab at*)
    all_goals(generalize l.take 15=l15 at*)
    all_goals(clear hj1 hm1 hl1 HL hln hrd)
    all_goals(have hx1:(15:Int)<(l.length:Int):=by omega)
    all_goals(have hx2:decide ((15:Int)<(l.length:Int))=true:=decide_eq_true hx1)
    all_goals(have hx3:15<l.length:=by omega)
    all_goals(have hx4:15<=c:=by omega)
    all_goals(go_wp2_with fail)
    all_goals(go_region_with(go_at_call 178;go_loud(refine(hab.out _ ((Dr.drew w1).below _)).mono ?_;rintro e w2⟨rfl,hg2⟩)))
    all_goals(obtain⟨G2,q1,q2⟩:=hg2)
    all_goals(have HF:=Aa (And.intro q1 (HM1.out.trans ((Aq.of_below ((Dr.drew w1).below _)).trans q2))))
    all_goals(clear q1 q2)
    all_goals(go_wp2_with fail)
    all_goals(go_ret2)
    all_goals(rw [HP.out])
    all_goals(exact⟨rfl,G2,HF.out.1,HF.out.2⟩)
end
section
variable{base jb x d p L:Nat}
theorem Xj.reads{w:World}{G:Nat->Prop}{A1 A2 A3:Option Addr}{n1 c1 n2 c2 n3 c3:Nat}{v:Value}{nd:Nd}(h:Xj w G (.slice A1 n1 c1) v (.slice A2 n2 c2) (.slice A3 n3 c3) nd):
 Ja w G A1 nd.pre.length (nd.pre.map bv)/\Ja w G A2 nd.labels.length (nd.labels.map bv)/\Ja w G A3 nd.kids.length (nd.kids.map wv)/\nd.pre.length<=c1:=by
 obtain⟨_,_,_,_,_,_,e1,_,e3,e4,hc,q1,q2,q3⟩:=h;injection e1 with a1 a2 a3
 injection e3 with b1 b2 b3
 injection e4 with d1 d2 d3
 subst a1 a3 b1 d1;exact⟨q1,q2,q3,hc⟩
theorem Ja.rest{w:World}{G:Nat->Prop}{b off c k n:Nat}{l:List UInt8}(h:Ja w G (some ⟨b,off,none⟩) n (l.map bv))(hn:n=l.length)(hk:k<=l.length)(hc:l.length<=c){P:Option Addr}(hP:P=(if c=k then some ⟨b,off,none⟩else some ⟨b,off+k,none⟩)):
 Ja w G P (l.drop k).length ((l.drop k).map bv):=by
 subst hn hP;have:=h.cut k (by omega) hc;rw [dL,Au];exact this
theorem uH{w:World}{j:Jb}{G:Nat->Prop}(h:EW w base jb x d p L j G)(nd:Nd)(A1 A2 A3:Option Addr)(c1 c2 c3:Nat)(off word:Int)(lb:UInt8)(rest:List UInt8)(A:Option Addr)(c:Nat)(value:UInt64)
 (hN:Xj w G (.slice A1 nd.pre.length c1) (.int .u64 (nd.val.toNat:Int)) (.slice A2 nd.labels.length c2) (.slice A3 nd.kids.length c3) nd)(b1:nd.pre.length<=100)(b2:nd.labels.length<=100)(b3:nd.kids.length<=100)
 (hR:Ja w G A rest.length (rest.map bv))(hrc:rest.length<=c)(hrl:rest.length<=100)(hm:j.made.length<=500)(hs:common nd.pre rest=nd.pre.length)(hlt:common nd.pre rest<rest.length):
 Calls Tryz.prog 142 #[.pointer (some ⟨jb,0,none⟩),.agg #[.slice A1 nd.pre.length c1,.int .u64 (nd.val.toNat:Int),.slice A2 nd.labels.length c2,.slice A3 nd.kids.length c3,.int .i64 off,.int .u8 (lb.toNat:Int),.int .i64 word],.slice A rest.length c,.int .u64 (value.toNat:Int)] w (Gu (GZ j nd rest value) base jb x d p L G w):=by
 have hb0:Below w.heap.size w (w.alloc (.cells #[.slice A1 nd.pre.length c1,.int .u64 (nd.val.toNat:Int),.slice A2 nd.labels.length c2,.slice A3 nd.kids.length c3,.int .i64 off,.int .u8 (lb.toNat:Int),.int .i64 word] 227)):=(Below.refl _ _).alloc (Ad _) _;have B0:BH (w.alloc (.cells #[.slice A1 nd.pre.length c1,.int .u64 (nd.val.toNat:Int),.slice A2 nd.labels.length c2,.slice A3 nd.kids.length c3,.int .i64 off,.int .u8 (lb.toNat:Int),.int .i64 word] 227)) w.heap.size 227 [.slice A1 nd.pre.length c1,.int .u64 (nd.val.toNat:Int),.slice A2 nd.labels.length c2,.slice A3 nd.kids.length c3,.int .i64 off,.int .u8 (lb.toNat:Int),.int .i64 word]:=heap_alloc_new _ _;obtain⟨W0,hW0⟩:∃W0,W0=w.alloc (.cells #[.slice A1 nd.pre.length c1,.int .u64 (nd.val.toNat:Int),.slice A2 nd.labels.length c2,.slice A3 nd.kids.length c3,.int .i64 off,.int .u8 (lb.toNat:Int),.int .i64 word] 227):=⟨_,rfl⟩;rw [<-hW0]at hb0 B0;have HW:=Aa hW0;obtain⟨b,o,rfl,hbw, -⟩:=FN hR _ hlt;obtain⟨k,hk⟩:∃k,k=common nd.pre rest:=⟨_,rfl⟩;rw [<-hk]at hs hlt;obtain⟨⟨j1,kid,er⟩,hr⟩:∃r,Ii (rest.length+1) j (rest.drop (k+1)) value=r:=⟨_,rfl⟩;have hmd:=JO (rest.length+1) j (rest.drop (k+1)) value;rw [hr]at hmd;simp only at hmd;have HP:Hid (GZ j nd rest value=Ey j1 nd (rest.getD k 0) kid er):=Aa (by rw [GZ,<-hk,if_pos hs,hr]);have HL:=Aa (fun(W:World)(hW:Below w.heap.size w W)(P:Option Addr)(C:Nat)(hC:C=c- (k+1))(hP:P=(if c=k+1 then some (⟨b,o,none⟩:Addr)else some ⟨b,o+(k+1),none⟩))=>Tn (rest.length+1) W j G (rest.drop (k+1)) value P C (h.below hW) ((hR.below hW).rest rfl (by omega) hrc hP) (by rw [Au];omega) (by rw [Au];omega) (by rw [Au];omega) (by omega));rw [hr,Au]at HL;have HC:=Aa (fun(W:World)(hW:Below w.heap.size w W)=>JE A1 (some ⟨b,o,none⟩) nd.pre.length rest.length c1 c nd.pre rest W (by omega) (by omega) (hN.reads.1.below hW).1 (hR.below hW).1);rw [<-hk]at HC;have HN:=Aa hN;have HR:=Aa hR;have iq:=Aa h.lt;clear h hN hR hr hW0;have t1:((k:Int)==(nd.pre.length:Int))=true:=by rw [beq_iff_eq];omega
 have hw1:IntKind.i64.wrap ((k:Int)+1)=(k:Int)+1:=wrap64 _ (by omega) (by omega);obtain⟨y0,y1,y2,y3,y4,y5,y6⟩:=DU B0;have Hs:=Aa hs;clear hk hs;go_enter Tryz.func142,Tryz.ntmps142
 go_wp2_with fail
 rw [<-HW.out];clear HW;refine(HC.out W0 hb0).mono ?_;rintro e w1⟨rfl,hd1⟩;have hb1:=hb0.trans ((hd1.below W0.heap.size).mono hb0.size);have B1:=B0.below (hd1.below _) B0.lt;have HB1:=Aa hb1;have Vx:=Aa B1;clear B0 hb0 hd1 y0 y1 y2 y3 y4 y5 y6 hb1;obtain⟨y0,y1,y2,y3,y4,y5,y6⟩:=DU B1;clear B1
 go_wp2_with fail
 all_goals(refine(HL.out w1 HB1.out _ _ (by omega) (by split<;>first| rfl| omega)).mono ?_)
 all_goals(rintro e w2⟨rfl,G2,hj2,hm2⟩)
 all_goals(have TN:=Aa ((Aq.of_below (F:=G) HB1.out).trans hm2))
 all_goals(have hrd:=HN.out.moved TN.out)
 all_goals(obtain⟨r1,r2,r3, -⟩:=hrd.reads)
 all_goals(have hrr:=HR.out.moved TN.out)
 all_goals(obtain⟨b',o',e',Aix,hck⟩:=FN hrr k hlt)
 all_goals(injection e' with e';injection e' with e1 e2;subst e1 e2)
 all_goals(have hab:=fun(W:World)(hW:Below w2.heap.size w2 W)=>Q5 (hj2.below hW) nd A1 A2 A3 c1 c2 c3 (rest.getD k 0) kid er b1 b2 b3 (r1.below hW).1 (r2.below hW).1 (r3.below hW).1 (by show j1.made.length<=1000;omega))
 all_goals(replace hab:=Aa hab)
 all_goals(have B2:=Vx.out.touch hm2.touch (fun hg=>by have:=iq.out _ hg;omega))
 all_goals(generalize rest.getD k 0=lab at*)
 all_goals(clear hj2 hm2 hrd r1 r2 r3 hrr HL Aix y0 y1 y2 y3 y4 y5 y6)
 all_goals(obtain⟨y0,y1,y2,y3,y4,y5,y6⟩:=DU B2)
 all_goals(clear B2)
 all_goals(have hx1:(k:Int)<(rest.length:Int):=by omega)
 all_goals(have hx2:decide ((k:Int)<(rest.length:Int))=true:=decide_eq_true hx1)
 all_goals(go_wp2_with fail)
 all_goals(go_region_with(go_at_call 178;go_loud(refine(hab.out _ ((Dr.drew w2).below _)).mono ?_;rintro e w3⟨rfl,G3,q1,q2⟩)))
 all_goals(have HF:=Aa (And.intro q1 (TN.out.trans ((Aq.of_below ((Dr.drew w2).below _)).trans q2))))
 all_goals(clear q1 q2)
 all_goals(go_wp2_with fail)
 all_goals(go_ret2)
 all_goals(rw [HP.out])
 all_goals(exact⟨rfl,G3,HF.out.1,HF.out.2⟩)
end
section
variable{base jb x d p L:Nat}
theorem grow_end{w:World}{j:Jb}{G:Nat->Prop}(h:EW w base jb x d p L j G)(nd:Nd)(A1 A2 A3:Option Addr)(c1 c2 c3:Nat)(off word:Int)(lb:UInt8)(rest:List UInt8)(A:Option Addr)(c:Nat)(value:UInt64)
 (hN:Xj w G (.slice A1 nd.pre.length c1) (.int .u64 (nd.val.toNat:Int)) (.slice A2 nd.labels.length c2) (.slice A3 nd.kids.length c3) nd)(b1:nd.pre.length<=100)(b2:nd.labels.length<=100)(b3:nd.kids.length<=100)
 (hR:Ja w G A rest.length (rest.map bv))(_:rest.length<=c)(hrl:rest.length<=100)(hm:j.made.length<=500)(hs:common nd.pre rest<nd.pre.length)(he:common nd.pre rest=rest.length):
 Calls Tryz.prog 142 #[.pointer (some ⟨jb,0,none⟩),.agg #[.slice A1 nd.pre.length c1,.int .u64 (nd.val.toNat:Int),.slice A2 nd.labels.length c2,.slice A3 nd.kids.length c3,.int .i64 off,.int .u8 (lb.toNat:Int),.int .i64 word],.slice A rest.length c,.int .u64 (value.toNat:Int)] w (Gu (GZ j nd rest value) base jb x d p L G w):=by
 have hb0:Below w.heap.size w (w.alloc (.cells #[.slice A1 nd.pre.length c1,.int .u64 (nd.val.toNat:Int),.slice A2 nd.labels.length c2,.slice A3 nd.kids.length c3,.int .i64 off,.int .u8 (lb.toNat:Int),.int .i64 word] 227)):=(Below.refl _ _).alloc (Ad _) _;have B0:BH (w.alloc (.cells #[.slice A1 nd.pre.length c1,.int .u64 (nd.val.toNat:Int),.slice A2 nd.labels.length c2,.slice A3 nd.kids.length c3,.int .i64 off,.int .u8 (lb.toNat:Int),.int .i64 word] 227)) w.heap.size 227 [.slice A1 nd.pre.length c1,.int .u64 (nd.val.toNat:Int),.slice A2 nd.labels.length c2,.slice A3 nd.kids.length c3,.int .i64 off,.int .u8 (lb.toNat:Int),.int .i64 word]:=heap_alloc_new _ _;obtain⟨W0,hW0⟩:∃W0,W0=w.alloc (.cells #[.slice A1 nd.pre.length c1,.int .u64 (nd.val.toNat:Int),.slice A2 nd.labels.length c2,.slice A3 nd.kids.length c3,.int .i64 off,.int .u8 (lb.toNat:Int),.int .i64 word] 227):=⟨_,rfl⟩;rw [<-hW0]at hb0 B0;have HW:=Aa hW0;obtain⟨q1,q2,q3,hpc⟩:=hN.reads;obtain⟨pb,po,rfl,hpw, -⟩:=FN q1 _ hs;obtain⟨k,hk⟩:∃k,k=common nd.pre rest:=⟨_,rfl⟩;have hkr:k<=rest.length:=by rw [hk];exact Es _ _
 have HC:=Aa (fun(W:World)(hW:Below w.heap.size w W)=>JE (some ⟨pb,po,none⟩) A nd.pre.length rest.length c1 c nd.pre rest W (by omega) (by omega) (q1.below hW).1 (hR.below hW).1);rw [<-hk]at hs HC;have HK:Hid (k=common nd.pre rest):=Aa hk;obtain⟨⟨j1,kid,er⟩,hr⟩:∃r,D5 j {nd with pre:=nd.pre.drop (k+1)}=r:=⟨_,rfl⟩;have hmd:=Gm j {nd with pre:=nd.pre.drop (k+1)};rw [hr]at hmd;simp only at hmd;have Py:=Aa hr;have Y1:=Aa (fun(W:World)(hW:Below w.heap.size w W)(P:Option Addr)(C:Nat)(hP:P=(if c1=k+1 then some (⟨pb,po,none⟩:Addr)else some ⟨pb,po+(k+1),none⟩))=>JQ (h.below hW) {nd with pre:=nd.pre.drop (k+1)} P A2 A3 C c2 c3 (by simp;omega) (by simp only;omega) (by simp only;omega)
  (((q1.below hW).rest rfl (by omega) hpc hP).1) (q2.below hW).1 (q3.below hW).1 (by omega))
 rw [hr]at Y1;simp only [Au]at Y1;have HN:=Aa q1;have HR:=Aa hR;have iq:=Aa h.lt;have HpC:=Aa hpc;rw [<-hk]at he;have HP:Hid (GZ j nd rest value=Ey j1 ⟨nd.pre.take k,value,[],[]⟩ (nd.pre.getD k 0) kid er):=Aa (by rw [GZ,<-hk,if_neg (by omega),hr];simp only [if_pos he]);have He:=Aa he;clear h hN hR hr hW0 q1 q2 q3;have t1:((k:Int)==(nd.pre.length:Int))=false:=by rw [beq_eq_false_iff_ne];omega
 have hw1:IntKind.i64.wrap ((k:Int)+1)=(k:Int)+1:=wrap64 _ (by omega) (by omega);have t2:((k:Int)==(rest.length:Int))=true:=by rw [beq_iff_eq];omega
 obtain⟨y0,y1,y2,y3,y4,y5,y6⟩:=DU B0;clear hk he;go_enter Tryz.func142,Tryz.ntmps142
 go_wp2_with fail
 rw [<-HW.out];clear HW;refine(HC.out W0 hb0).mono ?_;rintro e w1⟨rfl,hd1⟩;have hb1:=hb0.trans ((hd1.below W0.heap.size).mono hb0.size);have B1:=B0.below (hd1.below _) B0.lt;have hs1:w.heap.size<w1.heap.size:=B1.lt;obtain⟨wl,hwl⟩:∃wl,wl=w1.alloc (.cells #[.slice (some ⟨pb,po,none⟩) nd.pre.length c1,.int .u64 (nd.val.toNat:Int),.slice A2 nd.labels.length c2,.slice A3 nd.kids.length c3] 225):=⟨_,rfl⟩;have BL:BH wl w1.heap.size 225 [.slice (some ⟨pb,po,none⟩) nd.pre.length c1,.int .u64 (nd.val.toNat:Int),.slice A2 nd.labels.length c2,.slice A3 nd.kids.length c3]:=hwl▸heap_alloc_new _ _;have hbl:Below w1.heap.size w1 wl:=hwl▸(Below.refl _ _).alloc (Ad _) _;have HB1:=Aa hb1;have Vx:=Aa B1;obtain⟨y0,y1,y2,y3,y4,y5,y6⟩:=DU (B1.below hbl B1.lt);obtain⟨z0,z1,z2,z3,Vy,Vz,Y2,Y3⟩:=Cb BL;obtain⟨x0,x1,x2,x3,x4,x5,x6⟩:=DU B1;rw [hwl]at y0 y1 y2 y3 y4 y5 y6 z0 z1 z2 z3 Vy Vz Y2 Y3;have hne:w.heap.size≠w1.heap.size:=by omega
 have hne':w1.heap.size≠w.heap.size:=by omega
 clear B0 hb0 hd1 hb1 B1 BL hbl hwl
 go_wp2_with fail
 all_goals(refine(Y1.out _ (HB1.out.alloc HB1.out.size _) _ _ (by split<;>first| rfl| omega)).mono ?_)
 all_goals(rintro e w2⟨rfl,G2,hj2,hm2⟩)
 all_goals(have TN:=Aa ((Aq.of_below (F:=G) (HB1.out.alloc HB1.out.size _)).trans hm2))
 all_goals(have B2:=(Vx.out.below ((Below.refl _ _).alloc (Ad _) _) Vx.out.lt).touch hm2.touch (fun hg=>by have:=iq.out _ hg;omega))
 all_goals(have hpre:=HN.out.moved TN.out)
 all_goals(obtain⟨b',o',e',hpb,hck⟩:=FN hpre k hs)
 all_goals(injection e' with e';injection e' with e1 e2;subst e1 e2)
 all_goals(clear y0 y1 y2 y3 y4 y5 y6 z0 z1 z2 z3 Vy Vz Y2 Y3 x0 x1 x2 x3 x4 x5 x6 Y1 hm2 hne hne')
 all_goals(have hln:(nd.pre.take k).length=k:=by simp;omega)
 all_goals(have htk:Ja w2 G2 (some ⟨pb,po,none⟩) k ((nd.pre.take k).map bv):=by have:=hpre.take k (by omega);rwa [<-Lc]at this)
 all_goals(have hs2:w.heap.size<w2.heap.size:=B2.lt)
 all_goals(have hne:w.heap.size≠w2.heap.size:=by omega)
 all_goals(have hne':w2.heap.size≠w.heap.size:=by omega)
 all_goals(obtain⟨x0,x1,x2,x3,x4,x5,x6⟩:=DU B2)
 all_goals(obtain⟨wt,hwt⟩:∃wt,wt=w2.alloc (.cells #[.slice (some ⟨pb,po,none⟩) k k,.int .u64 0,.slice none 0 0,.slice none 0 0] 225):=⟨_,rfl⟩)
 all_goals(have BT:BH wt w2.heap.size 225 [.slice (some ⟨pb,po,none⟩) k k,.int .u64 0,.slice none 0 0,.slice none 0 0]:=hwt▸heap_alloc_new _ _)
 all_goals(have hbt:Below w2.heap.size w2 wt:=hwt▸(Below.refl _ _).alloc (Ad _) _)
 all_goals(have zh:=B2.below hbt B2.lt)
 all_goals(obtain⟨y0,y1,y2,y3,y4,y5,y6⟩:=DU zh)
 all_goals(obtain⟨z0,z1,z2,z3,Vy,Vz,Y2,Y3⟩:=Cb BT)
 all_goals(have iR:=(hbt.cell (p:=⟨pb,po+k,none⟩) hpb).trans hck)
 all_goals(rw [hwt]at y0 y1 y2 y3 y4 y5 y6 z0 z1 z2 z3 Vy Vz Y2 Y3 iR)
 all_goals(obtain⟨wv',hwv⟩:∃wv',wv'=w2.alloc (.cells #[.slice (some ⟨pb,po,none⟩) k k,.int .u64 (value.toNat:Int),.slice none 0 0,.slice none 0 0] 225):=⟨_,rfl⟩)
 all_goals(have BV:BH wv' w2.heap.size 225 [.slice (some ⟨pb,po,none⟩) k k,.int .u64 (value.toNat:Int),.slice none 0 0,.slice none 0 0]:=hwv▸heap_alloc_new _ _)
 all_goals(have hbv:Below w2.heap.size w2 wv':=hwv▸(Below.refl _ _).alloc (Ad _) _)
 all_goals(obtain⟨v0,v1,v2,v3,v4,v5,v6⟩:=DU (B2.below hbv B2.lt))
 all_goals(obtain⟨u0,u1,u2,u3, -⟩:=Cb BV)
 all_goals(have Ak4:=(hbv.cell (p:=⟨pb,po+k,none⟩) hpb).trans hck)
 all_goals(rw [hwv]at v0 v1 v2 v3 v4 v5 v6 u0 u1 u2 u3 Ak4)
 all_goals(have hab:=fun(W:World)(hW:Below w2.heap.size w2 W)=>Q5 (hj2.below hW) ⟨nd.pre.take k,value,[],[]⟩ (some ⟨pb,po,none⟩) none none k 0 0 (nd.pre.getD k 0) kid er (by show(nd.pre.take k).length<=100;omega) (by simp) (by simp) (by show Rd W _ (nd.pre.take k).length _;rw [hln];exact(htk.below hW).1) Rd.nil Rd.nil (by show j1.made.length<=1000;omega))
 all_goals(replace hab:=Aa hab)
 all_goals(rw [hln]at hab)
 all_goals(have uI:=Aa (hwv▸hbv))
 all_goals(generalize nd.pre.getD k 0=lab at*)
 all_goals(generalize nd.pre.take k=prk at*)
 all_goals(clear hj2 B2 zh BT BV hbt hbv hwt hwv hln htk hpre hck)
 all_goals(have hx1:(k:Int)<(nd.pre.length:Int):=by omega)
 all_goals(have hx2:decide ((k:Int)<(nd.pre.length:Int))=true:=decide_eq_true hx1)
 all_goals(go_wp2_with fail)
 all_goals(go_region_with(go_at_call 178;go_loud(refine(hab.out _ (uI.out.trans ((Dr.drew _).below _))).mono ?_;rintro e w3⟨rfl,G3,q1,q2⟩)))
 all_goals(have HF:=Aa (And.intro q1 (TN.out.trans ((Aq.of_below (uI.out.trans ((Dr.drew _).below _))).trans q2))))
 all_goals(clear q1 q2)
 all_goals(go_wp2_with fail)
 all_goals(go_ret2)
 all_goals(rw [HP.out])
 all_goals(exact⟨rfl,G3,HF.out.1,HF.out.2⟩)
theorem zi{w:World}{j:Jb}{G:Nat->Prop}(h:EW w base jb x d p L j G)(nd:Nd)(A1 A2 A3:Option Addr)(c1 c2 c3:Nat)(off word:Int)(lb:UInt8)(rest:List UInt8)(A:Option Addr)(c:Nat)(value:UInt64)
 (hN:Xj w G (.slice A1 nd.pre.length c1) (.int .u64 (nd.val.toNat:Int)) (.slice A2 nd.labels.length c2) (.slice A3 nd.kids.length c3) nd)(b1:nd.pre.length<=100)(b2:nd.labels.length<=100)(b3:nd.kids.length<=100)
 (hR:Ja w G A rest.length (rest.map bv))(_:rest.length<=c)(hrl:rest.length<=100)(hm:j.made.length<=500)(hs:common nd.pre rest<nd.pre.length)(hlt:common nd.pre rest<rest.length)(her:(D5 j {nd with pre:=nd.pre.drop (common nd.pre rest+1)}).2.2≠0):
 Calls Tryz.prog 142 #[.pointer (some ⟨jb,0,none⟩),.agg #[.slice A1 nd.pre.length c1,.int .u64 (nd.val.toNat:Int),.slice A2 nd.labels.length c2,.slice A3 nd.kids.length c3,.int .i64 off,.int .u8 (lb.toNat:Int),.int .i64 word],.slice A rest.length c,.int .u64 (value.toNat:Int)] w (Gu (GZ j nd rest value) base jb x d p L G w):=by
 have hb0:Below w.heap.size w (w.alloc (.cells #[.slice A1 nd.pre.length c1,.int .u64 (nd.val.toNat:Int),.slice A2 nd.labels.length c2,.slice A3 nd.kids.length c3,.int .i64 off,.int .u8 (lb.toNat:Int),.int .i64 word] 227)):=(Below.refl _ _).alloc (Ad _) _;have B0:BH (w.alloc (.cells #[.slice A1 nd.pre.length c1,.int .u64 (nd.val.toNat:Int),.slice A2 nd.labels.length c2,.slice A3 nd.kids.length c3,.int .i64 off,.int .u8 (lb.toNat:Int),.int .i64 word] 227)) w.heap.size 227 [.slice A1 nd.pre.length c1,.int .u64 (nd.val.toNat:Int),.slice A2 nd.labels.length c2,.slice A3 nd.kids.length c3,.int .i64 off,.int .u8 (lb.toNat:Int),.int .i64 word]:=heap_alloc_new _ _;obtain⟨W0,hW0⟩:∃W0,W0=w.alloc (.cells #[.slice A1 nd.pre.length c1,.int .u64 (nd.val.toNat:Int),.slice A2 nd.labels.length c2,.slice A3 nd.kids.length c3,.int .i64 off,.int .u8 (lb.toNat:Int),.int .i64 word] 227):=⟨_,rfl⟩;rw [<-hW0]at hb0 B0;have HW:=Aa hW0;obtain⟨q1,q2,q3,hpc⟩:=hN.reads;obtain⟨pb,po,rfl,hpw, -⟩:=FN q1 _ hs;obtain⟨k,hk⟩:∃k,k=common nd.pre rest:=⟨_,rfl⟩;have hkr:k<=rest.length:=by rw [hk];exact Es _ _
 have HC:=Aa (fun(W:World)(hW:Below w.heap.size w W)=>JE (some ⟨pb,po,none⟩) A nd.pre.length rest.length c1 c nd.pre rest W (by omega) (by omega) (q1.below hW).1 (hR.below hW).1);rw [<-hk]at hs HC;have HK:Hid (k=common nd.pre rest):=Aa hk;obtain⟨⟨j1,kid,er⟩,hr⟩:∃r,D5 j {nd with pre:=nd.pre.drop (k+1)}=r:=⟨_,rfl⟩;have hmd:=Gm j {nd with pre:=nd.pre.drop (k+1)};rw [hr]at hmd;simp only at hmd;have Py:=Aa hr;have Y1:=Aa (fun(W:World)(hW:Below w.heap.size w W)(P:Option Addr)(C:Nat)(hP:P=(if c1=k+1 then some (⟨pb,po,none⟩:Addr)else some ⟨pb,po+(k+1),none⟩))=>JQ (h.below hW) {nd with pre:=nd.pre.drop (k+1)} P A2 A3 C c2 c3 (by simp;omega) (by simp only;omega) (by simp only;omega)
  (((q1.below hW).rest rfl (by omega) hpc hP).1) (q2.below hW).1 (q3.below hW).1 (by omega))
 rw [hr]at Y1;simp only [Au]at Y1;have HN:=Aa q1;have HR:=Aa hR;have iq:=Aa h.lt;have HpC:=Aa hpc;rw [<-hk]at hlt her;rw [hr]at her;simp only at her;have HP:Hid (GZ j nd rest value=(j1,0,er)):=Aa (by rw [GZ,<-hk,if_neg (by omega),hr];simp only;rw [if_neg (by omega),if_pos her]);have te:(er !=0)=true:=by rw [bne_iff_ne];exact her
 clear her;clear h hN hR hr hW0 q1 q2 q3;have t1:((k:Int)==(nd.pre.length:Int))=false:=by rw [beq_eq_false_iff_ne];omega
 have hw1:IntKind.i64.wrap ((k:Int)+1)=(k:Int)+1:=wrap64 _ (by omega) (by omega);have t2:((k:Int)==(rest.length:Int))=false:=by rw [beq_eq_false_iff_ne];omega
 obtain⟨y0,y1,y2,y3,y4,y5,y6⟩:=DU B0;clear hk;go_enter Tryz.func142,Tryz.ntmps142
 go_wp2_with fail
 rw [<-HW.out];clear HW;refine(HC.out W0 hb0).mono ?_;rintro e w1⟨rfl,hd1⟩;have hb1:=hb0.trans ((hd1.below W0.heap.size).mono hb0.size);have B1:=B0.below (hd1.below _) B0.lt;have hs1:w.heap.size<w1.heap.size:=B1.lt;obtain⟨wl,hwl⟩:∃wl,wl=w1.alloc (.cells #[.slice (some ⟨pb,po,none⟩) nd.pre.length c1,.int .u64 (nd.val.toNat:Int),.slice A2 nd.labels.length c2,.slice A3 nd.kids.length c3] 225):=⟨_,rfl⟩;have BL:BH wl w1.heap.size 225 [.slice (some ⟨pb,po,none⟩) nd.pre.length c1,.int .u64 (nd.val.toNat:Int),.slice A2 nd.labels.length c2,.slice A3 nd.kids.length c3]:=hwl▸heap_alloc_new _ _;have hbl:Below w1.heap.size w1 wl:=hwl▸(Below.refl _ _).alloc (Ad _) _;have HB1:=Aa hb1;have Vx:=Aa B1;obtain⟨y0,y1,y2,y3,y4,y5,y6⟩:=DU (B1.below hbl B1.lt);obtain⟨z0,z1,z2,z3,Vy,Vz,Y2,Y3⟩:=Cb BL;obtain⟨x0,x1,x2,x3,x4,x5,x6⟩:=DU B1;rw [hwl]at y0 y1 y2 y3 y4 y5 y6 z0 z1 z2 z3 Vy Vz Y2 Y3;have hne:w.heap.size≠w1.heap.size:=by omega
 have hne':w1.heap.size≠w.heap.size:=by omega
 clear B0 hb0 hd1 hb1 B1 BL hbl hwl
 go_wp2_with fail
 all_goals(refine(Y1.out _ (HB1.out.alloc HB1.out.size _) _ _ (by split<;>first| rfl| omega)).mono ?_)
 all_goals(rintro e w2⟨rfl,G2,hj2,hm2⟩)
 all_goals(have TN:=Aa ((Aq.of_below (F:=G) (HB1.out.alloc HB1.out.size _)).trans hm2))
 all_goals(have B2:=(Vx.out.below ((Below.refl _ _).alloc (Ad _) _) Vx.out.lt).touch hm2.touch (fun hg=>by have:=iq.out _ hg;omega))
 all_goals(have hpre:=HN.out.moved TN.out)
 all_goals(obtain⟨b',o',e',hpb,hck⟩:=FN hpre k hs)
 all_goals(injection e' with e';injection e' with e1 e2;subst e1 e2)
 all_goals(clear y0 y1 y2 y3 y4 y5 y6 z0 z1 z2 z3 Vy Vz Y2 Y3 x0 x1 x2 x3 x4 x5 x6 Y1 hm2 hne hne')
 all_goals(have hln:(nd.pre.take k).length=k:=by simp;omega)
 all_goals(have htk:Ja w2 G2 (some ⟨pb,po,none⟩) k ((nd.pre.take k).map bv):=by have:=hpre.take k (by omega);rwa [<-Lc]at this)
 all_goals(have hs2:w.heap.size<w2.heap.size:=B2.lt)
 all_goals(have hne:w.heap.size≠w2.heap.size:=by omega)
 all_goals(have hne':w2.heap.size≠w.heap.size:=by omega)
 all_goals(obtain⟨x0,x1,x2,x3,x4,x5,x6⟩:=DU B2)
 all_goals(obtain⟨wt,hwt⟩:∃wt,wt=w2.alloc (.cells #[.slice (some ⟨pb,po,none⟩) k k,.int .u64 0,.slice none 0 0,.slice none 0 0] 225):=⟨_,rfl⟩)
 all_goals(have BT:BH wt w2.heap.size 225 [.slice (some ⟨pb,po,none⟩) k k,.int .u64 0,.slice none 0 0,.slice none 0 0]:=hwt▸heap_alloc_new _ _)
 all_goals(have hbt:Below w2.heap.size w2 wt:=hwt▸(Below.refl _ _).alloc (Ad _) _)
 all_goals(have zh:=B2.below hbt B2.lt)
 all_goals(obtain⟨y0,y1,y2,y3,y4,y5,y6⟩:=DU zh)
 all_goals(obtain⟨z0,z1,z2,z3,Vy,Vz,Y2,Y3⟩:=Cb BT)
 all_goals(have iR:=(hbt.cell (p:=⟨pb,po+k,none⟩) hpb).trans hck)
 all_goals(rw [hwt]at y0 y1 y2 y3 y4 y5 y6 z0 z1 z2 z3 Vy Vz Y2 Y3 iR)
 all_goals(have uI:=Aa (hwt▸hbt))
 all_goals(have HJ2:=Aa hj2)
 all_goals(clear hj2 B2 zh BT hbt hwt hln htk hpre hck)
 all_goals(go_wp2_with fail)
 all_goals(go_ret2)
 all_goals(refine⟨by rw [HP.out];rfl,G2,?_,TN.out.trans (Aq.of_below uI.out)⟩)
 all_goals(rw [HP.out])
 all_goals(exact HJ2.out.below uI.out)
end
section
variable{base jb x d p L:Nat}
theorem Acn{w:World}{j:Jb}{G:Nat->Prop}(h:EW w base jb x d p L j G)(nd:Nd)(A1 A2 A3:Option Addr)(c1 c2 c3:Nat)(off word:Int)(lb:UInt8)(rest:List UInt8)(A:Option Addr)(c:Nat)(value:UInt64)
 (hN:Xj w G (.slice A1 nd.pre.length c1) (.int .u64 (nd.val.toNat:Int)) (.slice A2 nd.labels.length c2) (.slice A3 nd.kids.length c3) nd)(b1:nd.pre.length<=100)(b2:nd.labels.length<=100)(b3:nd.kids.length<=100)
 (hR:Ja w G A rest.length (rest.map bv))(_:rest.length<=c)(hrl:rest.length<=100)(hm:j.made.length<=500)(hs:common nd.pre rest<nd.pre.length)(hlt:common nd.pre rest<rest.length)(her:(D5 j {nd with pre:=nd.pre.drop (common nd.pre rest+1)}).2.2=0)(hok:Jk ⟨nd.pre.take (common nd.pre rest),0,[],[]⟩ (nd.pre.getD (common nd.pre rest) 0) (D5 j {nd with pre:=nd.pre.drop (common nd.pre rest+1)}).2.1=false):
 Calls Tryz.prog 142 #[.pointer (some ⟨jb,0,none⟩),.agg #[.slice A1 nd.pre.length c1,.int .u64 (nd.val.toNat:Int),.slice A2 nd.labels.length c2,.slice A3 nd.kids.length c3,.int .i64 off,.int .u8 (lb.toNat:Int),.int .i64 word],.slice A rest.length c,.int .u64 (value.toNat:Int)] w (Gu (GZ j nd rest value) base jb x d p L G w):=by
 have hb0:Below w.heap.size w (w.alloc (.cells #[.slice A1 nd.pre.length c1,.int .u64 (nd.val.toNat:Int),.slice A2 nd.labels.length c2,.slice A3 nd.kids.length c3,.int .i64 off,.int .u8 (lb.toNat:Int),.int .i64 word] 227)):=(Below.refl _ _).alloc (Ad _) _;have B0:BH (w.alloc (.cells #[.slice A1 nd.pre.length c1,.int .u64 (nd.val.toNat:Int),.slice A2 nd.labels.length c2,.slice A3 nd.kids.length c3,.int .i64 off,.int .u8 (lb.toNat:Int),.int .i64 word] 227)) w.heap.size 227 [.slice A1 nd.pre.length c1,.int .u64 (nd.val.toNat:Int),.slice A2 nd.labels.length c2,.slice A3 nd.kids.length c3,.int .i64 off,.int .u8 (lb.toNat:Int),.int .i64 word]:=heap_alloc_new _ _;obtain⟨W0,hW0⟩:∃W0,W0=w.alloc (.cells #[.slice A1 nd.pre.length c1,.int .u64 (nd.val.toNat:Int),.slice A2 nd.labels.length c2,.slice A3 nd.kids.length c3,.int .i64 off,.int .u8 (lb.toNat:Int),.int .i64 word] 227):=⟨_,rfl⟩;rw [<-hW0]at hb0 B0;have HW:=Aa hW0;obtain⟨q1,q2,q3,hpc⟩:=hN.reads;obtain⟨pb,po,rfl,hpw, -⟩:=FN q1 _ hs;obtain⟨k,hk⟩:∃k,k=common nd.pre rest:=⟨_,rfl⟩;have hkr:k<=rest.length:=by rw [hk];exact Es _ _
 have HC:=Aa (fun(W:World)(hW:Below w.heap.size w W)=>JE (some ⟨pb,po,none⟩) A nd.pre.length rest.length c1 c nd.pre rest W (by omega) (by omega) (q1.below hW).1 (hR.below hW).1);rw [<-hk]at hs HC;have HK:Hid (k=common nd.pre rest):=Aa hk;obtain⟨⟨j1,kid,er⟩,hr⟩:∃r,D5 j {nd with pre:=nd.pre.drop (k+1)}=r:=⟨_,rfl⟩;have hmd:=Gm j {nd with pre:=nd.pre.drop (k+1)};rw [hr]at hmd;simp only at hmd;have Py:=Aa hr;have Y1:=Aa (fun(W:World)(hW:Below w.heap.size w W)(P:Option Addr)(C:Nat)(hP:P=(if c1=k+1 then some (⟨pb,po,none⟩:Addr)else some ⟨pb,po+(k+1),none⟩))=>JQ (h.below hW) {nd with pre:=nd.pre.drop (k+1)} P A2 A3 C c2 c3 (by simp;omega) (by simp only;omega) (by simp only;omega)
  (((q1.below hW).rest rfl (by omega) hpc hP).1) (q2.below hW).1 (q3.below hW).1 (by omega))
 rw [hr]at Y1;simp only [Au]at Y1;have HN:=Aa q1;have HR:=Aa hR;have iq:=Aa h.lt;have HpC:=Aa hpc;rw [<-hk]at hlt her hok;rw [hr]at her hok;simp only at her hok;subst her;have HP:Hid (GZ j nd rest value=(j1,0,5)):=Aa (by rw [GZ,<-hk,if_neg (by omega),hr];simp only;rw [if_neg (by omega),if_neg (by simp),if_neg (by rw [hok];exact Bool.false_ne_true)]);have tN:=Aa hok;clear hok;clear h hN hR hr hW0 q1 q2 q3;have t1:((k:Int)==(nd.pre.length:Int))=false:=by rw [beq_eq_false_iff_ne];omega
 have hw1:IntKind.i64.wrap ((k:Int)+1)=(k:Int)+1:=wrap64 _ (by omega) (by omega);have t2:((k:Int)==(rest.length:Int))=false:=by rw [beq_eq_false_iff_ne];omega
 obtain⟨y0,y1,y2,y3,y4,y5,y6⟩:=DU B0;clear hk;go_enter Tryz.func142,Tryz.ntmps142
 go_wp2_with fail
 rw [<-HW.out];clear HW;refine(HC.out W0 hb0).mono ?_;rintro e w1⟨rfl,hd1⟩;have hb1:=hb0.trans ((hd1.below W0.heap.size).mono hb0.size);have B1:=B0.below (hd1.below _) B0.lt;have hs1:w.heap.size<w1.heap.size:=B1.lt;obtain⟨wl,hwl⟩:∃wl,wl=w1.alloc (.cells #[.slice (some ⟨pb,po,none⟩) nd.pre.length c1,.int .u64 (nd.val.toNat:Int),.slice A2 nd.labels.length c2,.slice A3 nd.kids.length c3] 225):=⟨_,rfl⟩;have BL:BH wl w1.heap.size 225 [.slice (some ⟨pb,po,none⟩) nd.pre.length c1,.int .u64 (nd.val.toNat:Int),.slice A2 nd.labels.length c2,.slice A3 nd.kids.length c3]:=hwl▸heap_alloc_new _ _;have hbl:Below w1.heap.size w1 wl:=hwl▸(Below.refl _ _).alloc (Ad _) _;have HB1:=Aa hb1;have Vx:=Aa B1;obtain⟨y0,y1,y2,y3,y4,y5,y6⟩:=DU (B1.below hbl B1.lt);obtain⟨z0,z1,z2,z3,Vy,Vz,Y2,Y3⟩:=Cb BL;obtain⟨x0,x1,x2,x3,x4,x5,x6⟩:=DU B1;rw [hwl]at y0 y1 y2 y3 y4 y5 y6 z0 z1 z2 z3 Vy Vz Y2 Y3;have hne:w.heap.size≠w1.heap.size:=by omega
 have hne':w1.heap.size≠w.heap.size:=by omega
 clear B0 hb0 hd1 hb1 B1 BL hbl hwl
 go_wp2_with fail
 all_goals(refine(Y1.out _ (HB1.out.alloc HB1.out.size _) _ _ (by split<;>first| rfl| omega)).mono ?_)
 all_goals(rintro e w2⟨rfl,G2,hj2,hm2⟩)
 all_goals(have TN:=Aa ((Aq.of_below (F:=G) (HB1.out.alloc HB1.out.size _)).trans hm2))
 all_goals(have B2:=(Vx.out.below ((Below.refl _ _).alloc (Ad _) _) Vx.out.lt).touch hm2.touch (fun hg=>by have:=iq.out _ hg;omega))
 all_goals(have hpre:=HN.out.moved TN.out)
 all_goals(obtain⟨b',o',e',hpb,hck⟩:=FN hpre k hs)
 all_goals(injection e' with e';injection e' with e1 e2;subst e1 e2)
 all_goals(clear y0 y1 y2 y3 y4 y5 y6 z0 z1 z2 z3 Vy Vz Y2 Y3 x0 x1 x2 x3 x4 x5 x6 Y1 hm2 hne hne')
 all_goals(have hln:(nd.pre.take k).length=k:=by simp;omega)
 all_goals(have htk:Ja w2 G2 (some ⟨pb,po,none⟩) k ((nd.pre.take k).map bv):=by have:=hpre.take k (by omega);rwa [<-Lc]at this)
 all_goals(have hs2:w.heap.size<w2.heap.size:=B2.lt)
 all_goals(have hne:w.heap.size≠w2.heap.size:=by omega)
 all_goals(have hne':w2.heap.size≠w.heap.size:=by omega)
 all_goals(obtain⟨x0,x1,x2,x3,x4,x5,x6⟩:=DU B2)
 all_goals(obtain⟨wt,hwt⟩:∃wt,wt=w2.alloc (.cells #[.slice (some ⟨pb,po,none⟩) k k,.int .u64 0,.slice none 0 0,.slice none 0 0] 225):=⟨_,rfl⟩)
 all_goals(have BT:BH wt w2.heap.size 225 [.slice (some ⟨pb,po,none⟩) k k,.int .u64 0,.slice none 0 0,.slice none 0 0]:=hwt▸heap_alloc_new _ _)
 all_goals(have hbt:Below w2.heap.size w2 wt:=hwt▸(Below.refl _ _).alloc (Ad _) _)
 all_goals(have zh:=B2.below hbt B2.lt)
 all_goals(obtain⟨y0,y1,y2,y3,y4,y5,y6⟩:=DU zh)
 all_goals(obtain⟨z0,z1,z2,z3,Vy,Vz,Y2,Y3⟩:=Cb BT)
 all_goals(have iR:=(hbt.cell (p:=⟨pb,po+k,none⟩) hpb).trans hck)
 all_goals(rw [hwt]at y0 y1 y2 y3 y4 y5 y6 z0 z1 z2 z3 Vy Vz Y2 Y3 iR)
 all_goals(have HWi:=Aa (fun(W:World)(hW:Below w2.heap.size w2 W)=>qB (some ⟨pb,po,none⟩) none none k k 0 0 0 0 ⟨nd.pre.take k,0,[],[]⟩ (nd.pre.getD k 0) kid W (by omega) (by omega) (by omega) (by show Rd W _ _ _;exact(htk.below hW).1) Rd.nil Rd.nil tN.out))
 all_goals(unfold Nw at HWi)
 all_goals(have uI:=Aa (hwt▸hbt))
 all_goals(have HBT:=Aa (hwt▸BT))
 all_goals(have HJ2:=Aa hj2)
 all_goals(generalize nd.pre.getD k 0=lab at*)
 all_goals(generalize nd.pre.take k=prk at*)
 all_goals(clear hj2 B2 zh BT hbt hwt hln htk hpre hck)
 all_goals(have hx1:(k:Int)<(nd.pre.length:Int):=by omega)
 all_goals(have hx2:decide ((k:Int)<(nd.pre.length:Int))=true:=decide_eq_true hx1)
 all_goals(go_wp2_with fail)
 all_goals(go_region_with(go_at_call 179;go_loud(refine(HWi.out _ (uI.out.trans ((Dr.drew _).below _))).mono ?_;rintro e w3⟨rfl,hb3⟩;have ET:=(uI.out.trans ((Dr.drew _).below _)).trans (hb3.mono (uI.out.trans ((Dr.drew _).below _)).size);have B3:=HBT.out.below (((Dr.drew _).below _).trans hb3) HBT.out.lt;obtain⟨r0,r1,r2,r3,rf0,rf1,rf2,rf3⟩:=Cb B3)))
 all_goals(obtain⟨W9,TQ, -,VD, -⟩:=uG B3 ET (Ad _) (.slice none 0 0) (.int .u64 0) (.slice none 0 0) (.slice none 0 0))
 all_goals(have HF:Hid (∀W,(W=(((w3.setCell ⟨w2.heap.size,0,none⟩ (.slice none 0 0)).setCell ⟨w2.heap.size,1,none⟩ (.int .u64 0)).setCell ⟨w2.heap.size,2,none⟩ (.slice none 0 0)).setCell ⟨w2.heap.size,3,none⟩ (.slice none 0 0))->Below w2.heap.size w2 W):=Aa (fun W e=>by rw [e,<-TQ];exact VD))
 all_goals(clear TQ VD W9)
 all_goals(go_wp2_with fail)
 all_goals(go_ret2)
 all_goals(have hfin:=HF.out _ rfl)
 all_goals(refine⟨by rw [HP.out];rfl,G2,?_,TN.out.trans (Aq.of_below hfin)⟩)
 all_goals(rw [HP.out])
 all_goals(exact HJ2.out.below hfin)
end
section
variable{base jb x d p L:Nat}
theorem zk{w:World}{j:Jb}{G:Nat->Prop}(h:EW w base jb x d p L j G)(nd:Nd)(A1 A2 A3:Option Addr)(c1 c2 c3:Nat)(off word:Int)(lb:UInt8)(rest:List UInt8)(A:Option Addr)(c:Nat)(value:UInt64)
 (hN:Xj w G (.slice A1 nd.pre.length c1) (.int .u64 (nd.val.toNat:Int)) (.slice A2 nd.labels.length c2) (.slice A3 nd.kids.length c3) nd)(b1:nd.pre.length<=100)(b2:nd.labels.length<=100)(b3:nd.kids.length<=100)
 (hR:Ja w G A rest.length (rest.map bv))(hrc:rest.length<=c)(hrl:rest.length<=100)(hm:j.made.length<=500)(hs:common nd.pre rest<nd.pre.length)(hlt:common nd.pre rest<rest.length)(her:(D5 j {nd with pre:=nd.pre.drop (common nd.pre rest+1)}).2.2=0)(hok:Jk ⟨nd.pre.take (common nd.pre rest),0,[],[]⟩ (nd.pre.getD (common nd.pre rest) 0) (D5 j {nd with pre:=nd.pre.drop (common nd.pre rest+1)}).2.1=true):
 Calls Tryz.prog 142 #[.pointer (some ⟨jb,0,none⟩),.agg #[.slice A1 nd.pre.length c1,.int .u64 (nd.val.toNat:Int),.slice A2 nd.labels.length c2,.slice A3 nd.kids.length c3,.int .i64 off,.int .u8 (lb.toNat:Int),.int .i64 word],.slice A rest.length c,.int .u64 (value.toNat:Int)] w (Gu (GZ j nd rest value) base jb x d p L G w):=by
 have hb0:Below w.heap.size w (w.alloc (.cells #[.slice A1 nd.pre.length c1,.int .u64 (nd.val.toNat:Int),.slice A2 nd.labels.length c2,.slice A3 nd.kids.length c3,.int .i64 off,.int .u8 (lb.toNat:Int),.int .i64 word] 227)):=(Below.refl _ _).alloc (Ad _) _;have B0:BH (w.alloc (.cells #[.slice A1 nd.pre.length c1,.int .u64 (nd.val.toNat:Int),.slice A2 nd.labels.length c2,.slice A3 nd.kids.length c3,.int .i64 off,.int .u8 (lb.toNat:Int),.int .i64 word] 227)) w.heap.size 227 [.slice A1 nd.pre.length c1,.int .u64 (nd.val.toNat:Int),.slice A2 nd.labels.length c2,.slice A3 nd.kids.length c3,.int .i64 off,.int .u8 (lb.toNat:Int),.int .i64 word]:=heap_alloc_new _ _;obtain⟨W0,hW0⟩:∃W0,W0=w.alloc (.cells #[.slice A1 nd.pre.length c1,.int .u64 (nd.val.toNat:Int),.slice A2 nd.labels.length c2,.slice A3 nd.kids.length c3,.int .i64 off,.int .u8 (lb.toNat:Int),.int .i64 word] 227):=⟨_,rfl⟩;rw [<-hW0]at hb0 B0;have HW:=Aa hW0;obtain⟨q1,q2,q3,hpc⟩:=hN.reads;obtain⟨pb,po,rfl,hpw, -⟩:=FN q1 _ hs;obtain⟨k,hk⟩:∃k,k=common nd.pre rest:=⟨_,rfl⟩;have hkr:k<=rest.length:=by rw [hk];exact Es _ _
 have HC:=Aa (fun(W:World)(hW:Below w.heap.size w W)=>JE (some ⟨pb,po,none⟩) A nd.pre.length rest.length c1 c nd.pre rest W (by omega) (by omega) (q1.below hW).1 (hR.below hW).1);rw [<-hk]at hs HC;have HK:Hid (k=common nd.pre rest):=Aa hk;obtain⟨⟨j1,kid,er⟩,hr⟩:∃r,D5 j {nd with pre:=nd.pre.drop (k+1)}=r:=⟨_,rfl⟩;have hmd:=Gm j {nd with pre:=nd.pre.drop (k+1)};rw [hr]at hmd;simp only at hmd;have Py:=Aa hr;have Y1:=Aa (fun(W:World)(hW:Below w.heap.size w W)(P:Option Addr)(C:Nat)(hP:P=(if c1=k+1 then some (⟨pb,po,none⟩:Addr)else some ⟨pb,po+(k+1),none⟩))=>JQ (h.below hW) {nd with pre:=nd.pre.drop (k+1)} P A2 A3 C c2 c3 (by simp;omega) (by simp only;omega) (by simp only;omega)
  (((q1.below hW).rest rfl (by omega) hpc hP).1) (q2.below hW).1 (q3.below hW).1 (by omega))
 rw [hr]at Y1;simp only [Au]at Y1;have HN:=Aa q1;have HR:=Aa hR;have iq:=Aa h.lt;have HpC:=Aa hpc;rw [<-hk]at hlt her hok;rw [hr]at her hok;simp only at her hok;subst her;obtain⟨⟨j2,ZO,er2⟩,hr2⟩:∃r,Ii (rest.length+1) j1 (rest.drop (k+1)) value=r:=⟨_,rfl⟩;have Aiy:=JO (rest.length+1) j1 (rest.drop (k+1)) value;rw [hr2]at Aiy;simp only at Aiy;have HP:Hid (GZ j nd rest value=Ey j2 (KN ⟨nd.pre.take k,0,[],[]⟩ (nd.pre.getD k 0) kid) (rest.getD k 0) ZO er2):=Aa (by rw [GZ,<-hk,if_neg (by omega),hr];simp only;rw [if_neg (by omega),if_neg (by simp),if_pos hok,hr2];rfl);have tN:=Aa hok;have HR2:=Aa hr2;obtain⟨rb,ro,rfl,hrw, -⟩:=FN hR _ hlt;clear hok hr2;clear h hN hR hr hW0 q1 q2 q3;have t1:((k:Int)==(nd.pre.length:Int))=false:=by rw [beq_eq_false_iff_ne];omega
 have hw1:IntKind.i64.wrap ((k:Int)+1)=(k:Int)+1:=wrap64 _ (by omega) (by omega);have t2:((k:Int)==(rest.length:Int))=false:=by rw [beq_eq_false_iff_ne];omega
 obtain⟨y0,y1,y2,y3,y4,y5,y6⟩:=DU B0;clear hk;go_enter Tryz.func142,Tryz.ntmps142
 go_wp2_with fail
 rw [<-HW.out];clear HW;refine(HC.out W0 hb0).mono ?_;rintro e w1⟨rfl,hd1⟩;have hb1:=hb0.trans ((hd1.below W0.heap.size).mono hb0.size);have B1:=B0.below (hd1.below _) B0.lt;have hs1:w.heap.size<w1.heap.size:=B1.lt;obtain⟨wl,hwl⟩:∃wl,wl=w1.alloc (.cells #[.slice (some ⟨pb,po,none⟩) nd.pre.length c1,.int .u64 (nd.val.toNat:Int),.slice A2 nd.labels.length c2,.slice A3 nd.kids.length c3] 225):=⟨_,rfl⟩;have BL:BH wl w1.heap.size 225 [.slice (some ⟨pb,po,none⟩) nd.pre.length c1,.int .u64 (nd.val.toNat:Int),.slice A2 nd.labels.length c2,.slice A3 nd.kids.length c3]:=hwl▸heap_alloc_new _ _;have hbl:Below w1.heap.size w1 wl:=hwl▸(Below.refl _ _).alloc (Ad _) _;have HB1:=Aa hb1;have Vx:=Aa B1;obtain⟨y0,y1,y2,y3,y4,y5,y6⟩:=DU (B1.below hbl B1.lt);obtain⟨z0,z1,z2,z3,Vy,Vz,Y2,Y3⟩:=Cb BL;obtain⟨x0,x1,x2,x3,x4,x5,x6⟩:=DU B1;rw [hwl]at y0 y1 y2 y3 y4 y5 y6 z0 z1 z2 z3 Vy Vz Y2 Y3;have hne:w.heap.size≠w1.heap.size:=by omega
 have hne':w1.heap.size≠w.heap.size:=by omega
 clear B0 hb0 hd1 hb1 B1 BL hbl hwl
 go_wp2_with fail
 all_goals(refine(Y1.out _ (HB1.out.alloc HB1.out.size _) _ _ (by split<;>first| rfl| omega)).mono ?_)
 all_goals(rintro e w2⟨rfl,G2,hj2,hm2⟩)
 all_goals(have TN:=Aa ((Aq.of_below (F:=G) (HB1.out.alloc HB1.out.size _)).trans hm2))
 all_goals(have B2:=(Vx.out.below ((Below.refl _ _).alloc (Ad _) _) Vx.out.lt).touch hm2.touch (fun hg=>by have:=iq.out _ hg;omega))
 all_goals(have hpre:=HN.out.moved TN.out)
 all_goals(obtain⟨b',o',e',hpb,hck⟩:=FN hpre k hs)
 all_goals(injection e' with e';injection e' with e1 e2;subst e1 e2)
 all_goals(clear y0 y1 y2 y3 y4 y5 y6 z0 z1 z2 z3 Vy Vz Y2 Y3 x0 x1 x2 x3 x4 x5 x6 Y1 hm2 hne hne')
 all_goals(have hln:(nd.pre.take k).length=k:=by simp;omega)
 all_goals(have htk:Ja w2 G2 (some ⟨pb,po,none⟩) k ((nd.pre.take k).map bv):=by have:=hpre.take k (by omega);rwa [<-Lc]at this)
 all_goals(have hs2:w.heap.size<w2.heap.size:=B2.lt)
 all_goals(have hne:w.heap.size≠w2.heap.size:=by omega)
 all_goals(have hne':w2.heap.size≠w.heap.size:=by omega)
 all_goals(obtain⟨x0,x1,x2,x3,x4,x5,x6⟩:=DU B2)
 all_goals(obtain⟨wt,hwt⟩:∃wt,wt=w2.alloc (.cells #[.slice (some ⟨pb,po,none⟩) k k,.int .u64 0,.slice none 0 0,.slice none 0 0] 225):=⟨_,rfl⟩)
 all_goals(have BT:BH wt w2.heap.size 225 [.slice (some ⟨pb,po,none⟩) k k,.int .u64 0,.slice none 0 0,.slice none 0 0]:=hwt▸heap_alloc_new _ _)
 all_goals(have hbt:Below w2.heap.size w2 wt:=hwt▸(Below.refl _ _).alloc (Ad _) _)
 all_goals(have zh:=B2.below hbt B2.lt)
 all_goals(obtain⟨y0,y1,y2,y3,y4,y5,y6⟩:=DU zh)
 all_goals(obtain⟨z0,z1,z2,z3,Vy,Vz,Y2,Y3⟩:=Cb BT)
 all_goals(have iR:=(hbt.cell (p:=⟨pb,po+k,none⟩) hpb).trans hck)
 all_goals(rw [hwt]at y0 y1 y2 y3 y4 y5 y6 z0 z1 z2 z3 Vy Vz Y2 Y3 iR)
 all_goals(have HWi:=Aa (fun(W:World)(hW:Below w2.heap.size w2 W)=>iP (some ⟨pb,po,none⟩) none none k k 0 0 0 0 ⟨nd.pre.take k,0,[],[]⟩ (nd.pre.getD k 0) kid W (by omega) (by omega) (by omega) (by show Rd W _ _ _;exact(htk.below hW).1) Rd.nil Rd.nil tN.out))
 all_goals(have hnl:(KN ⟨nd.pre.take k,0,[],[]⟩ (nd.pre.getD k 0) kid).pre.length<=100/\(KN ⟨nd.pre.take k,0,[],[]⟩ (nd.pre.getD k 0) kid).labels.length<=100/\(KN ⟨nd.pre.take k,0,[],[]⟩ (nd.pre.getD k 0) kid).kids.length<=100:=by unfold KN ins;simp;omega)
 all_goals(generalize KN ⟨nd.pre.take k,0,[],[]⟩ (nd.pre.getD k 0) kid=Ul at*)
 all_goals(have uI:=Aa (hwt▸hbt))
 all_goals(have HBT:=Aa (hwt▸BT))
 all_goals(have HJ2:=Aa hj2)
 all_goals(have HG2:=Aa hj2.lt)
 all_goals(generalize nd.pre.getD k 0=lab at*)
 all_goals(generalize nd.pre.take k=prk at*)
 all_goals(clear hj2 B2 zh BT hbt hwt hln htk hpre hck)
 all_goals(have hx1:(k:Int)<(nd.pre.length:Int):=by omega)
 all_goals(have hx2:decide ((k:Int)<(nd.pre.length:Int))=true:=decide_eq_true hx1)
 all_goals(go_wp2_with fail)
 all_goals(go_region_with(go_at_call 179;go_loud(refine(HWi.out _ (uI.out.trans ((Dr.drew _).below _))).mono ?_;rintro e w3⟨⟨N1,m1,N2,m2,N3,m3,rfl,o1,o2,o3⟩,hb3⟩;have ET:=(uI.out.trans ((Dr.drew _).below _)).trans (hb3.mono (uI.out.trans ((Dr.drew _).below _)).size);have B3:=HBT.out.below (((Dr.drew _).below _).trans hb3) HBT.out.lt;have hs3:=HBT.out.lt;have O1:=Ea (base':=w2.heap.size+1) o1 (by show w2.heap.size+1<=(World.drew _).heap.size+2;exact AL hs3 (V4 _ 2));have O2:=Ea (base':=w2.heap.size+1) o2 (by show w2.heap.size+1<=(World.drew _).heap.size+2;exact AL hs3 (V4 _ 2));have O3:=Ea (base':=w2.heap.size+1) o3 (by show w2.heap.size+1<=(World.drew _).heap.size+2;exact AL hs3 (V4 _ 2));clear o1 o2 o3;obtain⟨r0,r1,r2,r3,rf0,rf1,rf2,rf3⟩:=Cb B3)))
 all_goals(obtain⟨W9,TQ,B9,VD,k9⟩:=uG B3 ET (Ad _) (.slice N1 Ul.pre.length m1) (.int .u64 (Ul.val.toNat:Int)) (.slice N2 Ul.labels.length m2) (.slice N3 Ul.kids.length m3))
 all_goals(have HO:=Aa (And.intro (Jr O1 k9 (V5 _)) (And.intro (Jr O2 k9 (V5 _)) (Jr O3 k9 (V5 _)))))
 all_goals(have Vw:=Aa VD)
 all_goals(have HK9:=Aa B9)
 all_goals(have HW9:=Aa TQ)
 all_goals(clear TQ VD k9 B9 O1 O2 O3 B3 ET hb3 HWi y0 y1 y2 y3 y4 y5 y6 z0 z1 z2 z3 Vy Vz Y2 Y3 x0 x1 x2 x3 x4 x5 x6 iR)
 all_goals(go_wp2_with fail)
 all_goals(rw [<-HW9.out])
 all_goals(have HL:=fun(P:Option Addr)(C:Nat)(hC:C=c- (k+1))(hP:P=(if c=k+1 then some (⟨rb,ro,none⟩:Addr)else some ⟨rb,ro+(k+1),none⟩))=>Tn (rest.length+1) W9 j1 G2 (rest.drop (k+1)) value P C (HJ2.out.below Vw.out) (((HR.out.moved TN.out).below Vw.out).rest rfl (by omega) hrc hP) (by rw [Au];omega) (by rw [Au];omega) (by rw [Au];omega) (by omega))
 all_goals(rw [HR2.out,Au]at HL)
 all_goals(replace HL:=Aa HL)
 all_goals(refine(HL.out _ _ (by omega) (by split<;>first| rfl| omega)).mono ?_)
 all_goals(rintro e w5⟨rfl,G5,uJ,TR⟩)
 all_goals(have KP:=Aa (TN.out.trans ((Aq.of_below Vw.out).trans TR)))
 all_goals(have B5:=HK9.out.touch TR.touch (fun hg=>by have:=HG2.out _ hg;omega))
 all_goals(have s1:=(Ja.KY HO.out.1 (fun b hb _ hg=>by have:=HG2.out b hg;omega)).moved TR)
 all_goals(have s2:=(Ja.KY HO.out.2.1 (fun b hb _ hg=>by have:=HG2.out b hg;omega)).moved TR)
 all_goals(have s3:=(Ja.KY HO.out.2.2 (fun b hb _ hg=>by have:=HG2.out b hg;omega)).moved TR)
 all_goals(obtain⟨b',o',e',hrb,hck⟩:=FN (HR.out.moved KP.out) k hlt)
 all_goals(injection e' with e';injection e' with e1 e2;subst e1 e2)
 all_goals(have hab:=fun(W:World)(hW:Below w5.heap.size w5 W)=>Q5 (uJ.below hW) Ul N1 N2 N3 m1 m2 m3 (rest.getD k 0) ZO er2 hnl.1 hnl.2.1 hnl.2.2 (s1.below hW).1 (s2.below hW).1 (s3.below hW).1 (by show j2.made.length<=1000;omega))
 all_goals(replace hab:=Aa hab)
 all_goals(generalize rest.getD k 0=Aiz at*)
 all_goals(clear uJ TR s1 s2 s3 HL r0 r1 r2 r3 rf0 rf1 rf2 rf3)
 all_goals(obtain⟨y0,y1,y2,y3, -⟩:=Cb B5)
 all_goals(clear B5)
 all_goals(have hx3:(k:Int)<(rest.length:Int):=by omega)
 all_goals(have hx4:decide ((k:Int)<(rest.length:Int))=true:=decide_eq_true hx3)
 all_goals(go_wp2_with fail)
 all_goals(go_region_with(go_at_call 178;go_loud(refine(hab.out _ ((Dr.drew w5).below _)).mono ?_;rintro e w6⟨rfl,G6,q1,q2⟩)))
 all_goals(have HF:=Aa (And.intro q1 (KP.out.trans ((Aq.of_below ((Dr.drew w5).below _)).trans q2))))
 all_goals(clear q1 q2)
 all_goals(go_wp2_with fail)
 all_goals(refine bodyPost_ret (v:= .tuple #[.int .u64 ((Ey j2 Ul Aiz ZO er2).2.1.toNat:Int),.int .i64 (Ey j2 Ul Aiz ZO er2).2.2]) (by simp [results,Tryz.results142,go_sem]) rfl ?_)
 all_goals(rw [HP.out])
 all_goals(exact⟨rfl,G6,HF.out.1,HF.out.2⟩)
end
def zl(F:Nat->Prop)(jb:Nat)(v:Value)(b:Nat):Prop:=F b\/b=jb\/v.ownBlock=some b
section
variable{w w':World}{base jb x d p L:Nat}{j:Jb}{F G:Nat->Prop}{v:Value}
theorem Nv.move'(h:Nv w base jb x d p L j F v){s':St}{F':Nat->Prop}(hs:Sys w' d p L s' F')(m:Aq F F' w w'):Nv w' base jb x d p L {j with s:=s'} F' v/\Aq (zl F jb v) (zl F' jb v) w w':=by
 obtain⟨G',q1,q2,q3⟩:=h.move (G:=zl F jb v) (fun _=>Iff.rfl) hs m;refine⟨q1,q3.touch,fun b hb=>q3.own b ((q2 b).2 hb)⟩
theorem iT{α:Type}(l:List α)(k:Nat)(hk:k<l.length):l.drop k=l[k]::l.drop (k+1):=List.drop_eq_getElem_cons hk
def Q7(r:St×Int)(base jb x d p L:Nat)(j:Jb)(G:Nat->Prop)(w:World)(e:Ending)(w':World):Prop:=
 e= .returned (.int .i64 r.2)/\∃G',EW w' base jb x d p L {j with s:=r.1} G'/\Aq G G' w w'
theorem RH(h:EW w base jb x d p L j G)(e:Int)(he:e≠0)(word:Int)(name:UInt64)(A:Option Addr)(c:Nat)(old:List Int)(hm:j.made.length<=1000):
 Calls Tryz.prog 141 #[.pointer (some ⟨jb,0,none⟩),.int .i64 e,.int .i64 word,.int .u64 (name.toNat:Int),.slice A old.length c] w (Q7 (Dx j e word name old) base jb x d p L j G w):=by
 obtain⟨F,v,hj,hG⟩:=h;have hGe:G=zl F jb v:=funext fun b=>propext (hG b)
 subst hGe;obtain⟨A0,c0,rfl,hc0, -⟩:=BU (Ea hj.row (BA _));have HP:Hid (Dx j e word name old=(KW j.s j.made,e)):=Aa (by unfold Dx;rw [if_pos he]);have t1:(e==0)=false:=by rw [beq_eq_false_iff_ne];exact he
 have t2:(e !=0)=true:=by rw [bne_iff_ne];exact he
 have HJ:=Aa hj;have y0:=hj.box.cell 0;have y1:=hj.box.cell 1;simp only [Ac,Ae]at y0 y1;clear hj hG he;go_enter Tryz.func141,Tryz.ntmps141
 go_wp2_with fail
 go_loopw [35](fun i wr=>∃(k:Nat)(F':Nat->Prop)(s':St),k<=j.made.length/\i= .int .i64 (k:Nat)/\KW s' (j.made.drop k)=KW j.s j.made/\Nv wr base jb x d p L {j with s:=s'} F' (.slice A0 j.made.length c0)/\Aq (zl F jb (.slice A0 j.made.length c0)) (zl F' jb (.slice A0 j.made.length c0)) w wr)(fun i _=>j.made.length- (intOf i).toNat)
 case atStart=>exact⟨0,F,j.s,BA _,rfl,rfl,HJ.out,Aq.refl _ _⟩
 case round=>
  obtain⟨k,F',s',hk,rfl,hdr,hjr,hmv⟩:=hrel;have HMv:=Aa hmv;have HDr:=Aa hdr;have nO:=Aa hjr;clear hmv hdr hjr y0 y1;by_cases hlt:k<j.made.length
  ·have y0:=nO.out.box.cell 0;have u1:=nO.out.ix.box.cell 1;simp only [Ac,Ae]at y0 u1;obtain⟨rb,ro,rfl,hrb,hcs⟩:=(BK nO.out.row).2.2 (by omega);have hck:=hcs k hlt;rw [BC,Af hlt]at hck;replace hck:_=some (Value.int .i64 j.made[k]):=hck;have hin: -9223372036854775808<=j.made[k]/\j.made[k]<=9223372036854775807:=nO.out.mb _ (BD _);have yD:Hid (KW (EJ s' j.made[k]).1 (j.made.drop (k+1))=KW j.s j.made):=Aa (by rw [<-HDr.out,iT _ _ hlt];rfl);have HDp:=Aa (LK nO.out.ix.sys j.made[k] hin);generalize j.made[k]=o at*;clear hcs hin;have hx1:(k:Int)<(j.made.length:Int):=by omega
   have hx2:decide ((k:Int)<(j.made.length:Int))=true:=decide_eq_true hx1;have hwk:IntKind.i64.wrap ((k:Int)+1)=(k:Int)+1:=wrap64 _ (by omega) (by omega)
   go_wp2_with fail
   refine HDp.out.mono ?_;rintro e9 w9⟨rfl,F9,hs9,hm9⟩;obtain⟨q1,q2⟩:=nO.out.move' hs9 hm9;have HQ:=Aa q1;have HM9:=Aa (HMv.out.trans q2);clear q1 q2 hs9 hm9 HDp y0 u1 hck nO HMv
   go_wp2_with fail
   go_roundw
   case rel=>exact⟨k+1,F9,(EJ s' o).1,by omega,by go_num,yD.out,HQ.out,HM9.out⟩
   case measure=>simp [intOf];omega
  ·have hkn:k=j.made.length:=by omega
   subst hkn;have HS:Hid (s'=KW j.s j.made):=Aa (by have:=HDr.out;rw [xg]at this;exact this)
   go_wp2_with fail
   go_ret;refine⟨by rw [HP.out];rfl,zl F' jb _,?_,HMv.out⟩;rw [HP.out,<-HS.out];exact⟨F',_,nO.out,fun _=>Iff.rfl⟩
theorem Nb(h:EW w base jb x d p L j G)(word:Int)(jw:Nat)(hw:word=((8*jw:Nat):Int))(uK:jw<8*L)(name:UInt64)(A:Option Addr)(c:Nat)(old:List Int)(hO:Ja w G A old.length (old.map zv))(hob:∀o∈old, -9223372036854775808<=o/\o<=9223372036854775807)(hol:old.length<=1000):
 Calls Tryz.prog 141 #[.pointer (some ⟨jb,0,none⟩),.int .i64 0,.int .i64 word,.int .u64 (name.toNat:Int),.slice A old.length c] w (Q7 (Dx j 0 word name old) base jb x d p L j G w):=by
 obtain⟨F,v,hj,hG⟩:=h;have hGe:G=zl F jb v:=funext fun b=>propext (hG b)
 subst hGe;have HP:Hid (Dx j 0 word name old=LX {j.s with ws:=FH j.s.ws jw name} old 0):=Aa (by unfold Dx;rw [if_neg (by simp),hw,show((8*jw:Nat):Int).toNat/8=jw by omega]);have HPt:=VB hj.ix.sys jw name uK;rw [<-hw]at HPt;have HPt:=Aa HPt;have HJ:=Aa hj;have HO:=Aa hO;have HOb:=Aa hob;have y0:=hj.box.cell 0;have u0:=hj.ix.box.cell 0;simp only [Ac]at y0 u0;clear hj hG hO hob hw;go_enter Tryz.func141,Tryz.ntmps141
 go_wp2_with fail
 refine HPt.out.mono ?_;rintro e w1⟨rfl,F1,hs1,hm1⟩;obtain⟨q1,q2⟩:=HJ.out.move' hs1 hm1;have HJ1:=Aa q1;have HM1:=Aa q2;clear q1 q2 hs1 hm1 HPt y0 u0
 go_wp2_with fail
 go_loopw [1,52](fun e1 i wr=>∃(k:Nat)(F':Nat->Prop)(s':St)(ec:Int),k<=old.length/\e1= .int .i64 ec/\i= .int .i64 (k:Nat)/\LX s' (old.drop k) ec=LX {j.s with ws:=FH j.s.ws jw name} old 0/\Nv wr base jb x d p L {j with s:=s'} F' v/\Aq (zl F jb v) (zl F' jb v) w wr)(fun _ i _=>old.length- (intOf i).toNat)
 case atStart=>exact⟨0,F1,_,0,BA _,rfl,rfl,rfl,HJ1.out,HM1.out⟩
 case round=>
  obtain⟨k,F',s',ec,hk,rfl,rfl,hdr,hjr,hmv⟩:=hrel;have HMv:=Aa hmv;have HDr:=Aa hdr;have nO:=Aa hjr;clear hmv hdr hjr HJ1 HM1;by_cases hlt:k<old.length
  ·have y0:=nO.out.box.cell 0;have u1:=nO.out.ix.box.cell 1;simp only [Ac,Ae]at y0 u1;obtain⟨rb,ro,rfl,hrb,hcs⟩:=(HO.out.moved HMv.out).1.2 (by omega);have hck:=hcs k hlt;rw [BC,Af hlt]at hck;replace hck:_=some (Value.int .i64 old[k]):=hck;have hin: -9223372036854775808<=old[k]/\old[k]<=9223372036854775807:=HOb.out _ (BD _);have yD:Hid (LX (EJ s' old[k]).1 (old.drop (k+1)) (if ec=0 then(EJ s' old[k]).2 else ec)=LX {j.s with ws:=FH j.s.ws jw name} old 0):=Aa (by rw [<-HDr.out,iT _ _ hlt];rfl);have HDp:=Aa (LK nO.out.ix.sys old[k] hin);generalize old[k]=o at*;obtain⟨de,hde⟩:∃de,de=(EJ s' o).2:=⟨_,rfl⟩;rw [<-hde]at yD HDp;clear hcs hin hde;have hx1:(k:Int)<(old.length:Int):=by omega
   have hx2:decide ((k:Int)<(old.length:Int))=true:=decide_eq_true hx1;have hwk:IntKind.i64.wrap ((k:Int)+1)=(k:Int)+1:=wrap64 _ (by omega) (by omega)
   go_wp2_with fail
   refine HDp.out.mono ?_;rintro e9 w9⟨rfl,F9,hs9,hm9⟩;obtain⟨q1,q2⟩:=nO.out.move' hs9 hm9;have HQ:=Aa q1;have HM9:=Aa (HMv.out.trans q2);clear q1 q2 hs9 hm9 HDp y0 u1 hck nO HMv;by_cases hec:ec=0
   ·subst hec;rw [if_pos rfl]at yD
    go_wp2_with fail
    go_roundw
    case rel=>exact⟨k+1,F9,(EJ s' o).1,de,by omega,rfl,by go_num,yD.out,HQ.out,HM9.out⟩
    case measure=>simp [intOf];omega
   ·rw [if_neg hec]at yD;have t5:(ec==0)=false:=by rw [beq_eq_false_iff_ne];exact hec
    go_wp2_with fail
    go_roundw
    case rel=>exact⟨k+1,F9,(EJ s' o).1,ec,by omega,rfl,by go_num,yD.out,HQ.out,HM9.out⟩
    case measure=>simp [intOf];omega
  ·have hkn:k=old.length:=by omega
   subst hkn;have HS:Hid ((s',ec)=LX {j.s with ws:=FH j.s.ws jw name} old 0):=Aa (by have:=HDr.out;rw [xg]at this;exact this)
   go_wp2_with fail
   go_ret;refine⟨by rw [HP.out,<-HS.out];rfl,zl F' jb _,?_,HMv.out⟩;rw [HP.out,<-HS.out];exact⟨F',_,nO.out,fun _=>Iff.rfl⟩
end
section
variable{base jb x d p L:Nat}
theorem zn{w:World}{j:Jb}{G:Nat->Prop}(h:EW w base jb x d p L j G)(nd:Nd)(A1 A2 A3:Option Addr)(c1 c2 c3:Nat)(off word:Int)(lb:UInt8)(rest:List UInt8)(A:Option Addr)(c:Nat)(value:UInt64)
 (hN:Xj w G (.slice A1 nd.pre.length c1) (.int .u64 (nd.val.toNat:Int)) (.slice A2 nd.labels.length c2) (.slice A3 nd.kids.length c3) nd)(b1:nd.pre.length<=100)(b2:nd.labels.length<=100)(b3:nd.kids.length<=100)
 (hR:Ja w G A rest.length (rest.map bv))(hrc:rest.length<=c)(hrl:rest.length<=100)(hm:j.made.length<=500)(hne:nd.pre≠rest):
 Calls Tryz.prog 142 #[.pointer (some ⟨jb,0,none⟩),.agg #[.slice A1 nd.pre.length c1,.int .u64 (nd.val.toNat:Int),.slice A2 nd.labels.length c2,.slice A3 nd.kids.length c3,.int .i64 off,.int .u8 (lb.toNat:Int),.int .i64 word],.slice A rest.length c,.int .u64 (value.toNat:Int)] w (Gu (GZ j nd rest value) base jb x d p L G w):=by
 have hl:=Ho nd.pre rest;have hr:=Es nd.pre rest;by_cases hs:common nd.pre rest=nd.pre.length
 ·refine uH h nd A1 A2 A3 c1 c2 c3 off word lb rest A c value hN b1 b2 b3 hR hrc hrl hm hs ?_;rcases Nat.lt_or_ge (common nd.pre rest) rest.length with h1| h1
  ·exact h1
  ·exact absurd (PV _ _ hs (by omega)) hne
 ·have hs':common nd.pre rest<nd.pre.length:=by omega
  by_cases he:common nd.pre rest=rest.length
  ·exact grow_end h nd A1 A2 A3 c1 c2 c3 off word lb rest A c value hN b1 b2 b3 hR hrc hrl hm hs' he
  ·have hlt:common nd.pre rest<rest.length:=by omega
   by_cases her:(D5 j {nd with pre:=nd.pre.drop (common nd.pre rest+1)}).2.2=0
   ·cases hok:Jk ⟨nd.pre.take (common nd.pre rest),0,[],[]⟩ (nd.pre.getD (common nd.pre rest) 0) (D5 j {nd with pre:=nd.pre.drop (common nd.pre rest+1)}).2.1
    ·exact Acn h nd A1 A2 A3 c1 c2 c3 off word lb rest A c value hN b1 b2 b3 hR hrc hrl hm hs' hlt her hok
    ·exact zk h nd A1 A2 A3 c1 c2 c3 off word lb rest A c value hN b1 b2 b3 hR hrc hrl hm hs' hlt her hok
   ·exact zi h nd A1 A2 A3 c1 c2 c3 off word lb rest A c value hN b1 b2 b3 hR hrc hrl hm hs' hlt her
end
theorem EW.done{w W w':World}{base jb x d p L:Nat}{j:Jb}{F G G':Nat->Prop}(h:EW w' base jb x d p L j G')(m:Aq G G' W w')(hb:Below w.heap.size w W)(hG:∀b,G b->F b\/w.heap.size<=b):∃F',Ix w' x d p L j.s F'/\Aq F F' w w':=by
 obtain⟨F',v,hj,hG'⟩:=h;have hs:=hb.size;refine⟨F',hj.ix,(Touch.of_below hb).trans m.touch hG,fun b hb'=> ?_⟩;rcases m.own b ((hG' b).2 (.inl hb'))with h1| h1
 ·exact hG b h1
 ·exact .inr (by omega)
theorem bu{w W:World}{x d p L:Nat}{s:St}{F:Nat->Prop}(h:Ix W x d p L s F)(hw:W=w.alloc (.cells #[.pointer (some ⟨x,0,none⟩),.slice none 0 0] 235))(hF:∀b,F b->b<w.heap.size)(hx:x<w.heap.size)(ht:0<w.heap.size/\1<w.heap.size):
 EW W w.heap.size w.heap.size x d p L ⟨s,[]⟩ (fun b=>F b\/b=w.heap.size):=by
 have e1:(Value.slice none 0 0).ownBlock=none:=rfl;have row:W.ownsRow w.heap.size 3 1 (.slice none 0 0) 0 []:=World.ownsRow_nil _ _ _ _;have box:BH W w.heap.size 235 [.pointer (some ⟨x,0,none⟩),.slice none 0 0]:=hw▸heap_alloc_new _ _;have fj:¬F w.heap.size:=fun hf=>Aeb _ (hF _ hf)
 refine⟨F,.slice none 0 0,⟨h,box,row,fj,Ad _,hx,ht,(by rw [e1];exact fun e=>nomatch e),fun b hb=>(by rw [e1]at hb;exact nomatch hb),fun o ho=>nomatch ho⟩,fun b=>⟨fun hb=>hb.elim .inl (fun e=> .inr (.inl e)),fun hb=> ?_⟩⟩;rcases hb with h1| h1| h1
 ·exact .inl h1
 ·exact .inr h1
 ·rw [e1]at h1;exact nomatch h1
def I7(r:St×Int)(x d p L:Nat)(F:Nat->Prop)(w:World)(e:Ending)(w':World):Prop:=
 e= .returned (.int .i64 r.2)/\∃F',Ix w' x d p L r.1 F'/\Aq F F' w w'
section
variable{w:World}{x d p L:Nat}{s:St}{F:Nat->Prop}
theorem OM(key:ByteArray):key.data.toList.length=key.size:=by rw [Array.length_toList];rfl
theorem Um(h:Ix w x d p L s F)(key:ByteArray)(hk:key.size<=1000)(value:UInt64)(hc:16<key.size\/value=0\/Fj s key.data.toList=none):
 Calls Tryz.prog 93 #[.pointer (some ⟨x,0,none⟩),.string key,.int .u64 (value.toNat:Int)] w (I7 (FZ s key.data.toList value) x d p L F w):=by
 have HA:=Aa (IZ h key (by omega));have HX:=Aa h;have hkl:=OM key;by_cases h1:16<key.size
 ·have HP:Hid (FZ s key.data.toList value=(s,3)):=Aa (by unfold FZ;rw [hkl,if_pos h1]);rw [if_pos h1]at HA;clear h hc h1 hkl;go_enter Tryz.func93,Tryz.ntmps93
  go_wp2_with fail
  refine HA.out.mono ?_;rintro e w1⟨rfl,rfl⟩;clear HA
  go_wp2_with fail
  go_ret;refine⟨by rw [HP.out];rfl,F,?_,Aq.refl _ _⟩;rw [HP.out];exact HX.out
 ·rw [if_neg h1]at HA;by_cases h2:value=0
  ·have HP:Hid (FZ s key.data.toList value=(s,2)):=Aa (by unfold FZ;rw [hkl,if_neg h1,if_pos h2]);subst h2;clear h hc h1 hkl;go_enter Tryz.func93,Tryz.ntmps93
   go_wp2_with fail
   refine HA.out.mono ?_;rintro e w1⟨rfl,rfl⟩;clear HA
   go_wp2_with fail
   go_ret;refine⟨by rw [HP.out];rfl,F,?_,Aq.refl _ _⟩;rw [HP.out];exact HX.out
  ·have hpn:=(hc.resolve_left h1).resolve_left h2;have HP:Hid (FZ s key.data.toList value=(s,5)):=Aa (by unfold FZ;rw [hkl,if_neg h1,if_neg h2,hpn]);have QM:=Aa (IJ h key hk);have Xn:=Aa hpn;have t1:((value.toNat:Int)==0)=false:=by
    rw [beq_eq_false_iff_ne];intro e;exact h2 (UInt64.toNat_inj.1 (by simp;omega))
   clear h hc h1 h2 hkl hpn;go_enter Tryz.func93,Tryz.ntmps93
   go_wp2_with fail
   refine HA.out.mono ?_;rintro e w1⟨rfl,rfl⟩;clear HA
   go_wp2_with fail
   refine QM.out.mono ?_;rintro e w1⟨hb1,hp1⟩;rw [Xn.out]at hp1;replace hp1:e= .returned (.tuple #[.slice none 0 0,.slice none 0 0,.int .i64 5]):=hp1;subst hp1;have HB:=Aa hb1;clear hb1 QM
   go_wp2_with fail
   go_ret;refine⟨by rw [HP.out];rfl,F,?_,Aq.of_below HB.out⟩;rw [HP.out];exact HX.out.below HB.out
end
theorem Xy{s:St}:∀(f:Nat)(name:UInt64)(rest:List UInt8)(label:UInt8)(word:Int)(way Yw:List Pl)(rest':List UInt8),DD s f name rest label word way=some (Yw,rest')->Yw.length<=way.length+f
 | 0,name,rest,label,word,way,Yw,rest',h=>by
   rw [DD]at h;injection h with h
   injection h with h1 h2
   subst h1;omega
 | f+1,name,rest,label,word,way,Yw,rest',h=>by
   rw [DD]at h;split at h
   ·injection h with h
    injection h with h1 h2
    subst h1;omega
   ·split at h
    ·cases h
    ·split at h
     ·injection h with h
      injection h with h1 h2
      subst h1;simp
     ·split at h
      ·injection h with h
       injection h with h1 h2
       subst h1;simp
      ·have:=Xy f _ _ _ _ _ _ _ h;simp at this;omega
theorem Oc{s:St}{key:List UInt8}{way:List Pl}{rest:List UInt8}(h:Fj s key=some (way,rest)):way.length<=2*key.length+1:=by
 have:=Xy _ _ _ _ _ _ _ _ h;simpa using this
theorem OI.below{w w':World}{base:Nat}{A:Option Addr}{l:List UInt8}(h:OI w base A l)(k:Below w.heap.size w w'):OI w' base A l:=(Cc.of_below k).rs h
section
variable{w:World}{x d p L:Nat}{s:St}{F:Nat->Prop}
theorem uM(h:Ix w x d p L s F)(key:ByteArray)(h16:¬16<key.size)(value:UInt64)(hv0:value≠0)(way:List Pl)(rest:List UInt8)(hpa:Fj s key.data.toList=some (way,rest))(last:Pl)(hst:CB way rest=some last):
 Calls Tryz.prog 93 #[.pointer (some ⟨x,0,none⟩),.string key,.int .u64 (value.toNat:Int)] w (I7 (FZ s key.data.toList value) x d p L F w):=by
 have HA:=Aa (IZ h key (by omega));rw [if_neg h16]at HA;have HX:=Aa h;have hkl:=OM key;obtain⟨l0,l1,ok,EU⟩:=h.L0;have zo:16<=L:=by have:=ok.fits;have:=ok.BQ;omega
 obtain⟨Iz,hrl⟩:=Qv ok (by omega) EU hpa;have hwl:=Oc hpa;rw [hkl]at hrl hwl;replace hrl:rest.length<=32:=by omega
 replace hwl:way.length<=33:=by omega
 have hpre:∀pl∈way,pl.nd.pre.length<=1000:=fun pl hm=>by have:=((AY _).1 (Iz pl hm).right).1;omega
 have wQ:=Aa Iz;have nP:=Aa hpre;have QM:=Aa (IJ h key (by omega));have Xn:=Aa hpa;have hxl:=h.box.lt;have wY:=Aa h.sys.tabs.lt;have Hg:=Aa h.sys.lt;have Qx:=Aa hst;have hmem:last∈way:=by
  unfold CB at hst;split at hst
  ·cases hst
  ·rename_i l hl;split at hst
   ·injection hst with hst;subst hst;exact KT hl
   ·cases hst
 have iU:=Aa (Iz last hmem);have HP:Hid (FZ s key.data.toList value=(Jl s last value,0)):=Aa (by unfold FZ;rw [hkl,if_neg h16,if_neg hv0,hpa];simp only;rw [hst]);clear hst hmem;have t1:((value.toNat:Int)==0)=false:=by
  rw [beq_eq_false_iff_ne];intro e;exact hv0 (UInt64.toNat_inj.1 (by simp;omega))
 clear h h16 hv0 hpa hkl ok EU Iz hpre;go_enter Tryz.func93,Tryz.ntmps93
 go_wp2_with fail
 refine HA.out.mono ?_;rintro e w1⟨rfl,rfl⟩;clear HA
 go_wp2_with fail
 refine QM.out.mono ?_;rintro e w1⟨hb1,hp1⟩;rw [Xn.out]at hp1;obtain⟨vw,A,c,rfl,Iy,hrs,hrc⟩:=hp1;have HW1:=Aa Iy;have HR1:=Aa hrs;have HB1:=Aa hb1;clear Iy hrs hb1 QM
 go_wp2_with fail
 refine(FU HW1.out (by omega) nP.out HR1.out.1 (by omega)).mono ?_;rintro e w2⟨hb2,hp2⟩;rw [Qx.out]at hp2;obtain⟨a,b,c',d',rfl,hnd⟩:=hp2;obtain⟨A1,m1,A2,m2,A3,m3,e,o1,o2,o3⟩:=hnd;simp only [Value.agg.injEq]at e;simp at e;obtain⟨rfl,rfl,rfl,rfl⟩:=e;have HB2:=Aa (HB1.out.trans (hb2.mono HB1.out.size));obtain⟨W3,hW3⟩:∃W3,W3=w2.alloc (.cells #[.slice A1 last.nd.pre.length m1,.int .u64 (last.nd.val.toNat:Int),.slice A2 last.nd.labels.length m2,.slice A3 last.nd.kids.length m3,.int .i64 last.off,.int .u8 (last.label.toNat:Int),.int .i64 last.word] 227):=⟨_,rfl⟩;have B3:BH W3 w2.heap.size 227 [.slice A1 last.nd.pre.length m1,.int .u64 (last.nd.val.toNat:Int),.slice A2 last.nd.labels.length m2,.slice A3 last.nd.kids.length m3,.int .i64 last.off,.int .u8 (last.label.toNat:Int),.int .i64 last.word]:=hW3▸heap_alloc_new _ _;have hb3:Below w2.heap.size w2 W3:=hW3▸(Below.refl _ _).alloc (Ad _) _;have HB3:=Aa (HB2.out.trans (hb3.mono HB2.out.size));have HV:=Aa (PW (HX.out.below HB3.out) last (iU.out) A1 A2 A3 last.nd.pre.length m1 last.nd.labels.length m2 last.nd.kids.length m3 value);have HW3:=Aa hW3;obtain⟨y0,y1,y2,y3,y4,y5,y6⟩:=DU B3;rw [hW3]at y0 y1 y2 y3 y4 y5 y6;clear o1 o2 o3 hb2 hb3 B3 hW3
 go_wp2_with fail
 rw [<-HW3.out];refine HV.out.mono ?_;rintro e w4⟨rfl,F4,hx4,hm4⟩;have HF:=Aa (And.intro hx4 ((Aq.of_below (F:=F) HB3.out).trans hm4));clear hx4 hm4 y0 y1 y2 y3 y4 y5 y6 HV HW3
 go_wp2_with fail
 go_ret;refine⟨by rw [HP.out];rfl,F4,?_,HF.out.2⟩;rw [HP.out];exact HF.out.1
theorem uN(h:Ix w x d p L s F)(key:ByteArray)(h16:¬16<key.size)(value:UInt64)(hv0:value≠0)(way:List Pl)(rest:List UInt8)(hpa:Fj s key.data.toList=some (way,rest))(hw0:way=[])(hst:CB way rest=none):
 Calls Tryz.prog 93 #[.pointer (some ⟨x,0,none⟩),.string key,.int .u64 (value.toNat:Int)] w (I7 (FZ s key.data.toList value) x d p L F w):=by
 have HA:=Aa (IZ h key (by omega));rw [if_neg h16]at HA;have HX:=Aa h;have hkl:=OM key;obtain⟨l0,l1,ok,EU⟩:=h.L0;have zo:16<=L:=by have:=ok.fits;have:=ok.BQ;omega
 obtain⟨Iz,hrl⟩:=Qv ok (by omega) EU hpa;have hwl:=Oc hpa;rw [hkl]at hrl hwl;replace hrl:rest.length<=32:=by omega
 replace hwl:way.length<=33:=by omega
 have hpre:∀pl∈way,pl.nd.pre.length<=1000:=fun pl hm=>by have:=((AY _).1 (Iz pl hm).right).1;omega
 have wQ:=Aa Iz;have nP:=Aa hpre;have QM:=Aa (IJ h key (by omega));have Xn:=Aa hpa;have hxl:=h.box.lt;have wY:=Aa h.sys.tabs.lt;have Hg:=Aa h.sys.lt;have Qx:=Aa hst;obtain⟨⟨j1,name,er⟩,hr⟩:∃r,Ii (rest.length+1) ⟨s,[]⟩ rest value=r:=⟨_,rfl⟩;have HR:=Aa hr;have Ak5:way.length=0:=by rw [hw0];rfl
 have HP:Hid (FZ s key.data.toList value=Dx j1 er 72 name []):=Aa (by unfold FZ;rw [hkl,if_neg h16,if_neg hv0,hpa];simp only;rw [hst,hw0];simp only [List.getLast?_nil];rw [hr]);clear hst hw0 hr;have t1:((value.toNat:Int)==0)=false:=by
  rw [beq_eq_false_iff_ne];intro e;exact hv0 (UInt64.toNat_inj.1 (by simp;omega))
 clear h h16 hv0 hpa hkl ok EU Iz hpre;go_enter Tryz.func93,Tryz.ntmps93
 go_wp2_with fail
 refine HA.out.mono ?_;rintro e w1⟨rfl,rfl⟩;clear HA
 go_wp2_with fail
 refine QM.out.mono ?_;rintro e w1⟨hb1,hp1⟩;rw [Xn.out]at hp1;obtain⟨vw,A,c,rfl,Iy,hrs,hrc⟩:=hp1;have HW1:=Aa Iy;have HR1:=Aa hrs;have HB1:=Aa hb1;clear Iy hrs hb1 QM
 go_wp2_with fail
 refine(FU HW1.out (by omega) nP.out HR1.out.1 (by omega)).mono ?_;rintro e w2⟨hb2,hp2⟩;rw [Qx.out]at hp2;replace hp2:e= .returned (.tuple #[.agg #[.slice none 0 0,.int .u64 0,.slice none 0 0,.slice none 0 0,.int .i64 0,.int .u8 0,.int .i64 0],.bool false]):=hp2;subst hp2;obtain⟨Av,cv,hvw⟩:∃Av cv,vw= .slice Av way.length cv:=by
  obtain⟨vs,ho,_⟩:=HW1.out;rcases ho.2 with⟨e1,e2⟩| ⟨g,cap,cur,e1,_⟩
  ·exact⟨none,0,by rw [e1,e2]⟩
  ·exact⟨_,_,e1⟩
 subst hvw;have HB2:=Aa (HB1.out.trans (hb2.mono HB1.out.size));obtain⟨w3,hw3⟩:∃w3,w3=w2.alloc (.cells #[.slice none 0 0,.int .u64 0,.slice none 0 0,.slice none 0 0,.int .i64 0,.int .u8 0,.int .i64 0] 227):=⟨_,rfl⟩;have ET:Below w2.heap.size w2 w3:=hw3▸(Below.refl _ _).alloc (Ad _) _;obtain⟨w4,hw4⟩:∃w4,w4=w3.alloc (.cells #[.pointer (some ⟨x,0,none⟩),.slice none 0 0] 235):=⟨_,rfl⟩;have Fz:Below w3.heap.size w3 w4:=hw4▸(Below.refl _ _).alloc (Ad _) _;have hs3:w3.heap.size=w2.heap.size+1:=by rw [hw3];simp
 have HB3:=Aa (HB2.out.trans (ET.mono HB2.out.size));have HB4:=Aa (HB3.out.trans (Fz.mono HB3.out.size));have hsz:=HB3.out.size;have hJ:=bu (HX.out.below HB4.out) hw4 (fun b hb=>by have:=Hg.out b hb;omega) (by omega) (by have:=wY.out;omega);have HGj:Hid (∀b,(fun b=>F b\/b=w3.heap.size) b->F b\/w.heap.size<=b):=Aa (fun b hb=>hb.imp id (fun e=>by omega));have RI:Below w1.heap.size w1 w3:=hb2.trans (ET.mono hb2.size);have bz:=OI.below HR1.out RI;have hrd:Ja w4 (fun b=>F b\/b=w3.heap.size) A rest.length (rest.map bv):=by
  refine Ja.below (w:=w3) ⟨bz.1,fun hn a ea hg=> ?_⟩ Fz;obtain⟨rb,ro,e',hrb,_⟩:=bz.1.2 hn;rw [e']at ea;injection ea with ea
  subst ea;rcases hg with hg| hg
  ·have:=(bz.2 _ _ e').1;have:=Hg.out _ hg;simp only at this;omega
  ·simp only at hg;omega
 have HL:=Tn (rest.length+1) w4 ⟨s,[]⟩ _ rest value A c hJ hrd hrc (by omega) (by omega) (by simp only [D8];omega);rw [HR.out]at HL;have HL:=Aa HL;have HW3:=Aa hw3;have HW4:=Aa hw4;have O8:=Aa hs3;have hmd:=JO (rest.length+1) ⟨s,[]⟩ rest value;rw [HR.out]at hmd;simp only [D8]at hmd;rw [Ak5]at*;clear hb2 ET Fz hs3 hJ hrd bz RI hw3 hw4
 go_wp2_with fail
 rw [<-HW3.out,<-HW4.out,<-O8.out];refine HL.out.mono ?_;rintro e w5⟨rfl,G5,uJ,TR⟩;have hfin:Calls Tryz.prog 141 #[.pointer (some ⟨w3.heap.size,0,none⟩),.int .i64 er,.int .i64 72,.int .u64 (name.toNat:Int),.slice none 0 0] w5 (Q7 (Dx j1 er 72 name []) w3.heap.size w3.heap.size x d p L j1 G5 w5):=by
  by_cases he:er=0
  ·subst he;exact Nb uJ 72 9 rfl (by omega) name none 0 [] Ja.nil (fun o ho=>nomatch ho) (BA _)
  ·exact RH uJ er he 72 name none 0 [] (by show j1.made.length<=1000;omega)
 have HFin:=Aa hfin;have KP:=Aa TR;clear hfin TR uJ HL
 go_wp2_with fail
 first
  | refine HFin.out.mono ?_
  | (rw [<-O8.out];refine HFin.out.mono ?_)
 rintro e w6⟨rfl,G6,hj6,hm6⟩;have HD:=Aa (hj6.done (KP.out.trans hm6) HB4.out HGj.out);clear hj6 hm6 HFin
 go_wp2_with fail
 go_ret;refine⟨by rw [HP.out];rfl,?_⟩;rw [HP.out];exact HD.out
end
theorem Xj.mono{w:World}{G F:Nat->Prop}{a b c d:Value}{nd:Nd}(h:Xj w G a b c d nd)(k:∀b,b<w.heap.size->F b->G b):Xj w F a b c d nd:=by
 obtain⟨A1,c1,A2,c2,A3,c3,e1,e2,e3,e4,hc,h1,h2,h3⟩:=h;exact⟨A1,c1,A2,c2,A3,c3,e1,e2,e3,e4,hc,h1.mono k,h2.mono k,h3.mono k⟩
theorem nR(j:Jb)(x:Nd)(rest:List UInt8)(value:UInt64):(GZ j x rest value).1.made.length<=j.made.length+rest.length+4:=by
 have hl:=fun j' l=>JO (rest.length+1) j' l value
 have hb:=Gm j {x with pre:=x.pre.drop (common x.pre rest+1)};unfold GZ;split
 ·have:=hl j (rest.drop (common x.pre rest+1));split;rename_i j1 kid e he;rw [he]at this;have h2:=Na j1 x (rest.getD (common x.pre rest) 0) kid e;simp only at this;omega
 ·split;rename_i j1 kid e he;rw [he]at hb;simp only at hb;split
  ·have h2:=Na j1 ⟨x.pre.take (common x.pre rest),value,[],[]⟩ (x.pre.getD (common x.pre rest) 0) kid e;omega
  ·split
   ·simp only;omega
   ·split
    ·split;rename_i j2 ZO e2 he2;have:=hl j1 (rest.drop (common x.pre rest+1));rw [he2]at this;have h2:=Na j2 (GG ⟨x.pre.take (common x.pre rest),0,[],[]⟩ (x.pre.getD (common x.pre rest) 0) kid) (rest.getD (common x.pre rest) 0) ZO e2;simp only at this;omega
    ·simp only;omega
section
variable{w:World}{x d p L:Nat}{s:St}{F:Nat->Prop}
theorem zq(h:Ix w x d p L s F)(key:ByteArray)(h16:¬16<key.size)(value:UInt64)(hv0:value≠0)(way:List Pl)(rest:List UInt8)(hpa:Fj s key.data.toList=some (way,rest))(hw0:way≠[])(hst:CB way rest=none):
 Calls Tryz.prog 93 #[.pointer (some ⟨x,0,none⟩),.string key,.int .u64 (value.toNat:Int)] w (I7 (FZ s key.data.toList value) x d p L F w):=by
 have HA:=Aa (IZ h key (by omega));rw [if_neg h16]at HA;have HX:=Aa h;have hkl:=OM key;obtain⟨l0,l1,ok,EU⟩:=h.L0;have zo:16<=L:=by have:=ok.fits;have:=ok.BQ;omega
 obtain⟨Iz,hrl⟩:=Qv ok (by omega) EU hpa;have hwl:=Oc hpa;rw [hkl]at hrl hwl;replace hrl:rest.length<=32:=by omega
 replace hwl:way.length<=33:=by omega
 have hpre:∀pl∈way,pl.nd.pre.length<=1000:=fun pl hm=>by have:=((AY _).1 (Iz pl hm).right).1;omega
 have wQ:=Aa Iz;have nP:=Aa hpre;have QM:=Aa (IJ h key (by omega));have Xn:=Aa hpa;have hxl:=h.box.lt;have wY:=Aa h.sys.tabs.lt;have Hg:=Aa h.sys.lt;have hn0:0<way.length:=List.length_pos_iff.2 hw0;obtain⟨last,hla⟩:∃last,way[way.length-1]'(by omega)=last:=⟨_,rfl⟩;have hgl:way.getLast? =some last:=by rw [List.getLast?_eq_getElem?,Af (by omega),hla]
 have hne:last.nd.pre≠rest:=by
  intro e;unfold CB at hst;rw [hgl]at hst;simp only at hst;rw [if_pos e]at hst;cases hst
 have iU:=Aa (Iz last (KT hgl));have HLa:=Aa hla;have HNe:=Aa hne;have Qx:=Aa hst;obtain⟨⟨j1,name,er⟩,hr⟩:∃r,GZ ⟨s,[]⟩ last.nd rest value=r:=⟨_,rfl⟩;have HR:=Aa hr;have HP:Hid (FZ s key.data.toList value=Dx j1 er last.word name [last.off]):=Aa (by unfold FZ;rw [hkl,if_neg h16,if_neg hv0,hpa];simp only;rw [hst,hgl];simp only;rw [hr]);have hmd:=nR ⟨s,[]⟩ last.nd rest value;rw [hr]at hmd;simp only [D8]at hmd;clear hst hr hla hgl hne;have t1:((value.toNat:Int)==0)=false:=by
  rw [beq_eq_false_iff_ne];intro e;exact hv0 (UInt64.toNat_inj.1 (by simp;omega))
 clear h h16 hv0 hpa hkl ok EU Iz hpre;go_enter Tryz.func93,Tryz.ntmps93
 go_wp2_with fail
 refine HA.out.mono ?_;rintro e w1⟨rfl,rfl⟩;clear HA
 go_wp2_with fail
 refine QM.out.mono ?_;rintro e w1⟨hb1,hp1⟩;rw [Xn.out]at hp1;obtain⟨vw,A,c,rfl,Iy,hrs,hrc⟩:=hp1;have HW1:=Aa Iy;have HR1:=Aa hrs;have HB1:=Aa hb1;clear Iy hrs hb1 QM
 go_wp2_with fail
 refine(FU HW1.out (by omega) nP.out HR1.out.1 (by omega)).mono ?_;rintro e w2⟨hb2,hp2⟩;rw [Qx.out]at hp2;replace hp2:e= .returned (.tuple #[.agg #[.slice none 0 0,.int .u64 0,.slice none 0 0,.slice none 0 0,.int .i64 0,.int .u8 0,.int .i64 0],.bool false]):=hp2;subst hp2;obtain⟨g,cv,rfl,hcv,hbg,hgw,hat⟩:=HW1.out.at hw0;obtain⟨a,b,c',d',hwc⟩:=hat (way.length-1) (by omega);rw [show way[way.length-1]'(by omega)=last from HLa.out]at hwc;have HB2:=Aa (HB1.out.trans (hb2.mono HB1.out.size));obtain⟨w3,hw3⟩:∃w3,w3=w2.alloc (.cells #[.slice none 0 0,.int .u64 0,.slice none 0 0,.slice none 0 0,.int .i64 0,.int .u8 0,.int .i64 0] 227):=⟨_,rfl⟩;have ET:Below w2.heap.size w2 w3:=hw3▸(Below.refl _ _).alloc (Ad _) _;obtain⟨w4,hw4⟩:∃w4,w4=w3.alloc (.cells #[.pointer (some ⟨x,0,none⟩),.slice none 0 0] 235):=⟨_,rfl⟩;have Fz:Below w3.heap.size w3 w4:=hw4▸(Below.refl _ _).alloc (Ad _) _;have hs3:w3.heap.size=w2.heap.size+1:=by rw [hw3];simp
 have HB3:=Aa (HB2.out.trans (ET.mono HB2.out.size));have HB4:=Aa (HB3.out.trans (Fz.mono HB3.out.size));have hsz:=HB3.out.size;have hJ:=bu (HX.out.below HB4.out) hw4 (fun b hb=>by have:=Hg.out b hb;omega) (by omega) (by have:=wY.out;omega);have HGj:Hid (∀b,(fun b=>F b\/b=w3.heap.size) b->F b\/w.heap.size<=b):=Aa (fun b hb=>hb.imp id (fun e=>by omega));have RI:Below w1.heap.size w1 w3:=hb2.trans (ET.mono hb2.size);have bz:=OI.below HR1.out RI;have t0:((way.length:Int)==0)=false:=by rw [beq_eq_false_iff_ne];omega
 obtain⟨m,hm⟩:∃m,m=way.length-1:=⟨_,rfl⟩;have hwm:IntKind.i64.wrap ((way.length:Int) -1)=(m:Int):=(wrap64 _ (by omega) (by omega)).trans (by omega);have hx1:decide ((m:Int)<(way.length:Int))=true:=decide_eq_true (by omega);have hx2:m<way.length:=by omega
 have hx3:(m:Int)<(way.length:Int):=by omega
 have iV:Below w1.heap.size w1 w4:=RI.trans (Fz.mono RI.size);obtain⟨A1,p1,A2,p2,A3,p3,e,o1,o2,o3⟩:=hwc.nd;simp only [Value.agg.injEq]at e;simp at e;obtain⟨rfl,rfl,rfl,rfl⟩:=e;have hz:∀j v,[Value.slice A1 last.nd.pre.length p1,.int .u64 (last.nd.val.toNat:Int),.slice A2 last.nd.labels.length p2,.slice A3 last.nd.kids.length p3,.int .i64 last.off,.int .u8 (last.label.toNat:Int),.int .i64 last.word][j]? =some v->w4.cell? ⟨g,m*7+j,none⟩=some v:=fun j v hj=>by
  rw [iV.cell (p:=⟨g,m*7+j,none⟩) hgw,Nat.mul_comm,hm];exact hwc.cells j v hj
 have z0:=hz 0 _ rfl;have z1:=hz 1 _ rfl;have z2:=hz 2 _ rfl;have z3:=hz 3 _ rfl;have z4:=hz 4 _ rfl;have z5:=hz 5 _ rfl;have z6:=hz 6 _ rfl;rw [Nat.add_zero]at z0;have hnr:Xj w4 (fun b=>F b\/b=w3.heap.size) (.slice A1 last.nd.pre.length p1) (.int .u64 (last.nd.val.toNat:Int)) (.slice A2 last.nd.labels.length p2) (.slice A3 last.nd.kids.length p3) last.nd:=by
  have q0:Xj w2 F _ _ _ _ last.nd:=Xj.Aih (hwc.nd.below hb2) (fun b hb _ hf=>by have:=Hg.out b hf;omega);have q1:Xj w2 (fun b=>F b\/b=w3.heap.size) _ _ _ _ last.nd:=q0.mono (fun b hb hg=>hg.elim id (fun e=>by first| omega| (simp only at e;omega)));exact q1.moved (Aq.of_below (ET.trans (Fz.mono ET.size)))
 have hrd:Ja w4 (fun b=>F b\/b=w3.heap.size) A rest.length (rest.map bv):=by
  refine Ja.below (w:=w3) ⟨bz.1,fun hn a ea hg=> ?_⟩ Fz;obtain⟨rb,ro,e',hrb,_⟩:=bz.1.2 hn;rw [e']at ea;injection ea with ea
  subst ea;rcases hg with hg| hg
  ·have:=(bz.2 _ _ e').1;have:=Hg.out _ hg;simp only at this;omega
  ·simp only at hg;omega
 obtain⟨w5,hw5⟩:∃w5,w5=w4.alloc (.cells #[.slice A1 last.nd.pre.length p1,.int .u64 (last.nd.val.toNat:Int),.slice A2 last.nd.labels.length p2,.slice A3 last.nd.kids.length p3,.int .i64 last.off,.int .u8 (last.label.toNat:Int),.int .i64 last.word] 227):=⟨_,rfl⟩;have B5:BH w5 w4.heap.size 227 [.slice A1 last.nd.pre.length p1,.int .u64 (last.nd.val.toNat:Int),.slice A2 last.nd.labels.length p2,.slice A3 last.nd.kids.length p3,.int .i64 last.off,.int .u8 (last.label.toNat:Int),.int .i64 last.word]:=hw5▸heap_alloc_new _ _;have Ny:Below w4.heap.size w4 w5:=hw5▸(Below.refl _ _).alloc (Ad _) _;have hpl:=iU.out;have Ai0:=((AY _).1 hpl.right).1;have Ai1:=hpl.kids;have Ai2:=hpl.labels;have HGr:=zn (hJ.below Ny) last.nd A1 A2 A3 p1 p2 p3 last.off last.word last.label rest A c value (hnr.moved (Aq.of_below Ny)) (by omega) (by omega) (by omega) (hrd.below Ny) hrc (by omega) (by simp) HNe.out;rw [HR.out]at HGr;have HGr:=Aa HGr;have HJl:=Aa hJ.lt;have HW3:=Aa hw3;have HW4:=Aa hw4;have HW5:=Aa hw5;have O8:=Aa hs3;have hs4:w4.heap.size=w2.heap.size+2:=by rw [hw4];simp;omega
 have dC:=Aa hs4;have MF:=Aa (HB4.out.trans (Ny.mono HB4.out.size));have wW:=Aa B5;rw [hw4,hw3]at z0 z1 z2 z3 z4 z5 z6;clear hb2 ET Fz hs3 hs4 hJ hrd bz RI iV hw3 hw4 hw5 Ny B5 hz hwc hat o1 o2 o3 hnr hm hpl
 go_wp2_with fail
 rw [<-HW3.out,<-HW4.out,<-HW5.out,<-O8.out];refine HGr.out.mono ?_;rintro e w6⟨rfl,G6,hj6,hm6⟩;have B6:=wW.out.touch hm6.touch (fun hg=>by have:=HJl.out _ hg;omega);obtain⟨w7,hw7⟩:∃w7,w7=w6.alloc (.cells #[.int .i64 last.off] 3):=⟨_,rfl⟩;have Aco:Below w6.heap.size w6 w7:=hw7▸(Below.refl _ _).alloc (Ad _) _;have B7:BH w7 w6.heap.size 3 [zv last.off]:=hw7▸heap_alloc_new _ _;have hO:Ja w7 G6 (some ⟨w6.heap.size,0,none⟩) 1 ([last.off].map zv):=⟨B7.rd,fun _ a ea hg=>by
  injection ea with ea
  subst ea;exact absurd (hj6.lt _ hg) (Aeb _)⟩
 have hfin:Calls Tryz.prog 141 #[.pointer (some ⟨w3.heap.size,0,none⟩),.int .i64 er,.int .i64 last.word,.int .u64 (name.toNat:Int),.slice (some ⟨w6.heap.size,0,none⟩) 1 1] w7 (Q7 (Dx j1 er last.word name [last.off]) w3.heap.size w3.heap.size x d p L j1 G6 w7):=by
  by_cases he:er=0
  ·subst he;obtain⟨jw,uK,hjl⟩:=iU.out.word;obtain⟨o,ho,hol⟩:=iU.out.off;exact Nb (hj6.below Aco) last.word jw uK hjl name _ 1 [last.off] hO (fun o' ho'=>by rw [List.mem_singleton]at ho';omega) (by simp)
  ·exact RH (hj6.below Aco) er he last.word name _ 1 [last.off] (by show j1.made.length<=1000;omega)
 have HFin:=Aa hfin;have Yy:=Aa (hm6.trans (Aq.of_below Aco));have HW7:=Aa hw7;have Qs:=Aa B6;clear z0 z1 z2 z3 z4 z5 z6 hm6 hj6 Aco B7 hO hfin hw7 HGr B6;obtain⟨y0,y1,y2,y3,y4,y5,y6⟩:=DU Qs.out;rw [dC.out]at y0 y1 y2 y3 y4 y5 y6;rw [O8.out]
 go_wp2_with fail
 rw [<-HW7.out,<-O8.out];refine HFin.out.mono ?_;rintro e w8⟨rfl,G8,sF,aW⟩;have HD:=Aa (sF.done (Yy.out.trans aW) MF.out HGj.out);clear sF aW HFin
 go_wp2_with fail
 go_ret;refine⟨by rw [HP.out];rfl,?_⟩;rw [HP.out];exact HD.out
theorem JR(h:Ix w x d p L s F)(key:ByteArray)(hk:key.size<=1000)(value:UInt64):
 Calls Tryz.prog 93 #[.pointer (some ⟨x,0,none⟩),.string key,.int .u64 (value.toNat:Int)] w (I7 (FZ s key.data.toList value) x d p L F w):=by
 by_cases h16:16<key.size
 ·exact Um h key hk value (.inl h16)
 ·by_cases hv0:value=0
  ·exact Um h key hk value (.inr (.inl hv0))
  ·cases hp:Fj s key.data.toList with
   | none=>exact Um h key hk value (.inr (.inr hp))
   | some wr=>
     obtain⟨way,rest⟩:=wr;cases hst:CB way rest with
     | some last=>exact uM h key h16 value hv0 way rest hp last hst
     | none=>
       by_cases hw0:way=[]
       ·exact uN h key h16 value hv0 way rest hp hw0 hst
       ·exact zq h key h16 value hv0 way rest hp hw0 hst
end
section
variable{len:Nat->Nat}{w:World}{x d p L:Nat}{s:St}{F:Nat->Prop}
def GetPost(r:UInt64×Int)(w:World)(e:Ending)(w':World):Prop:=e= .returned (.tuple #[.int .u64 (r.1.toNat:Int),.int .i64 r.2])/\Below w.heap.size w w'
def bC(r:St×UInt64×Int)(x d p L:Nat)(F:Nat->Prop)(w:World)(e:Ending)(w':World):Prop:=
 e= .returned (.tuple #[.int .u64 (r.2.1.toNat:Int),.int .i64 r.2.2])/\∃F',Ix w' x d p L r.1 F'/\Aq F F' w w'
theorem GR (h : Qu len w x d p L s F) (key : ByteArray) (hk : key.size <= 1000) :
    Calls Tryz.prog 91 #[.pointer (some ⟨x, 0, none⟩), .string key] w (GetPost (EZ s key.data.toList) w) := by
  have HX := Aa h
  have HA := Aa (IZ h key (by omega))
  have hkl := OM key
  by_cases h16 : 16 < key.size
  · rw [if_pos h16] at HA
    have HP : Hid (EZ s key.data.toList = (0, 3)) := Aa (by unfold EZ; rw [hkl, if_pos h16])
    clear h hkl
    go_enter Tryz.func91, Tryz.ntmps91
    go_wp2_with fail
    refine HA.out.mono ?_
    rintro e w1 ⟨rfl, rfl⟩
    go_wp2_with fail
    go_ret2
    exact ⟨by rw [HP.out]; rfl, (Below.refl _ _)⟩
  · rw [if_neg h16] at HA
    obtain ⟨l0, l1, ok, EU⟩ := h.L0
    have zo : 16 <= L := by have := ok.fits; have := ok.BQ; omega
    have QM := Aa (IJ h key (by omega))
    cases hpa : Fj s key.data.toList with
    | none =>
      have HP : Hid (EZ s key.data.toList = (0, 5)) := Aa (by unfold EZ; rw [hkl, if_neg h16, hpa])
      have Xn := Aa hpa
      clear h hkl ok EU hpa
      go_enter Tryz.func91, Tryz.ntmps91
      go_wp2_with fail
      refine HA.out.mono ?_
      rintro e w1 ⟨rfl, rfl⟩
      clear HA
      go_wp2_with fail
      refine QM.out.mono ?_
      rintro e w1 ⟨hb1, hp1⟩
      rw [Xn.out] at hp1
      replace hp1 : e = .returned (.tuple #[.slice none 0 0, .slice none 0 0, .int .i64 5]) := hp1
      subst hp1
      have HB1 := Aa hb1
      clear QM hb1
      go_wp2_with fail
      go_ret2
      exact ⟨by rw [HP.out]; rfl, HB1.out⟩
    | some wr =>
      obtain ⟨way, rest⟩ := wr
      obtain ⟨Iz, hrl⟩ := Qv ok (by omega) EU hpa
      have hwl := Oc hpa
      rw [hkl] at hrl hwl
      replace hrl : rest.length <= 32 := by omega
      replace hwl : way.length <= 33 := by omega
      have hpre : ∀ pl ∈ way, pl.nd.pre.length <= 1000 := fun pl hm => by have := ((AY _).1 (Iz pl hm).right).1; omega
      have wQ := Aa Iz
      have nP := Aa hpre
      have Xn := Aa hpa
      have hxl := h.box.lt
      have wY := Aa h.sys.tabs.lt
      have Hg := Aa h.sys.lt
      cases hst : CB way rest with
      | none =>
        have HP : Hid (EZ s key.data.toList = (0, 7)) := Aa (by unfold EZ; rw [hkl, if_neg h16, hpa]; simp only; rw [hst])
        have Qx := Aa hst
        clear h hkl ok EU hpa hst Iz hpre
        go_enter Tryz.func91, Tryz.ntmps91
        go_wp2_with fail
        refine HA.out.mono ?_
        rintro e w1 ⟨rfl, rfl⟩
        clear HA
        go_wp2_with fail
        refine QM.out.mono ?_
        rintro e w1 ⟨hb1, hp1⟩
        rw [Xn.out] at hp1
        obtain ⟨vw, A, c, rfl, Iy, hrs, hrc⟩ := hp1
        have HW1 := Aa Iy
        have HR1 := Aa hrs
        have HB1 := Aa hb1
        clear Iy hrs hb1 QM
        go_wp2_with fail
        refine (FU HW1.out (by omega) nP.out HR1.out.1 (by omega)).mono ?_
        rintro e w2 ⟨hb2, hp2⟩
        rw [Qx.out] at hp2
        replace hp2 : e = .returned (.tuple #[.agg #[.slice none 0 0, .int .u64 0, .slice none 0 0, .slice none 0 0, .int .i64 0, .int .u8 0, .int .i64 0], .bool false]) := hp2
        subst hp2
        have HB2 := Aa (HB1.out.trans (hb2.mono HB1.out.size))
        clear hb2
        have HB3 : Hid (Below w.heap.size w (w2.alloc (.cells #[.slice none 0 0, .int .u64 0, .slice none 0 0, .slice none 0 0, .int .i64 0, .int .u8 0, .int .i64 0] 227))) := Aa (HB2.out.alloc HB2.out.size _)
        go_wp2_with fail
        go_ret2
        exact ⟨by rw [HP.out]; rfl, HB3.out⟩
      | some last =>
        have hmem : last ∈ way := by
          unfold CB at hst
          split at hst
          · cases hst
          · rename_i l hl
            split at hst
            · injection hst with hst; subst hst; exact KT hl
            · cases hst
        have iU := Aa (Iz last hmem)
        have Qx := Aa hst
        by_cases hv0 : last.nd.val = 0
        · have HP : Hid (EZ s key.data.toList = (0, 7)) := Aa (by unfold EZ; rw [hkl, if_neg h16, hpa]; simp only; rw [hst]; simp only; rw [if_pos hv0])
          have t1 : ((last.nd.val.toNat : Int) == 0) = true := by rw [hv0]; rfl
          clear h hkl ok EU hpa hst Iz hpre hmem
          go_enter Tryz.func91, Tryz.ntmps91
          go_wp2_with fail
          refine HA.out.mono ?_
          rintro e w1 ⟨rfl, rfl⟩
          clear HA
          go_wp2_with fail
          refine QM.out.mono ?_
          rintro e w1 ⟨hb1, hp1⟩
          rw [Xn.out] at hp1
          obtain ⟨vw, A, c, rfl, Iy, hrs, hrc⟩ := hp1
          have HW1 := Aa Iy
          have HR1 := Aa hrs
          have HB1 := Aa hb1
          clear Iy hrs hb1 QM
          go_wp2_with fail
          refine (FU HW1.out (by omega) nP.out HR1.out.1 (by omega)).mono ?_
          rintro e w2 ⟨hb2, hp2⟩
          rw [Qx.out] at hp2
          obtain ⟨a, b, c', d', rfl, hnd⟩ := hp2
          obtain ⟨A1, m1, A2, m2, A3, m3, e, o1, o2, o3⟩ := hnd
          simp only [Value.agg.injEq] at e
          simp at e
          obtain ⟨rfl, rfl, rfl, rfl⟩ := e
          have HB2 := Aa (HB1.out.trans (hb2.mono HB1.out.size))
          obtain ⟨W3, hW3⟩ : ∃ W3, W3 = w2.alloc (.cells #[.slice A1 last.nd.pre.length m1, .int .u64 (last.nd.val.toNat : Int), .slice A2 last.nd.labels.length m2, .slice A3 last.nd.kids.length m3, .int .i64 last.off, .int .u8 (last.label.toNat : Int), .int .i64 last.word] 227) := ⟨_, rfl⟩
          have B3 : BH W3 w2.heap.size 227 [.slice A1 last.nd.pre.length m1, .int .u64 (last.nd.val.toNat : Int), .slice A2 last.nd.labels.length m2, .slice A3 last.nd.kids.length m3, .int .i64 last.off, .int .u8 (last.label.toNat : Int), .int .i64 last.word] := hW3 ▸ heap_alloc_new _ _
          have hb3 : Below w2.heap.size w2 W3 := hW3 ▸ (Below.refl _ _).alloc (Ad _) _
          have HB3 := Aa (HB2.out.trans (hb3.mono HB2.out.size))
          have HW3 := Aa hW3
          obtain ⟨y0, y1, y2, y3, y4, y5, y6⟩ := DU B3
          rw [hW3] at y0 y1 y2 y3 y4 y5 y6
          rw [hW3] at HB3
          clear o1 o2 o3 hb2 hb3 B3 hW3 HW3
          go_wp2_with fail
          go_ret2
          have HBz := HB3.out
          rw [hv0] at HBz
          exact ⟨by rw [HP.out]; rfl, HBz⟩
        · have t1 : ((last.nd.val.toNat : Int) == 0) = false := by
            rw [beq_eq_false_iff_ne]; intro e; exact hv0 (UInt64.toNat_inj.1 (by simp; omega))
          have HP : Hid (EZ s key.data.toList = (last.nd.val, 0)) := Aa (by unfold EZ; rw [hkl, if_neg h16, hpa]; simp only; rw [hst]; simp only; rw [if_neg hv0])
          clear h hkl ok EU hpa hst Iz hpre hmem
          go_enter Tryz.func91, Tryz.ntmps91
          go_wp2_with fail
          refine HA.out.mono ?_
          rintro e w1 ⟨rfl, rfl⟩
          clear HA
          go_wp2_with fail
          refine QM.out.mono ?_
          rintro e w1 ⟨hb1, hp1⟩
          rw [Xn.out] at hp1
          obtain ⟨vw, A, c, rfl, Iy, hrs, hrc⟩ := hp1
          have HW1 := Aa Iy
          have HR1 := Aa hrs
          have HB1 := Aa hb1
          clear Iy hrs hb1 QM
          go_wp2_with fail
          refine (FU HW1.out (by omega) nP.out HR1.out.1 (by omega)).mono ?_
          rintro e w2 ⟨hb2, hp2⟩
          rw [Qx.out] at hp2
          obtain ⟨a, b, c', d', rfl, hnd⟩ := hp2
          obtain ⟨A1, m1, A2, m2, A3, m3, e, o1, o2, o3⟩ := hnd
          simp only [Value.agg.injEq] at e
          simp at e
          obtain ⟨rfl, rfl, rfl, rfl⟩ := e
          have HB2 := Aa (HB1.out.trans (hb2.mono HB1.out.size))
          obtain ⟨W3, hW3⟩ : ∃ W3, W3 = w2.alloc (.cells #[.slice A1 last.nd.pre.length m1, .int .u64 (last.nd.val.toNat : Int), .slice A2 last.nd.labels.length m2, .slice A3 last.nd.kids.length m3, .int .i64 last.off, .int .u8 (last.label.toNat : Int), .int .i64 last.word] 227) := ⟨_, rfl⟩
          have B3 : BH W3 w2.heap.size 227 [.slice A1 last.nd.pre.length m1, .int .u64 (last.nd.val.toNat : Int), .slice A2 last.nd.labels.length m2, .slice A3 last.nd.kids.length m3, .int .i64 last.off, .int .u8 (last.label.toNat : Int), .int .i64 last.word] := hW3 ▸ heap_alloc_new _ _
          have hb3 : Below w2.heap.size w2 W3 := hW3 ▸ (Below.refl _ _).alloc (Ad _) _
          have HB3 := Aa (HB2.out.trans (hb3.mono HB2.out.size))
          have HW3 := Aa hW3
          obtain ⟨y0, y1, y2, y3, y4, y5, y6⟩ := DU B3
          rw [hW3] at y0 y1 y2 y3 y4 y5 y6
          rw [hW3] at HB3
          clear o1 o2 o3 hb2 hb3 B3 hW3 HW3
          go_wp2_with fail
          go_ret2
          exact ⟨by rw [HP.out]; rfl, HB3.out⟩
theorem uO (h : Ix w x d p L s F) (key : ByteArray) (hk : key.size <= 1000) (hkids : ∀ way rest last, Fj s key.data.toList = some (way, rest) -> CB way rest = some last -> last.nd.val ≠ 0 -> ¬ 16 < key.size -> ¬ last.nd.kids.length = 0) :
    Calls Tryz.prog 115 #[.pointer (some ⟨x, 0, none⟩), .string key] w (bC (LY s key.data.toList) x d p L F w) := by
  have HX := Aa h
  have HA := Aa (IZ h key (by omega))
  have hkl := OM key
  by_cases h16 : 16 < key.size
  · rw [if_pos h16] at HA
    have HP : Hid (LY s key.data.toList = (s, 0, 3)) := Aa (by unfold LY; rw [hkl, if_pos h16])
    clear h hkl hkids
    go_enter Tryz.func115, Tryz.ntmps115
    go_wp2_with fail
    refine HA.out.mono ?_
    rintro e w1 ⟨rfl, rfl⟩
    go_wp2_with fail
    go_ret2
    refine ⟨by rw [HP.out]; rfl, F, ?_, Aq.of_below (Below.refl _ _)⟩
    rw [HP.out]
    exact HX.out.below (Below.refl _ _)
  · rw [if_neg h16] at HA
    obtain ⟨l0, l1, ok, EU⟩ := h.L0
    have zo : 16 <= L := by have := ok.fits; have := ok.BQ; omega
    have QM := Aa (IJ h key (by omega))
    cases hpa : Fj s key.data.toList with
    | none =>
      have HP : Hid (LY s key.data.toList = (s, 0, 5)) := Aa (by unfold LY; rw [hkl, if_neg h16, hpa])
      have Xn := Aa hpa
      clear h hkl ok EU hpa hkids
      go_enter Tryz.func115, Tryz.ntmps115
      go_wp2_with fail
      refine HA.out.mono ?_
      rintro e w1 ⟨rfl, rfl⟩
      clear HA
      go_wp2_with fail
      refine QM.out.mono ?_
      rintro e w1 ⟨hb1, hp1⟩
      rw [Xn.out] at hp1
      replace hp1 : e = .returned (.tuple #[.slice none 0 0, .slice none 0 0, .int .i64 5]) := hp1
      subst hp1
      have HB1 := Aa hb1
      clear QM hb1
      go_wp2_with fail
      go_ret2
      refine ⟨by rw [HP.out]; rfl, F, ?_, Aq.of_below HB1.out⟩
      rw [HP.out]
      exact HX.out.below HB1.out
    | some wr =>
      obtain ⟨way, rest⟩ := wr
      obtain ⟨Iz, hrl⟩ := Qv ok (by omega) EU hpa
      have hwl := Oc hpa
      rw [hkl] at hrl hwl
      replace hrl : rest.length <= 32 := by omega
      replace hwl : way.length <= 33 := by omega
      have hpre : ∀ pl ∈ way, pl.nd.pre.length <= 1000 := fun pl hm => by have := ((AY _).1 (Iz pl hm).right).1; omega
      have wQ := Aa Iz
      have nP := Aa hpre
      have Xn := Aa hpa
      have hxl := h.box.lt
      have wY := Aa h.sys.tabs.lt
      have Hg := Aa h.sys.lt
      cases hst : CB way rest with
      | none =>
        have HP : Hid (LY s key.data.toList = (s, 0, 7)) := Aa (by unfold LY; rw [hkl, if_neg h16, hpa]; simp only; rw [hst])
        have Qx := Aa hst
        clear h hkl ok EU hpa hst Iz hpre hkids
        go_enter Tryz.func115, Tryz.ntmps115
        go_wp2_with fail
        refine HA.out.mono ?_
        rintro e w1 ⟨rfl, rfl⟩
        clear HA
        go_wp2_with fail
        refine QM.out.mono ?_
        rintro e w1 ⟨hb1, hp1⟩
        rw [Xn.out] at hp1
        obtain ⟨vw, A, c, rfl, Iy, hrs, hrc⟩ := hp1
        have HW1 := Aa Iy
        have HR1 := Aa hrs
        have HB1 := Aa hb1
        clear Iy hrs hb1 QM
        go_wp2_with fail
        refine (FU HW1.out (by omega) nP.out HR1.out.1 (by omega)).mono ?_
        rintro e w2 ⟨hb2, hp2⟩
        rw [Qx.out] at hp2
        replace hp2 : e = .returned (.tuple #[.agg #[.slice none 0 0, .int .u64 0, .slice none 0 0, .slice none 0 0, .int .i64 0, .int .u8 0, .int .i64 0], .bool false]) := hp2
        subst hp2
        have HB2 := Aa (HB1.out.trans (hb2.mono HB1.out.size))
        clear hb2
        have HB3 : Hid (Below w.heap.size w (w2.alloc (.cells #[.slice none 0 0, .int .u64 0, .slice none 0 0, .slice none 0 0, .int .i64 0, .int .u8 0, .int .i64 0] 227))) := Aa (HB2.out.alloc HB2.out.size _)
        go_wp2_with fail
        go_ret2
        refine ⟨by rw [HP.out]; rfl, F, ?_, Aq.of_below HB3.out⟩
        rw [HP.out]
        exact HX.out.below HB3.out
      | some last =>
        have hmem : last ∈ way := by
          unfold CB at hst
          split at hst
          · cases hst
          · rename_i l hl
            split at hst
            · injection hst with hst; subst hst; exact KT hl
            · cases hst
        have iU := Aa (Iz last hmem)
        have Qx := Aa hst
        by_cases hv0 : last.nd.val = 0
        · have HP : Hid (LY s key.data.toList = (s, 0, 7)) := Aa (by unfold LY; rw [hkl, if_neg h16, hpa]; simp only; rw [hst]; simp only; rw [if_pos hv0])
          have t1 : ((last.nd.val.toNat : Int) == 0) = true := by rw [hv0]; rfl
          clear h hkl ok EU hpa hst Iz hpre hmem hkids
          go_enter Tryz.func115, Tryz.ntmps115
          go_wp2_with fail
          refine HA.out.mono ?_
          rintro e w1 ⟨rfl, rfl⟩
          clear HA
          go_wp2_with fail
          refine QM.out.mono ?_
          rintro e w1 ⟨hb1, hp1⟩
          rw [Xn.out] at hp1
          obtain ⟨vw, A, c, rfl, Iy, hrs, hrc⟩ := hp1
          have HW1 := Aa Iy
          have HR1 := Aa hrs
          have HB1 := Aa hb1
          clear Iy hrs hb1 QM
          go_wp2_with fail
          refine (FU HW1.out (by omega) nP.out HR1.out.1 (by omega)).mono ?_
          rintro e w2 ⟨hb2, hp2⟩
          rw [Qx.out] at hp2
          obtain ⟨a, b, c', d', rfl, hnd⟩ := hp2
          obtain ⟨A1, m1, A2, m2, A3, m3, e, o1, o2, o3⟩ := hnd
          simp only [Value.agg.injEq] at e
          simp at e
          obtain ⟨rfl, rfl, rfl, rfl⟩ := e
          have HB2 := Aa (HB1.out.trans (hb2.mono HB1.out.size))
          obtain ⟨W3, hW3⟩ : ∃ W3, W3 = w2.alloc (.cells #[.slice A1 last.nd.pre.length m1, .int .u64 (last.nd.val.toNat : Int), .slice A2 last.nd.labels.length m2, .slice A3 last.nd.kids.length m3, .int .i64 last.off, .int .u8 (last.label.toNat : Int), .int .i64 last.word] 227) := ⟨_, rfl⟩
          have B3 : BH W3 w2.heap.size 227 [.slice A1 last.nd.pre.length m1, .int .u64 (last.nd.val.toNat : Int), .slice A2 last.nd.labels.length m2, .slice A3 last.nd.kids.length m3, .int .i64 last.off, .int .u8 (last.label.toNat : Int), .int .i64 last.word] := hW3 ▸ heap_alloc_new _ _
          have hb3 : Below w2.heap.size w2 W3 := hW3 ▸ (Below.refl _ _).alloc (Ad _) _
          have HB3 := Aa (HB2.out.trans (hb3.mono HB2.out.size))
          have HW3 := Aa hW3
          obtain ⟨y0, y1, y2, y3, y4, y5, y6⟩ := DU B3
          rw [hW3] at y0 y1 y2 y3 y4 y5 y6
          rw [hW3] at HB3
          clear o1 o2 o3 hb2 hb3 B3 hW3 HW3
          go_wp2_with fail
          go_ret2
          have HBz := HB3.out
          rw [hv0] at HBz
          refine ⟨by rw [HP.out]; rfl, F, ?_, Aq.of_below HBz⟩
          rw [HP.out]
          exact HX.out.below HBz
        · have t1 : ((last.nd.val.toNat : Int) == 0) = false := by
            rw [beq_eq_false_iff_ne]; intro e; exact hv0 (UInt64.toNat_inj.1 (by simp; omega))
          have hk0 := hkids way rest last hpa hst hv0 h16
          have HP : Hid (LY s key.data.toList = (Jl s last 0, last.nd.val, 0)) := Aa (by unfold LY; rw [hkl, if_neg h16, hpa]; simp only; rw [hst]; simp only; rw [if_neg hv0, if_neg hk0]; rfl)
          have t2 : ((last.nd.kids.length : Int) == 0) = false := by rw [beq_eq_false_iff_ne]; omega
          clear h hkl ok EU hpa hst Iz hpre hmem hkids
          go_enter Tryz.func115, Tryz.ntmps115
          go_wp2_with fail
          refine HA.out.mono ?_
          rintro e w1 ⟨rfl, rfl⟩
          clear HA
          go_wp2_with fail
          refine QM.out.mono ?_
          rintro e w1 ⟨hb1, hp1⟩
          rw [Xn.out] at hp1
          obtain ⟨vw, A, c, rfl, Iy, hrs, hrc⟩ := hp1
          have HW1 := Aa Iy
          have HR1 := Aa hrs
          have HB1 := Aa hb1
          clear Iy hrs hb1 QM
          go_wp2_with fail
          refine (FU HW1.out (by omega) nP.out HR1.out.1 (by omega)).mono ?_
          rintro e w2 ⟨hb2, hp2⟩
          rw [Qx.out] at hp2
          obtain ⟨a, b, c', d', rfl, hnd⟩ := hp2
          obtain ⟨A1, m1, A2, m2, A3, m3, e, o1, o2, o3⟩ := hnd
          simp only [Value.agg.injEq] at e
          simp at e
          obtain ⟨rfl, rfl, rfl, rfl⟩ := e
          have HB2 := Aa (HB1.out.trans (hb2.mono HB1.out.size))
          obtain ⟨W3, hW3⟩ : ∃ W3, W3 = w2.alloc (.cells #[.slice A1 last.nd.pre.length m1, .int .u64 (last.nd.val.toNat : Int), .slice A2 last.nd.labels.length m2, .slice A3 last.nd.kids.length m3, .int .i64 last.off, .int .u8 (last.label.toNat : Int), .int .i64 last.word] 227) := ⟨_, rfl⟩
          have B3 : BH W3 w2.heap.size 227 [.slice A1 last.nd.pre.length m1, .int .u64 (last.nd.val.toNat : Int), .slice A2 last.nd.labels.length m2, .slice A3 last.nd.kids.length m3, .int .i64 last.off, .int .u8 (last.label.toNat : Int), .int .i64 last.word] := hW3 ▸ heap_alloc_new _ _
          have hb3 : Below w2.heap.size w2 W3 := hW3 ▸ (Below.refl _ _).alloc (Ad _) _
          have HB3 := Aa (HB2.out.trans (hb3.mono HB2.out.size))
          have HV := Aa (PW (HX.out.below HB3.out) last (iU.out) A1 A2 A3 last.nd.pre.length m1 last.nd.labels.length m2 last.nd.kids.length m3 0)
          have HW3 := Aa hW3
          obtain ⟨y0, y1, y2, y3, y4, y5, y6⟩ := DU B3
          have LP := Aa B3
          rw [hW3] at y0 y1 y2 y3 y4 y5 y6
          clear o1 o2 o3 hb2 hb3 B3 hW3
          go_wp2_with fail
          rw [<- HW3.out]
          refine HV.out.mono ?_
          rintro e w4 ⟨rfl, F4, hx4, hm4⟩
          have HF := Aa (And.intro hx4 ((Aq.of_below (F := F) HB3.out).trans hm4))
          have B4 := LP.out.touch hm4.touch (fun hg => by have := Hg.out _ hg; have := HB2.out.size; omega)
          obtain ⟨z0, z1, z2, z3, z4, z5, z6⟩ := DU B4
          clear hx4 hm4 y0 y1 y2 y3 y4 y5 y6 HV HW3 B4 LP
          go_wp2_with fail
          go_ret2
          refine ⟨by rw [HP.out]; rfl, F4, ?_, HF.out.2⟩
          rw [HP.out]
          exact HF.out.1
end
end Go.Proofs.YtjcppneoncpdbaaGreatDoor
