import Derived.Test.YtjcppneoncpdbaaGreatDoorG15
import Derived.Test.YtjcppneoncpdbaaGreatDoorG18
set_option maxHeartbeats 32000000
set_option maxRecDepth 100000
open Go.Value renaming ownBlock->AX
open Go.Lib renaming hid->Aa
open Nat renaming le_refl->Ae,le_trans->Bf,le_add_right->WB,lt_succ_self->WC,zero_le->BH
open List renaming getElem?_map->BO,getElem?_eq_getElem->Ag,map_drop->Vw,map_take->Mc,length_drop->AO,getElem?_cons_zero->Ad,getElem?_cons_succ->Af,getElem_mem->CU,drop_length->zH
open Go.World renaming drew->sO
namespace Go.Proofs.YtjcppneoncpdbaaGreatDoor
open Go.RowKit
theorem au(x:Nd)(label:UInt8)(kid:UInt64):JS x label kid=UW x label kid:=rfl
theorem xG{w W:World}{base g:Nat}{e:TypeId}{a0 a1 a2 a3:Value}(h:BI W g e [a0,a1,a2,a3])(hb:Below base w W)(hg:base<=g)(b0 b1 b2 b3:Value):
 ∃W',W'=(((W.setCell ⟨g,0,none⟩ b0).setCell ⟨g,1,none⟩ b1).setCell ⟨g,2,none⟩ b2).setCell ⟨g,3,none⟩ b3/\BI W' g e [b0,b1,b2,b3]/\Below base w W'/\Kept W W' (some g):=
 ⟨_,rfl,(((h.AU 0 b0).AU 1 b1).AU 2 b2).AU 3 b3,
   (((hb.setCell (p:=⟨g,0,none⟩) hg b0).setCell (p:=⟨g,1,none⟩) hg b1).setCell (p:=⟨g,2,none⟩) hg b2).setCell (p:=⟨g,3,none⟩) hg b3,
   (((Kept.AU W g 0 b0).trans' (Kept.AU _ g 1 b1)).trans' (Kept.AU _ g 2 b2)).trans' (Kept.AU _ g 3 b3)⟩
theorem Kr{w w':World}{B g k n:Nat}{e:TypeId}{v:Value}{xs:List Value}(h:w.ownsRow B e k v n xs)(kp:Kept w w' (some g))(hg:g<B):w'.ownsRow B e k v n xs:=by
 refine ED h kp (.inl ?_);rcases h.2 with⟨h1,_⟩| ⟨g',cap,cur,h1,h2,_⟩
 ·subst h1;simp [AX]
 ·subst h1;simp [AX];omega
section
variable{w w':World}{base jb x d p L:Nat}{j:Jb}{G:Nat->Prop}
theorem Ia.of_below{r:Jb×UInt64×Int}{W:World}(hb:Below w.heap.size w W){e:Ending}(h:Ia r base jb x d p L G W e w'):Ia r base jb x d p L G w e w':=by
 obtain⟨h1,G',h2,h3⟩:=h;exact⟨h1,G',h2,(AB.of_below hb).trans h3⟩
theorem Ri(h:FU w base jb x d p L j G)(nd:Nd)(A1 A2 A3:Option Addr)(c1 c2 c3:Nat)(label:UInt8)(kid:UInt64)(e:Int)(b1:nd.pre.length<=100)(b2:nd.labels.length<=100)(b3:nd.kids.length<=100)
 (h1:Bs w A1 nd.pre.length nd.pre)(h2:Bs w A2 nd.labels.length nd.labels)(h3:Ws w A3 nd.kids.length nd.kids)(hm:j.made.length<=1000):
 Calls Tryz.prog 178 #[.pointer (some ⟨jb,0,none⟩),.agg #[.slice A1 nd.pre.length c1,.int .u64 (nd.val.toNat:Int),.slice A2 nd.labels.length c2,.slice A3 nd.kids.length c3],.int .u8 (label.toNat:Int),.int .u64 (kid.toNat:Int),.int .i64 e] w (Ia (EX j nd label kid e) base jb x d p L G w):=by
 obtain⟨W,hW,e0,e1,e2,e3,hb,hs⟩:=zX w 225 (.slice A1 nd.pre.length c1) (.int .u64 (nd.val.toNat:Int)) (.slice A2 nd.labels.length c2) (.slice A3 nd.kids.length c3);have B0:BI W w.heap.size 225 [.slice A1 nd.pre.length c1,.int .u64 (nd.val.toNat:Int),.slice A2 nd.labels.length c2,.slice A3 nd.kids.length c3]:=hW▸heap_alloc_new _ _;have HW:=Aa hW;have HJ:=Aa h;have HB:=Aa hb;by_cases he:e=0
 ·subst he;have g1:=h1.below hb;have g2:=h2.below hb;have g3:=h3.below hb;clear h1 h2 h3 h hW hb;cases hok:UW nd label kid with
  | false=>
    have HP:Hid (EX j nd label kid 0=(j,0,5)):=Aa (by unfold EX;rw [if_neg (by simp),au,hok];rfl);have HN:=Aa (uD A1 A2 A3 nd.pre.length c1 nd.labels.length c2 nd.kids.length c3 nd label kid W (by omega) (by omega) (by omega) g1 g2 g3 hok);unfold Oj at HN;clear hok g1 g2 g3;go_enter Tryz.func178,Tryz.ntmps178
    go_wp2_with fail
    rw [<-HW.out];clear HW;refine HN.out.mono ?_;rintro e w1⟨rfl,hb1⟩;have B1:=B0.below hb1 B0.lt;have HB1:=Aa (HB.out.trans (hb1.mono HB.out.size));clear e0 e1 e2 e3 B0 hb1 HN;obtain⟨y0,y1,y2,y3,f0,f1,f2,f3⟩:=Ce B1;have U6:=Aa B1;clear B1
    go_wp2_with fail
    go_ret2;refine⟨by rw [HP.out];rfl,G,?_,?_⟩
    ·rw [HP.out];obtain⟨W9,U5, -,Ze, -⟩:=xG U6.out HB1.out (Ae _) (.slice none 0 0) (.int .u64 0) (.slice none 0 0) (.slice none 0 0);rw [<-U5];exact HJ.out.below Ze
    ·obtain⟨W9,U5, -,Ze, -⟩:=xG U6.out HB1.out (Ae _) (.slice none 0 0) (.int .u64 0) (.slice none 0 0) (.slice none 0 0);rw [<-U5];exact AB.of_below Ze
  | true=>
    have YS:=hok;have HP:Hid (EX j nd label kid 0=DT j (LJ nd label kid)):=Aa (by unfold EX;rw [if_neg (by simp),au,hok];rfl);have HN:=Aa (jX A1 A2 A3 nd.pre.length c1 nd.labels.length c2 nd.kids.length c3 nd label kid W (by omega) (by omega) (by omega) g1 g2 g3 hok);have hbl:(LJ nd label kid).pre.length<=1000/\(LJ nd label kid).labels.length<=1000/\(LJ nd label kid).kids.length<=1000:=by
     unfold LJ ins;simp;omega
    generalize LJ nd label kid=UX at*;clear hok g1 g2 g3;go_enter Tryz.func178,Tryz.ntmps178
    go_wp2_with fail
    rw [<-HW.out];clear HW;refine HN.out.mono ?_;rintro e w1⟨⟨A1',c1',A2',c2',A3',c3',rfl,q1,q2,q3⟩,hb1⟩;have B1:=B0.below hb1 B0.lt;have HB1:=Aa (HB.out.trans (hb1.mono HB.out.size));have Q:=Aa (And.intro q1 (And.intro q2 q3));clear e0 e1 e2 e3 B0 hb1 HN q1 q2 q3;obtain⟨y0,y1,y2,y3,f0,f1,f2,f3⟩:=Ce B1;have U6:=Aa B1;clear B1
    go_wp2_with fail
    obtain⟨W9,U5,B9,Ze,k9⟩:=xG U6.out HB1.out (Ae _) (.slice A1' UX.pre.length c1') (.int .u64 (UX.val.toNat:Int)) (.slice A2' UX.labels.length c2') (.slice A3' UX.kids.length c3');rw [<-U5];have HQ:=Aa (KY (HJ.out.below Ze) UX A1' A2' A3' c1' c2' c3' hbl.1 hbl.2.1 hbl.2.2 (Cj (Kr Q.out.1 k9 (by omega))).2 (Cj (Kr Q.out.2.1 k9 (by omega))).2 (Cj (Kr Q.out.2.2 k9 (by omega))).2 hm);have dQ:=Aa Ze;obtain⟨y0,y1,y2,y3,f0,f1,f2,f3⟩:=Ce B9;clear Ze k9 B9 U5
    first
     | go_wp2_with fail
     | skip
    refine HQ.out.mono ?_;rintro e w10⟨rfl,Ak5⟩;have HG:=Aa Ak5;clear Ak5
    go_wp2_with fail
    go_ret2;rw [HP.out];exact(Ia.of_below dQ.out ⟨rfl,HG.out⟩)
 ·have HP:Hid (EX j nd label kid e=(j,0,e)):=Aa (by unfold EX;rw [if_pos he]);have t1:(e !=0)=true:=by rw [bne_iff_ne];exact he
  clear h1 h2 h3 h hW hb he;go_enter Tryz.func178,Tryz.ntmps178
  go_wp2_with fail
  rw [<-HW.out];go_ret2;refine⟨by rw [HP.out];rfl,G,?_,AB.of_below HB.out⟩;rw [HP.out];exact HJ.out.below HB.out
end
section
variable{base jb x d p L:Nat}
theorem Gx{w:World}{G:Nat->Prop}{A:Option Addr}{l:List UInt8}(h:JI w G A l.length (l.map bv))(k:Nat)(hk:k<l.length):∃b off,A=some ⟨b,off,none⟩/\b<w.heap.size/\w.cell? ⟨b,off+k,none⟩=some (.int .u8 ((l.getD k 0).toNat:Int)):=by
 obtain⟨b,off,e,hb,hc⟩:=h.1.2 (by omega);refine⟨b,off,e,hb,?_⟩;rw [hc k hk,BO,Ag hk,List.getD_eq_getElem?_getD,Ag hk];rfl
theorem Uo:∀(f:Nat)(w:World)(j:Jb)(G:Nat->Prop)(l:List UInt8)(value:UInt64)(A:Option Addr)(c:Nat),FU w base jb x d p L j G->JI w G A l.length (l.map bv)->l.length<=c->l.length<f->l.length<=100->j.made.length+f<=1000->
 Calls Tryz.prog 140 #[.pointer (some ⟨jb,0,none⟩),.slice A l.length c,.int .u64 (value.toNat:Int)] w (Ia (Je f j l value) base jb x d p L G w)
 | 0,w,j,G,l,value,A,c,h,hl,hc,hf,hle,hm=>absurd hf (by omega)
 | f+1,w,j,G,l,value,A,c,h,hl,hc,hf,hle,hm=>by
   by_cases h15:l.length<=15
   ·have HP:Hid (Je (f+1) j l value=DT j ⟨l,value,[],[]⟩):=Aa (by rw [Je,if_pos h15]);have HB:=Aa (KY h ⟨l,value,[],[]⟩ A none none c 0 0 (by simp only;omega) (by simp) (by simp) hl.1 Rd.nil Rd.nil (by omega));have t1:decide ((l.length:Int)<=15)=true:=decide_eq_true (by omega);clear h hl;go_enter Tryz.func140,Tryz.ntmps140
    go_wp2_with fail
    refine HB.out.mono ?_;rintro e w1⟨rfl,hg⟩;have HG:=Aa hg;clear hg
    go_wp2_with fail
    go_ret2;rw [HP.out];exact⟨rfl,HG.out⟩
   ·have t1:decide ((l.length:Int)<=15)=false:=decide_eq_false (by omega);obtain⟨b,off,rfl,hbw, -⟩:=Gx hl 15 (by omega);have hcut:=hl.cut 16 (by omega) hc;rw [<-Vw,show l.length-16=(l.drop 16).length by simp]at hcut;have HL:=Uo f w j G (l.drop 16) value _ (c-16) h hcut (by simp;omega) (by simp;omega) (by simp;omega) (by omega);rw [show(l.drop 16).length=l.length-16 by simp]at HL;obtain⟨⟨j1,kid,er⟩,hr⟩:∃r,Je f j (l.drop 16) value=r:=⟨_,rfl⟩;have hmd:=KU f j (l.drop 16) value;have HP:Hid (Je (f+1) j l value=EX j1 ⟨l.take 15,0,[],[]⟩ (l.getD 15 0) kid er):=Aa (by rw [Je,if_neg h15,hr]);rw [hr]at HL hmd;simp only at hmd;have HL:Hid (∀P C,C=c-16->P=(if c=16 then some (⟨b,off,none⟩:Addr)else some ⟨b,off+16,none⟩)->Calls Tryz.prog 140 #[.pointer (some ⟨jb,0,none⟩),.slice P (l.length-16) C,.int .u64 (value.toNat:Int)] w (Ia (j1,kid,er) base jb x d p L G w)):=Aa (fun P C e1 e2=>by subst e1 e2;exact HL);have Hl:=Aa hl;clear h hl hcut hr;go_enter Tryz.func140,Tryz.ntmps140
    go_wp2_with fail
    all_goals(refine(HL.out _ _ (by omega) (by split<;>first| rfl| omega)).mono ?_)
    all_goals(rintro e w1⟨rfl,G1,hj1,hm1⟩)
    all_goals(clear HL)
    all_goals(have hl1:=Hl.out.moved hm1)
    all_goals(obtain⟨b',off',e',Ak6,hck⟩:=Gx hl1 15 (by omega))
    all_goals(injection e' with e';injection e' with e1 e2;subst e1 e2)
    all_goals(have hln:(l.take 15).length=15:=by simp;omega)
    all_goals(have hrd:JI w1 G1 (some ⟨b,off,none⟩) 15 ((l.take 15).map bv):=by have:=hl1.take 15 (by omega);rwa [<-Mc]at this)
    all_goals(have hab:=fun(W:World)(hW:Below w1.heap.size w1 W)=>Ri (hj1.below hW) ⟨l.take 15,0,[],[]⟩ (some ⟨b,off,none⟩) none none 15 0 0 (l.getD 15 0) kid er (by show(l.take 15).length<=100;omega) (by simp) (by simp) (by show Rd W _ (l.take 15).length _;rw [hln];exact(hrd.below hW).1) Rd.nil Rd.nil (by show j1.made.length<=1000;omega))
    all_goals(replace hab:=Aa hab)
    all_goals(rw [hln]at hab)
    all_goals(have HM1:=Aa hm1)
    all_goals(generalize l.getD 15 0=lab at*)
    all_goals(generalize l.take 15=l15 at*)
    all_goals(clear hj1 hm1 hl1 HL hln hrd)
    all_goals(have hx1:(15:Int)<(l.length:Int):=by omega)
    all_goals(have hx2:decide ((15:Int)<(l.length:Int))=true:=decide_eq_true hx1)
    all_goals(have hx3:15<l.length:=by omega)
    all_goals(have hx4:15<=c:=by omega)
    all_goals(go_wp2_with fail)
    all_goals(go_region_with(go_at_call 178;go_loud(refine(hab.out _ ((Dr.drew w1).below _)).mono ?_;rintro e w2⟨rfl,hg2⟩)))
    all_goals(obtain⟨G2,q1,q2⟩:=hg2)
    all_goals(have HF:=Aa (And.intro q1 (HM1.out.trans ((AB.of_below ((Dr.drew w1).below _)).trans q2))))
    all_goals(clear q1 q2)
    all_goals(go_wp2_with fail)
    all_goals(go_ret2)
    all_goals(rw [HP.out])
    all_goals(exact⟨rfl,G2,HF.out.1,HF.out.2⟩)
end
section
variable{base jb x d p L:Nat}
theorem XZ.reads{w:World}{G:Nat->Prop}{A1 A2 A3:Option Addr}{n1 c1 n2 c2 n3 c3:Nat}{v:Value}{nd:Nd}(h:XZ w G (.slice A1 n1 c1) v (.slice A2 n2 c2) (.slice A3 n3 c3) nd):
 JI w G A1 nd.pre.length (nd.pre.map bv)/\JI w G A2 nd.labels.length (nd.labels.map bv)/\JI w G A3 nd.kids.length (nd.kids.map wv)/\nd.pre.length<=c1:=by
 obtain⟨_,_,_,_,_,_,e1,_,e3,e4,hc,q1,q2,q3⟩:=h;injection e1 with a1 a2 a3
 injection e3 with b1 b2 b3
 injection e4 with d1 d2 d3
 subst a1 a3 b1 d1;exact⟨q1,q2,q3,hc⟩
theorem JI.rest{w:World}{G:Nat->Prop}{b off c k n:Nat}{l:List UInt8}(h:JI w G (some ⟨b,off,none⟩) n (l.map bv))(hn:n=l.length)(hk:k<=l.length)(hc:l.length<=c){P:Option Addr}(hP:P=(if c=k then some ⟨b,off,none⟩else some ⟨b,off+k,none⟩)):
 JI w G P (l.drop k).length ((l.drop k).map bv):=by
 subst hn hP;have:=h.cut k (by omega) hc;rw [Vw,AO];exact this
theorem xH{w:World}{j:Jb}{G:Nat->Prop}(h:FU w base jb x d p L j G)(nd:Nd)(A1 A2 A3:Option Addr)(c1 c2 c3:Nat)(off word:Int)(lb:UInt8)(rest:List UInt8)(A:Option Addr)(c:Nat)(value:UInt64)
 (hN:XZ w G (.slice A1 nd.pre.length c1) (.int .u64 (nd.val.toNat:Int)) (.slice A2 nd.labels.length c2) (.slice A3 nd.kids.length c3) nd)(b1:nd.pre.length<=100)(b2:nd.labels.length<=100)(b3:nd.kids.length<=100)
 (hR:JI w G A rest.length (rest.map bv))(hrc:rest.length<=c)(hrl:rest.length<=100)(hm:j.made.length<=500)(hs:common nd.pre rest=nd.pre.length)(hlt:common nd.pre rest<rest.length):
 Calls Tryz.prog 142 #[.pointer (some ⟨jb,0,none⟩),.agg #[.slice A1 nd.pre.length c1,.int .u64 (nd.val.toNat:Int),.slice A2 nd.labels.length c2,.slice A3 nd.kids.length c3,.int .i64 off,.int .u8 (lb.toNat:Int),.int .i64 word],.slice A rest.length c,.int .u64 (value.toNat:Int)] w (Ia (I4 j nd rest value) base jb x d p L G w):=by
 have hb0:Below w.heap.size w (w.alloc (.cells #[.slice A1 nd.pre.length c1,.int .u64 (nd.val.toNat:Int),.slice A2 nd.labels.length c2,.slice A3 nd.kids.length c3,.int .i64 off,.int .u8 (lb.toNat:Int),.int .i64 word] 227)):=(Below.refl _ _).alloc (Ae _) _;have B0:BI (w.alloc (.cells #[.slice A1 nd.pre.length c1,.int .u64 (nd.val.toNat:Int),.slice A2 nd.labels.length c2,.slice A3 nd.kids.length c3,.int .i64 off,.int .u8 (lb.toNat:Int),.int .i64 word] 227)) w.heap.size 227 [.slice A1 nd.pre.length c1,.int .u64 (nd.val.toNat:Int),.slice A2 nd.labels.length c2,.slice A3 nd.kids.length c3,.int .i64 off,.int .u8 (lb.toNat:Int),.int .i64 word]:=heap_alloc_new _ _;obtain⟨W0,hW0⟩:∃W0,W0=w.alloc (.cells #[.slice A1 nd.pre.length c1,.int .u64 (nd.val.toNat:Int),.slice A2 nd.labels.length c2,.slice A3 nd.kids.length c3,.int .i64 off,.int .u8 (lb.toNat:Int),.int .i64 word] 227):=⟨_,rfl⟩;rw [<-hW0]at hb0 B0;have HW:=Aa hW0;obtain⟨b,o,rfl,hbw, -⟩:=Gx hR _ hlt;obtain⟨k,hk⟩:∃k,k=common nd.pre rest:=⟨_,rfl⟩;rw [<-hk]at hs hlt;obtain⟨⟨j1,kid,er⟩,hr⟩:∃r,Je (rest.length+1) j (rest.drop (k+1)) value=r:=⟨_,rfl⟩;have hmd:=KU (rest.length+1) j (rest.drop (k+1)) value;rw [hr]at hmd;simp only at hmd;have HP:Hid (I4 j nd rest value=EX j1 nd (rest.getD k 0) kid er):=Aa (by rw [I4,<-hk,if_pos hs,hr]);have HL:=Aa (fun(W:World)(hW:Below w.heap.size w W)(P:Option Addr)(C:Nat)(hC:C=c- (k+1))(hP:P=(if c=k+1 then some (⟨b,o,none⟩:Addr)else some ⟨b,o+(k+1),none⟩))=>Uo (rest.length+1) W j G (rest.drop (k+1)) value P C (h.below hW) ((hR.below hW).rest rfl (by omega) hrc hP) (by rw [AO];omega) (by rw [AO];omega) (by rw [AO];omega) (by omega));rw [hr,AO]at HL;have HC:=Aa (fun(W:World)(hW:Below w.heap.size w W)=>KO A1 (some ⟨b,o,none⟩) nd.pre.length rest.length c1 c nd.pre rest W (by omega) (by omega) (hN.reads.1.below hW).1 (hR.below hW).1);rw [<-hk]at HC;have HN:=Aa hN;have HR:=Aa hR;have jM:=Aa h.lt;clear h hN hR hr hW0;have t1:((k:Int)==(nd.pre.length:Int))=true:=by rw [beq_iff_eq];omega
 have hw1:IntKind.i64.wrap ((k:Int)+1)=(k:Int)+1:=wrap64 _ (by omega) (by omega);obtain⟨y0,y1,y2,y3,y4,y5,y6⟩:=En B0;have Hs:=Aa hs;clear hk hs;go_enter Tryz.func142,Tryz.ntmps142
 go_wp2_with fail
 rw [<-HW.out];clear HW;refine(HC.out W0 hb0).mono ?_;rintro e w1⟨rfl,hd1⟩;have hb1:=hb0.trans ((hd1.below W0.heap.size).mono hb0.size);have B1:=B0.below (hd1.below _) B0.lt;have HB1:=Aa hb1;have U6:=Aa B1;clear B0 hb0 hd1 y0 y1 y2 y3 y4 y5 y6 hb1;obtain⟨y0,y1,y2,y3,y4,y5,y6⟩:=En B1;clear B1
 go_wp2_with fail
 all_goals(refine(HL.out w1 HB1.out _ _ (by omega) (by split<;>first| rfl| omega)).mono ?_)
 all_goals(rintro e w2⟨rfl,G2,hj2,hm2⟩)
 all_goals(have YY:=Aa ((AB.of_below (F:=G) HB1.out).trans hm2))
 all_goals(have hrd:=HN.out.moved YY.out)
 all_goals(obtain⟨r1,r2,r3, -⟩:=hrd.reads)
 all_goals(have hrr:=HR.out.moved YY.out)
 all_goals(obtain⟨b',o',e',Ak6,hck⟩:=Gx hrr k hlt)
 all_goals(injection e' with e';injection e' with e1 e2;subst e1 e2)
 all_goals(have hab:=fun(W:World)(hW:Below w2.heap.size w2 W)=>Ri (hj2.below hW) nd A1 A2 A3 c1 c2 c3 (rest.getD k 0) kid er b1 b2 b3 (r1.below hW).1 (r2.below hW).1 (r3.below hW).1 (by show j1.made.length<=1000;omega))
 all_goals(replace hab:=Aa hab)
 all_goals(have B2:=U6.out.touch hm2.touch (fun hg=>by have:=jM.out _ hg;omega))
 all_goals(generalize rest.getD k 0=lab at*)
 all_goals(clear hj2 hm2 hrd r1 r2 r3 hrr HL Ak6 y0 y1 y2 y3 y4 y5 y6)
 all_goals(obtain⟨y0,y1,y2,y3,y4,y5,y6⟩:=En B2)
 all_goals(clear B2)
 all_goals(have hx1:(k:Int)<(rest.length:Int):=by omega)
 all_goals(have hx2:decide ((k:Int)<(rest.length:Int))=true:=decide_eq_true hx1)
 all_goals(go_wp2_with fail)
 all_goals(go_region_with(go_at_call 178;go_loud(refine(hab.out _ ((Dr.drew w2).below _)).mono ?_;rintro e w3⟨rfl,G3,q1,q2⟩)))
 all_goals(have HF:=Aa (And.intro q1 (YY.out.trans ((AB.of_below ((Dr.drew w2).below _)).trans q2))))
 all_goals(clear q1 q2)
 all_goals(go_wp2_with fail)
 all_goals(go_ret2)
 all_goals(rw [HP.out])
 all_goals(exact⟨rfl,G3,HF.out.1,HF.out.2⟩)
end
section
variable{base jb x d p L:Nat}
theorem grow_end{w:World}{j:Jb}{G:Nat->Prop}(h:FU w base jb x d p L j G)(nd:Nd)(A1 A2 A3:Option Addr)(c1 c2 c3:Nat)(off word:Int)(lb:UInt8)(rest:List UInt8)(A:Option Addr)(c:Nat)(value:UInt64)
 (hN:XZ w G (.slice A1 nd.pre.length c1) (.int .u64 (nd.val.toNat:Int)) (.slice A2 nd.labels.length c2) (.slice A3 nd.kids.length c3) nd)(b1:nd.pre.length<=100)(b2:nd.labels.length<=100)(b3:nd.kids.length<=100)
 (hR:JI w G A rest.length (rest.map bv))(_:rest.length<=c)(hrl:rest.length<=100)(hm:j.made.length<=500)(hs:common nd.pre rest<nd.pre.length)(he:common nd.pre rest=rest.length):
 Calls Tryz.prog 142 #[.pointer (some ⟨jb,0,none⟩),.agg #[.slice A1 nd.pre.length c1,.int .u64 (nd.val.toNat:Int),.slice A2 nd.labels.length c2,.slice A3 nd.kids.length c3,.int .i64 off,.int .u8 (lb.toNat:Int),.int .i64 word],.slice A rest.length c,.int .u64 (value.toNat:Int)] w (Ia (I4 j nd rest value) base jb x d p L G w):=by
 have hb0:Below w.heap.size w (w.alloc (.cells #[.slice A1 nd.pre.length c1,.int .u64 (nd.val.toNat:Int),.slice A2 nd.labels.length c2,.slice A3 nd.kids.length c3,.int .i64 off,.int .u8 (lb.toNat:Int),.int .i64 word] 227)):=(Below.refl _ _).alloc (Ae _) _;have B0:BI (w.alloc (.cells #[.slice A1 nd.pre.length c1,.int .u64 (nd.val.toNat:Int),.slice A2 nd.labels.length c2,.slice A3 nd.kids.length c3,.int .i64 off,.int .u8 (lb.toNat:Int),.int .i64 word] 227)) w.heap.size 227 [.slice A1 nd.pre.length c1,.int .u64 (nd.val.toNat:Int),.slice A2 nd.labels.length c2,.slice A3 nd.kids.length c3,.int .i64 off,.int .u8 (lb.toNat:Int),.int .i64 word]:=heap_alloc_new _ _;obtain⟨W0,hW0⟩:∃W0,W0=w.alloc (.cells #[.slice A1 nd.pre.length c1,.int .u64 (nd.val.toNat:Int),.slice A2 nd.labels.length c2,.slice A3 nd.kids.length c3,.int .i64 off,.int .u8 (lb.toNat:Int),.int .i64 word] 227):=⟨_,rfl⟩;rw [<-hW0]at hb0 B0;have HW:=Aa hW0;obtain⟨q1,q2,q3,hpc⟩:=hN.reads;obtain⟨pb,po,rfl,hpw, -⟩:=Gx q1 _ hs;obtain⟨k,hk⟩:∃k,k=common nd.pre rest:=⟨_,rfl⟩;have hkr:k<=rest.length:=by rw [hk];exact EP _ _
 have HC:=Aa (fun(W:World)(hW:Below w.heap.size w W)=>KO (some ⟨pb,po,none⟩) A nd.pre.length rest.length c1 c nd.pre rest W (by omega) (by omega) (q1.below hW).1 (hR.below hW).1);rw [<-hk]at hs HC;have HK:Hid (k=common nd.pre rest):=Aa hk;obtain⟨⟨j1,kid,er⟩,hr⟩:∃r,DT j {nd with pre:=nd.pre.drop (k+1)}=r:=⟨_,rfl⟩;have hmd:=Hu j {nd with pre:=nd.pre.drop (k+1)};rw [hr]at hmd;simp only at hmd;have Me:=Aa hr;have Zk:=Aa (fun(W:World)(hW:Below w.heap.size w W)(P:Option Addr)(C:Nat)(hP:P=(if c1=k+1 then some (⟨pb,po,none⟩:Addr)else some ⟨pb,po+(k+1),none⟩))=>KY (h.below hW) {nd with pre:=nd.pre.drop (k+1)} P A2 A3 C c2 c3 (by simp;omega) (by simp only;omega) (by simp only;omega)
  (((q1.below hW).rest rfl (by omega) hpc hP).1) (q2.below hW).1 (q3.below hW).1 (by omega))
 rw [hr]at Zk;simp only [AO]at Zk;have HN:=Aa q1;have HR:=Aa hR;have jM:=Aa h.lt;have HpC:=Aa hpc;rw [<-hk]at he;have HP:Hid (I4 j nd rest value=EX j1 ⟨nd.pre.take k,value,[],[]⟩ (nd.pre.getD k 0) kid er):=Aa (by rw [I4,<-hk,if_neg (by omega),hr];simp only [if_pos he]);have He:=Aa he;clear h hN hR hr hW0 q1 q2 q3;have t1:((k:Int)==(nd.pre.length:Int))=false:=by rw [beq_eq_false_iff_ne];omega
 have hw1:IntKind.i64.wrap ((k:Int)+1)=(k:Int)+1:=wrap64 _ (by omega) (by omega);have t2:((k:Int)==(rest.length:Int))=true:=by rw [beq_iff_eq];omega
 obtain⟨y0,y1,y2,y3,y4,y5,y6⟩:=En B0;clear hk he;go_enter Tryz.func142,Tryz.ntmps142
 go_wp2_with fail
 rw [<-HW.out];clear HW;refine(HC.out W0 hb0).mono ?_;rintro e w1⟨rfl,hd1⟩;have hb1:=hb0.trans ((hd1.below W0.heap.size).mono hb0.size);have B1:=B0.below (hd1.below _) B0.lt;have hs1:w.heap.size<w1.heap.size:=B1.lt;obtain⟨wl,hwl⟩:∃wl,wl=w1.alloc (.cells #[.slice (some ⟨pb,po,none⟩) nd.pre.length c1,.int .u64 (nd.val.toNat:Int),.slice A2 nd.labels.length c2,.slice A3 nd.kids.length c3] 225):=⟨_,rfl⟩;have BL:BI wl w1.heap.size 225 [.slice (some ⟨pb,po,none⟩) nd.pre.length c1,.int .u64 (nd.val.toNat:Int),.slice A2 nd.labels.length c2,.slice A3 nd.kids.length c3]:=hwl▸heap_alloc_new _ _;have hbl:Below w1.heap.size w1 wl:=hwl▸(Below.refl _ _).alloc (Ae _) _;have HB1:=Aa hb1;have U6:=Aa B1;obtain⟨y0,y1,y2,y3,y4,y5,y6⟩:=En (B1.below hbl B1.lt);obtain⟨z0,z1,z2,z3,Wy,WA,Zl,Zm⟩:=Ce BL;obtain⟨x0,x1,x2,x3,x4,x5,x6⟩:=En B1;rw [hwl]at y0 y1 y2 y3 y4 y5 y6 z0 z1 z2 z3 Wy WA Zl Zm;have hne:w.heap.size≠w1.heap.size:=by omega
 have hne':w1.heap.size≠w.heap.size:=by omega
 clear B0 hb0 hd1 hb1 B1 BL hbl hwl
 go_wp2_with fail
 all_goals(refine(Zk.out _ (HB1.out.alloc HB1.out.size _) _ _ (by split<;>first| rfl| omega)).mono ?_)
 all_goals(rintro e w2⟨rfl,G2,hj2,hm2⟩)
 all_goals(have YY:=Aa ((AB.of_below (F:=G) (HB1.out.alloc HB1.out.size _)).trans hm2))
 all_goals(have B2:=(U6.out.below ((Below.refl _ _).alloc (Ae _) _) U6.out.lt).touch hm2.touch (fun hg=>by have:=jM.out _ hg;omega))
 all_goals(have hpre:=HN.out.moved YY.out)
 all_goals(obtain⟨b',o',e',hpb,hck⟩:=Gx hpre k hs)
 all_goals(injection e' with e';injection e' with e1 e2;subst e1 e2)
 all_goals(clear y0 y1 y2 y3 y4 y5 y6 z0 z1 z2 z3 Wy WA Zl Zm x0 x1 x2 x3 x4 x5 x6 Zk hm2 hne hne')
 all_goals(have hln:(nd.pre.take k).length=k:=by simp;omega)
 all_goals(have htk:JI w2 G2 (some ⟨pb,po,none⟩) k ((nd.pre.take k).map bv):=by have:=hpre.take k (by omega);rwa [<-Mc]at this)
 all_goals(have hs2:w.heap.size<w2.heap.size:=B2.lt)
 all_goals(have hne:w.heap.size≠w2.heap.size:=by omega)
 all_goals(have hne':w2.heap.size≠w.heap.size:=by omega)
 all_goals(obtain⟨x0,x1,x2,x3,x4,x5,x6⟩:=En B2)
 all_goals(obtain⟨wt,hwt⟩:∃wt,wt=w2.alloc (.cells #[.slice (some ⟨pb,po,none⟩) k k,.int .u64 0,.slice none 0 0,.slice none 0 0] 225):=⟨_,rfl⟩)
 all_goals(have BT:BI wt w2.heap.size 225 [.slice (some ⟨pb,po,none⟩) k k,.int .u64 0,.slice none 0 0,.slice none 0 0]:=hwt▸heap_alloc_new _ _)
 all_goals(have hbt:Below w2.heap.size w2 wt:=hwt▸(Below.refl _ _).alloc (Ae _) _)
 all_goals(have B2t:=B2.below hbt B2.lt)
 all_goals(obtain⟨y0,y1,y2,y3,y4,y5,y6⟩:=En B2t)
 all_goals(obtain⟨z0,z1,z2,z3,Wy,WA,Zl,Zm⟩:=Ce BT)
 all_goals(have jZ:=(hbt.cell (p:=⟨pb,po+k,none⟩) hpb).trans hck)
 all_goals(rw [hwt]at y0 y1 y2 y3 y4 y5 y6 z0 z1 z2 z3 Wy WA Zl Zm jZ)
 all_goals(obtain⟨wv',hwv⟩:∃wv',wv'=w2.alloc (.cells #[.slice (some ⟨pb,po,none⟩) k k,.int .u64 (value.toNat:Int),.slice none 0 0,.slice none 0 0] 225):=⟨_,rfl⟩)
 all_goals(have BV:BI wv' w2.heap.size 225 [.slice (some ⟨pb,po,none⟩) k k,.int .u64 (value.toNat:Int),.slice none 0 0,.slice none 0 0]:=hwv▸heap_alloc_new _ _)
 all_goals(have hbv:Below w2.heap.size w2 wv':=hwv▸(Below.refl _ _).alloc (Ae _) _)
 all_goals(obtain⟨v0,v1,v2,v3,v4,v5,v6⟩:=En (B2.below hbv B2.lt))
 all_goals(obtain⟨u0,u1,u2,u3, -⟩:=Ce BV)
 all_goals(have Anl:=(hbv.cell (p:=⟨pb,po+k,none⟩) hpb).trans hck)
 all_goals(rw [hwv]at v0 v1 v2 v3 v4 v5 v6 u0 u1 u2 u3 Anl)
 all_goals(have hab:=fun(W:World)(hW:Below w2.heap.size w2 W)=>Ri (hj2.below hW) ⟨nd.pre.take k,value,[],[]⟩ (some ⟨pb,po,none⟩) none none k 0 0 (nd.pre.getD k 0) kid er (by show(nd.pre.take k).length<=100;omega) (by simp) (by simp) (by show Rd W _ (nd.pre.take k).length _;rw [hln];exact(htk.below hW).1) Rd.nil Rd.nil (by show j1.made.length<=1000;omega))
 all_goals(replace hab:=Aa hab)
 all_goals(rw [hln]at hab)
 all_goals(have xI:=Aa (hwv▸hbv))
 all_goals(generalize nd.pre.getD k 0=lab at*)
 all_goals(generalize nd.pre.take k=prk at*)
 all_goals(clear hj2 B2 B2t BT BV hbt hbv hwt hwv hln htk hpre hck)
 all_goals(have hx1:(k:Int)<(nd.pre.length:Int):=by omega)
 all_goals(have hx2:decide ((k:Int)<(nd.pre.length:Int))=true:=decide_eq_true hx1)
 all_goals(go_wp2_with fail)
 all_goals(go_region_with(go_at_call 178;go_loud(refine(hab.out _ (xI.out.trans ((Dr.drew _).below _))).mono ?_;rintro e w3⟨rfl,G3,q1,q2⟩)))
 all_goals(have HF:=Aa (And.intro q1 (YY.out.trans ((AB.of_below (xI.out.trans ((Dr.drew _).below _))).trans q2))))
 all_goals(clear q1 q2)
 all_goals(go_wp2_with fail)
 all_goals(go_ret2)
 all_goals(rw [HP.out])
 all_goals(exact⟨rfl,G3,HF.out.1,HF.out.2⟩)
theorem Abl{w:World}{j:Jb}{G:Nat->Prop}(h:FU w base jb x d p L j G)(nd:Nd)(A1 A2 A3:Option Addr)(c1 c2 c3:Nat)(off word:Int)(lb:UInt8)(rest:List UInt8)(A:Option Addr)(c:Nat)(value:UInt64)
 (hN:XZ w G (.slice A1 nd.pre.length c1) (.int .u64 (nd.val.toNat:Int)) (.slice A2 nd.labels.length c2) (.slice A3 nd.kids.length c3) nd)(b1:nd.pre.length<=100)(b2:nd.labels.length<=100)(b3:nd.kids.length<=100)
 (hR:JI w G A rest.length (rest.map bv))(_:rest.length<=c)(hrl:rest.length<=100)(hm:j.made.length<=500)(hs:common nd.pre rest<nd.pre.length)(hlt:common nd.pre rest<rest.length)(her:(DT j {nd with pre:=nd.pre.drop (common nd.pre rest+1)}).2.2≠0):
 Calls Tryz.prog 142 #[.pointer (some ⟨jb,0,none⟩),.agg #[.slice A1 nd.pre.length c1,.int .u64 (nd.val.toNat:Int),.slice A2 nd.labels.length c2,.slice A3 nd.kids.length c3,.int .i64 off,.int .u8 (lb.toNat:Int),.int .i64 word],.slice A rest.length c,.int .u64 (value.toNat:Int)] w (Ia (I4 j nd rest value) base jb x d p L G w):=by
 have hb0:Below w.heap.size w (w.alloc (.cells #[.slice A1 nd.pre.length c1,.int .u64 (nd.val.toNat:Int),.slice A2 nd.labels.length c2,.slice A3 nd.kids.length c3,.int .i64 off,.int .u8 (lb.toNat:Int),.int .i64 word] 227)):=(Below.refl _ _).alloc (Ae _) _;have B0:BI (w.alloc (.cells #[.slice A1 nd.pre.length c1,.int .u64 (nd.val.toNat:Int),.slice A2 nd.labels.length c2,.slice A3 nd.kids.length c3,.int .i64 off,.int .u8 (lb.toNat:Int),.int .i64 word] 227)) w.heap.size 227 [.slice A1 nd.pre.length c1,.int .u64 (nd.val.toNat:Int),.slice A2 nd.labels.length c2,.slice A3 nd.kids.length c3,.int .i64 off,.int .u8 (lb.toNat:Int),.int .i64 word]:=heap_alloc_new _ _;obtain⟨W0,hW0⟩:∃W0,W0=w.alloc (.cells #[.slice A1 nd.pre.length c1,.int .u64 (nd.val.toNat:Int),.slice A2 nd.labels.length c2,.slice A3 nd.kids.length c3,.int .i64 off,.int .u8 (lb.toNat:Int),.int .i64 word] 227):=⟨_,rfl⟩;rw [<-hW0]at hb0 B0;have HW:=Aa hW0;obtain⟨q1,q2,q3,hpc⟩:=hN.reads;obtain⟨pb,po,rfl,hpw, -⟩:=Gx q1 _ hs;obtain⟨k,hk⟩:∃k,k=common nd.pre rest:=⟨_,rfl⟩;have hkr:k<=rest.length:=by rw [hk];exact EP _ _
 have HC:=Aa (fun(W:World)(hW:Below w.heap.size w W)=>KO (some ⟨pb,po,none⟩) A nd.pre.length rest.length c1 c nd.pre rest W (by omega) (by omega) (q1.below hW).1 (hR.below hW).1);rw [<-hk]at hs HC;have HK:Hid (k=common nd.pre rest):=Aa hk;obtain⟨⟨j1,kid,er⟩,hr⟩:∃r,DT j {nd with pre:=nd.pre.drop (k+1)}=r:=⟨_,rfl⟩;have hmd:=Hu j {nd with pre:=nd.pre.drop (k+1)};rw [hr]at hmd;simp only at hmd;have Me:=Aa hr;have Zk:=Aa (fun(W:World)(hW:Below w.heap.size w W)(P:Option Addr)(C:Nat)(hP:P=(if c1=k+1 then some (⟨pb,po,none⟩:Addr)else some ⟨pb,po+(k+1),none⟩))=>KY (h.below hW) {nd with pre:=nd.pre.drop (k+1)} P A2 A3 C c2 c3 (by simp;omega) (by simp only;omega) (by simp only;omega)
  (((q1.below hW).rest rfl (by omega) hpc hP).1) (q2.below hW).1 (q3.below hW).1 (by omega))
 rw [hr]at Zk;simp only [AO]at Zk;have HN:=Aa q1;have HR:=Aa hR;have jM:=Aa h.lt;have HpC:=Aa hpc;rw [<-hk]at hlt her;rw [hr]at her;simp only at her;have HP:Hid (I4 j nd rest value=(j1,0,er)):=Aa (by rw [I4,<-hk,if_neg (by omega),hr];simp only;rw [if_neg (by omega),if_pos her]);have te:(er !=0)=true:=by rw [bne_iff_ne];exact her
 clear her;clear h hN hR hr hW0 q1 q2 q3;have t1:((k:Int)==(nd.pre.length:Int))=false:=by rw [beq_eq_false_iff_ne];omega
 have hw1:IntKind.i64.wrap ((k:Int)+1)=(k:Int)+1:=wrap64 _ (by omega) (by omega);have t2:((k:Int)==(rest.length:Int))=false:=by rw [beq_eq_false_iff_ne];omega
 obtain⟨y0,y1,y2,y3,y4,y5,y6⟩:=En B0;clear hk;go_enter Tryz.func142,Tryz.ntmps142
 go_wp2_with fail
 rw [<-HW.out];clear HW;refine(HC.out W0 hb0).mono ?_;rintro e w1⟨rfl,hd1⟩;have hb1:=hb0.trans ((hd1.below W0.heap.size).mono hb0.size);have B1:=B0.below (hd1.below _) B0.lt;have hs1:w.heap.size<w1.heap.size:=B1.lt;obtain⟨wl,hwl⟩:∃wl,wl=w1.alloc (.cells #[.slice (some ⟨pb,po,none⟩) nd.pre.length c1,.int .u64 (nd.val.toNat:Int),.slice A2 nd.labels.length c2,.slice A3 nd.kids.length c3] 225):=⟨_,rfl⟩;have BL:BI wl w1.heap.size 225 [.slice (some ⟨pb,po,none⟩) nd.pre.length c1,.int .u64 (nd.val.toNat:Int),.slice A2 nd.labels.length c2,.slice A3 nd.kids.length c3]:=hwl▸heap_alloc_new _ _;have hbl:Below w1.heap.size w1 wl:=hwl▸(Below.refl _ _).alloc (Ae _) _;have HB1:=Aa hb1;have U6:=Aa B1;obtain⟨y0,y1,y2,y3,y4,y5,y6⟩:=En (B1.below hbl B1.lt);obtain⟨z0,z1,z2,z3,Wy,WA,Zl,Zm⟩:=Ce BL;obtain⟨x0,x1,x2,x3,x4,x5,x6⟩:=En B1;rw [hwl]at y0 y1 y2 y3 y4 y5 y6 z0 z1 z2 z3 Wy WA Zl Zm;have hne:w.heap.size≠w1.heap.size:=by omega
 have hne':w1.heap.size≠w.heap.size:=by omega
 clear B0 hb0 hd1 hb1 B1 BL hbl hwl
 go_wp2_with fail
 all_goals(refine(Zk.out _ (HB1.out.alloc HB1.out.size _) _ _ (by split<;>first| rfl| omega)).mono ?_)
 all_goals(rintro e w2⟨rfl,G2,hj2,hm2⟩)
 all_goals(have YY:=Aa ((AB.of_below (F:=G) (HB1.out.alloc HB1.out.size _)).trans hm2))
 all_goals(have B2:=(U6.out.below ((Below.refl _ _).alloc (Ae _) _) U6.out.lt).touch hm2.touch (fun hg=>by have:=jM.out _ hg;omega))
 all_goals(have hpre:=HN.out.moved YY.out)
 all_goals(obtain⟨b',o',e',hpb,hck⟩:=Gx hpre k hs)
 all_goals(injection e' with e';injection e' with e1 e2;subst e1 e2)
 all_goals(clear y0 y1 y2 y3 y4 y5 y6 z0 z1 z2 z3 Wy WA Zl Zm x0 x1 x2 x3 x4 x5 x6 Zk hm2 hne hne')
 all_goals(have hln:(nd.pre.take k).length=k:=by simp;omega)
 all_goals(have htk:JI w2 G2 (some ⟨pb,po,none⟩) k ((nd.pre.take k).map bv):=by have:=hpre.take k (by omega);rwa [<-Mc]at this)
 all_goals(have hs2:w.heap.size<w2.heap.size:=B2.lt)
 all_goals(have hne:w.heap.size≠w2.heap.size:=by omega)
 all_goals(have hne':w2.heap.size≠w.heap.size:=by omega)
 all_goals(obtain⟨x0,x1,x2,x3,x4,x5,x6⟩:=En B2)
 all_goals(obtain⟨wt,hwt⟩:∃wt,wt=w2.alloc (.cells #[.slice (some ⟨pb,po,none⟩) k k,.int .u64 0,.slice none 0 0,.slice none 0 0] 225):=⟨_,rfl⟩)
 all_goals(have BT:BI wt w2.heap.size 225 [.slice (some ⟨pb,po,none⟩) k k,.int .u64 0,.slice none 0 0,.slice none 0 0]:=hwt▸heap_alloc_new _ _)
 all_goals(have hbt:Below w2.heap.size w2 wt:=hwt▸(Below.refl _ _).alloc (Ae _) _)
 all_goals(have B2t:=B2.below hbt B2.lt)
 all_goals(obtain⟨y0,y1,y2,y3,y4,y5,y6⟩:=En B2t)
 all_goals(obtain⟨z0,z1,z2,z3,Wy,WA,Zl,Zm⟩:=Ce BT)
 all_goals(have jZ:=(hbt.cell (p:=⟨pb,po+k,none⟩) hpb).trans hck)
 all_goals(rw [hwt]at y0 y1 y2 y3 y4 y5 y6 z0 z1 z2 z3 Wy WA Zl Zm jZ)
 all_goals(have xI:=Aa (hwt▸hbt))
 all_goals(have HJ2:=Aa hj2)
 all_goals(clear hj2 B2 B2t BT hbt hwt hln htk hpre hck)
 all_goals(go_wp2_with fail)
 all_goals(go_ret2)
 all_goals(refine⟨by rw [HP.out];rfl,G2,?_,YY.out.trans (AB.of_below xI.out)⟩)
 all_goals(rw [HP.out])
 all_goals(exact HJ2.out.below xI.out)
end
section
variable{base jb x d p L:Nat}
theorem Aev{w:World}{j:Jb}{G:Nat->Prop}(h:FU w base jb x d p L j G)(nd:Nd)(A1 A2 A3:Option Addr)(c1 c2 c3:Nat)(off word:Int)(lb:UInt8)(rest:List UInt8)(A:Option Addr)(c:Nat)(value:UInt64)
 (hN:XZ w G (.slice A1 nd.pre.length c1) (.int .u64 (nd.val.toNat:Int)) (.slice A2 nd.labels.length c2) (.slice A3 nd.kids.length c3) nd)(b1:nd.pre.length<=100)(b2:nd.labels.length<=100)(b3:nd.kids.length<=100)
 (hR:JI w G A rest.length (rest.map bv))(_:rest.length<=c)(hrl:rest.length<=100)(hm:j.made.length<=500)(hs:common nd.pre rest<nd.pre.length)(hlt:common nd.pre rest<rest.length)(her:(DT j {nd with pre:=nd.pre.drop (common nd.pre rest+1)}).2.2=0)(hok:JS ⟨nd.pre.take (common nd.pre rest),0,[],[]⟩ (nd.pre.getD (common nd.pre rest) 0) (DT j {nd with pre:=nd.pre.drop (common nd.pre rest+1)}).2.1=false):
 Calls Tryz.prog 142 #[.pointer (some ⟨jb,0,none⟩),.agg #[.slice A1 nd.pre.length c1,.int .u64 (nd.val.toNat:Int),.slice A2 nd.labels.length c2,.slice A3 nd.kids.length c3,.int .i64 off,.int .u8 (lb.toNat:Int),.int .i64 word],.slice A rest.length c,.int .u64 (value.toNat:Int)] w (Ia (I4 j nd rest value) base jb x d p L G w):=by
 have hb0:Below w.heap.size w (w.alloc (.cells #[.slice A1 nd.pre.length c1,.int .u64 (nd.val.toNat:Int),.slice A2 nd.labels.length c2,.slice A3 nd.kids.length c3,.int .i64 off,.int .u8 (lb.toNat:Int),.int .i64 word] 227)):=(Below.refl _ _).alloc (Ae _) _;have B0:BI (w.alloc (.cells #[.slice A1 nd.pre.length c1,.int .u64 (nd.val.toNat:Int),.slice A2 nd.labels.length c2,.slice A3 nd.kids.length c3,.int .i64 off,.int .u8 (lb.toNat:Int),.int .i64 word] 227)) w.heap.size 227 [.slice A1 nd.pre.length c1,.int .u64 (nd.val.toNat:Int),.slice A2 nd.labels.length c2,.slice A3 nd.kids.length c3,.int .i64 off,.int .u8 (lb.toNat:Int),.int .i64 word]:=heap_alloc_new _ _;obtain⟨W0,hW0⟩:∃W0,W0=w.alloc (.cells #[.slice A1 nd.pre.length c1,.int .u64 (nd.val.toNat:Int),.slice A2 nd.labels.length c2,.slice A3 nd.kids.length c3,.int .i64 off,.int .u8 (lb.toNat:Int),.int .i64 word] 227):=⟨_,rfl⟩;rw [<-hW0]at hb0 B0;have HW:=Aa hW0;obtain⟨q1,q2,q3,hpc⟩:=hN.reads;obtain⟨pb,po,rfl,hpw, -⟩:=Gx q1 _ hs;obtain⟨k,hk⟩:∃k,k=common nd.pre rest:=⟨_,rfl⟩;have hkr:k<=rest.length:=by rw [hk];exact EP _ _
 have HC:=Aa (fun(W:World)(hW:Below w.heap.size w W)=>KO (some ⟨pb,po,none⟩) A nd.pre.length rest.length c1 c nd.pre rest W (by omega) (by omega) (q1.below hW).1 (hR.below hW).1);rw [<-hk]at hs HC;have HK:Hid (k=common nd.pre rest):=Aa hk;obtain⟨⟨j1,kid,er⟩,hr⟩:∃r,DT j {nd with pre:=nd.pre.drop (k+1)}=r:=⟨_,rfl⟩;have hmd:=Hu j {nd with pre:=nd.pre.drop (k+1)};rw [hr]at hmd;simp only at hmd;have Me:=Aa hr;have Zk:=Aa (fun(W:World)(hW:Below w.heap.size w W)(P:Option Addr)(C:Nat)(hP:P=(if c1=k+1 then some (⟨pb,po,none⟩:Addr)else some ⟨pb,po+(k+1),none⟩))=>KY (h.below hW) {nd with pre:=nd.pre.drop (k+1)} P A2 A3 C c2 c3 (by simp;omega) (by simp only;omega) (by simp only;omega)
  (((q1.below hW).rest rfl (by omega) hpc hP).1) (q2.below hW).1 (q3.below hW).1 (by omega))
 rw [hr]at Zk;simp only [AO]at Zk;have HN:=Aa q1;have HR:=Aa hR;have jM:=Aa h.lt;have HpC:=Aa hpc;rw [<-hk]at hlt her hok;rw [hr]at her hok;simp only at her hok;subst her;have HP:Hid (I4 j nd rest value=(j1,0,5)):=Aa (by rw [I4,<-hk,if_neg (by omega),hr];simp only;rw [if_neg (by omega),if_neg (by simp),if_neg (by rw [hok];exact Bool.false_ne_true)]);have wZ:=Aa hok;clear hok;clear h hN hR hr hW0 q1 q2 q3;have t1:((k:Int)==(nd.pre.length:Int))=false:=by rw [beq_eq_false_iff_ne];omega
 have hw1:IntKind.i64.wrap ((k:Int)+1)=(k:Int)+1:=wrap64 _ (by omega) (by omega);have t2:((k:Int)==(rest.length:Int))=false:=by rw [beq_eq_false_iff_ne];omega
 obtain⟨y0,y1,y2,y3,y4,y5,y6⟩:=En B0;clear hk;go_enter Tryz.func142,Tryz.ntmps142
 go_wp2_with fail
 rw [<-HW.out];clear HW;refine(HC.out W0 hb0).mono ?_;rintro e w1⟨rfl,hd1⟩;have hb1:=hb0.trans ((hd1.below W0.heap.size).mono hb0.size);have B1:=B0.below (hd1.below _) B0.lt;have hs1:w.heap.size<w1.heap.size:=B1.lt;obtain⟨wl,hwl⟩:∃wl,wl=w1.alloc (.cells #[.slice (some ⟨pb,po,none⟩) nd.pre.length c1,.int .u64 (nd.val.toNat:Int),.slice A2 nd.labels.length c2,.slice A3 nd.kids.length c3] 225):=⟨_,rfl⟩;have BL:BI wl w1.heap.size 225 [.slice (some ⟨pb,po,none⟩) nd.pre.length c1,.int .u64 (nd.val.toNat:Int),.slice A2 nd.labels.length c2,.slice A3 nd.kids.length c3]:=hwl▸heap_alloc_new _ _;have hbl:Below w1.heap.size w1 wl:=hwl▸(Below.refl _ _).alloc (Ae _) _;have HB1:=Aa hb1;have U6:=Aa B1;obtain⟨y0,y1,y2,y3,y4,y5,y6⟩:=En (B1.below hbl B1.lt);obtain⟨z0,z1,z2,z3,Wy,WA,Zl,Zm⟩:=Ce BL;obtain⟨x0,x1,x2,x3,x4,x5,x6⟩:=En B1;rw [hwl]at y0 y1 y2 y3 y4 y5 y6 z0 z1 z2 z3 Wy WA Zl Zm;have hne:w.heap.size≠w1.heap.size:=by omega
 have hne':w1.heap.size≠w.heap.size:=by omega
 clear B0 hb0 hd1 hb1 B1 BL hbl hwl
 go_wp2_with fail
 all_goals(refine(Zk.out _ (HB1.out.alloc HB1.out.size _) _ _ (by split<;>first| rfl| omega)).mono ?_)
 all_goals(rintro e w2⟨rfl,G2,hj2,hm2⟩)
 all_goals(have YY:=Aa ((AB.of_below (F:=G) (HB1.out.alloc HB1.out.size _)).trans hm2))
 all_goals(have B2:=(U6.out.below ((Below.refl _ _).alloc (Ae _) _) U6.out.lt).touch hm2.touch (fun hg=>by have:=jM.out _ hg;omega))
 all_goals(have hpre:=HN.out.moved YY.out)
 all_goals(obtain⟨b',o',e',hpb,hck⟩:=Gx hpre k hs)
 all_goals(injection e' with e';injection e' with e1 e2;subst e1 e2)
 all_goals(clear y0 y1 y2 y3 y4 y5 y6 z0 z1 z2 z3 Wy WA Zl Zm x0 x1 x2 x3 x4 x5 x6 Zk hm2 hne hne')
 all_goals(have hln:(nd.pre.take k).length=k:=by simp;omega)
 all_goals(have htk:JI w2 G2 (some ⟨pb,po,none⟩) k ((nd.pre.take k).map bv):=by have:=hpre.take k (by omega);rwa [<-Mc]at this)
 all_goals(have hs2:w.heap.size<w2.heap.size:=B2.lt)
 all_goals(have hne:w.heap.size≠w2.heap.size:=by omega)
 all_goals(have hne':w2.heap.size≠w.heap.size:=by omega)
 all_goals(obtain⟨x0,x1,x2,x3,x4,x5,x6⟩:=En B2)
 all_goals(obtain⟨wt,hwt⟩:∃wt,wt=w2.alloc (.cells #[.slice (some ⟨pb,po,none⟩) k k,.int .u64 0,.slice none 0 0,.slice none 0 0] 225):=⟨_,rfl⟩)
 all_goals(have BT:BI wt w2.heap.size 225 [.slice (some ⟨pb,po,none⟩) k k,.int .u64 0,.slice none 0 0,.slice none 0 0]:=hwt▸heap_alloc_new _ _)
 all_goals(have hbt:Below w2.heap.size w2 wt:=hwt▸(Below.refl _ _).alloc (Ae _) _)
 all_goals(have B2t:=B2.below hbt B2.lt)
 all_goals(obtain⟨y0,y1,y2,y3,y4,y5,y6⟩:=En B2t)
 all_goals(obtain⟨z0,z1,z2,z3,Wy,WA,Zl,Zm⟩:=Ce BT)
 all_goals(have jZ:=(hbt.cell (p:=⟨pb,po+k,none⟩) hpb).trans hck)
 all_goals(rw [hwt]at y0 y1 y2 y3 y4 y5 y6 z0 z1 z2 z3 Wy WA Zl Zm jZ)
 all_goals(have HWi:=Aa (fun(W:World)(hW:Below w2.heap.size w2 W)=>uD (some ⟨pb,po,none⟩) none none k k 0 0 0 0 ⟨nd.pre.take k,0,[],[]⟩ (nd.pre.getD k 0) kid W (by omega) (by omega) (by omega) (by show Rd W _ _ _;exact(htk.below hW).1) Rd.nil Rd.nil wZ.out))
 all_goals(unfold Oj at HWi)
 all_goals(have xI:=Aa (hwt▸hbt))
 all_goals(have HBT:=Aa (hwt▸BT))
 all_goals(have HJ2:=Aa hj2)
 all_goals(generalize nd.pre.getD k 0=lab at*)
 all_goals(generalize nd.pre.take k=prk at*)
 all_goals(clear hj2 B2 B2t BT hbt hwt hln htk hpre hck)
 all_goals(have hx1:(k:Int)<(nd.pre.length:Int):=by omega)
 all_goals(have hx2:decide ((k:Int)<(nd.pre.length:Int))=true:=decide_eq_true hx1)
 all_goals(go_wp2_with fail)
 all_goals(go_region_with(go_at_call 179;go_loud(refine(HWi.out _ (xI.out.trans ((Dr.drew _).below _))).mono ?_;rintro e w3⟨rfl,hb3⟩;have FT:=(xI.out.trans ((Dr.drew _).below _)).trans (hb3.mono (xI.out.trans ((Dr.drew _).below _)).size);have B3:=HBT.out.below (((Dr.drew _).below _).trans hb3) HBT.out.lt;obtain⟨r0,r1,r2,r3,rf0,rf1,rf2,rf3⟩:=Ce B3)))
 all_goals(obtain⟨W9,U5, -,Ze, -⟩:=xG B3 FT (Ae _) (.slice none 0 0) (.int .u64 0) (.slice none 0 0) (.slice none 0 0))
 all_goals(have HF:Hid (∀W,(W=(((w3.setCell ⟨w2.heap.size,0,none⟩ (.slice none 0 0)).setCell ⟨w2.heap.size,1,none⟩ (.int .u64 0)).setCell ⟨w2.heap.size,2,none⟩ (.slice none 0 0)).setCell ⟨w2.heap.size,3,none⟩ (.slice none 0 0))->Below w2.heap.size w2 W):=Aa (fun W e=>by rw [e,<-U5];exact Ze))
 all_goals(clear U5 Ze W9)
 all_goals(go_wp2_with fail)
 all_goals(go_ret2)
 all_goals(have hfin:=HF.out _ rfl)
 all_goals(refine⟨by rw [HP.out];rfl,G2,?_,YY.out.trans (AB.of_below hfin)⟩)
 all_goals(rw [HP.out])
 all_goals(exact HJ2.out.below hfin)
end
section
variable{base jb x d p L:Nat}
theorem Abm{w:World}{j:Jb}{G:Nat->Prop}(h:FU w base jb x d p L j G)(nd:Nd)(A1 A2 A3:Option Addr)(c1 c2 c3:Nat)(off word:Int)(lb:UInt8)(rest:List UInt8)(A:Option Addr)(c:Nat)(value:UInt64)
 (hN:XZ w G (.slice A1 nd.pre.length c1) (.int .u64 (nd.val.toNat:Int)) (.slice A2 nd.labels.length c2) (.slice A3 nd.kids.length c3) nd)(b1:nd.pre.length<=100)(b2:nd.labels.length<=100)(b3:nd.kids.length<=100)
 (hR:JI w G A rest.length (rest.map bv))(hrc:rest.length<=c)(hrl:rest.length<=100)(hm:j.made.length<=500)(hs:common nd.pre rest<nd.pre.length)(hlt:common nd.pre rest<rest.length)(her:(DT j {nd with pre:=nd.pre.drop (common nd.pre rest+1)}).2.2=0)(hok:JS ⟨nd.pre.take (common nd.pre rest),0,[],[]⟩ (nd.pre.getD (common nd.pre rest) 0) (DT j {nd with pre:=nd.pre.drop (common nd.pre rest+1)}).2.1=true):
 Calls Tryz.prog 142 #[.pointer (some ⟨jb,0,none⟩),.agg #[.slice A1 nd.pre.length c1,.int .u64 (nd.val.toNat:Int),.slice A2 nd.labels.length c2,.slice A3 nd.kids.length c3,.int .i64 off,.int .u8 (lb.toNat:Int),.int .i64 word],.slice A rest.length c,.int .u64 (value.toNat:Int)] w (Ia (I4 j nd rest value) base jb x d p L G w):=by
 have hb0:Below w.heap.size w (w.alloc (.cells #[.slice A1 nd.pre.length c1,.int .u64 (nd.val.toNat:Int),.slice A2 nd.labels.length c2,.slice A3 nd.kids.length c3,.int .i64 off,.int .u8 (lb.toNat:Int),.int .i64 word] 227)):=(Below.refl _ _).alloc (Ae _) _;have B0:BI (w.alloc (.cells #[.slice A1 nd.pre.length c1,.int .u64 (nd.val.toNat:Int),.slice A2 nd.labels.length c2,.slice A3 nd.kids.length c3,.int .i64 off,.int .u8 (lb.toNat:Int),.int .i64 word] 227)) w.heap.size 227 [.slice A1 nd.pre.length c1,.int .u64 (nd.val.toNat:Int),.slice A2 nd.labels.length c2,.slice A3 nd.kids.length c3,.int .i64 off,.int .u8 (lb.toNat:Int),.int .i64 word]:=heap_alloc_new _ _;obtain⟨W0,hW0⟩:∃W0,W0=w.alloc (.cells #[.slice A1 nd.pre.length c1,.int .u64 (nd.val.toNat:Int),.slice A2 nd.labels.length c2,.slice A3 nd.kids.length c3,.int .i64 off,.int .u8 (lb.toNat:Int),.int .i64 word] 227):=⟨_,rfl⟩;rw [<-hW0]at hb0 B0;have HW:=Aa hW0;obtain⟨q1,q2,q3,hpc⟩:=hN.reads;obtain⟨pb,po,rfl,hpw, -⟩:=Gx q1 _ hs;obtain⟨k,hk⟩:∃k,k=common nd.pre rest:=⟨_,rfl⟩;have hkr:k<=rest.length:=by rw [hk];exact EP _ _
 have HC:=Aa (fun(W:World)(hW:Below w.heap.size w W)=>KO (some ⟨pb,po,none⟩) A nd.pre.length rest.length c1 c nd.pre rest W (by omega) (by omega) (q1.below hW).1 (hR.below hW).1);rw [<-hk]at hs HC;have HK:Hid (k=common nd.pre rest):=Aa hk;obtain⟨⟨j1,kid,er⟩,hr⟩:∃r,DT j {nd with pre:=nd.pre.drop (k+1)}=r:=⟨_,rfl⟩;have hmd:=Hu j {nd with pre:=nd.pre.drop (k+1)};rw [hr]at hmd;simp only at hmd;have Me:=Aa hr;have Zk:=Aa (fun(W:World)(hW:Below w.heap.size w W)(P:Option Addr)(C:Nat)(hP:P=(if c1=k+1 then some (⟨pb,po,none⟩:Addr)else some ⟨pb,po+(k+1),none⟩))=>KY (h.below hW) {nd with pre:=nd.pre.drop (k+1)} P A2 A3 C c2 c3 (by simp;omega) (by simp only;omega) (by simp only;omega)
  (((q1.below hW).rest rfl (by omega) hpc hP).1) (q2.below hW).1 (q3.below hW).1 (by omega))
 rw [hr]at Zk;simp only [AO]at Zk;have HN:=Aa q1;have HR:=Aa hR;have jM:=Aa h.lt;have HpC:=Aa hpc;rw [<-hk]at hlt her hok;rw [hr]at her hok;simp only at her hok;subst her;obtain⟨⟨j2,bK,er2⟩,hr2⟩:∃r,Je (rest.length+1) j1 (rest.drop (k+1)) value=r:=⟨_,rfl⟩;have Ak7:=KU (rest.length+1) j1 (rest.drop (k+1)) value;rw [hr2]at Ak7;simp only at Ak7;have HP:Hid (I4 j nd rest value=EX j2 (LJ ⟨nd.pre.take k,0,[],[]⟩ (nd.pre.getD k 0) kid) (rest.getD k 0) bK er2):=Aa (by rw [I4,<-hk,if_neg (by omega),hr];simp only;rw [if_neg (by omega),if_neg (by simp),if_pos hok,hr2];rfl);have wZ:=Aa hok;have HR2:=Aa hr2;obtain⟨rb,ro,rfl,hrw, -⟩:=Gx hR _ hlt;clear hok hr2;clear h hN hR hr hW0 q1 q2 q3;have t1:((k:Int)==(nd.pre.length:Int))=false:=by rw [beq_eq_false_iff_ne];omega
 have hw1:IntKind.i64.wrap ((k:Int)+1)=(k:Int)+1:=wrap64 _ (by omega) (by omega);have t2:((k:Int)==(rest.length:Int))=false:=by rw [beq_eq_false_iff_ne];omega
 obtain⟨y0,y1,y2,y3,y4,y5,y6⟩:=En B0;clear hk;go_enter Tryz.func142,Tryz.ntmps142
 go_wp2_with fail
 rw [<-HW.out];clear HW;refine(HC.out W0 hb0).mono ?_;rintro e w1⟨rfl,hd1⟩;have hb1:=hb0.trans ((hd1.below W0.heap.size).mono hb0.size);have B1:=B0.below (hd1.below _) B0.lt;have hs1:w.heap.size<w1.heap.size:=B1.lt;obtain⟨wl,hwl⟩:∃wl,wl=w1.alloc (.cells #[.slice (some ⟨pb,po,none⟩) nd.pre.length c1,.int .u64 (nd.val.toNat:Int),.slice A2 nd.labels.length c2,.slice A3 nd.kids.length c3] 225):=⟨_,rfl⟩;have BL:BI wl w1.heap.size 225 [.slice (some ⟨pb,po,none⟩) nd.pre.length c1,.int .u64 (nd.val.toNat:Int),.slice A2 nd.labels.length c2,.slice A3 nd.kids.length c3]:=hwl▸heap_alloc_new _ _;have hbl:Below w1.heap.size w1 wl:=hwl▸(Below.refl _ _).alloc (Ae _) _;have HB1:=Aa hb1;have U6:=Aa B1;obtain⟨y0,y1,y2,y3,y4,y5,y6⟩:=En (B1.below hbl B1.lt);obtain⟨z0,z1,z2,z3,Wy,WA,Zl,Zm⟩:=Ce BL;obtain⟨x0,x1,x2,x3,x4,x5,x6⟩:=En B1;rw [hwl]at y0 y1 y2 y3 y4 y5 y6 z0 z1 z2 z3 Wy WA Zl Zm;have hne:w.heap.size≠w1.heap.size:=by omega
 have hne':w1.heap.size≠w.heap.size:=by omega
 clear B0 hb0 hd1 hb1 B1 BL hbl hwl
 go_wp2_with fail
 all_goals(refine(Zk.out _ (HB1.out.alloc HB1.out.size _) _ _ (by split<;>first| rfl| omega)).mono ?_)
 all_goals(rintro e w2⟨rfl,G2,hj2,hm2⟩)
 all_goals(have YY:=Aa ((AB.of_below (F:=G) (HB1.out.alloc HB1.out.size _)).trans hm2))
 all_goals(have B2:=(U6.out.below ((Below.refl _ _).alloc (Ae _) _) U6.out.lt).touch hm2.touch (fun hg=>by have:=jM.out _ hg;omega))
 all_goals(have hpre:=HN.out.moved YY.out)
 all_goals(obtain⟨b',o',e',hpb,hck⟩:=Gx hpre k hs)
 all_goals(injection e' with e';injection e' with e1 e2;subst e1 e2)
 all_goals(clear y0 y1 y2 y3 y4 y5 y6 z0 z1 z2 z3 Wy WA Zl Zm x0 x1 x2 x3 x4 x5 x6 Zk hm2 hne hne')
 all_goals(have hln:(nd.pre.take k).length=k:=by simp;omega)
 all_goals(have htk:JI w2 G2 (some ⟨pb,po,none⟩) k ((nd.pre.take k).map bv):=by have:=hpre.take k (by omega);rwa [<-Mc]at this)
 all_goals(have hs2:w.heap.size<w2.heap.size:=B2.lt)
 all_goals(have hne:w.heap.size≠w2.heap.size:=by omega)
 all_goals(have hne':w2.heap.size≠w.heap.size:=by omega)
 all_goals(obtain⟨x0,x1,x2,x3,x4,x5,x6⟩:=En B2)
 all_goals(obtain⟨wt,hwt⟩:∃wt,wt=w2.alloc (.cells #[.slice (some ⟨pb,po,none⟩) k k,.int .u64 0,.slice none 0 0,.slice none 0 0] 225):=⟨_,rfl⟩)
 all_goals(have BT:BI wt w2.heap.size 225 [.slice (some ⟨pb,po,none⟩) k k,.int .u64 0,.slice none 0 0,.slice none 0 0]:=hwt▸heap_alloc_new _ _)
 all_goals(have hbt:Below w2.heap.size w2 wt:=hwt▸(Below.refl _ _).alloc (Ae _) _)
 all_goals(have B2t:=B2.below hbt B2.lt)
 all_goals(obtain⟨y0,y1,y2,y3,y4,y5,y6⟩:=En B2t)
 all_goals(obtain⟨z0,z1,z2,z3,Wy,WA,Zl,Zm⟩:=Ce BT)
 all_goals(have jZ:=(hbt.cell (p:=⟨pb,po+k,none⟩) hpb).trans hck)
 all_goals(rw [hwt]at y0 y1 y2 y3 y4 y5 y6 z0 z1 z2 z3 Wy WA Zl Zm jZ)
 all_goals(have HWi:=Aa (fun(W:World)(hW:Below w2.heap.size w2 W)=>jX (some ⟨pb,po,none⟩) none none k k 0 0 0 0 ⟨nd.pre.take k,0,[],[]⟩ (nd.pre.getD k 0) kid W (by omega) (by omega) (by omega) (by show Rd W _ _ _;exact(htk.below hW).1) Rd.nil Rd.nil wZ.out))
 all_goals(have hnl:(LJ ⟨nd.pre.take k,0,[],[]⟩ (nd.pre.getD k 0) kid).pre.length<=100/\(LJ ⟨nd.pre.take k,0,[],[]⟩ (nd.pre.getD k 0) kid).labels.length<=100/\(LJ ⟨nd.pre.take k,0,[],[]⟩ (nd.pre.getD k 0) kid).kids.length<=100:=by unfold LJ ins;simp;omega)
 all_goals(generalize LJ ⟨nd.pre.take k,0,[],[]⟩ (nd.pre.getD k 0) kid=UX at*)
 all_goals(have xI:=Aa (hwt▸hbt))
 all_goals(have HBT:=Aa (hwt▸BT))
 all_goals(have HJ2:=Aa hj2)
 all_goals(have HG2:=Aa hj2.lt)
 all_goals(generalize nd.pre.getD k 0=lab at*)
 all_goals(generalize nd.pre.take k=prk at*)
 all_goals(clear hj2 B2 B2t BT hbt hwt hln htk hpre hck)
 all_goals(have hx1:(k:Int)<(nd.pre.length:Int):=by omega)
 all_goals(have hx2:decide ((k:Int)<(nd.pre.length:Int))=true:=decide_eq_true hx1)
 all_goals(go_wp2_with fail)
 all_goals(go_region_with(go_at_call 179;go_loud(refine(HWi.out _ (xI.out.trans ((Dr.drew _).below _))).mono ?_;rintro e w3⟨⟨N1,m1,N2,m2,N3,m3,rfl,o1,o2,o3⟩,hb3⟩;have FT:=(xI.out.trans ((Dr.drew _).below _)).trans (hb3.mono (xI.out.trans ((Dr.drew _).below _)).size);have B3:=HBT.out.below (((Dr.drew _).below _).trans hb3) HBT.out.lt;have hs3:=HBT.out.lt;have O1:=E8 (base':=w2.heap.size+1) o1 (by show w2.heap.size+1<=(sO _).heap.size+2;exact Bf hs3 (WB _ 2));have O2:=E8 (base':=w2.heap.size+1) o2 (by show w2.heap.size+1<=(sO _).heap.size+2;exact Bf hs3 (WB _ 2));have O3:=E8 (base':=w2.heap.size+1) o3 (by show w2.heap.size+1<=(sO _).heap.size+2;exact Bf hs3 (WB _ 2));clear o1 o2 o3;obtain⟨r0,r1,r2,r3,rf0,rf1,rf2,rf3⟩:=Ce B3)))
 all_goals(obtain⟨W9,U5,B9,Ze,k9⟩:=xG B3 FT (Ae _) (.slice N1 UX.pre.length m1) (.int .u64 (UX.val.toNat:Int)) (.slice N2 UX.labels.length m2) (.slice N3 UX.kids.length m3))
 all_goals(have HO:=Aa (And.intro (Kr O1 k9 (WC _)) (And.intro (Kr O2 k9 (WC _)) (Kr O3 k9 (WC _)))))
 all_goals(have dQ:=Aa Ze)
 all_goals(have HK9:=Aa B9)
 all_goals(have HW9:=Aa U5)
 all_goals(clear U5 Ze k9 B9 O1 O2 O3 B3 FT hb3 HWi y0 y1 y2 y3 y4 y5 y6 z0 z1 z2 z3 Wy WA Zl Zm x0 x1 x2 x3 x4 x5 x6 jZ)
 all_goals(go_wp2_with fail)
 all_goals(rw [<-HW9.out])
 all_goals(have HL:=fun(P:Option Addr)(C:Nat)(hC:C=c- (k+1))(hP:P=(if c=k+1 then some (⟨rb,ro,none⟩:Addr)else some ⟨rb,ro+(k+1),none⟩))=>Uo (rest.length+1) W9 j1 G2 (rest.drop (k+1)) value P C (HJ2.out.below dQ.out) (((HR.out.moved YY.out).below dQ.out).rest rfl (by omega) hrc hP) (by rw [AO];omega) (by rw [AO];omega) (by rw [AO];omega) (by omega))
 all_goals(rw [HR2.out,AO]at HL)
 all_goals(replace HL:=Aa HL)
 all_goals(refine(HL.out _ _ (by omega) (by split<;>first| rfl| omega)).mono ?_)
 all_goals(rintro e w5⟨rfl,G5,zC,Qi⟩)
 all_goals(have KA:=Aa (YY.out.trans ((AB.of_below dQ.out).trans Qi)))
 all_goals(have B5:=HK9.out.touch Qi.touch (fun hg=>by have:=HG2.out _ hg;omega))
 all_goals(have s1:=(JI.LY HO.out.1 (fun b hb _ hg=>by have:=HG2.out b hg;omega)).moved Qi)
 all_goals(have s2:=(JI.LY HO.out.2.1 (fun b hb _ hg=>by have:=HG2.out b hg;omega)).moved Qi)
 all_goals(have s3:=(JI.LY HO.out.2.2 (fun b hb _ hg=>by have:=HG2.out b hg;omega)).moved Qi)
 all_goals(obtain⟨b',o',e',hrb,hck⟩:=Gx (HR.out.moved KA.out) k hlt)
 all_goals(injection e' with e';injection e' with e1 e2;subst e1 e2)
 all_goals(have hab:=fun(W:World)(hW:Below w5.heap.size w5 W)=>Ri (zC.below hW) UX N1 N2 N3 m1 m2 m3 (rest.getD k 0) bK er2 hnl.1 hnl.2.1 hnl.2.2 (s1.below hW).1 (s2.below hW).1 (s3.below hW).1 (by show j2.made.length<=1000;omega))
 all_goals(replace hab:=Aa hab)
 all_goals(generalize rest.getD k 0=Ak8 at*)
 all_goals(clear zC Qi s1 s2 s3 HL r0 r1 r2 r3 rf0 rf1 rf2 rf3)
 all_goals(obtain⟨y0,y1,y2,y3, -⟩:=Ce B5)
 all_goals(clear B5)
 all_goals(have hx3:(k:Int)<(rest.length:Int):=by omega)
 all_goals(have hx4:decide ((k:Int)<(rest.length:Int))=true:=decide_eq_true hx3)
 all_goals(go_wp2_with fail)
 all_goals(go_region_with(go_at_call 178;go_loud(refine(hab.out _ ((Dr.drew w5).below _)).mono ?_;rintro e w6⟨rfl,G6,q1,q2⟩)))
 all_goals(have HF:=Aa (And.intro q1 (KA.out.trans ((AB.of_below ((Dr.drew w5).below _)).trans q2))))
 all_goals(clear q1 q2)
 all_goals(go_wp2_with fail)
 all_goals(refine bodyPost_ret (v:= .tuple #[.int .u64 ((EX j2 UX Ak8 bK er2).2.1.toNat:Int),.int .i64 (EX j2 UX Ak8 bK er2).2.2]) (by simp [results,Tryz.results142,go_sem]) rfl ?_)
 all_goals(rw [HP.out])
 all_goals(exact⟨rfl,G6,HF.out.1,HF.out.2⟩)
end
def Gof(F:Nat->Prop)(jb:Nat)(v:Value)(b:Nat):Prop:=F b\/b=jb\/v.ownBlock=some b
section
variable{w w':World}{base jb x d p L:Nat}{j:Jb}{F G:Nat->Prop}{v:Value}
theorem Oi.move'(h:Oi w base jb x d p L j F v){s':St}{F':Nat->Prop}(hs:Sys w' d p L s' F')(m:AB F F' w w'):Oi w' base jb x d p L {j with s:=s'} F' v/\AB (Gof F jb v) (Gof F' jb v) w w':=by
 obtain⟨G',q1,q2,q3⟩:=h.move (G:=Gof F jb v) (fun _=>Iff.rfl) hs m;refine⟨q1,q3.touch,fun b hb=>q3.own b ((q2 b).2 hb)⟩
theorem ku{α:Type}(l:List α)(k:Nat)(hk:k<l.length):l.drop k=l[k]::l.drop (k+1):=List.drop_eq_getElem_cons hk
def Rj(r:St×Int)(base jb x d p L:Nat)(j:Jb)(G:Nat->Prop)(w:World)(e:Ending)(w':World):Prop:=
 e= .returned (.int .i64 r.2)/\∃G',FU w' base jb x d p L {j with s:=r.1} G'/\AB G G' w w'
theorem SV(h:FU w base jb x d p L j G)(e:Int)(he:e≠0)(word:Int)(name:UInt64)(A:Option Addr)(c:Nat)(old:List Int)(hm:j.made.length<=1000):
 Calls Tryz.prog 141 #[.pointer (some ⟨jb,0,none⟩),.int .i64 e,.int .i64 word,.int .u64 (name.toNat:Int),.slice A old.length c] w (Rj (DK j e word name old) base jb x d p L j G w):=by
 obtain⟨F,v,hj,hG⟩:=h;have hGe:G=Gof F jb v:=funext fun b=>propext (hG b)
 subst hGe;obtain⟨A0,c0,rfl,hc0, -⟩:=CP (E8 hj.row (BH _));have HP:Hid (DK j e word name old=(LX j.s j.made,e)):=Aa (by unfold DK;rw [if_pos he]);have t1:(e==0)=false:=by rw [beq_eq_false_iff_ne];exact he
 have t2:(e !=0)=true:=by rw [bne_iff_ne];exact he
 have HJ:=Aa hj;have y0:=hj.box.cell 0;have y1:=hj.box.cell 1;simp only [Ad,Af]at y0 y1;clear hj hG he;go_enter Tryz.func141,Tryz.ntmps141
 go_wp2_with fail
 go_loopw [35](fun i wr=>∃(k:Nat)(F':Nat->Prop)(s':St),k<=j.made.length/\i= .int .i64 (k:Nat)/\LX s' (j.made.drop k)=LX j.s j.made/\Oi wr base jb x d p L {j with s:=s'} F' (.slice A0 j.made.length c0)/\AB (Gof F jb (.slice A0 j.made.length c0)) (Gof F' jb (.slice A0 j.made.length c0)) w wr)(fun i _=>j.made.length- (intOf i).toNat)
 case atStart=>exact⟨0,F,j.s,BH _,rfl,rfl,HJ.out,AB.refl _ _⟩
 case round=>
  obtain⟨k,F',s',hk,rfl,hdr,hjr,hmv⟩:=hrel;have HMv:=Aa hmv;have HDr:=Aa hdr;have qI:=Aa hjr;clear hmv hdr hjr y0 y1;by_cases hlt:k<j.made.length
  ·have y0:=qI.out.box.cell 0;have u1:=qI.out.ix.box.cell 1;simp only [Ad,Af]at y0 u1;obtain⟨rb,ro,rfl,hrb,hcs⟩:=(Cj qI.out.row).2.2 (by omega);have hck:=hcs k hlt;rw [BO,Ag hlt]at hck;replace hck:_=some (Value.int .i64 j.made[k]):=hck;have hin: -9223372036854775808<=j.made[k]/\j.made[k]<=9223372036854775807:=qI.out.mb _ (CU _);have ui:Hid (LX (Fj s' j.made[k]).1 (j.made.drop (k+1))=LX j.s j.made):=Aa (by rw [<-HDr.out,ku _ _ hlt];rfl);have HDp:=Aa (MR qI.out.ix.sys j.made[k] hin);generalize j.made[k]=o at*;clear hcs hin;have hx1:(k:Int)<(j.made.length:Int):=by omega
   have hx2:decide ((k:Int)<(j.made.length:Int))=true:=decide_eq_true hx1;have hwk:IntKind.i64.wrap ((k:Int)+1)=(k:Int)+1:=wrap64 _ (by omega) (by omega)
   go_wp2_with fail
   refine HDp.out.mono ?_;rintro e9 w9⟨rfl,F9,hs9,hm9⟩;obtain⟨q1,q2⟩:=qI.out.move' hs9 hm9;have HQ:=Aa q1;have HM9:=Aa (HMv.out.trans q2);clear q1 q2 hs9 hm9 HDp y0 u1 hck qI HMv
   go_wp2_with fail
   go_roundw
   case rel=>exact⟨k+1,F9,(Fj s' o).1,by omega,by go_num,ui.out,HQ.out,HM9.out⟩
   case measure=>simp [intOf];omega
  ·have hkn:k=j.made.length:=by omega
   subst hkn;have HS:Hid (s'=LX j.s j.made):=Aa (by have:=HDr.out;rw [zH]at this;exact this)
   go_wp2_with fail
   go_ret;refine⟨by rw [HP.out];rfl,Gof F' jb _,?_,HMv.out⟩;rw [HP.out,<-HS.out];exact⟨F',_,qI.out,fun _=>Iff.rfl⟩
theorem NY(h:FU w base jb x d p L j G)(word:Int)(jw:Nat)(hw:word=((8*jw:Nat):Int))(mY:jw<8*L)(name:UInt64)(A:Option Addr)(c:Nat)(old:List Int)(hO:JI w G A old.length (old.map zv))(hob:∀o∈old, -9223372036854775808<=o/\o<=9223372036854775807)(hol:old.length<=1000):
 Calls Tryz.prog 141 #[.pointer (some ⟨jb,0,none⟩),.int .i64 0,.int .i64 word,.int .u64 (name.toNat:Int),.slice A old.length c] w (Rj (DK j 0 word name old) base jb x d p L j G w):=by
 obtain⟨F,v,hj,hG⟩:=h;have hGe:G=Gof F jb v:=funext fun b=>propext (hG b)
 subst hGe;have HP:Hid (DK j 0 word name old=Nc {j.s with ws:=FO j.s.ws jw name} old 0):=Aa (by unfold DK;rw [if_neg (by simp),hw,show((8*jw:Nat):Int).toNat/8=jw by omega]);have HPt:=WJ hj.ix.sys jw name mY;rw [<-hw]at HPt;have HPt:=Aa HPt;have HJ:=Aa hj;have HO:=Aa hO;have HOb:=Aa hob;have y0:=hj.box.cell 0;have u0:=hj.ix.box.cell 0;simp only [Ad]at y0 u0;clear hj hG hO hob hw;go_enter Tryz.func141,Tryz.ntmps141
 go_wp2_with fail
 refine HPt.out.mono ?_;rintro e w1⟨rfl,F1,hs1,hm1⟩;obtain⟨q1,q2⟩:=HJ.out.move' hs1 hm1;have HJ1:=Aa q1;have HM1:=Aa q2;clear q1 q2 hs1 hm1 HPt y0 u0
 go_wp2_with fail
 go_loopw [1,52](fun e1 i wr=>∃(k:Nat)(F':Nat->Prop)(s':St)(ec:Int),k<=old.length/\e1= .int .i64 ec/\i= .int .i64 (k:Nat)/\Nc s' (old.drop k) ec=Nc {j.s with ws:=FO j.s.ws jw name} old 0/\Oi wr base jb x d p L {j with s:=s'} F' v/\AB (Gof F jb v) (Gof F' jb v) w wr)(fun _ i _=>old.length- (intOf i).toNat)
 case atStart=>exact⟨0,F1,_,0,BH _,rfl,rfl,rfl,HJ1.out,HM1.out⟩
 case round=>
  obtain⟨k,F',s',ec,hk,rfl,rfl,hdr,hjr,hmv⟩:=hrel;have HMv:=Aa hmv;have HDr:=Aa hdr;have qI:=Aa hjr;clear hmv hdr hjr HJ1 HM1;by_cases hlt:k<old.length
  ·have y0:=qI.out.box.cell 0;have u1:=qI.out.ix.box.cell 1;simp only [Ad,Af]at y0 u1;obtain⟨rb,ro,rfl,hrb,hcs⟩:=(HO.out.moved HMv.out).1.2 (by omega);have hck:=hcs k hlt;rw [BO,Ag hlt]at hck;replace hck:_=some (Value.int .i64 old[k]):=hck;have hin: -9223372036854775808<=old[k]/\old[k]<=9223372036854775807:=HOb.out _ (CU _);have ui:Hid (Nc (Fj s' old[k]).1 (old.drop (k+1)) (if ec=0 then(Fj s' old[k]).2 else ec)=Nc {j.s with ws:=FO j.s.ws jw name} old 0):=Aa (by rw [<-HDr.out,ku _ _ hlt];rfl);have HDp:=Aa (MR qI.out.ix.sys old[k] hin);generalize old[k]=o at*;obtain⟨de,hde⟩:∃de,de=(Fj s' o).2:=⟨_,rfl⟩;rw [<-hde]at ui HDp;clear hcs hin hde;have hx1:(k:Int)<(old.length:Int):=by omega
   have hx2:decide ((k:Int)<(old.length:Int))=true:=decide_eq_true hx1;have hwk:IntKind.i64.wrap ((k:Int)+1)=(k:Int)+1:=wrap64 _ (by omega) (by omega)
   go_wp2_with fail
   refine HDp.out.mono ?_;rintro e9 w9⟨rfl,F9,hs9,hm9⟩;obtain⟨q1,q2⟩:=qI.out.move' hs9 hm9;have HQ:=Aa q1;have HM9:=Aa (HMv.out.trans q2);clear q1 q2 hs9 hm9 HDp y0 u1 hck qI HMv;by_cases hec:ec=0
   ·subst hec;rw [if_pos rfl]at ui
    go_wp2_with fail
    go_roundw
    case rel=>exact⟨k+1,F9,(Fj s' o).1,de,by omega,rfl,by go_num,ui.out,HQ.out,HM9.out⟩
    case measure=>simp [intOf];omega
   ·rw [if_neg hec]at ui;have t5:(ec==0)=false:=by rw [beq_eq_false_iff_ne];exact hec
    go_wp2_with fail
    go_roundw
    case rel=>exact⟨k+1,F9,(Fj s' o).1,ec,by omega,rfl,by go_num,ui.out,HQ.out,HM9.out⟩
    case measure=>simp [intOf];omega
  ·have hkn:k=old.length:=by omega
   subst hkn;have HS:Hid ((s',ec)=Nc {j.s with ws:=FO j.s.ws jw name} old 0):=Aa (by have:=HDr.out;rw [zH]at this;exact this)
   go_wp2_with fail
   go_ret;refine⟨by rw [HP.out,<-HS.out];rfl,Gof F' jb _,?_,HMv.out⟩;rw [HP.out,<-HS.out];exact⟨F',_,qI.out,fun _=>Iff.rfl⟩
end
section
variable{base jb x d p L:Nat}
theorem Abn{w:World}{j:Jb}{G:Nat->Prop}(h:FU w base jb x d p L j G)(nd:Nd)(A1 A2 A3:Option Addr)(c1 c2 c3:Nat)(off word:Int)(lb:UInt8)(rest:List UInt8)(A:Option Addr)(c:Nat)(value:UInt64)
 (hN:XZ w G (.slice A1 nd.pre.length c1) (.int .u64 (nd.val.toNat:Int)) (.slice A2 nd.labels.length c2) (.slice A3 nd.kids.length c3) nd)(b1:nd.pre.length<=100)(b2:nd.labels.length<=100)(b3:nd.kids.length<=100)
 (hR:JI w G A rest.length (rest.map bv))(hrc:rest.length<=c)(hrl:rest.length<=100)(hm:j.made.length<=500)(hne:nd.pre≠rest):
 Calls Tryz.prog 142 #[.pointer (some ⟨jb,0,none⟩),.agg #[.slice A1 nd.pre.length c1,.int .u64 (nd.val.toNat:Int),.slice A2 nd.labels.length c2,.slice A3 nd.kids.length c3,.int .i64 off,.int .u8 (lb.toNat:Int),.int .i64 word],.slice A rest.length c,.int .u64 (value.toNat:Int)] w (Ia (I4 j nd rest value) base jb x d p L G w):=by
 have hl:=I8 nd.pre rest;have hr:=EP nd.pre rest;by_cases hs:common nd.pre rest=nd.pre.length
 ·refine xH h nd A1 A2 A3 c1 c2 c3 off word lb rest A c value hN b1 b2 b3 hR hrc hrl hm hs ?_;rcases Nat.lt_or_ge (common nd.pre rest) rest.length with h1| h1
  ·exact h1
  ·exact absurd (Q8 _ _ hs (by omega)) hne
 ·have hs':common nd.pre rest<nd.pre.length:=by omega
  by_cases he:common nd.pre rest=rest.length
  ·exact grow_end h nd A1 A2 A3 c1 c2 c3 off word lb rest A c value hN b1 b2 b3 hR hrc hrl hm hs' he
  ·have hlt:common nd.pre rest<rest.length:=by omega
   by_cases her:(DT j {nd with pre:=nd.pre.drop (common nd.pre rest+1)}).2.2=0
   ·cases hok:JS ⟨nd.pre.take (common nd.pre rest),0,[],[]⟩ (nd.pre.getD (common nd.pre rest) 0) (DT j {nd with pre:=nd.pre.drop (common nd.pre rest+1)}).2.1
    ·exact Aev h nd A1 A2 A3 c1 c2 c3 off word lb rest A c value hN b1 b2 b3 hR hrc hrl hm hs' hlt her hok
    ·exact Abm h nd A1 A2 A3 c1 c2 c3 off word lb rest A c value hN b1 b2 b3 hR hrc hrl hm hs' hlt her hok
   ·exact Abl h nd A1 A2 A3 c1 c2 c3 off word lb rest A c value hN b1 b2 b3 hR hrc hrl hm hs' hlt her
end
theorem FU.done{w W w':World}{base jb x d p L:Nat}{j:Jb}{F G G':Nat->Prop}(h:FU w' base jb x d p L j G')(m:AB G G' W w')(hb:Below w.heap.size w W)(hG:∀b,G b->F b\/w.heap.size<=b):∃F',Ix w' x d p L j.s F'/\AB F F' w w':=by
 obtain⟨F',v,hj,hG'⟩:=h;have hs:=hb.size;refine⟨F',hj.ix,(Touch.of_below hb).trans m.touch hG,fun b hb'=> ?_⟩;rcases m.own b ((hG' b).2 (.inl hb'))with h1| h1
 ·exact hG b h1
 ·exact .inr (by omega)
theorem eF{w W:World}{x d p L:Nat}{s:St}{F:Nat->Prop}(h:Ix W x d p L s F)(hw:W=w.alloc (.cells #[.pointer (some ⟨x,0,none⟩),.slice none 0 0] 235))(hF:∀b,F b->b<w.heap.size)(hx:x<w.heap.size)(ht:0<w.heap.size/\1<w.heap.size):
 FU W w.heap.size w.heap.size x d p L ⟨s,[]⟩ (fun b=>F b\/b=w.heap.size):=by
 have e1:(Value.slice none 0 0).ownBlock=none:=rfl;have row:W.ownsRow w.heap.size 3 1 (.slice none 0 0) 0 []:=World.ownsRow_nil _ _ _ _;have box:BI W w.heap.size 235 [.pointer (some ⟨x,0,none⟩),.slice none 0 0]:=hw▸heap_alloc_new _ _;have fj:¬F w.heap.size:=fun hf=>Nat.lt_irrefl _ (hF _ hf)
 refine⟨F,.slice none 0 0,⟨h,box,row,fj,Ae _,hx,ht,(by rw [e1];exact fun e=>nomatch e),fun b hb=>(by rw [e1]at hb;exact nomatch hb),fun o ho=>nomatch ho⟩,fun b=>⟨fun hb=>hb.elim .inl (fun e=> .inr (.inl e)),fun hb=> ?_⟩⟩;rcases hb with h1| h1| h1
 ·exact .inl h1
 ·exact .inr h1
 ·rw [e1]at h1;exact nomatch h1
def Jw(r:St×Int)(x d p L:Nat)(F:Nat->Prop)(w:World)(e:Ending)(w':World):Prop:=
 e= .returned (.int .i64 r.2)/\∃F',Ix w' x d p L r.1 F'/\AB F F' w w'
section
variable{w:World}{x d p L:Nat}{s:St}{F:Nat->Prop}
theorem PM(key:ByteArray):key.data.toList.length=key.size:=by rw [Array.length_toList];rfl
theorem UY(h:Ix w x d p L s F)(key:ByteArray)(hk:key.size<=1000)(value:UInt64)(hc:16<key.size\/value=0\/Gi s key.data.toList=none):
 Calls Tryz.prog 93 #[.pointer (some ⟨x,0,none⟩),.string key,.int .u64 (value.toNat:Int)] w (Jw (GX s key.data.toList value) x d p L F w):=by
 have HA:=Aa (JH h key (by omega));have HX:=Aa h;have hkl:=PM key;by_cases h1:16<key.size
 ·have HP:Hid (GX s key.data.toList value=(s,3)):=Aa (by unfold GX;rw [hkl,if_pos h1]);rw [if_pos h1]at HA;clear h hc h1 hkl;go_enter Tryz.func93,Tryz.ntmps93
  go_wp2_with fail
  refine HA.out.mono ?_;rintro e w1⟨rfl,rfl⟩;clear HA
  go_wp2_with fail
  go_ret;refine⟨by rw [HP.out];rfl,F,?_,AB.refl _ _⟩;rw [HP.out];exact HX.out
 ·rw [if_neg h1]at HA;by_cases h2:value=0
  ·have HP:Hid (GX s key.data.toList value=(s,2)):=Aa (by unfold GX;rw [hkl,if_neg h1,if_pos h2]);subst h2;clear h hc h1 hkl;go_enter Tryz.func93,Tryz.ntmps93
   go_wp2_with fail
   refine HA.out.mono ?_;rintro e w1⟨rfl,rfl⟩;clear HA
   go_wp2_with fail
   go_ret;refine⟨by rw [HP.out];rfl,F,?_,AB.refl _ _⟩;rw [HP.out];exact HX.out
  ·have hpn:=(hc.resolve_left h1).resolve_left h2;have HP:Hid (GX s key.data.toList value=(s,5)):=Aa (by unfold GX;rw [hkl,if_neg h1,if_neg h2,hpn]);have RU:=Aa (J7 h key hk);have Yc:=Aa hpn;have t1:((value.toNat:Int)==0)=false:=by
    rw [beq_eq_false_iff_ne];intro e;exact h2 (UInt64.toNat_inj.1 (by simp;omega))
   clear h hc h1 h2 hkl hpn;go_enter Tryz.func93,Tryz.ntmps93
   go_wp2_with fail
   refine HA.out.mono ?_;rintro e w1⟨rfl,rfl⟩;clear HA
   go_wp2_with fail
   refine RU.out.mono ?_;rintro e w1⟨hb1,hp1⟩;rw [Yc.out]at hp1;replace hp1:e= .returned (.tuple #[.slice none 0 0,.slice none 0 0,.int .i64 5]):=hp1;subst hp1;have HB:=Aa hb1;clear hb1 RU
   go_wp2_with fail
   go_ret;refine⟨by rw [HP.out];rfl,F,?_,AB.of_below HB.out⟩;rw [HP.out];exact HX.out.below HB.out
end
end Go.Proofs.YtjcppneoncpdbaaGreatDoor
