import Derived.Test.YtkimaejoeapmnaaGreatDoorH18
import Derived.Test.YtkimaejoeapmnaaGreatDoorH21
set_option linter.defProp false
set_option maxHeartbeats 32000000
set_option maxRecDepth 100000
open Go.Value renaming ownBlock->Bd
open Go.Lib renaming hid->Aa
open Nat renaming le_refl->Ad
open List renaming getElem?_eq_getElem->Af,map_drop->Xu,length_drop->AV
namespace Go.Proofs.YtkimaejoeapmnaaGreatDoor
open Go.RowKit
open Go.Proofs.Tryz
def iy(x:Nd)(label:UInt8)(kid:UInt64):Jo x label kid=WQ x label kid:=rfl
def Ac6{w W:World}{base g:Nat}{e:TypeId}{a0 a1 a2 a3:Value}(h:CS W g e [a0,a1,a2,a3])(hb:Below base w W)(hg:base<=g)(b0 b1 b2 b3:Value):
 ∃W',W'=(((W.setCell (Φ g) b0).setCell (Δ g 1) b1).setCell (Δ g 2) b2).setCell (Δ g 3) b3/\CS W' g e [b0,b1,b2,b3]/\Below base w W'/\Kept W W' (some g):=
 ⟨_,rfl,(((h.AZ 0 b0).AZ 1 b1).AZ 2 b2).AZ 3 b3,
   (((hb.setCell (p:=Φ g) hg b0).setCell (p:=Δ g 1) hg b1).setCell (p:=Δ g 2) hg b2).setCell (p:=Δ g 3) hg b3,
   (((Kept.AZ W g 0 b0).trans' (Kept.AZ _ g 1 b1)).trans' (Kept.AZ _ g 2 b2)).trans' (Kept.AZ _ g 3 b3)⟩
def KP{w w':World}{B g k n:Nat}{e:TypeId}{v:Value}{xs:List Value}(h:w.ownsRow B e k v n xs)(kp:Kept w w' (some g))(hg:g<B):w'.ownsRow B e k v n xs:=by
 refine EU h kp (.inl ?_);rcases h.2 with⟨h1,_⟩| ⟨g',cap,cur,h1,h2,_⟩
 ·subst h1;simp [Bd]
 ·subst h1;simp [Bd];omega
section
variable{w w':World}{base jb x d p L:Nat}{j:Jm}{G:Nat->Prop}
def I5.of_below{r:Jm×UInt64×Int}{W:World}(hb:η w W){e:Ending}(h:I5 r base jb x d p L G W e w'):I5 r base jb x d p L G w e w':=by
 obtain⟨h1,G',h2,h3⟩:=h;exact⟨h1,G',h2,(AP.of_below hb).trans h3⟩
def Tu(h:Gf w base jb x d p L j G)(nd:Nd)(A1 A2 A3:Option Addr)(c1 c2 c3:Nat)(label:UInt8)(kid:UInt64)(e:Int)(b1:nd.pre.length<=100)(b2:nd.labels.length<=100)(b3:nd.kids.length<=100)
 (h1:Bs w A1 nd.pre.length nd.pre)(h2:Bs w A2 nd.labels.length nd.labels)(h3:Ws w A3 nd.kids.length nd.kids)(hm:j.made.length<=1000):
 Calls prog 160 #[Az jb,.agg #[.slice A1 nd.pre.length c1,.int .u64 (nd.val.toNat:Int),.slice A2 nd.labels.length c2,.slice A3 nd.kids.length c3],.int .u8 (label.toNat:Int),.int .u64 (kid.toNat:Int),.int .i64 e] w (I5 (Hr j nd label kid e) base jb x d p L G w):=by
 obtain⟨W,hW,e0,e1,e2,e3,hb,hs⟩:=Afk w 212 (.slice A1 nd.pre.length c1) (.int .u64 (nd.val.toNat:Int)) (.slice A2 nd.labels.length c2) (.slice A3 nd.kids.length c3);have B0:CS W w.heap.size 212 [.slice A1 nd.pre.length c1,.int .u64 (nd.val.toNat:Int),.slice A2 nd.labels.length c2,.slice A3 nd.kids.length c3]:=hW▸heap_alloc_new _ _;have HW:=Aa hW;have HJ:=Aa h;have HB:=Aa hb;by_cases he:e=0
 ·subst he;have g1:=h1.below hb;have g2:=h2.below hb;have g3:=h3.below hb;clear h1 h2 h3 h hW hb;cases hok:WQ nd label kid with
  | false=>
    have HP:Hid (Hr j nd label kid 0=(j,0,5)):=Aa (by unfold Hr;rw [if_neg Θ,iy,hok];rfl);have HN:=Aa (Aao A1 A2 A3 nd.pre.length c1 nd.labels.length c2 nd.kids.length c3 nd label kid W O O O g1 g2 g3 hok);unfold OW at HN;clear hok g1 g2 g3;go_enter func160,ntmps160
    go_wp2_with fail
    rw [<-HW.out];clear HW;refine HN.out.mono ?_;rintro e w1⟨rfl,hb1⟩;have B1:=B0.ξ hb1;have HB1:=Aa (τ HB.out hb1);clear e0 e1 e2 e3 B0 hb1 HN;obtain⟨y0,y1,y2,y3,f0,f1,f2,f3⟩:=CG B1;have TV:=Aa B1;clear B1
    go_wp2_with fail
    go_ret2;refine⟨by rw [HP.out];rfl,G,?_,?_⟩
    ·rw [HP.out];obtain⟨W9,VW, -,au, -⟩:=Ac6 TV.out HB1.out (Ad _) (.slice none 0 0) (.int .u64 0) (.slice none 0 0) (.slice none 0 0);rw [<-VW];exact HJ.out.below au
    ·obtain⟨W9,VW, -,au, -⟩:=Ac6 TV.out HB1.out (Ad _) (.slice none 0 0) (.int .u64 0) (.slice none 0 0) (.slice none 0 0);rw [<-VW];exact AP.of_below au
  | true=>
    have dD:=hok;have HP:Hid (Hr j nd label kid 0=Ei j (MP nd label kid)):=Aa (by unfold Hr;rw [if_neg Θ,iy,hok];rfl);have HN:=Aa (qO A1 A2 A3 nd.pre.length c1 nd.labels.length c2 nd.kids.length c3 nd label kid W O O O g1 g2 g3 hok);have hbl:(MP nd label kid).pre.length<=1000/\(MP nd label kid).labels.length<=1000/\(MP nd label kid).kids.length<=1000:=by
     unfold MP ins;simp;omega
    generalize MP nd label kid=WR at*;clear hok g1 g2 g3;go_enter func160,ntmps160
    go_wp2_with fail
    rw [<-HW.out];clear HW;refine HN.out.mono ?_;rintro e w1⟨⟨A1',c1',A2',c2',A3',c3',rfl,q1,q2,q3⟩,hb1⟩;have B1:=B0.ξ hb1;have HB1:=Aa (τ HB.out hb1);have Q:=Aa (And.intro q1 (And.intro q2 q3));clear e0 e1 e2 e3 B0 hb1 HN q1 q2 q3;obtain⟨y0,y1,y2,y3,f0,f1,f2,f3⟩:=CG B1;have TV:=Aa B1;clear B1
    go_wp2_with fail
    obtain⟨W9,VW,B9,au,k9⟩:=Ac6 TV.out HB1.out (Ad _) (.slice A1' WR.pre.length c1') (.int .u64 (WR.val.toNat:Int)) (.slice A2' WR.labels.length c2') (.slice A3' WR.kids.length c3');rw [<-VW];have HQ:=Aa (LK (HJ.out.below au) WR A1' A2' A3' c1' c2' c3' hbl.1 hbl.2.1 hbl.2.2 (CP (KP Q.out.1 k9 O)).2 (CP (KP Q.out.2.1 k9 O)).2 (CP (KP Q.out.2.2 k9 O)).2 hm);have xB:=Aa au;obtain⟨y0,y1,y2,y3,f0,f1,f2,f3⟩:=CG B9;clear au k9 B9 VW
    first
     | go_wp2_with fail
     | skip
    refine HQ.out.mono ?_;rintro e w10⟨rfl,Asr⟩;have HG:=Aa Asr;clear Asr
    go_wp2_with fail
    go_ret2;rw [HP.out];exact(I5.of_below xB.out ⟨rfl,HG.out⟩)
 ·have HP:Hid (Hr j nd label kid e=(j,0,e)):=Aa (by unfold Hr;rw [if_pos he]);have t1:(e !=0)=true:=by rw [bne_iff_ne];exact he
  clear h1 h2 h3 h hW hb he;go_enter func160,ntmps160
  go_wp2_with fail
  rw [<-HW.out];go_ret2;refine⟨by rw [HP.out];rfl,G,?_,AP.of_below HB.out⟩;rw [HP.out];exact HJ.out.below HB.out
end
section
variable{base jb x d p L:Nat}
def Hf{w:World}{G:Nat->Prop}{A:Option Addr}{l:List UInt8}(h:Ja w G A l.length (l.map bv))(k:Nat)(hk:k<l.length):∃b off,A=some (Δ b off)/\b<w.heap.size/\w.cell? (Δ b (off+k))=some (.int .u8 ((l.getD k 0).toNat:Int)):=by
 obtain⟨b,off,e,hb,hc⟩:=h.1.2 O;refine⟨b,off,e,hb,?_⟩;rw [hc k hk,List.getElem?_map,Af hk,List.getD_eq_getElem?_getD,Af hk];rfl
def VC:∀(f:Nat)(w:World)(j:Jm)(G:Nat->Prop)(l:List UInt8)(value:UInt64)(A:Option Addr)(c:Nat),Gf w base jb x d p L j G->Ja w G A l.length (l.map bv)->l.length<=c->l.length<f->l.length<=100->j.made.length+f<=1000->
 Calls prog 114 #[Az jb,.slice A l.length c,.int .u64 (value.toNat:Int)] w (I5 (Lh f j l value) base jb x d p L G w)
 | 0,w,j,G,l,value,A,c,h,hl,hc,hf,hle,hm=>absurd hf O
 | f+1,w,j,G,l,value,A,c,h,hl,hc,hf,hle,hm=>by
   by_cases h15:l.length<=15
   ·have HP:Hid (Lh (f+1) j l value=Ei j ⟨l,value,[],[]⟩):=Aa (by rw [Lh,if_pos h15]);have HB:=Aa (LK h ⟨l,value,[],[]⟩ A none none c 0 0 (by simp only;omega) Θ Θ hl.1 Rd.nil Rd.nil O);have t1:decide ((l.length:Int)<=15)=true:=decide_eq_true O;clear h hl;go_enter func114,ntmps114
    go_wp2_with fail
    refine HB.out.mono ?_;rintro e w1⟨rfl,hg⟩;have HG:=Aa hg;clear hg
    go_wp2_with fail
    go_ret2;rw [HP.out];exact⟨rfl,HG.out⟩
   ·have t1:decide ((l.length:Int)<=15)=false:=decide_eq_false O;obtain⟨b,off,rfl,hbw, -⟩:=Hf hl 15 O;have hcut:=hl.cut 16 O hc;rw [<-Xu,show l.length-16=(l.drop 16).length by simp]at hcut;have HL:=VC f w j G (l.drop 16) value _ (c-16) h hcut (by simp;omega) (by simp;omega) (by simp;omega) O;rw [show(l.drop 16).length=l.length-16 by simp]at HL;obtain⟨⟨j1,kid,er⟩,hr⟩:∃r,Lh f j (l.drop 16) value=r:=⟨_,rfl⟩;have hmd:=LG f j (l.drop 16) value;have HP:Hid (Lh (f+1) j l value=Hr j1 ⟨l.take 15,0,[],[]⟩ (l.getD 15 0) kid er):=Aa (by rw [Lh,if_neg h15,hr]);rw [hr]at HL hmd;simp only at hmd;have HL:Hid (∀P C,C=c-16->P=(if c=16 then some ((Δ b off):Addr)else some (Δ b (off+16)))->Calls prog 114 #[Az jb,.slice P (l.length-16) C,.int .u64 (value.toNat:Int)] w (I5 (j1,kid,er) base jb x d p L G w)):=Aa (λP C e1 e2=>by subst e1 e2;exact HL);have Hl:=Aa hl;clear h hl hcut hr;go_enter func114,ntmps114
    go_wp2_with fail
    all_goals(refine(HL.out _ _ O (by split<;>first| rfl| omega)).mono ?_)
    all_goals(rintro e w1⟨rfl,G1,hj1,hm1⟩)
    all_goals(clear HL)
    all_goals(have hl1:=Hl.out.moved hm1)
    all_goals(obtain⟨b',off',e',Ass,hck⟩:=Hf hl1 15 O)
    all_goals(injection e' with e';injection e' with e1 e2;subst e1 e2)
    all_goals(have hln:(l.take 15).length=15:=by simp;omega)
    all_goals(have hrd:Ja w1 G1 (some (Δ b off)) 15 ((l.take 15).map bv):=by have:=hl1.take 15 O;rwa [<-List.map_take]at this)
    all_goals(have hab:=λ(W:World)(hW:η w1 W)=>Tu (hj1.below hW) ⟨l.take 15,0,[],[]⟩ (some (Δ b off)) none none 15 0 0 (l.getD 15 0) kid er (by show(l.take 15).length<=100;omega) Θ Θ (by show Rd W _ (l.take 15).length _;rw [hln];exact(hrd.below hW).1) Rd.nil Rd.nil (by show j1.made.length<=1000;omega))
    all_goals(replace hab:=Aa hab)
    all_goals(rw [hln]at hab)
    all_goals(have zY:=Aa hm1)
    all_goals(generalize l.getD 15 0=lab at*)
    all_goals(generalize l.take 15=l15 at*)
    all_goals(clear hj1 hm1 hl1 HL hln hrd)
    all_goals(have hx1:(15:Int)<(l.length:Int):=O)
    all_goals(have hx2:decide ((15:Int)<(l.length:Int))=true:=decide_eq_true hx1)
    all_goals(have hx3:15<l.length:=O)
    all_goals(have hx4:15<=c:=O)
    all_goals(go_wp2_with fail)
    all_goals(go_region_with(go_at_call 160;go_loud(refine(hab.out _ ((Dr.drew w1).below _)).mono ?_;rintro e w2⟨rfl,hg2⟩)))
    all_goals(obtain⟨G2,q1,q2⟩:=hg2)
    all_goals(have HF:=Aa (And.intro q1 (zY.out.trans ((AP.of_below ((Dr.drew w1).below _)).trans q2))))
    all_goals(clear q1 q2)
    all_goals(go_wp2_with fail)
    all_goals(go_ret2)
    all_goals(rw [HP.out])
    all_goals(exact⟨rfl,G2,HF.out.1,HF.out.2⟩)
end
section
variable{base jb x d p L:Nat}
def ax.reads{w:World}{G:Nat->Prop}{A1 A2 A3:Option Addr}{n1 c1 n2 c2 n3 c3:Nat}{v:Value}{nd:Nd}(h:ax w G (.slice A1 n1 c1) v (.slice A2 n2 c2) (.slice A3 n3 c3) nd):
 Ja w G A1 nd.pre.length (nd.pre.map bv)/\Ja w G A2 nd.labels.length (nd.labels.map bv)/\Ja w G A3 nd.kids.length (nd.kids.map wv)/\nd.pre.length<=c1:=by
 obtain⟨_,_,_,_,_,_,e1,_,e3,e4,hc,q1,q2,q3⟩:=h;injection e1 with a1 a2 a3
 injection e3 with b1 b2 b3
 injection e4 with d1 d2 d3
 subst a1 a3 b1 d1;exact⟨q1,q2,q3,hc⟩
def Ja.rest{w:World}{G:Nat->Prop}{b off c k n:Nat}{l:List UInt8}(h:Ja w G (some (Δ b off)) n (l.map bv))(hn:n=l.length)(hk:k<=l.length)(hc:l.length<=c){P:Option Addr}(hP:P=(if c=k then some (Δ b off) else some (Δ b (off+k)))):
 Ja w G P (l.drop k).length ((l.drop k).map bv):=by
 subst hn hP;have:=h.cut k O hc;rw [Xu,AV];exact this
def Ac7{w:World}{j:Jm}{G:Nat->Prop}(h:Gf w base jb x d p L j G)(nd:Nd)(A1 A2 A3:Option Addr)(c1 c2 c3:Nat)(off word:Int)(lb:UInt8)(rest:List UInt8)(A:Option Addr)(c:Nat)(value:UInt64)
 (hN:ax w G (.slice A1 nd.pre.length c1) (.int .u64 (nd.val.toNat:Int)) (.slice A2 nd.labels.length c2) (.slice A3 nd.kids.length c3) nd)(b1:nd.pre.length<=100)(b2:nd.labels.length<=100)(b3:nd.kids.length<=100)
 (hR:Ja w G A rest.length (rest.map bv))(hrc:rest.length<=c)(hrl:rest.length<=100)(hm:j.made.length<=500)(hs:common nd.pre rest=nd.pre.length)(hlt:common nd.pre rest<rest.length):
 Calls prog 116 #[Az jb,.agg #[.slice A1 nd.pre.length c1,.int .u64 (nd.val.toNat:Int),.slice A2 nd.labels.length c2,.slice A3 nd.kids.length c3,.int .i64 off,.int .u8 (lb.toNat:Int),.int .i64 word],.slice A rest.length c,.int .u64 (value.toNat:Int)] w (I5 (J3 j nd rest value) base jb x d p L G w):=by
 have hb0:η w (w.alloc (.cells #[.slice A1 nd.pre.length c1,.int .u64 (nd.val.toNat:Int),.slice A2 nd.labels.length c2,.slice A3 nd.kids.length c3,.int .i64 off,.int .u8 (lb.toNat:Int),.int .i64 word] 214)):=(Below.refl _ _).alloc (Ad _) _;have B0:CS (w.alloc (.cells #[.slice A1 nd.pre.length c1,.int .u64 (nd.val.toNat:Int),.slice A2 nd.labels.length c2,.slice A3 nd.kids.length c3,.int .i64 off,.int .u8 (lb.toNat:Int),.int .i64 word] 214)) w.heap.size 214 [.slice A1 nd.pre.length c1,.int .u64 (nd.val.toNat:Int),.slice A2 nd.labels.length c2,.slice A3 nd.kids.length c3,.int .i64 off,.int .u8 (lb.toNat:Int),.int .i64 word]:=heap_alloc_new _ _;obtain⟨W0,hW0⟩:∃W0,W0=w.alloc (.cells #[.slice A1 nd.pre.length c1,.int .u64 (nd.val.toNat:Int),.slice A2 nd.labels.length c2,.slice A3 nd.kids.length c3,.int .i64 off,.int .u8 (lb.toNat:Int),.int .i64 word] 214):=⟨_,rfl⟩;rw [<-hW0]at hb0 B0;have HW:=Aa hW0;obtain⟨b,o,rfl,hbw, -⟩:=Hf hR _ hlt;obtain⟨k,hk⟩:∃k,k=common nd.pre rest:=⟨_,rfl⟩;rw [<-hk]at hs hlt;obtain⟨⟨j1,kid,er⟩,hr⟩:∃r,Lh (rest.length+1) j (rest.drop (k+1)) value=r:=⟨_,rfl⟩;have hmd:=LG (rest.length+1) j (rest.drop (k+1)) value;rw [hr]at hmd;simp only at hmd;have HP:Hid (J3 j nd rest value=Hr j1 nd (rest.getD k 0) kid er):=Aa (by rw [J3,<-hk,if_pos hs,hr]);have HL:=Aa (λ(W:World)(hW:η w W)(P:Option Addr)(C:Nat)(hC:C=c- (k+1))(hP:P=(if c=k+1 then some ((Δ b o):Addr)else some (Δ b (o+(k+1)))))=>VC (rest.length+1) W j G (rest.drop (k+1)) value P C (h.below hW) ((hR.below hW).rest rfl O hrc hP) (by rw [AV];omega) (by rw [AV];omega) (by rw [AV];omega) O);rw [hr,AV]at HL;have HC:=Aa (λ(W:World)(hW:η w W)=>Lt A1 (some (Δ b o)) nd.pre.length rest.length c1 c nd.pre rest W O O (hN.reads.1.below hW).1 (hR.below hW).1);rw [<-hk]at HC;have HN:=Aa hN;have HR:=Aa hR;have qE:=Aa h.lt;clear h hN hR hr hW0;have t1:((k:Int)==(nd.pre.length:Int))=true:=by rw [beq_iff_eq];omega
 have hw1:IntKind.i64.wrap ((k:Int)+1)=(k:Int)+1:=wrap64 _ O O;obtain⟨y0,y1,y2,y3,y4,y5,y6⟩:=EI B0;have Hs:=Aa hs;clear hk hs;go_enter func116,ntmps116
 go_wp2_with fail
 rw [<-HW.out];clear HW;refine(HC.out W0 hb0).mono ?_;rintro e w1⟨rfl,hd1⟩;have hb1:=τ hb0 (hd1.below W0.heap.size);have B1:=B0.ξ (hd1.below _);have HB1:=Aa hb1;have TV:=Aa B1;clear B0 hb0 hd1 y0 y1 y2 y3 y4 y5 y6 hb1;obtain⟨y0,y1,y2,y3,y4,y5,y6⟩:=EI B1;clear B1
 go_wp2_with fail
 all_goals(refine(HL.out w1 HB1.out _ _ O (by split<;>first| rfl| omega)).mono ?_)
 all_goals(rintro e w2⟨rfl,G2,hj2,hm2⟩)
 all_goals(have Vx:=Aa ((AP.of_below (F:=G) HB1.out).trans hm2))
 all_goals(have hrd:=HN.out.moved Vx.out)
 all_goals(obtain⟨r1,r2,r3, -⟩:=hrd.reads)
 all_goals(have hrr:=HR.out.moved Vx.out)
 all_goals(obtain⟨b',o',e',Ass,hck⟩:=Hf hrr k hlt)
 all_goals(injection e' with e';injection e' with e1 e2;subst e1 e2)
 all_goals(have hab:=λ(W:World)(hW:η w2 W)=>Tu (hj2.below hW) nd A1 A2 A3 c1 c2 c3 (rest.getD k 0) kid er b1 b2 b3 (r1.below hW).1 (r2.below hW).1 (r3.below hW).1 (by show j1.made.length<=1000;omega))
 all_goals(replace hab:=Aa hab)
 all_goals(have B2:=TV.out.touch hm2.touch (λhg=>Ω (qE.out _ hg)))
 all_goals(generalize rest.getD k 0=lab at*)
 all_goals(clear hj2 hm2 hrd r1 r2 r3 hrr HL Ass y0 y1 y2 y3 y4 y5 y6)
 all_goals(obtain⟨y0,y1,y2,y3,y4,y5,y6⟩:=EI B2)
 all_goals(clear B2)
 all_goals(have hx1:(k:Int)<(rest.length:Int):=O)
 all_goals(have hx2:decide ((k:Int)<(rest.length:Int))=true:=decide_eq_true hx1)
 all_goals(go_wp2_with fail)
 all_goals(go_region_with(go_at_call 160;go_loud(refine(hab.out _ ((Dr.drew w2).below _)).mono ?_;rintro e w3⟨rfl,G3,q1,q2⟩)))
 all_goals(have HF:=Aa (And.intro q1 (Vx.out.trans ((AP.of_below ((Dr.drew w2).below _)).trans q2))))
 all_goals(clear q1 q2)
 all_goals(go_wp2_with fail)
 all_goals(go_ret2)
 all_goals(rw [HP.out])
 all_goals(exact⟨rfl,G3,HF.out.1,HF.out.2⟩)
end
