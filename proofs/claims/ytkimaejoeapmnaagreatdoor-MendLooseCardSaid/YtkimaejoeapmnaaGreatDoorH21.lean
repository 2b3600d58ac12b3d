import Derived.Test.YtkimaejoeapmnaaGreatDoorH19
import Derived.Test.YtkimaejoeapmnaaGreatDoorH20
set_option linter.defProp false
set_option maxHeartbeats 32000000
set_option maxRecDepth 100000
open List renaming map_take->VT,map_drop->Xu
open Nat renaming le_refl->Ad
open Go.Lib renaming hid->Aa
open Go.World renaming setCell->D8
open Go.Value renaming slice->Ac,int->Au,ownBlock->Bd
namespace Go.Proofs.YtkimaejoeapmnaaGreatDoor
open Go.RowKit
open Go.Proofs.Tryz
def ins{α:Type}(xs:List α)(i:Nat)(u:α):List α:=xs.take i++u::xs.drop i
def del{α:Type}(xs:List α)(i:Nat):List α:=xs.take i++xs.drop (i+1)
def qM{α:Type}(f:α->Value)(xs:List α)(i:Nat)(u:α):Vl (xs.map f) i (f u)=(ins xs i u).map f:=by
 simp [Vl,ins,VT,Xu]
def qN{α:Type}(f:α->Value)(xs:List α)(i:Nat):jG (xs.map f) i=(del xs i).map f:=by
 simp [jG,del,VT,Xu]
def aI{α:Type}(xs:List α)(i:Nat)(u:α)(h:i<=xs.length):(ins xs i u).length=xs.length+1:=by simp [ins];omega
def aJ{α:Type}(xs:List α)(i:Nat)(h:i<xs.length):(del xs i).length=xs.length-1:=by simp [del];omega
def Qy{w:World}{base:Nat}{e:TypeId}{A:Option Addr}{c n:Nat}{xs:List Value}(h:w.ownsRow base e 1 (.slice A n c) n xs):∀a,A=some a->base<=a.block/\a.block<w.heap.size:=by
 intro a ha;subst ha;rcases h.2 with⟨h2,_⟩| ⟨g',cap,cur,hv,hB,hg,_⟩
 ·cases h2
 ·simp only [Value.slice.injEq,Option.some.injEq]at hv;obtain⟨rfl,_⟩:=hv;exact⟨hB,(Array.getElem?_eq_some_iff.1 hg).1⟩
def Tt{w w':World}{base B:Nat}{e:TypeId}{A:Option Addr}{c n:Nat}{xs:List Value}(h:w.ownsRow base e 1 (.slice A n c) n xs)(hB:∀a,A=some a->a.block<B)(hb:Below B w w'):w'.ownsRow base e 1 (.slice A n c) n xs:=by
 refine⟨h.1,?_⟩;rcases h.2 with h| ⟨g,cap,cur,h1,h2,h3,h4⟩
 ·exact .inl h
 ·refine .inr ⟨g,cap,cur,h1,h2,?_,h4⟩;injection h1 with h1
  exact(hb.block g (hB _ h1)).trans h3
def Ac5(x:Nd)(w:World)(e:Ending)(w':World):Prop:=
 ∃B A1 c1 A2 c2 A3 c3,e= .returned (.agg #[.slice A1 x.pre.length c1,.int .u64 (x.val.toNat:Int),.slice A2 x.labels.length c2,.slice A3 x.kids.length c3])/\w.heap.size<=B/\B<=w'.heap.size/\
  (w'.ownsRow w.heap.size 5 1 (.slice A1 x.pre.length c1) x.pre.length (x.pre.map bv)/\∀a,A1=some a->a.block<B)/\
  w'.ownsRow B 5 1 (.slice A2 x.labels.length c2) x.labels.length (x.labels.map bv)/\w'.ownsRow B 28 1 (.slice A3 x.kids.length c3) x.kids.length (x.kids.map wv)/\η w w'
def KO(w:World)(t:TypeId)(a b c d z0 z1 z2 z3:Value):∃W,W=(w.alloc (.cells #[a,b,c,d] t)).alloc (.cells #[z0,z1,z2,z3] t)/\CS W w.heap.size t [a,b,c,d]/\CS W (w.heap.size+1) t [z0,z1,z2,z3]/\
 η w W/\W.heap.size=w.heap.size+2:=by
 refine⟨_,rfl,?_,?_,((Below.refl _ _).alloc (Ad _) _).alloc Θ _,by simp⟩
 ·have:CS (w.alloc (.cells #[a,b,c,d] t)) w.heap.size t [a,b,c,d]:=heap_alloc_new w _;exact(Below.heap_alloc _ _ _ Θ).trans this
 ·have:CS ((w.alloc (.cells #[a,b,c,d] t)).alloc (.cells #[z0,z1,z2,z3] t)) (w.alloc (.cells #[a,b,c,d] t)).heap.size t [z0,z1,z2,z3]:=heap_alloc_new _ _;simpa using this
def aK(A1 A2 A3:Option Addr)(n1 c1 n2 c2 n3 c3:Nat)(x:Nd)(w:World)(b1:n1<=1000000)(b2:n2<=1000000)(b3:n3<=1000000)(h1:Bs w A1 n1 x.pre)(h2:Bs w A2 n2 x.labels)(h3:Ws w A3 n3 x.kids):
 Calls prog 185 #[.agg #[.slice A1 n1 c1,.int .u64 (x.val.toNat:Int),.slice A2 n2 c2,.slice A3 n3 c3]] w (Ac5 x w):=by
 have hl1:=h1.len;have hl2:=h2.len;have hl3:=h3.len;obtain⟨W,hW,B1,B2,hbW,hsW⟩:=KO w 212 (.slice A1 n1 c1) (.int .u64 (x.val.toNat:Int)) (.slice A2 n2 c2) (.slice A3 n3 c3) (.slice none 0 0) (.int .u64 0) (.slice none 0 0) (.slice none 0 0);have HW:=Aa hW;clear hW;obtain⟨y0,y1,y2,y3,f0,f1,f2,f3⟩:=blk4 B1;have hgw:w.heap.size<W.heap.size:=O
 go_enter func185,ntmps185
 go_wp2_with fail
 rw [<-HW.out];clear HW y0 y1 y2 y3 f0 f1 f2 f3;refine(Uk A1 n1 c1 x.pre W b1 (h1.below hbW)).mono ?_;rintro e w1⟨v1,rfl,o1,hb1⟩;obtain⟨A4,c4,rfl,_,_⟩:=CU o1;have q1:=Qy o1;have hs1:=hb1.size;replace B1:=B1.below hb1 O;replace B2:=B2.below hb1 O;have Gg:=τ hbW hb1;obtain⟨y0,y1,y2,y3,f0,f1,f2,f3⟩:=blk4 B1;clear hb1 hbW
 go_wp2_with fail
 clear y0 y1 y2 y3 f0 f1 f2 f3;replace B1:=B1.AZ 0 (.slice A4 n1 c4);replace B2:=B2.far (g':=w.heap.size) O 0 (.slice A4 n1 c4);replace o1:=AU o1 (g:=w.heap.size) O 0 (.slice A4 n1 c4);replace Gg:=Gg.setCell (p:=Φ w.heap.size) (Ad _) (.slice A4 n1 c4);have HQ:Hid (∀a,A4=some a->a.block<(w1.setCell (Φ w.heap.size) (.slice A4 n1 c4)).heap.size):=Aa (λa ha=>by have:=(q1 a ha).2;simpa [D8]using this);replace hs1:W.heap.size<=(w1.setCell (Φ w.heap.size) (.slice A4 n1 c4)).heap.size:=by simpa [D8]using hs1
 clear q1;generalize w1.setCell (Φ w.heap.size) (.slice A4 n1 c4)=W1 at*;refine(Uk A2 n2 c2 x.labels W1 b2 (h2.below Gg)).mono ?_;rintro e w2⟨v2,rfl,o2,hb2⟩;obtain⟨A5,c5,rfl,_,_⟩:=CU o2;have hs2:=hb2.size;replace B1:=B1.below hb2 O;replace B2:=B2.below hb2 O;replace o1:=own_below o1 hb2;have ED:=τ Gg hb2;obtain⟨y0,y1,y2,y3,f0,f1,f2,f3⟩:=blk4 B1;clear hb2 Gg
 go_wp2_with fail
 clear y0 y1 y2 y3 f0 f1 f2 f3;replace B1:=B1.AZ 2 (.slice A5 n2 c5);replace B2:=B2.far (g':=w.heap.size) O 2 (.slice A5 n2 c5);replace o1:=AU o1 (g:=w.heap.size) O 2 (.slice A5 n2 c5);replace o2:=AU o2 (g:=w.heap.size) O 2 (.slice A5 n2 c5);replace ED:=ED.setCell (p:=Δ w.heap.size 2) (Ad _) (.slice A5 n2 c5);replace hs2:W1.heap.size<=(w2.setCell (Δ w.heap.size 2) (.slice A5 n2 c5)).heap.size:=by simpa [D8]using hs2
 generalize w2.setCell (Δ w.heap.size 2) (.slice A5 n2 c5)=W2 at*;refine(Zk A3 n3 c3 x.kids W2 b3 (h3.below ED)).mono ?_;rintro e w3⟨v3,rfl,o3,hb3⟩;obtain⟨A6,c6,rfl,_,_⟩:=CU o3;have hs3:=hb3.size;replace B1:=B1.below hb3 O;replace B2:=B2.below hb3 O;replace o1:=own_below o1 hb3;replace o2:=own_below o2 hb3;have OO:=τ ED hb3;obtain⟨y0,y1,y2,y3,f0,f1,f2,f3⟩:=blk4 B1;obtain⟨z0,z1,z2,z3,k0,k1,k2,k3⟩:=blk4 B2;clear hb3 ED
 go_wp2_with fail
 clear y0 y1 y2 y3 f0 f1 f2 f3 z0 z1 z2 z3 k0 k1 k2 k3;have BF:=(((((B2.far (g':=w.heap.size) O 3 (Ac A6 n3 c6)).AZ 0 (Ac A4 n1 c4)).AZ 1 (Au .u64 (x.val.toNat:Int))).AZ 2 (Ac A5 n2 c5)).AZ 3 (Ac A6 n3 c6));have Ld:=(((((OO.setCell (p:=Δ w.heap.size 3) Θ (Ac A6 n3 c6)).setCell (p:=Φ (w.heap.size+1)) Θ (Ac A4 n1 c4)).setCell (p:=Δ (w.heap.size+1) 1) Θ (Au .u64 (x.val.toNat:Int))).setCell (p:=Δ (w.heap.size+1) 2) Θ (Ac A5 n2 c5)).setCell (p:=Δ (w.heap.size+1) 3) Θ (Ac A6 n3 c6));have S1:=(AU (AU (AU (AU (AU o1 (g:=w.heap.size) O 3 (Ac A6 n3 c6)) (g:=w.heap.size+1) O 0 (Ac A4 n1 c4)) (g:=w.heap.size+1) O 1 (Au .u64 (x.val.toNat:Int))) (g:=w.heap.size+1) O 2 (Ac A5 n2 c5)) (g:=w.heap.size+1) O 3 (Ac A6 n3 c6));have S2:=(AU (AU (AU (AU (AU o2 (g:=w.heap.size) O 3 (Ac A6 n3 c6)) (g:=w.heap.size+1) O 0 (Ac A4 n1 c4)) (g:=w.heap.size+1) O 1 (Au .u64 (x.val.toNat:Int))) (g:=w.heap.size+1) O 2 (Ac A5 n2 c5)) (g:=w.heap.size+1) O 3 (Ac A6 n3 c6));have S3:=(AU (AU (AU (AU (AU o3 (g:=w.heap.size) O 3 (Ac A6 n3 c6)) (g:=w.heap.size+1) O 0 (Ac A4 n1 c4)) (g:=w.heap.size+1) O 1 (Au .u64 (x.val.toNat:Int))) (g:=w.heap.size+1) O 2 (Ac A5 n2 c5)) (g:=w.heap.size+1) O 3 (Ac A6 n3 c6));have hsz:w3.heap.size=(((((w3.setCell (Δ w.heap.size 3) (Ac A6 n3 c6)).setCell (Φ (w.heap.size+1)) (Ac A4 n1 c4)).setCell (Δ (w.heap.size+1) 1) (Au .u64 (x.val.toNat:Int))).setCell (Δ (w.heap.size+1) 2) (Ac A5 n2 c5)).setCell (Δ (w.heap.size+1) 3) (Ac A6 n3 c6)).heap.size:=by simp [D8]
 rw [hsz]at hs3;generalize(((((w3.setCell (Δ w.heap.size 3) (Ac A6 n3 c6)).setCell (Φ (w.heap.size+1)) (Ac A4 n1 c4)).setCell (Δ (w.heap.size+1) 1) (Au .u64 (x.val.toNat:Int))).setCell (Δ (w.heap.size+1) 2) (Ac A5 n2 c5)).setCell (Δ (w.heap.size+1) 3) (Ac A6 n3 c6))=WF at*;obtain⟨p0,p1,p2,p3,_⟩:=blk4 BF;subst hl1 hl2 hl3;refine bodyPost_ret (v:= .agg #[(Ac A4 x.pre.length c4),(Au .u64 (x.val.toNat:Int)),(Ac A5 x.labels.length c5),(Ac A6 x.kids.length c6)]) (by simp [results,results185,go_sem,p0,p1,p2,p3]) rfl ?_;exact⟨W1.heap.size,A4,c4,A5,c5,A6,c6,rfl,O,O,⟨ES S1 O,HQ.out⟩,S2,ES S3 O,Ld⟩
def Asq(l:List UInt8)(x:UInt8):Bool:=l.any λy=>y.toNat==x.toNat
def WQ(x:Nd)(label:UInt8)(kid:UInt64):Bool:=C9 x&&decide (label.toNat<16)&& !(kid.toNat==0)&& !Asq x.labels label
def MP(x:Nd)(label:UInt8)(kid:UInt64):Nd:={pre:=x.pre,val:=x.val,labels:=ins x.labels (U3 x.labels label) label,kids:=ins x.kids (U3 x.labels label) kid}
def OW:Value:= .tuple #[.agg #[.slice none 0 0,.int .u64 0,.slice none 0 0,.slice none 0 0],.bool false]
def Aan(y:Nd)(base:Nat)(w':World)(e:Ending):Prop:=∃A1 c1 A2 c2 A3 c3,e= .returned (.tuple #[.agg #[.slice A1 y.pre.length c1,.int .u64 (y.val.toNat:Int),.slice A2 y.labels.length c2,.slice A3 y.kids.length c3],.bool true])/\
 w'.ownsRow base 5 1 (.slice A1 y.pre.length c1) y.pre.length (y.pre.map bv)/\w'.ownsRow base 5 1 (.slice A2 y.labels.length c2) y.labels.length (y.labels.map bv)/\w'.ownsRow base 28 1 (.slice A3 y.kids.length c3) y.kids.length (y.kids.map wv)
def iw{l:List UInt8}(h:DW l=true):∀a b(ha:a<l.length)(hb:b<l.length),a<b->l[a].toNat<l[b].toNat:=by
 rw [Ho]at h;intro a b ha hb hab;obtain⟨d,rfl⟩:∃d,b=a+1+d:=⟨b- (a+1),O⟩;clear hab;induction d with
 | zero=>exact h a hb
 | succ d ih=>exact Nat.lt_trans (ih O) (h (a+1+d) hb)
def Aao(A1 A2 A3:Option Addr)(n1 c1 n2 c2 n3 c3:Nat)(x:Nd)(label:UInt8)(kid:UInt64)(w:World)(b1:n1<=1000000)(b2:n2<=1000000)(b3:n3<=1000000)(h1:Bs w A1 n1 x.pre)(h2:Bs w A2 n2 x.labels)(h3:Ws w A3 n3 x.kids)(hno:WQ x label kid=false):
 Calls prog 161 #[.agg #[.slice A1 n1 c1,.int .u64 (x.val.toNat:Int),.slice A2 n2 c2,.slice A3 n3 c3],.int .u8 (label.toNat:Int),.int .u64 (kid.toNat:Int)] w λe w'=>e= .returned OW/\η w w':=by
 obtain⟨W,hW,B1,B2,hbW,hsW⟩:=KO w 212 (.slice A1 n1 c1) (.int .u64 (x.val.toNat:Int)) (.slice A2 n2 c2) (.slice A3 n3 c3) (.slice none 0 0) (.int .u64 0) (.slice none 0 0) (.slice none 0 0);have HW:=Aa hW;clear hW;obtain⟨y0,y1,y2,y3,f0,f1,f2,f3⟩:=blk4 B1;have hgw:w.heap.size<W.heap.size:=O
 have HNO:=Aa hno;clear hno;have hlb:label.toNat<256:=label.toNat_lt;go_enter func161,ntmps161
 go_wp2_with fail
 rw [<-HW.out];clear HW;refine(L6 A1 A2 A3 n1 c1 n2 c2 n3 c3 x W b1 b2 b3 (h1.below hbW) (h2.below hbW) (h3.below hbW)).mono ?_;rintro e w1⟨rfl,hb1⟩;clear y0 y1 y2 y3 f0 f1 f2 f3;replace B1:=B1.below hb1 O;replace B2:=B2.below hb1 O;have Gg:=τ hbW hb1;replace h2:=h2.below Gg;clear hb1 hbW;obtain⟨y0,y1,y2,y3,f0,f1,f2,f3⟩:=blk4 B1;obtain⟨z0,z1,z2,z3,k0,k1,k2,k3⟩:=blk4 B2;cases hR:C9 x
 case' true=>
  by_cases h16:label.toNat<16
  case' neg=>
   have t1:decide ((16:Int)<=(label.toNat:Int))=true:=by simp;omega
   clear hR
   go_wp2_with fail
  case' pos=>
   have t1:decide ((16:Int)<=(label.toNat:Int))=false:=by simp;omega
   by_cases hk:kid.toNat=0
   case' pos=>
    have t2:((kid.toNat:Int)==0)=true:=by rw [hk];rfl
    clear hR hk
    go_wp2_with fail
   case' neg=>
    have t2:((kid.toNat:Int)==0)=false:=by rw [beq_eq_false_iff_ne];omega
    have hs:=XI A2 n2 c2 x.labels label w1 b2 h2 (iw ((Bq x).1 hR).2.2.2.2.1);have hh:(x.labels.any λy=>y.toNat==label.toNat)=true:=by
     have:=HNO.out;unfold WQ Asq at this;rw [hR]at this;cases hq:(x.labels.any λy=>y.toNat==label.toNat)with
     | true=>rfl
     | false=>rw [hq]at this;simp [h16]at this;exact absurd this hk
    rw [hh]at hs;have HS:=Aa hs;clear hs hh hk hR
    go_wp2_with fail
    refine HS.out.mono ?_;rintro e w'⟨rfl,rfl⟩;clear HS
    go_wp2_with fail
 case' false=>
  clear hR
  go_wp2_with fail
 all_goals
  have BF:=((((B2.AZ 0 (Ac none 0 0)).AZ 1 (Au .u64 0)).AZ 2 (Ac none 0 0)).AZ 3 (Ac none 0 0));have Ld:=(((Gg.setCell (p:=Φ (w.heap.size+1)) Θ (Ac none 0 0)).setCell (p:=Δ (w.heap.size+1) 1) Θ (Au .u64 0)).setCell (p:=Δ (w.heap.size+1) 2) Θ (Ac none 0 0)).setCell (p:=Δ (w.heap.size+1) 3) Θ (Ac none 0 0);generalize(((w1.setCell (Φ (w.heap.size+1)) (Ac none 0 0)).setCell (Δ (w.heap.size+1) 1) (Au .u64 0)).setCell (Δ (w.heap.size+1) 2) (Ac none 0 0)).setCell (Δ (w.heap.size+1) 3) (Ac none 0 0)=WF at*;obtain⟨p0,p1,p2,p3,_⟩:=blk4 BF;exact bodyPost_ret (v:=OW) (by unfold OW;simp [results,results161,go_sem,p0,p1,p2,p3]) rfl ⟨rfl,Ld⟩
def qO(A1 A2 A3:Option Addr)(n1 c1 n2 c2 n3 c3:Nat)(x:Nd)(label:UInt8)(kid:UInt64)(w:World)(b1:n1<=1000)(_:n2<=1000)(b3:n3<=1000)(h1:Bs w A1 n1 x.pre)(h2:Bs w A2 n2 x.labels)(h3:Ws w A3 n3 x.kids)(hok:WQ x label kid=true):
 Calls prog 161 #[.agg #[.slice A1 n1 c1,.int .u64 (x.val.toNat:Int),.slice A2 n2 c2,.slice A3 n3 c3],.int .u8 (label.toNat:Int),.int .u64 (kid.toNat:Int)] w λe w'=>Aan (MP x label kid) (w.heap.size+2) w' e/\η w w':=by
 obtain⟨W,hW,B1,B2,hbW,hsW⟩:=KO w 212 (.slice A1 n1 c1) (.int .u64 (x.val.toNat:Int)) (.slice A2 n2 c2) (.slice A3 n3 c3) (.slice none 0 0) (.int .u64 0) (.slice none 0 0) (.slice none 0 0);have HW:=Aa hW;clear hW;have hl1:=h1.len;have hl2:=h2.len;have hl3:=h3.len;obtain⟨y0,y1,y2,y3,f0,f1,f2,f3⟩:=blk4 B1;have hgw:w.heap.size<W.heap.size:=O
 have hlb:label.toNat<256:=label.toNat_lt;simp only [WQ,Bool.and_eq_true,decide_eq_true_eq,Bool.not_eq_true']at hok;obtain⟨⟨⟨hR,h16⟩,hk⟩,hh⟩:=hok;have hR':=(Bq x).1 hR;have t1:decide ((16:Int)<=(label.toNat:Int))=false:=by simp;omega
 have t2:((kid.toNat:Int)==0)=false:=by rw [beq_eq_false_iff_ne];rw [beq_eq_false_iff_ne]at hk;omega
 have dD:=L6 A1 A2 A3 n1 c1 n2 c2 n3 c3 x W O O O (h1.below hbW) (h2.below hbW) (h3.below hbW);rw [hR]at dD;have zL:=Aa dD;have HRS:=Aa (iw hR'.2.2.2.2.1);have hpl:=Ac4 x.labels label;have hlk:=hR'.2.2.1;clear hR hR' dD hk;go_enter func161,ntmps161
 go_wp2_with fail
 rw [<-HW.out];clear HW;refine zL.out.mono ?_;rintro e w1⟨rfl,hb1⟩;clear y0 y1 y2 y3 f0 f1 f2 f3 zL;replace B1:=B1.below hb1 O;replace B2:=B2.below hb1 O;have Gg:=τ hbW hb1;have Avk:w.heap.size+2<=w1.heap.size:=Ω hb1.size
 replace h1:=h1.below Gg;replace h2:=h2.below Gg;replace h3:=h3.below Gg;have hs:=XI A2 n2 c2 x.labels label w1 O h2 HRS.out;have hh':(x.labels.any λy=>y.toNat==label.toNat)=false:=hh;rw [hh']at hs;have HS:=Aa hs;generalize hp:U3 x.labels label=p at*;have HP:=Aa hp;clear hb1 hbW hh' hh hs hp HRS;obtain⟨y0,y1,y2,y3,f0,f1,f2,f3⟩:=blk4 B1
 go_wp2_with fail
 refine HS.out.mono ?_;rintro e w'⟨rfl,rfl⟩;clear HS
 go_wp2_with fail
 have hcn:=aK A1 A2 A3 n1 c1 n2 c2 n3 c3 x w1 O O O h1 h2 h3;refine hcn.mono ?_;rintro e w2⟨B,A4,c4,A5,c5,A6,c6,rfl,hB1,hB2,⟨o1,hq1⟩,o2,o3,hb2⟩;clear y0 y1 y2 y3 f0 f1 f2 f3 hcn h1 h2 h3 t1 t2;replace B1:=B1.below hb2 O;replace B2:=B2.below hb2 O;have ED:=τ Gg hb2;have HQ1:=Aa hq1;clear hb2 Gg hq1;obtain⟨y0,y1,y2,y3,f0,f1,f2,f3⟩:=blk4 B1
 go_wp2_with fail
 clear y0 y1 y2 y3 f0 f1 f2 f3;rw [hl1]at o1;rw [hl2]at o2;rw [hl3]at o3;have hsz:((((w2.setCell (Φ w.heap.size) (Ac A4 n1 c4)).setCell (Δ w.heap.size 1) (Au .u64 (x.val.toNat:Int))).setCell (Δ w.heap.size 2) (Ac A5 n2 c5)).setCell (Δ w.heap.size 3) (Ac A6 n3 c6)).heap.size=w2.heap.size:=by simp [D8]
 replace B1:=((((B1.AZ 0 (Ac A4 n1 c4)).AZ 1 (Au .u64 (x.val.toNat:Int))).AZ 2 (Ac A5 n2 c5)).AZ 3 (Ac A6 n3 c6));replace B2:=((((B2.far (g':=w.heap.size) O 0 (Ac A4 n1 c4)).far (g':=w.heap.size) O 1 (Au .u64 (x.val.toNat:Int))).far (g':=w.heap.size) O 2 (Ac A5 n2 c5)).far (g':=w.heap.size) O 3 (Ac A6 n3 c6));replace o1:=(AU (AU (AU (AU o1 (g:=w.heap.size) O 0 (Ac A4 n1 c4)) (g:=w.heap.size) O 1 (Au .u64 (x.val.toNat:Int))) (g:=w.heap.size) O 2 (Ac A5 n2 c5)) (g:=w.heap.size) O 3 (Ac A6 n3 c6));replace o2:=(AU (AU (AU (AU o2 (g:=w.heap.size) O 0 (Ac A4 n1 c4)) (g:=w.heap.size) O 1 (Au .u64 (x.val.toNat:Int))) (g:=w.heap.size) O 2 (Ac A5 n2 c5)) (g:=w.heap.size) O 3 (Ac A6 n3 c6));replace o3:=(AU (AU (AU (AU o3 (g:=w.heap.size) O 0 (Ac A4 n1 c4)) (g:=w.heap.size) O 1 (Au .u64 (x.val.toNat:Int))) (g:=w.heap.size) O 2 (Ac A5 n2 c5)) (g:=w.heap.size) O 3 (Ac A6 n3 c6));replace ED:=((((ED.setCell (p:=Φ w.heap.size) Θ (Ac A4 n1 c4)).setCell (p:=Δ w.heap.size 1) Θ (Au .u64 (x.val.toNat:Int))).setCell (p:=Δ w.heap.size 2) Θ (Ac A5 n2 c5)).setCell (p:=Δ w.heap.size 3) Θ (Ac A6 n3 c6));generalize((((w2.setCell (Φ w.heap.size) (Ac A4 n1 c4)).setCell (Δ w.heap.size 1) (Au .u64 (x.val.toNat:Int))).setCell (Δ w.heap.size 2) (Ac A5 n2 c5)).setCell (Δ w.heap.size 3) (Ac A6 n3 c6))=W2 at*;rw [<-hsz]at hB2⊢;have Gn:η W2 (W2.alloc (.cells #[Au .u8 (label.toNat:Int)] 5)):=(Below.refl _ _).alloc (Ad _) _;have L1:CS (W2.alloc (.cells #[Au .u8 (label.toNat:Int)] 5)) W2.heap.size 5 [bv label]:=heap_alloc_new W2 _;have Axm:(W2.alloc (.cells #[Au .u8 (label.toNat:Int)] 5)).heap.size=W2.heap.size+1:=by simp
 have q2:=Qy o2;replace B1:=B1.ξ Gn;replace B2:=B2.ξ Gn;replace o1:=own_below o1 Gn;replace o2:=own_below o2 Gn;replace o3:=own_below o3 Gn;replace ED:=τ ED Gn;clear Gn;generalize W2.alloc (.cells #[Au .u8 (label.toNat:Int)] 5)=W3 at*;have hin:=qH (.slice A5 n2 c5) n2 p W2.heap.size (x.labels.map bv) (bv label) W3 B o2 O O O (by
  cases A5 with
  | none=>simp [Bd]
  | some a=>have:=(q2 a rfl).2;simp [Bd];omega) L1 (Hm _) rfl
 rw [qM]at hin;have HIN:=Aa hin;clear hin q2;refine HIN.out.mono ?_;rintro e w4⟨v7,rfl,o7,hb4,k4⟩;obtain⟨A7,c7,rfl,_,_⟩:=CU o7;clear HIN;have hap:=NJ o2 o3 U;have hs4:=hb4.size;replace B1:=B1.below hb4 O;replace B2:=B2.below hb4 O;replace o1:=Tt o1 HQ1.out hb4;replace o3:=NU o3 k4 (λg hg e=>hap g e hg);replace ED:=ED.trans (hb4.mono O);clear hap o2 k4 hb4 L1;obtain⟨y0,y1,y2,y3,f0,f1,f2,f3⟩:=blk4 B1
 go_wp2_with fail
 clear y0 y1 y2 y3 f0 f1 f2 f3;have oH:(w4.setCell (Δ w.heap.size 2) (Ac A7 (n2+1) c7)).heap.size=w4.heap.size:=by simp [D8]
 replace B1:=(B1.AZ 2 (Ac A7 (n2+1) c7));replace B2:=(B2.far (g':=w.heap.size) O 2 (Ac A7 (n2+1) c7));replace o1:=(AU o1 (g:=w.heap.size) O 2 (Ac A7 (n2+1) c7));replace o7:=(AU o7 (g:=w.heap.size) O 2 (Ac A7 (n2+1) c7));replace o3:=(AU o3 (g:=w.heap.size) O 2 (Ac A7 (n2+1) c7));replace ED:=(ED.setCell (p:=Δ w.heap.size 2) Θ (Ac A7 (n2+1) c7));generalize(w4.setCell (Δ w.heap.size 2) (Ac A7 (n2+1) c7))=W4 at*;rw [<-oH]at hs4⊢;have OX:η W4 (W4.alloc (.cells #[Au .u64 (kid.toNat:Int)] 28)):=(Below.refl _ _).alloc (Ad _) _;have L2:CS (W4.alloc (.cells #[Au .u64 (kid.toNat:Int)] 28)) W4.heap.size 28 [wv kid]:=heap_alloc_new W4 _;have Axn:(W4.alloc (.cells #[Au .u64 (kid.toNat:Int)] 28)).heap.size=W4.heap.size+1:=by simp
 have q3:=Qy o3;replace B1:=B1.ξ OX;replace B2:=B2.ξ OX;replace o1:=own_below o1 OX;replace o7:=own_below o7 OX;replace o3:=own_below o3 OX;replace ED:=τ ED OX;clear OX;generalize W4.alloc (.cells #[Au .u64 (kid.toNat:Int)] 28)=W5 at*;have hin:=qI (.slice A6 n3 c6) n3 p W4.heap.size (x.kids.map wv) (wv kid) W5 B o3 O O O (by
  cases A6 with
  | none=>simp [Bd]
  | some a=>have:=(q3 a rfl).2;simp [Bd];omega) L2 (PW _) rfl
 rw [qM]at hin;have HIN:=Aa hin;clear hin q3;refine HIN.out.mono ?_;rintro e w6⟨v8,rfl,o8,hb6,k6⟩;obtain⟨A8,c8,rfl,_,_⟩:=CU o8;clear HIN;have hap:=NJ o3 o7 U;have hs6:=hb6.size;replace B1:=B1.below hb6 O;replace B2:=B2.below hb6 O;replace o1:=Tt o1 HQ1.out hb6;replace o7:=NU o7 k6 (λg hg e=>hap g e hg);replace ED:=ED.trans (hb6.mono O);clear hap o3 k6 hb6 L2;obtain⟨y0,y1,y2,y3,f0,f1,f2,f3⟩:=blk4 B1;obtain⟨z0,z1,z2,z3,k0,k1,k2,k3⟩:=blk4 B2
 go_wp2_with fail
 clear y0 y1 y2 y3 f0 f1 f2 f3 z0 z1 z2 z3 k0 k1 k2 k3;have BF:=(((((B2.far (g':=w.heap.size) O 3 (Ac A8 (n3+1) c8)).AZ 0 (Ac A4 n1 c4)).AZ 1 (Au .u64 (x.val.toNat:Int))).AZ 2 (Ac A7 (n2+1) c7)).AZ 3 (Ac A8 (n3+1) c8));have Ld:=(((((ED.setCell (p:=Δ w.heap.size 3) Θ (Ac A8 (n3+1) c8)).setCell (p:=Φ (w.heap.size+1)) Θ (Ac A4 n1 c4)).setCell (p:=Δ (w.heap.size+1) 1) Θ (Au .u64 (x.val.toNat:Int))).setCell (p:=Δ (w.heap.size+1) 2) Θ (Ac A7 (n2+1) c7)).setCell (p:=Δ (w.heap.size+1) 3) Θ (Ac A8 (n3+1) c8));have S1:=ES (base':=w.heap.size+2) (AU (AU (AU (AU (AU o1 (g:=w.heap.size) O 3 (Ac A8 (n3+1) c8)) (g:=w.heap.size+1) O 0 (Ac A4 n1 c4)) (g:=w.heap.size+1) O 1 (Au .u64 (x.val.toNat:Int))) (g:=w.heap.size+1) O 2 (Ac A7 (n2+1) c7)) (g:=w.heap.size+1) O 3 (Ac A8 (n3+1) c8)) O;have S2:=ES (base':=w.heap.size+2) (AU (AU (AU (AU (AU o7 (g:=w.heap.size) O 3 (Ac A8 (n3+1) c8)) (g:=w.heap.size+1) O 0 (Ac A4 n1 c4)) (g:=w.heap.size+1) O 1 (Au .u64 (x.val.toNat:Int))) (g:=w.heap.size+1) O 2 (Ac A7 (n2+1) c7)) (g:=w.heap.size+1) O 3 (Ac A8 (n3+1) c8)) O;have S3:=ES (base':=w.heap.size+2) (AU (AU (AU (AU (AU o8 (g:=w.heap.size) O 3 (Ac A8 (n3+1) c8)) (g:=w.heap.size+1) O 0 (Ac A4 n1 c4)) (g:=w.heap.size+1) O 1 (Au .u64 (x.val.toNat:Int))) (g:=w.heap.size+1) O 2 (Ac A7 (n2+1) c7)) (g:=w.heap.size+1) O 3 (Ac A8 (n3+1) c8)) O;generalize(((((w6.setCell (Δ w.heap.size 3) (Ac A8 (n3+1) c8)).setCell (Φ (w.heap.size+1)) (Ac A4 n1 c4)).setCell (Δ (w.heap.size+1) 1) (Au .u64 (x.val.toNat:Int))).setCell (Δ (w.heap.size+1) 2) (Ac A7 (n2+1) c7)).setCell (Δ (w.heap.size+1) 3) (Ac A8 (n3+1) c8))=WF at*;obtain⟨p0,p1,p2,p3,_⟩:=blk4 BF;have e2:(ins x.labels p label).length=n2+1:=by rw [aI _ _ _ O];omega
 have e3:(ins x.kids p kid).length=n3+1:=by rw [aI _ _ _ O];omega
 refine bodyPost_ret (v:= .tuple #[.agg #[(Ac A4 n1 c4),(Au .u64 (x.val.toNat:Int)),Ac A7 (n2+1) c7,Ac A8 (n3+1) c8],.bool true]) (by simp [results,results161,go_sem,p0,p1,p2,p3]) rfl ?_;refine⟨⟨A4,c4,A7,c7,A8,c8,?_,?_,?_,?_⟩,Ld⟩
 ·simp only [MP,HP.out,e2,e3,hl1]
 ·simp only [MP,hl1];exact S1
 ·simp only [MP,HP.out,e2];exact S2
 ·simp only [MP,HP.out,e3];exact S3
def Aap(l:List UInt8)(x:UInt8):Option Nat:=l.findIdx? λy=>y.toNat==x.toNat
def Ag6(x:Nd)(i:Nat):Nd:={pre:=x.pre,val:=x.val,labels:=del x.labels i,kids:=del x.kids i}
def yj(A1 A2 A3:Option Addr)(n1 c1 n2 c2 n3 c3:Nat)(x:Nd)(label:UInt8)(w:World)(b1:n1<=1000000)(b2:n2<=1000000)(b3:n3<=1000000)(h1:Bs w A1 n1 x.pre)(h2:Bs w A2 n2 x.labels)(h3:Ws w A3 n3 x.kids)(hno:Aap x.labels label=none\/C9 x=false):
 Calls prog 158 #[.agg #[.slice A1 n1 c1,.int .u64 (x.val.toNat:Int),.slice A2 n2 c2,.slice A3 n3 c3],.int .u8 (label.toNat:Int)] w λe w'=>e= .returned OW/\η w w':=by
 obtain⟨W,hW,B1,B2,hbW,hsW⟩:=KO w 212 (.slice A1 n1 c1) (.int .u64 (x.val.toNat:Int)) (.slice A2 n2 c2) (.slice A3 n3 c3) (.slice none 0 0) (.int .u64 0) (.slice none 0 0) (.slice none 0 0);have HW:=Aa hW;clear hW;obtain⟨y0,y1,y2,y3,f0,f1,f2,f3⟩:=blk4 B1;obtain⟨z0,z1,z2,z3,k0,k1,k2,k3⟩:=blk4 B2;have hgw:w.heap.size<W.heap.size:=O
 have hix:=Ul A2 n2 c2 x.labels label W O (h2.below hbW);have HIX:=Aa hix;clear hix;cases hf:Aap x.labels label with
 | none=>
   have hpl:placeOf (λy=>y.toNat==label.toNat) x.labels= -1:=by rw [placeOf,show x.labels.findIdx? _=none from hf]
   have HPL:=Aa hpl;clear hpl hf hno;go_enter func158,ntmps158
   go_wp2_with fail
   rw [<-HW.out];refine HIX.out.mono ?_;rintro e w'⟨rfl,rfl⟩;rw [HPL.out]
   go_wp2_with fail
   have BF:=((((B2.AZ 0 (Ac none 0 0)).AZ 1 (Au .u64 0)).AZ 2 (Ac none 0 0)).AZ 3 (Ac none 0 0));have Ld:=(((hbW.setCell (p:=Φ (w.heap.size+1)) Θ (Ac none 0 0)).setCell (p:=Δ (w.heap.size+1) 1) Θ (Au .u64 0)).setCell (p:=Δ (w.heap.size+1) 2) Θ (Ac none 0 0)).setCell (p:=Δ (w.heap.size+1) 3) Θ (Ac none 0 0);generalize(((W.setCell (Φ (w.heap.size+1)) (Ac none 0 0)).setCell (Δ (w.heap.size+1) 1) (Au .u64 0)).setCell (Δ (w.heap.size+1) 2) (Ac none 0 0)).setCell (Δ (w.heap.size+1) 3) (Ac none 0 0)=WF at*;obtain⟨p0,p1,p2,p3,_⟩:=blk4 BF;exact bodyPost_ret (v:=OW) (by unfold OW;simp [results,results158,go_sem,p0,p1,p2,p3]) rfl ⟨rfl,Ld⟩
 | some i=>
   have hR:C9 x=false:=by
    rcases hno with h| h
    ·rw [hf]at h;cases h
    ·exact h
   have hpl:placeOf (λy=>y.toNat==label.toNat) x.labels=(i:Int):=by rw [placeOf,show x.labels.findIdx? _=some i from hf]
   have HPL:=Aa hpl;have hi0:decide ((i:Int)<0)=false:=by simp
   have dD:=L6 A1 A2 A3 n1 c1 n2 c2 n3 c3 x W O O O (h1.below hbW) (h2.below hbW) (h3.below hbW);rw [hR]at dD;have zL:=Aa dD;clear hpl hf hno dD hR;go_enter func158,ntmps158
   go_wp2_with fail
   rw [<-HW.out];refine HIX.out.mono ?_;rintro e w'⟨rfl,rfl⟩;rw [HPL.out];clear HIX HPL
   go_wp2_with fail
   refine zL.out.mono ?_;rintro e w1⟨rfl,hb1⟩;clear y0 y1 y2 y3 f0 f1 f2 f3 z0 z1 z2 z3 k0 k1 k2 k3 zL;replace B2:=B2.below hb1 O;have Gg:=τ hbW hb1;clear hb1 hbW;obtain⟨z0,z1,z2,z3,k0,k1,k2,k3⟩:=blk4 B2
   go_wp2_with fail
   have BF:=((((B2.AZ 0 (Ac none 0 0)).AZ 1 (Au .u64 0)).AZ 2 (Ac none 0 0)).AZ 3 (Ac none 0 0));have Ld:=(((Gg.setCell (p:=Φ (w.heap.size+1)) Θ (Ac none 0 0)).setCell (p:=Δ (w.heap.size+1) 1) Θ (Au .u64 0)).setCell (p:=Δ (w.heap.size+1) 2) Θ (Ac none 0 0)).setCell (p:=Δ (w.heap.size+1) 3) Θ (Ac none 0 0);generalize(((w1.setCell (Φ (w.heap.size+1)) (Ac none 0 0)).setCell (Δ (w.heap.size+1) 1) (Au .u64 0)).setCell (Δ (w.heap.size+1) 2) (Ac none 0 0)).setCell (Δ (w.heap.size+1) 3) (Ac none 0 0)=WF at*;obtain⟨p0,p1,p2,p3,_⟩:=blk4 BF;exact bodyPost_ret (v:=OW) (by unfold OW;simp [results,results158,go_sem,p0,p1,p2,p3]) rfl ⟨rfl,Ld⟩
def qP(A1 A2 A3:Option Addr)(n1 c1 n2 c2 n3 c3:Nat)(x:Nd)(label:UInt8)(i:Nat)(w:World)(b1:n1<=1000)(_:n2<=1000)(b3:n3<=1000)(h1:Bs w A1 n1 x.pre)(h2:Bs w A2 n2 x.labels)(h3:Ws w A3 n3 x.kids)(hf:Aap x.labels label=some i)(hR:C9 x=true):
 Calls prog 158 #[.agg #[.slice A1 n1 c1,.int .u64 (x.val.toNat:Int),.slice A2 n2 c2,.slice A3 n3 c3],.int .u8 (label.toNat:Int)] w λe w'=>Aan (Ag6 x i) (w.heap.size+2) w' e/\η w w':=by
 obtain⟨W,hW,B1,B2,hbW,hsW⟩:=KO w 212 (.slice A1 n1 c1) (.int .u64 (x.val.toNat:Int)) (.slice A2 n2 c2) (.slice A3 n3 c3) (.slice none 0 0) (.int .u64 0) (.slice none 0 0) (.slice none 0 0);have HW:=Aa hW;clear hW;have hl1:=h1.len;have hl2:=h2.len;have hl3:=h3.len;obtain⟨y0,y1,y2,y3,f0,f1,f2,f3⟩:=blk4 B1;have hgw:w.heap.size<W.heap.size:=O
 have hlk:=((Bq x).1 hR).2.2.1;have hi:i<x.labels.length:=by
  unfold Aap at hf;rw [List.findIdx?_eq_some_iff_getElem]at hf;obtain⟨hi,_⟩:=hf;exact hi
 have hpl:placeOf (λy=>y.toNat==label.toNat) x.labels=(i:Int):=by rw [placeOf,show x.labels.findIdx? _=some i from hf]
 have HPL:=Aa hpl;have hi0:decide ((i:Int)<0)=false:=by simp
 have hix:=Ul A2 n2 c2 x.labels label W O (h2.below hbW);have HIX:=Aa hix;have dD:=L6 A1 A2 A3 n1 c1 n2 c2 n3 c3 x W O O O (h1.below hbW) (h2.below hbW) (h3.below hbW);rw [hR]at dD;have zL:=Aa dD;have hw1:IntKind.i64.wrap ((i:Int)+1)=(i:Int)+1:=by rw [IntKind.wrap_i64];omega
 clear hpl hf hix dD hR;go_enter func158,ntmps158
 go_wp2_with fail
 rw [<-HW.out];clear HW;refine HIX.out.mono ?_;rintro e w'⟨rfl,rfl⟩;rw [HPL.out];clear HIX HPL
 go_wp2_with fail
 refine zL.out.mono ?_;rintro e w1⟨rfl,hb1⟩;clear y0 y1 y2 y3 f0 f1 f2 f3 zL;replace B1:=B1.below hb1 O;replace B2:=B2.below hb1 O;have Gg:=τ hbW hb1;have Avk:w.heap.size+2<=w1.heap.size:=Ω hb1.size
 replace h1:=h1.below Gg;replace h2:=h2.below Gg;replace h3:=h3.below Gg;clear hb1 hbW;obtain⟨y0,y1,y2,y3,f0,f1,f2,f3⟩:=blk4 B1
 go_wp2_with fail
 have hcn:=aK A1 A2 A3 n1 c1 n2 c2 n3 c3 x w1 O O O h1 h2 h3;refine hcn.mono ?_;rintro e w2⟨B,A4,c4,A5,c5,A6,c6,rfl,hB1,hB2,⟨o1,hq1⟩,o2,o3,hb2⟩;clear y0 y1 y2 y3 f0 f1 f2 f3 hcn h1 h2 h3;replace B1:=B1.below hb2 O;replace B2:=B2.below hb2 O;have ED:=τ Gg hb2;have HQ1:=Aa hq1;clear hb2 Gg hq1;obtain⟨y0,y1,y2,y3,f0,f1,f2,f3⟩:=blk4 B1
 go_wp2_with fail
 clear y0 y1 y2 y3 f0 f1 f2 f3;rw [hl1]at o1;rw [hl2]at o2;rw [hl3]at o3;have hsz:((((w2.setCell (Φ w.heap.size) (Ac A4 n1 c4)).setCell (Δ w.heap.size 1) (Au .u64 (x.val.toNat:Int))).setCell (Δ w.heap.size 2) (Ac A5 n2 c5)).setCell (Δ w.heap.size 3) (Ac A6 n3 c6)).heap.size=w2.heap.size:=by simp [D8]
 replace B1:=((((B1.AZ 0 (Ac A4 n1 c4)).AZ 1 (Au .u64 (x.val.toNat:Int))).AZ 2 (Ac A5 n2 c5)).AZ 3 (Ac A6 n3 c6));replace B2:=((((B2.far (g':=w.heap.size) O 0 (Ac A4 n1 c4)).far (g':=w.heap.size) O 1 (Au .u64 (x.val.toNat:Int))).far (g':=w.heap.size) O 2 (Ac A5 n2 c5)).far (g':=w.heap.size) O 3 (Ac A6 n3 c6));replace o1:=(AU (AU (AU (AU o1 (g:=w.heap.size) O 0 (Ac A4 n1 c4)) (g:=w.heap.size) O 1 (Au .u64 (x.val.toNat:Int))) (g:=w.heap.size) O 2 (Ac A5 n2 c5)) (g:=w.heap.size) O 3 (Ac A6 n3 c6));replace o2:=(AU (AU (AU (AU o2 (g:=w.heap.size) O 0 (Ac A4 n1 c4)) (g:=w.heap.size) O 1 (Au .u64 (x.val.toNat:Int))) (g:=w.heap.size) O 2 (Ac A5 n2 c5)) (g:=w.heap.size) O 3 (Ac A6 n3 c6));replace o3:=(AU (AU (AU (AU o3 (g:=w.heap.size) O 0 (Ac A4 n1 c4)) (g:=w.heap.size) O 1 (Au .u64 (x.val.toNat:Int))) (g:=w.heap.size) O 2 (Ac A5 n2 c5)) (g:=w.heap.size) O 3 (Ac A6 n3 c6));replace ED:=((((ED.setCell (p:=Φ w.heap.size) Θ (Ac A4 n1 c4)).setCell (p:=Δ w.heap.size 1) Θ (Au .u64 (x.val.toNat:Int))).setCell (p:=Δ w.heap.size 2) Θ (Ac A5 n2 c5)).setCell (p:=Δ w.heap.size 3) Θ (Ac A6 n3 c6));generalize((((w2.setCell (Φ w.heap.size) (Ac A4 n1 c4)).setCell (Δ w.heap.size 1) (Au .u64 (x.val.toNat:Int))).setCell (Δ w.heap.size 2) (Ac A5 n2 c5)).setCell (Δ w.heap.size 3) (Ac A6 n3 c6))=W3 at*;rw [<-hsz]at hB2;clear hsz;have hin:=qJ (.slice A5 n2 c5) n2 i (x.labels.map bv) W3 B o2 O O O (Hm _);rw [qN]at hin;have HIN:=Aa hin;clear hin;refine HIN.out.mono ?_;rintro e w4⟨v7,rfl,o7,hb4,k4⟩;obtain⟨A7,c7,rfl,_,_⟩:=CU o7;clear HIN;have hap:=NJ o2 o3 U;have hs4:=hb4.size;replace B1:=B1.below hb4 O;replace B2:=B2.below hb4 O;replace o1:=Tt o1 HQ1.out hb4;replace o3:=NU o3 k4 (λg hg e=>hap g e hg);replace ED:=ED.trans (hb4.mono O);clear hap o2 k4 hb4;obtain⟨y0,y1,y2,y3,f0,f1,f2,f3⟩:=blk4 B1
 go_wp2_with fail
 clear y0 y1 y2 y3 f0 f1 f2 f3;have oH:(w4.setCell (Δ w.heap.size 2) (Ac A7 (n2-1) c7)).heap.size=w4.heap.size:=by simp [D8]
 replace B1:=(B1.AZ 2 (Ac A7 (n2-1) c7));replace B2:=(B2.far (g':=w.heap.size) O 2 (Ac A7 (n2-1) c7));replace o1:=(AU o1 (g:=w.heap.size) O 2 (Ac A7 (n2-1) c7));replace o7:=(AU o7 (g:=w.heap.size) O 2 (Ac A7 (n2-1) c7));replace o3:=(AU o3 (g:=w.heap.size) O 2 (Ac A7 (n2-1) c7));replace ED:=(ED.setCell (p:=Δ w.heap.size 2) Θ (Ac A7 (n2-1) c7));generalize(w4.setCell (Δ w.heap.size 2) (Ac A7 (n2-1) c7))=W5 at*;rw [<-oH]at hs4;clear oH;have hin:=qK (.slice A6 n3 c6) n3 i (x.kids.map wv) W5 B o3 O O O (PW _);rw [qN]at hin;have HIN:=Aa hin;clear hin;refine HIN.out.mono ?_;rintro e w6⟨v8,rfl,o8,hb6,k6⟩;obtain⟨A8,c8,rfl,_,_⟩:=CU o8;clear HIN;have hap:=NJ o3 o7 U;have hs6:=hb6.size;replace B1:=B1.below hb6 O;replace B2:=B2.below hb6 O;replace o1:=Tt o1 HQ1.out hb6;replace o7:=NU o7 k6 (λg hg e=>hap g e hg);replace ED:=ED.trans (hb6.mono O);clear hap o3 k6 hb6;obtain⟨y0,y1,y2,y3,f0,f1,f2,f3⟩:=blk4 B1;obtain⟨z0,z1,z2,z3,k0,k1,k2,k3⟩:=blk4 B2
 go_wp2_with fail
 clear y0 y1 y2 y3 f0 f1 f2 f3 z0 z1 z2 z3 k0 k1 k2 k3;have BF:=(((((B2.far (g':=w.heap.size) O 3 (Ac A8 (n3-1) c8)).AZ 0 (Ac A4 n1 c4)).AZ 1 (Au .u64 (x.val.toNat:Int))).AZ 2 (Ac A7 (n2-1) c7)).AZ 3 (Ac A8 (n3-1) c8));have Ld:=(((((ED.setCell (p:=Δ w.heap.size 3) Θ (Ac A8 (n3-1) c8)).setCell (p:=Φ (w.heap.size+1)) Θ (Ac A4 n1 c4)).setCell (p:=Δ (w.heap.size+1) 1) Θ (Au .u64 (x.val.toNat:Int))).setCell (p:=Δ (w.heap.size+1) 2) Θ (Ac A7 (n2-1) c7)).setCell (p:=Δ (w.heap.size+1) 3) Θ (Ac A8 (n3-1) c8));have S1:=ES (base':=w.heap.size+2) (AU (AU (AU (AU (AU o1 (g:=w.heap.size) O 3 (Ac A8 (n3-1) c8)) (g:=w.heap.size+1) O 0 (Ac A4 n1 c4)) (g:=w.heap.size+1) O 1 (Au .u64 (x.val.toNat:Int))) (g:=w.heap.size+1) O 2 (Ac A7 (n2-1) c7)) (g:=w.heap.size+1) O 3 (Ac A8 (n3-1) c8)) O;have S2:=ES (base':=w.heap.size+2) (AU (AU (AU (AU (AU o7 (g:=w.heap.size) O 3 (Ac A8 (n3-1) c8)) (g:=w.heap.size+1) O 0 (Ac A4 n1 c4)) (g:=w.heap.size+1) O 1 (Au .u64 (x.val.toNat:Int))) (g:=w.heap.size+1) O 2 (Ac A7 (n2-1) c7)) (g:=w.heap.size+1) O 3 (Ac A8 (n3-1) c8)) O;have S3:=ES (base':=w.heap.size+2) (AU (AU (AU (AU (AU o8 (g:=w.heap.size) O 3 (Ac A8 (n3-1) c8)) (g:=w.heap.size+1) O 0 (Ac A4 n1 c4)) (g:=w.heap.size+1) O 1 (Au .u64 (x.val.toNat:Int))) (g:=w.heap.size+1) O 2 (Ac A7 (n2-1) c7)) (g:=w.heap.size+1) O 3 (Ac A8 (n3-1) c8)) O;generalize(((((w6.setCell (Δ w.heap.size 3) (Ac A8 (n3-1) c8)).setCell (Φ (w.heap.size+1)) (Ac A4 n1 c4)).setCell (Δ (w.heap.size+1) 1) (Au .u64 (x.val.toNat:Int))).setCell (Δ (w.heap.size+1) 2) (Ac A7 (n2-1) c7)).setCell (Δ (w.heap.size+1) 3) (Ac A8 (n3-1) c8))=WF at*;obtain⟨p0,p1,p2,p3,_⟩:=blk4 BF;have e2:(del x.labels i).length=n2-1:=by rw [aJ _ _ O];omega
 have e3:(del x.kids i).length=n3-1:=by rw [aJ _ _ O];omega
 refine bodyPost_ret (v:= .tuple #[.agg #[(Ac A4 n1 c4),(Au .u64 (x.val.toNat:Int)),Ac A7 (n2-1) c7,Ac A8 (n3-1) c8],.bool true]) (by simp [results,results158,go_sem,p0,p1,p2,p3]) rfl ?_;refine⟨⟨A4,c4,A7,c7,A8,c8,?_,?_,?_,?_⟩,Ld⟩
 ·simp only [Ag6,e2,e3,hl1]
 ·simp only [Ag6,hl1];exact S1
 ·simp only [Ag6,e2];exact S2
 ·simp only [Ag6,e3];exact S3
