import Derived.Test.YtkimaejoeapmnaaGreatDoorH15
set_option linter.defProp false
set_option maxHeartbeats 32000000
set_option maxRecDepth 100000
open Go.Lib renaming hid->Aa
open List renaming getElem?_cons_zero->Am,getElem?_cons_succ->AA,range->D9,range_succ->di,length_filter_le->MW,length_append->AQ,length_map->BJ
open Nat renaming lt_of_lt_of_le->BQ,zero_le->BU,le_trans->Bc
open UInt64 renaming ofNat->Aw
open Go.World renaming ownsRow_nil->Fp
open Array renaming getElem?_eq_some_iff->AB
namespace Go.Proofs.YtkimaejoeapmnaaGreatDoor
open Go.RowKit
open Go.Proofs.Tryz
def Tryz.Akp:JS prog 38 3 (.int .i64 0) 1 8:=⟨underlying38,by kernel_rfl,rfl⟩
section
variable{w w':World}{x d p L:Nat}{s:St}{F:Nat->Prop}
def Qx{q:Ms}(h:IxM w x d p L q F)(pl:Pl)(hp:Acu L pl)(A1 A2 A3:Option Addr)(n1 c1 n2 c2 n3 c3:Nat)(n:UInt64):
 Calls prog 113 #[Az x,.agg #[.slice A1 n1 c1,.int .u64 (pl.nd.val.toNat:Int),.slice A2 n2 c2,.slice A3 n3 c3,.int .i64 pl.off,.int .u8 (pl.label.toNat:Int),.int .i64 pl.word],.int .u64 (n.toNat:Int)] w λe w'=>
  e= .returned (.int .i64 (Ob q pl n).2)/\∃F',IxM w' x d p L (Ob q pl n).1 F'/\AP F F' w w':=by
 obtain⟨o,ho,hol⟩:=hp.off;obtain⟨l0,l1,ok,FZ⟩:=h.L0;have hb0:η w (w.alloc (.cells #[.slice A1 n1 c1,.int .u64 (pl.nd.val.toNat:Int),.slice A2 n2 c2,.slice A3 n3 c3,.int .i64 pl.off,.int .u8 (pl.label.toNat:Int),.int .i64 pl.word] 214)):=(Below.refl _ _).alloc (Nat.le_refl _) _;have HP:=Aa (λ(W:World)(hW:η w W)=>V5 (q:=q) (h.below hW).sys (o+2) n O);rw [show((8*(o+2):Nat):Int)=pl.off+16 by omega]at HP;have HX:=Aa h;have hval:Ob q pl n=Y9 q 3 (FN q.s.ws (o+2) n):=by unfold Ob;rw [ho,show((8*o:Nat):Int).toNat/8=o by omega]
 rw [<-hval]at HP;generalize Ob q pl n=vr at HP⊢;have hw1:IntKind.i64.wrap (pl.off+16)=pl.off+16:=wrap64 _ O O;have y0:=(hb0.cell (p:=Φ x) h.box.lt).trans (h.box.cell 0);simp only [Am]at y0;have B0:CS (w.alloc (.cells #[.slice A1 n1 c1,.int .u64 (pl.nd.val.toNat:Int),.slice A2 n2 c2,.slice A3 n3 c3,.int .i64 pl.off,.int .u8 (pl.label.toNat:Int),.int .i64 pl.word] 214)) w.heap.size 214 [.slice A1 n1 c1,.int .u64 (pl.nd.val.toNat:Int),.slice A2 n2 c2,.slice A3 n3 c3,.int .i64 pl.off,.int .u8 (pl.label.toNat:Int),.int .i64 pl.word]:=heap_alloc_new _ _;have y4:=(EI B0).2.2.2.2.1;have hoff:0<=pl.off/\pl.off<=65536:=O
 generalize pl.off=off at*;clear h hval hp ho hol ok FZ B0;go_enter func113,ntmps113
 go_wp2_with fail
 generalize w.alloc (.cells #[.slice A1 n1 c1,.int .u64 (pl.nd.val.toNat:Int),.slice A2 n2 c2,.slice A3 n3 c3,.int .i64 off,.int .u8 (pl.label.toNat:Int),.int .i64 pl.word] 214)=W0 at*
 go_region_with(go_at_call 95;go_loud(refine(HP.out _ (hb0.trans ((Dr.drew _).below _))).mono ?_;rintro e w8⟨rfl,F',hs8,WN⟩))
 all_goals(go_wp2_with fail)
 all_goals(go_ret)
 all_goals(have hm:=(AP.of_below (F:=F) (hb0.trans ((Dr.drew W0).below _))).trans WN)
 all_goals(exact⟨rfl,F',HX.out.move hs8 hm,hm⟩)
def Ac3{q:Ms}(h:QW w d p L q F)(j n c:Nat)(A:Option Addr)(xs:List UInt64)(hj:j+n<=8*L)(hn0:0<n)(hx:Ws w A n xs){r:Ms}{cw:Int}(hr:Y9 q (kD j n) (BO q.s.ws j xs)=(r,cw)):
 Calls prog 139 #[Az d,.int .i64 ((8*j:Nat):Int),.slice A n c] w λe w'=>e= .returned (.int .i64 cw)/\∃F',QW w' d p L r F'/\AP F F' w w':=by
 have:=pM h j n c A xs hj hn0 hx;rw [show n+((j+n-1)/8-j/8+1)+1=kD j n from rfl,hr]at this;exact this
end
def I5(r:Jm×UInt64×Int)(base jb x d p L:Nat)(G:Nat->Prop)(w:World)(e:Ending)(w':World):Prop:=
 e= .returned (.tuple #[.int .u64 (r.2.1.toNat:Int),.int .i64 r.2.2])/\∃G',Gf w' base jb x d p L r.1 G'/\AP G G' w w'
section
variable{w w':World}{base jb x d p L:Nat}{j:Jm}{G:Nat->Prop}
def LK(h:Gf w base jb x d p L j G)(nd:Nd)(A1 A2 A3:Option Addr)(c1 c2 c3:Nat)(b1:nd.pre.length<=1000)(b2:nd.labels.length<=1000)(b3:nd.kids.length<=1000)
 (h1:Bs w A1 nd.pre.length nd.pre)(h2:Bs w A2 nd.labels.length nd.labels)(h3:Ws w A3 nd.kids.length nd.kids)(hm:j.made.length<=1000):
 Calls prog 159 #[Az jb,.agg #[.slice A1 nd.pre.length c1,.int .u64 (nd.val.toNat:Int),.slice A2 nd.labels.length c2,.slice A3 nd.kids.length c3]] w (I5 (Ei j nd) base jb x d p L G w):=by
 obtain⟨W,hW,e0,e1,e2,e3,hb,hs⟩:=Afk w 212 (.slice A1 nd.pre.length c1) (.int .u64 (nd.val.toNat:Int)) (.slice A2 nd.labels.length c2) (.slice A3 nd.kids.length c3);have HW:=Aa hW;have HE:=Aa (Rw A1 A2 A3 nd.pre.length c1 nd.labels.length c2 nd.kids.length c3 nd W O O O (h1.below hb) (h2.below hb) (h3.below hb));have HJ:=Aa h;have HB:=Aa hb;clear hW h hb h1 h2 h3;cases hR:C9 nd with
 | false=>
   have HP:Hid (Ei j nd=(j,0,5)):=Aa (by unfold Ei;rw [hR];rfl);go_enter func159,ntmps159
   go_wp2_with fail
   rw [<-HW.out];clear HW;refine HE.out.mono ?_;rintro e w1⟨hb1,hp1⟩;rw [hR]at hp1;replace hp1:e= .returned (.tuple #[.slice none 0 0,.bool false]):=hp1;subst hp1;have HB1:=Aa (τ HB.out hb1);clear hb1 HE e0 e1 e2 e3
   go_wp2_with fail
   go_ret2;refine⟨by rw [HP.out];rfl,G,?_,AP.of_below HB1.out⟩;rw [HP.out];exact HJ.out.below HB1.out
 | true=>
   obtain⟨F,v,hj,hG⟩:=HJ.out;obtain⟨l0,l1,ok,FZ⟩:=hj.ix.L0;have hbj:=HB.out;have hjW:=hj.below HB.out;have ho:=Aa hR;have hcl:(if nd.kids.length<=4 then(1:Int)else 2)=((Dp nd:Nat):Int):=by unfold Dp;split<;>rfl
   have HC:=Aa (λ(W':World)(v1 v2 v3:Value)=>Wp v1 v2 v3 A3 nd.kids.length c3 W' O);rw [hcl]at HC;have HRs:=Aa (λ(W':World)(hW:η W W')=>NC (hjW.below hW).ix.sys (Dp nd) (Ω (Tm nd)) (Ω (Tm nd)));have HJW:=Aa hjW;have HG:=Aa hG;have y0:=hjW.box.cell 0;have y1:=hjW.box.cell 1;have u0:=hjW.ix.box.cell 0;have u1:=hjW.ix.box.cell 1;simp only [Am,AA]at y0 y1 u0 u1;have hjl:=hjW.box.lt;have hxl:=hjW.ix.box.lt;have hwl:w.heap.size<W.heap.size:=O
   have jX:=Aa ok;have HNt:=Aa FZ;clear hj hG hjW hbj hcl ok FZ hR;cases hres:CO j.s.s (Dp nd)with
   | none=>
     have HV:Hid (resV j.s.s (Dp nd)= .tuple #[.int .i64 0,.int .i64 6]):=Aa (by unfold resV;rw [hres]);have HS:Hid (OV j.s.s (Dp nd)=j.s.s):=Aa (by unfold OV;rw [hres]);have HP:Hid (Ei j nd=(j,0,6)):=Aa (by unfold Ei;rw [ho.out,hres];rfl);rw [HV.out,HS.out]at HRs;clear HV HS hres;go_enter func159,ntmps159
     go_wp2_with fail
     rw [<-HW.out];clear HW;refine HE.out.mono ?_;rintro e w1⟨hb1,hp1⟩;rw [ho.out,if_pos rfl]at hp1;obtain⟨vr,rfl,hor⟩:=hp1;obtain⟨Ar,cr,rfl,hcr,hrr⟩:=CU hor;have HB1:=Aa hb1;replace y0:=(hb1.cell (p:=Φ jb) hjl).trans y0;replace y1:=(hb1.cell (p:=Δ jb 1) hjl).trans y1;replace u0:=(hb1.cell (p:=Φ x) hxl).trans u0;replace u1:=(hb1.cell (p:=Δ x 1) hxl).trans u1;replace e0:=(hb1.cell (p:=Φ w.heap.size) hwl).trans e0;replace e1:=(hb1.cell (p:=Δ w.heap.size 1) hwl).trans e1;replace e2:=(hb1.cell (p:=Δ w.heap.size 2) hwl).trans e2;replace e3:=(hb1.cell (p:=Δ w.heap.size 3) hwl).trans e3;have Akq:jb<w1.heap.size:=BQ hjl hb1.size;have Akr:x<w1.heap.size:=BQ hxl hb1.size;clear hb1 HE hor hrr
     go_wp2_with fail
     go_region_with(first
      | (go_at_call 184;go_loud(refine(HC.out _ _ _ _).mono ?_;rintro e w2⟨rfl,hb2⟩;have z0:=(hb2.cell (p:=Φ jb) Akq).trans y0;have z1:=(hb2.cell (p:=Δ x 1) Akr).trans u1;have hB2:=(HB1.out.trans (((Dr.drew w1).below W.heap.size))).trans (hb2.mono HB1.out.size)))
      | (go_at_call 18;go_loud(refine(HRs.out _ hB2).mono ?_;rintro e w3⟨rfl,hs3,hm3⟩)))
     all_goals(obtain⟨G',q1,q2,q3⟩:=(HJW.out.below hB2).move HG.out hs3 hm3)
     all_goals(have HF:Hid (∃G',Gf w3 base jb x d p L j G'/\AP G G' w w3):=Aa ⟨G',⟨F,v,q1,q2⟩,(AP.of_below (τ HB.out hB2)).trans q3⟩)
     all_goals(clear q1 q2 q3 hs3 hm3 hB2 z0 z1 hb2)
     all_goals(go_wp2_with fail)
     all_goals(go_ret2)
     all_goals(refine⟨by rw [HP.out];rfl,?_⟩)
     all_goals(rw [HP.out])
     all_goals(exact HF.out)
   | some os=>
     obtain⟨off,s1⟩:=os;obtain⟨o,ho8,hol⟩:=U0 jX.out HNt.out (Tm nd) hres;have HV:Hid (resV j.s.s (Dp nd)= .tuple #[.int .i64 (off:Int),.int .i64 0]):=Aa (by unfold resV;rw [hres]);have HS:Hid (OV j.s.s (Dp nd)=s1):=Aa (by unfold OV;rw [hres]);have ho9:off/8=o:=O
     obtain⟨⟨r,cw⟩,hR9⟩:∃R,Y9 ⟨j.s.pw,s1⟩ (kD o (Ea nd).length) (BO s1.ws o (Ea nd))=R:=⟨_,rfl⟩;obtain⟨T,hT⟩:∃T,T=QN r (off:Int):=⟨_,rfl⟩;have HP:Hid (Ei j nd=if cw=0 then(if T.2=0 then(⟨T.1,j.made++[(off:Int)]⟩,Aw off,0)else(⟨T.1,j.made++[(off:Int)]⟩,0,T.2))else(⟨r,j.made++[(off:Int)]⟩,0,cw)):=Aa (by unfold Ei;rw [ho.out,hres,hT];simp only [Bool.not_true,Bool.false_eq_true,if_false,ho9,hR9]);have HR9:=Aa hR9;rw [HV.out,HS.out]at HRs;have hoff:(off:Int)<=65536:=O
     have hlen:=xN nd;have HT:=Aa hT;have HO8:=Aa ho8;have HOl:=Aa hol;have HLen:=Aa hlen;have HEl:Hid (0<(Ea nd).length):=Aa (by rw [hlen];rcases Tm nd with e| e<;>rw [e]<;>decide);have HU:Hid (((Aw off).toNat:Int)=(off:Int)):=Aa (by rw [UInt64.toNat_ofNat'];omega);have hwu:IntKind.u64.wrap (off:Int)=(off:Int):=by
      exact IntWalk.u64_in _ O
     have qE:=Aa HJ.out.lt;clear hlen hol hT ho8 ho9 hR9;clear HV HS hres;go_enter func159,ntmps159
     go_wp2_with fail
     rw [<-HW.out];clear HW;refine HE.out.mono ?_;rintro e w1⟨hb1,hp1⟩;rw [ho.out,if_pos rfl]at hp1;obtain⟨vr,rfl,hor⟩:=hp1;obtain⟨Ar,cr,rfl,hcr,hrr⟩:=CU hor;have HB1:=Aa hb1;replace y0:=(hb1.cell (p:=Φ jb) hjl).trans y0;replace y1:=(hb1.cell (p:=Δ jb 1) hjl).trans y1;replace u0:=(hb1.cell (p:=Φ x) hxl).trans u0;replace u1:=(hb1.cell (p:=Δ x 1) hxl).trans u1;replace e0:=(hb1.cell (p:=Φ w.heap.size) hwl).trans e0;replace e1:=(hb1.cell (p:=Δ w.heap.size 1) hwl).trans e1;replace e2:=(hb1.cell (p:=Δ w.heap.size 2) hwl).trans e2;replace e3:=(hb1.cell (p:=Δ w.heap.size 3) hwl).trans e3;have Akq:jb<w1.heap.size:=BQ hjl hb1.size;have Akr:x<w1.heap.size:=BQ hxl hb1.size;have kz:Hid (Ja w1 G Ar (Ea nd).length ((Ea nd).map wv)):=Aa (Ja.JU hor (λb hb1' _ hg=>Ψ (qE.out b hg) HB.out.size));clear hb1 HE hor hrr
     go_wp2_with fail
     go_region_with(first
      | (go_at_call 184;go_loud(refine(HC.out _ _ _ _).mono ?_;rintro e w2⟨rfl,hb2⟩;have z0:=(hb2.cell (p:=Φ jb) Akq).trans y0;have z1:=(hb2.cell (p:=Δ x 1) Akr).trans u1;have hB2:=(HB1.out.trans (((Dr.drew w1).below W.heap.size))).trans (hb2.mono HB1.out.size)))
      | (go_at_call 18;go_loud(refine(HRs.out _ hB2).mono ?_;rintro e w3⟨rfl,hs3,hm3⟩)))
     all_goals(obtain⟨G',q1,q2,q3⟩:=(HJW.out.below hB2).move (s':=⟨j.s.pw,s1⟩) HG.out hs3 hm3)
     all_goals(have HM3:Hid (AP G G' w w3):=Aa ((AP.of_below (τ HB.out hB2)).trans q3))
     all_goals(have HR3:Hid (Ja w3 G' Ar (Ea nd).length ((Ea nd).map wv)):=Aa ((kz.out.below (((Dr.drew w1).below w1.heap.size).trans hb2)).moved q3))
     all_goals(have aF:=Aa q1)
     all_goals(have HG3:=Aa q2)
     all_goals(clear q1 q2 q3 hs3 hm3 hB2 z0 z1 hb2 y0 y1 u0 u1 e0 e1 e2 e3 Akq Akr kz)
     all_goals(have y0:=aF.out.box.cell 0)
     all_goals(have y1:=aF.out.box.cell 1)
     all_goals(simp only [Am,AA]at y0 y1)
     all_goals(have u0:=aF.out.ix.box.cell 0)
     all_goals(simp only [Am]at u0)
     all_goals(have hxj:=aF.out.xj)
     all_goals(have hjx:jb≠x:=λe=>hxj e.symm)
     all_goals(have qi:=Aa aF.out.row)
     all_goals(have Asn:base<=w3.heap.size:=Nat.le_of_lt (Nat.lt_of_le_of_lt aF.out.bj aF.out.box.lt))
     all_goals(have hmm:j.made.length<=1000000:=O)
     all_goals(clear HC HRs HB1 HB HJW)
     all_goals(go_wp2_with(at_builtin;refine Ep rfl (.tmp 39) (.tmp 41) 38 rfl Tryz.Akp w3 base v j.made.length (j.made.map zv) [zv (off:Int)] rfl qi.out rfl w3.heap.size 1 rfl rfl rfl U (by simp [zv,Value.oneCell']) hmm U Asn ?_;intro g6 c6 w6 ZV O5 hK6 nC;have B6:CS w6 jb 219 [Az x,v]:=(hK6.2 jb aF.out.box.lt (λe=>aF.out.mj e.symm)).trans aF.out.box;have X6:CS w6 x 154 [Az d,Az p]:=(hK6.2 x aF.out.ix.box.lt (λe=>aF.out.mx e.symm)).trans aF.out.ix.box;have z0:=B6.cell 0;have z1:=B6.cell 1;have fz1:=B6.frozen 1;have e8:=X6.cell 0;have e9:=X6.cell 1;simp only [Am,AA]at z0 z1 e8 e9))
     all_goals(obtain⟨G7,q1,q2,q3⟩:=aF.out.app HG3.out (o:=(off:Int)) O ZV O5 hK6 nC)
     all_goals(obtain⟨W7,hW7⟩:∃W7,W7=w6.setCell (Δ jb 1) (.slice (some (Φ g6)) (j.made.length+1) c6):=⟨_,rfl⟩)
     all_goals(rw [<-hW7]at q1 q3⊢)
     all_goals(have HPA:=Ac3 (q:=⟨j.s.pw,s1⟩) q1.ix.sys o (Ea nd).length cr Ar (Ea nd) (Ψ HOl.out HLen.out) HEl.out (HR3.out.moved q3).1 HR9.out)
     all_goals(rw [show((8*o:Nat):Int)=(off:Int)by have:=HO8.out;omega]at HPA)
     all_goals(have YF:=Aa (HM3.out.trans q3))
     all_goals(have HJ7:=Aa q1)
     all_goals(have HG7:=Aa q2)
     all_goals(clear q1 q2 q3 ZV O5 hK6 nC B6 X6 z0 z1 fz1 e8 e9 hW7 HM3 HR3 aF HG3 y0 y1 u0 qi Asn)
     all_goals(refine HPA.mono ?_)
     all_goals(rintro e w8⟨rfl,F8,hs8,WN⟩)
     all_goals(obtain⟨G8,q1,q2,q3⟩:=HJ7.out.move HG7.out hs8 WN)
     all_goals(by_cases hcw:cw=0)
     all_goals first
      | (have hne:cw≠0:=hcw
         have HP':Hid (Ei j nd=(⟨r,j.made++[(off:Int)]⟩,0,cw)):=Aa (by rw [HP.out,if_neg hne]);have t3:(cw !=0)=true:=by rw [bne_iff_ne];exact hne
         have HF:Hid (∃G',Gf w8 base jb x d p L ⟨r,j.made++[(off:Int)]⟩ G'/\AP G G' w w8):=Aa ⟨G8,⟨F8,_,q1,q2⟩,YF.out.trans q3⟩;clear q1 q2 q3 hs8 WN HPA YF HJ7 HG7 HP hcw hne HT HR9
         go_wp2_with fail
         go_ret2;refine⟨by rw [HP'.out];rfl,?_⟩;rw [HP'.out];exact HF.out)
      | skip
     all_goals(subst hcw)
     all_goals(rw [if_pos rfl]at HP)
     all_goals(have UN:=ZM (q:=r) q1.ix.sys (off:Int) O)
     all_goals(rw [<-HT.out]at UN)
     all_goals(have UN:=Aa UN)
     all_goals(have qC:=Aa (YF.out.trans q3))
     all_goals(have HJ8:=Aa q1)
     all_goals(have HG8:=Aa q2)
     all_goals(have y0:=q1.box.cell 0)
     all_goals(have u1:=q1.ix.box.cell 1)
     all_goals(simp only [Am,AA]at y0 u1)
     all_goals(clear q1 q2 q3 hs8 WN HPA YF HJ7 HG7)
     all_goals(go_wp2_with fail)
     all_goals(refine UN.out.mono ?_)
     all_goals(rintro e w9⟨rfl,F9,hs9,hm9⟩)
     all_goals(obtain⟨G9,q1,q2,q3⟩:=HJ8.out.move HG8.out hs9 hm9)
     all_goals(have HF:Hid (∃G',Gf w9 base jb x d p L ⟨T.1,j.made++[(off:Int)]⟩ G'/\AP G G' w w9):=Aa ⟨G9,⟨F9,_,q1,q2⟩,qC.out.trans q3⟩)
     all_goals(obtain⟨te,hte⟩:∃te,te=T.2:=⟨_,rfl⟩)
     all_goals(rw [<-hte]at HP⊢)
     all_goals(clear q1 q2 q3 hs9 hm9 qC HJ8 HG8 UN y0 u1 HT hte)
     all_goals(by_cases he:te=0)
     all_goals first
      | (have HP':Hid (Ei j nd=(⟨T.1,j.made++[(off:Int)]⟩,Aw off,0)):=Aa (by rw [HP.out,if_pos he])
         subst he;clear HP
         go_wp2_with fail
         go_ret2;refine⟨by rw [HP'.out];show _=Ending.returned (.tuple #[.int .u64 ((Aw off).toNat:Int),.int .i64 0]);rw [HU.out];rfl,?_⟩;rw [HP'.out];exact HF.out)
      | (have HP':Hid (Ei j nd=(⟨T.1,j.made++[(off:Int)]⟩,0,te)):=Aa (by rw [HP.out,if_neg he])
         have t3:(te !=0)=true:=by rw [bne_iff_ne];exact he
         clear HP he
         go_wp2_with fail
         go_ret2;refine⟨by rw [HP'.out];rfl,?_⟩;rw [HP'.out];exact HF.out)
end
def Tryz.WO:JS prog 38 3 (.int .i64 0) 1 8:=⟨underlying38,by kernel_rfl,rfl⟩
def VB(l:List Nat):List Value:=l.map λa=> .int .i64 ((a:Nat):Int)
def Aam(l:List Nat)(a:Nat):VB (l++[a])=VB l++[.int .i64 (a:Int)]:=by simp [VB]
def ik(x:Nat)(w:World)(hx:x<18446744073709551616):Calls prog 49 #[.int .u64 (x:Int)] w λe w'=>∃v,e= .returned v/\w'.ownsRow w.heap.size 3 1 v (IC x).length (VB (IC x))/\η w w':=by
 have HC:=Aa (Hq x w hx);have kJ:=Aa (λW=>GG (Bg x) W (Ω (NK x)));have hbl:=Gi (Bg x);have HHs:=Aa (λW a(ha:a<16)=>RD x a W hx O);have hdef:IC x=(D9 (Bv (Bg x))).filter (EP x):=rfl;rw [hdef];clear hdef;generalize Bv (Bg x)=nb at*;generalize Bg x=cl at*;go_enter func49,ntmps49
 go_wp2_with fail
 refine HC.out.mono ?_;rintro e w1⟨rfl,hd1⟩;have HD1:=Aa (hd1.below w.heap.size);clear HC hd1
 go_wp2_with fail
 refine(kJ.out w1).mono ?_;rintro e w2⟨rfl,rfl⟩;clear kJ
 go_wp2_with fail
 go_loopw [3,8](λu i wr=>∃k:Nat,k<=nb/\i= .int .i64 (k:Nat)/\wr.ownsRow w.heap.size 3 1 u ((D9 k).filter (EP x)).length (VB ((D9 k).filter (EP x)))/\η w wr)(λ_ i _=>nb- (intOf i).toNat)
 case atStart=>exact⟨0,BU _,rfl,Fp _ _ _ _,HD1.out⟩
 case round=>
  obtain⟨k,hk,rfl,hown,hb⟩:=hrel;have HO:=Aa hown;have HB:=Aa hb;clear hown hb;by_cases hlt:k<nb
  ·obtain⟨hx1,hx2,hx5⟩:=Yg hlt;have hwk:IntKind.i64.wrap ((k:Int)+1)=(k:Int)+1:=wrap64 _ O O;have UN:Hid ((D9 (k+1)).filter (EP x)=if EP x k then(D9 k).filter (EP x)++[k]else(D9 k).filter (EP x)):=Aa (by
    rw [di,List.filter_append];simp only [List.filter_cons,List.filter_nil];split<;>simp)
   have hfl:((D9 k).filter (EP x)).length<=16:=Bc (MW _ _) (by simp;omega);have HH:=Aa (HHs.out wr k O);generalize(D9 k).filter (EP x)=M at*
   go_wp2_with fail
   refine HH.out.mono ?_;rintro e w3⟨rfl,hd3⟩;have HB3:=Aa (HB.out.trans (hd3.below w.heap.size));have kF:=Aa (EU HO.out (Kept.of_below (r:=none) (hd3.below _)) (by
    rcases HO.out.2 with⟨h1,_⟩| ⟨g,cap,cur,h1,_⟩
    ·exact .inr (by subst h1;rfl)
    ·exact .inl (by subst h1;exact λe=>nomatch e)))
   clear HH hd3 HO HB;cases hh:EP x k with
   | true=>
     rw [hh,if_pos rfl]at UN
     go_wp2_with(at_builtin;refine Ep rfl (.tmp 14) (.tmp 16) 38 rfl Tryz.WO w3 w.heap.size u3 M.length (VB M) [.int .i64 (k:Int)] rfl (by exact kF.out) rfl w3.heap.size 1 rfl rfl rfl U (by intro u hu;simp at hu;subst hu;rfl) O U (by exact HB3.out.size) ?_;intro g6 c6 w6 ZV O5 hK6 nC)
     have kP:=Aa ZV;have Me:=Aa (HB3.out.trans O5);clear ZV O5 hK6 nC
     go_wp2_with fail
     go_roundw
     case rel=>exact⟨k+1,O,by go_num,by rw [UN.out,AQ,Aam];exact kP.out,Me.out⟩
     case measure=>simp [intOf];omega
   | false=>
     rw [hh]at UN
     go_wp2_with fail
     go_roundw
     case rel=>exact⟨k+1,O,by go_num,by rw [UN.out];exact kF.out,HB3.out⟩
     case measure=>simp [intOf];omega
  ·obtain⟨hx2,hx5⟩:=mQ hlt;have hkn:k=nb:=O
   subst hkn
   go_wp2_with fail
   go_ret;exact⟨_,rfl,HO.out,HB.out⟩
section
variable{w w':World}{d p L:Nat}{s:St}{tb hb n cT cH:Nat}
def YG(s:St)(i:Nat):List Nat:=(IC (GY s i)).map λa=>CY s.sh i (Bg (GY s i)) a
def QQ(s:St)(i:Nat):List Nat:=(D9 i).flatMap (YG s)
def aG(s:St)(i:Nat):QQ s (i+1)=QQ s i++YG s i:=by simp [QQ,di]
def qF(s:St)(i:Nat):(YG s i).length<=16:=by
 unfold YG;rw [BJ];exact Bc (MW _ _) (by simp [Gi])
def iq(s:St):∀i,(QQ s i).length<=16*i
 | 0=>by simp [QQ]
 | i+1=>by rw [aG,AQ];have:=iq s i;have:=qF s i;omega
def RV(h:Ig w d p L s tb hb n cT cH):Calls prog 17 #[Az p] w λe w'=>∃v,e= .returned v/\w'.ownsRow w.heap.size 3 1 v (DC s).length (VB (DC s))/\η w w':=by
 have Tn:=Aa (Gx h);have HP:=Aa h;have y5:=h.y5;have Aj3:n<=64:=Ξ h.ok.fits h.L1 h.bZ
 have hall:DC s=QQ s n:=by unfold DC QQ;rw [h.Oq];rfl
 rw [hall];clear h hall;go_enter func17,ntmps17
 go_wp2_with fail
 refine Tn.out.mono ?_;rintro e w1⟨rfl,rfl⟩;clear Tn
 go_wp2_with fail
 go_loopw [3,15](λu i wr=>∃k:Nat,k<=n/\i= .int .i64 (k:Nat)/\wr.ownsRow w.heap.size 3 1 u (QQ s k).length (VB (QQ s k))/\η w wr)(λ_ i _=>n- (intOf i).toNat)
 case atStart=>exact⟨0,BU _,rfl,Fp _ _ _ _,Below.refl _ _⟩
 case round=>
  obtain⟨k,hk,rfl,hown,hb⟩:=hrel;have HO:=Aa hown;have HB:=Aa hb;clear hown hb;by_cases hlt:k<n
  ·obtain⟨hx1,hx2,hx5⟩:=Yg hlt;have hwk:IntKind.i64.wrap ((k:Int)+1)=(k:Int)+1:=wrap64 _ O O;have z1:=(HP.out.below HB.out).tk k hlt;have hx:=Qg s k;have hcl:=NK (GY s k);have hal:=iq s k;have UQ:=Aa (ik (GY s k) wr hx);have QX:=Aa (λW=>Hq (GY s k) W hx);have qG:=Aa (λ(W:World)a(hW:η w W)(ha:a<=16)=>Ut (HP.out.below hW) k (Bg (GY s k)) a hlt hcl ha);have UN:Hid (QQ s (k+1)=QQ s k++(IC (GY s k)).map λa=>CY s.sh k (Bg (GY s k)) a):=Aa (aG s k);have hls:∀a∈IC (GY s k),a<=16:=λa ha=>by
    have:=List.mem_range.1 (List.mem_filter.1 ha).1;have:=Gi (Bg (GY s k));omega
   have hll:(IC (GY s k)).length<=16:=Bc (MW _ _) (by simp [Gi]);generalize IC (GY s k)=l at*;generalize Bg (GY s k)=cl at*;generalize GY s k=x at*;generalize QQ s k=M at*
   go_wp2_with fail
   refine UQ.out.mono ?_;rintro e w3⟨v3,rfl,ho3,hb3⟩;have hA3:∀A c,v3= .slice A l.length c->∀a,A=some a->wr.heap.size<=a.block/\a.block<w3.heap.size:=λA c e a ea=>by
    rcases ho3.2 with⟨h1,_⟩| ⟨g,cap,cur,h1,h2,h3,_⟩
    ·rw [h1,ea]at e;cases e
    ·rw [h1,ea]at e;injection e with e
     injection e with e
     rw [<-e];exact⟨h2,(AB.1 h3).1⟩
   obtain⟨A3,c3,rfl,hc3,hr3⟩:=CU ho3;have hap:∀a,A3=some a->a.block<w3.heap.size/\u3.ownBlock≠some a.block:=λa ea=>by
    obtain⟨h1,h2⟩:=hA3 A3 c3 rfl a ea;refine⟨h2,λe=> ?_⟩;rcases HO.out.2 with⟨h3,_⟩| ⟨g,cap,cur,h3,_,h4,_⟩
    ·rw [h3]at e;cases e
    ·rw [h3]at e;injection e with e
     have:=(AB.1 h4).1;simp only at e;omega
   have HAp:=Aa hap;clear hA3 hap;have HR3:=Aa hr3;have HB3:=Aa (τ HB.out hb3);have kF:=Aa (EU HO.out (Kept.of_below (r:=none) hb3) (by
    rcases HO.out.2 with⟨h1,_⟩| ⟨g,cap,cur,h1,_⟩
    ·exact .inr (by subst h1;rfl)
    ·exact .inl (by subst h1;exact λe=>nomatch e)))
   clear UQ ho3 hb3 hr3 HO HB
   go_wp2_with fail
   go_loopw [3,23](λu i wr=>∃j:Nat,j<=l.length/\i= .int .i64 (j:Nat)/\wr.ownsRow w.heap.size 3 1 u (M++(l.take j).map λa=>CY s.sh k cl a).length (VB (M++(l.take j).map λa=>CY s.sh k cl a))/\η w wr/\Rd wr A3 l.length (VB l)/\∀a,A3=some a->a.block<wr.heap.size/\u.ownBlock≠some a.block)(λ_ i _=>l.length- (intOf i).toNat)
   case atStart=>exact⟨0,BU _,rfl,by simpa using kF.out,HB3.out,HR3.out,HAp.out⟩
   case round=>
    obtain⟨j,hj,rfl,hown,hb,hrd,hap⟩:=hrel;have bY:=Aa hown;have HB4:=Aa hb;have HR4:=Aa hrd;have Aso:=Aa hap;clear hown hb hrd hap HAp;by_cases hjl:j<l.length
    ·obtain⟨hy1,hy2,hy5⟩:=Yg hjl;have hwj:IntKind.i64.wrap ((j:Int)+1)=(j:Int)+1:=wrap64 _ O O;obtain⟨b,off,rfl,hbw,hcc⟩:=HR4.out.2 O;have z2:=hcc j hjl;rw [VB,List.getElem?_map,List.getElem?_eq_getElem hjl]at z2;simp only [Option.map_some]at z2;clear hcc;have ha16:=hls l[j] (List.getElem_mem hjl);have HTj:Hid (M++(l.take (j+1)).map (λa=>CY s.sh k cl a)=M++(l.take j).map (λa=>CY s.sh k cl a)++[CY s.sh k cl l[j]]):=Aa (by
      rw [List.take_succ_eq_append_getElem hjl,List.map_append,List.append_assoc];rfl)
     have hml:(M++(l.take j).map λa=>CY s.sh k cl a).length<=2000:=by
      simp only [AQ,BJ,List.length_take];omega
     generalize l[j]=a at*;generalize(M++(l.take j).map λa=>CY s.sh k cl a)=Q at*
     go_wp2_with fail
     refine(QX.out wr).mono ?_;rintro e w5⟨rfl,hd5⟩;have Aoc:=hd5.below w.heap.size;have Jz:=Aa (HB4.out.trans (hd5.below w.heap.size));have Asp:=Aa (qG.out w5 a Jz.out ha16);have fE:=Aa (EU bY.out (Kept.of_below (r:=none) (hd5.below _)) (by
      rcases bY.out.2 with⟨h1,_⟩| ⟨g,cap,cur,h1,_⟩
      ·exact .inr (by subst h1;rfl)
      ·exact .inl (by subst h1;exact λe=>nomatch e)))
     clear bY HB4
     go_wp2_with fail
     refine Asp.out.mono ?_;rintro e w6⟨rfl,hd6⟩;have Me:=Aa (Jz.out.trans (hd6.below w.heap.size));have kP:=Aa (EU fE.out (Kept.of_below (r:=none) (hd6.below _)) (by
      rcases fE.out.2 with⟨h1,_⟩| ⟨g,cap,cur,h1,_⟩
      ·exact .inr (by subst h1;rfl)
      ·exact .inl (by subst h1;exact λe=>nomatch e)))
     have HT6:=Me;have hs6:wr.heap.size<=w6.heap.size:=Bc (Aoc.size) (hd6.below w.heap.size).size;have Yr:Rd w6 (some (Δ b off)) l.length (VB l):=Rd.below HR4.out ((hd5.below _).trans ((hd6.below _).mono Aoc.size));have uP:=Aa Yr;clear Asp hd6 fE Jz Yr hd5 Aoc
     go_wp2_with(at_builtin;refine Ep rfl (.tmp 27) (.tmp 34) 38 rfl Tryz.WO w6 w.heap.size u3 Q.length (VB Q) [.int .i64 ((CY s.sh k cl a:Nat):Int)] rfl (by exact kP.out) rfl w6.heap.size 1 rfl rfl rfl U (by intro u hu;simp at hu;subst hu;rfl) O U (by exact HT6.out.size) ?_;intro g8 c8 w8 hO8 YH hK8 hg8)
     have HO8:=Aa hO8;have cO:=Aa (HT6.out.trans YH);have hne:=(Aso.out _ rfl).2;have hbl:=(Aso.out _ rfl).1;simp only at hne hbl;have HR8:Hid (Rd w8 (some (Δ b off)) l.length (VB l)):=Aa (by
      refine⟨uP.out.1,λhn=> ?_⟩;obtain⟨b',off',e',hb',Avh⟩:=uP.out.2 hn;injection e' with e'
      injection e' with e1 e2
      subst e1 e2;exact⟨b,off,rfl,BQ hb' hK8.1,λj hj=>(World.cell?_of_block (w:=w6) (hK8.2 b hb' (λe=>hne e.symm))).trans (Avh j hj)⟩)
     have HA8:Hid (b<w8.heap.size/\some g8≠some b):=Aa (by
      refine⟨Ω hK8.1,λe=> ?_⟩;injection e with e
      rcases hg8 with h| h
      ·exact hne (by rw [h,e])
      ·omega)
     clear hO8 YH hK8 hg8 hne hbl uP
     go_wp2_with fail
     go_roundw
     case rel=>exact⟨j+1,O,by go_num,by rw [HTj.out,AQ,Aam];exact HO8.out,cO.out,HR8.out,λa ea=>by injection ea with ea;subst ea;exact HA8.out⟩
     case measure=>simp [intOf];omega
    ·obtain⟨hy2,hy5⟩:=mQ hjl;have hjn:j=l.length:=O
     subst hjn;have fE:Hid (wr.ownsRow w.heap.size 3 1 u3 (M++l.map λa=>CY s.sh k cl a).length (VB (M++l.map λa=>CY s.sh k cl a))):=Aa (by have:=bY.out;rwa [List.take_length]at this);have HT5:=HB4;clear bY
     go_wp2_with fail
     go_roundw
     case rel=>exact⟨k+1,O,by go_num,by rw [UN.out];exact fE.out,HT5.out⟩
     case measure=>simp [intOf];omega
  ·obtain⟨hx2,hx5⟩:=mQ hlt;have hkn:k=n:=O
   subst hkn
   go_wp2_with fail
   go_ret;exact⟨_,rfl,HO.out,HB.out⟩
end
