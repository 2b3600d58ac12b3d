import Derived.Test.YtjcppneoncpdbaaGreatDoorG04
import Derived.Test.YtjcppneoncpdbaaGreatDoorG10
import Derived.Test.YtjcppneoncpdbaaGreatDoorG11
import Derived.Test.YtjcppneoncpdbaaGreatDoorG12
set_option maxHeartbeats 32000000
set_option maxRecDepth 100000
open Go.Lib renaming hid->Aa
open List renaming getElem?_cons_zero->Ad,getElem?_cons_succ->Af,range->Eo,range_succ->YM,length_filter_le->Ql,length_append->AQ,length_map->CZ
open Nat renaming lt_of_lt_of_le->Cb,zero_le->BH,le_trans->Bf
open UInt64 renaming ofNat->AA
open Go.World renaming ownsRow_nil->EO
open Array renaming getElem?_eq_some_iff->Az
namespace Go.Proofs.YtjcppneoncpdbaaGreatDoor
open Go.RowKit
theorem Tryz.Aes:J4 Tryz.prog 59 3 (.int .i64 0) 1 8:=⟨Tryz.underlying59,by kernel_rfl,rfl⟩
section
variable{w w':World}{x d p L:Nat}{s:St}{F:Nat->Prop}
theorem Q9(h:Ix w x d p L s F)(pl:Pl)(hp:xk L pl)(A1 A2 A3:Option Addr)(n1 c1 n2 c2 n3 c3:Nat)(n:UInt64):
 Calls Tryz.prog 139 #[.pointer (some ⟨x,0,none⟩),.agg #[.slice A1 n1 c1,.int .u64 (pl.nd.val.toNat:Int),.slice A2 n2 c2,.slice A3 n3 c3,.int .i64 pl.off,.int .u8 (pl.label.toNat:Int),.int .i64 pl.word],.int .u64 (n.toNat:Int)] w fun e w'=>
  e= .returned (.int .i64 0)/\∃F',Ix w' x d p L (JU s pl n) F'/\AB F F' w w':=by
 obtain⟨o,ho,hol⟩:=hp.off;obtain⟨l0,l1,ok,Fp⟩:=h.L0;have hb0:Below w.heap.size w (w.alloc (.cells #[.slice A1 n1 c1,.int .u64 (pl.nd.val.toNat:Int),.slice A2 n2 c2,.slice A3 n3 c3,.int .i64 pl.off,.int .u8 (pl.label.toNat:Int),.int .i64 pl.word] 227)):=(Below.refl _ _).alloc (Nat.le_refl _) _;have HP:=Aa (fun(W:World)(hW:Below w.heap.size w W)=>WJ (h.below hW).sys (o+2) n (by omega));rw [show((8*(o+2):Nat):Int)=pl.off+16 by omega]at HP;have HX:=Aa h;have hval:JU s pl n={s with ws:=FO s.ws (o+2) n}:=by unfold JU;rw [ho,show((8*o:Nat):Int).toNat/8=o by omega]
 have HV:=Aa hval;have hw1:IntKind.i64.wrap (pl.off+16)=pl.off+16:=wrap64 _ (by omega) (by omega);have y0:=(hb0.cell (p:=⟨x,0,none⟩) h.box.lt).trans (h.box.cell 0);simp only [Ad]at y0;have B0:BI (w.alloc (.cells #[.slice A1 n1 c1,.int .u64 (pl.nd.val.toNat:Int),.slice A2 n2 c2,.slice A3 n3 c3,.int .i64 pl.off,.int .u8 (pl.label.toNat:Int),.int .i64 pl.word] 227)) w.heap.size 227 [.slice A1 n1 c1,.int .u64 (pl.nd.val.toNat:Int),.slice A2 n2 c2,.slice A3 n3 c3,.int .i64 pl.off,.int .u8 (pl.label.toNat:Int),.int .i64 pl.word]:=heap_alloc_new _ _;have y4:=(En B0).2.2.2.2.1;have hoff:0<=pl.off/\pl.off<=65536:=by omega
 generalize pl.off=off at*;clear h hval hp ho hol ok Fp B0;go_enter Tryz.func139,Tryz.ntmps139
 go_wp2_with fail
 generalize w.alloc (.cells #[.slice A1 n1 c1,.int .u64 (pl.nd.val.toNat:Int),.slice A2 n2 c2,.slice A3 n3 c3,.int .i64 off,.int .u8 (pl.label.toNat:Int),.int .i64 pl.word] 227)=W0 at*
 go_region_with(go_at_call 50;go_loud(refine(HP.out _ (hb0.trans ((Dr.drew _).below _))).mono ?_;rintro e w8⟨rfl,F',hs8,dW⟩))
 all_goals(go_wp2_with fail)
 all_goals(go_ret)
 all_goals(have hm:=(AB.of_below (F:=F) (hb0.trans ((Dr.drew W0).below _))).trans dW)
 all_goals(exact⟨rfl,F',by rw [HV.out];exact HX.out.move hs8 hm,hm⟩)
end
def Ia(r:Jb×UInt64×Int)(base jb x d p L:Nat)(G:Nat->Prop)(w:World)(e:Ending)(w':World):Prop:=
 e= .returned (.tuple #[.int .u64 (r.2.1.toNat:Int),.int .i64 r.2.2])/\∃G',FU w' base jb x d p L r.1 G'/\AB G G' w w'
section
variable{w w':World}{base jb x d p L:Nat}{j:Jb}{G:Nat->Prop}
theorem KY(h:FU w base jb x d p L j G)(nd:Nd)(A1 A2 A3:Option Addr)(c1 c2 c3:Nat)(b1:nd.pre.length<=1000)(b2:nd.labels.length<=1000)(b3:nd.kids.length<=1000)
 (h1:Bs w A1 nd.pre.length nd.pre)(h2:Bs w A2 nd.labels.length nd.labels)(h3:Ws w A3 nd.kids.length nd.kids)(hm:j.made.length<=1000):
 Calls Tryz.prog 177 #[.pointer (some ⟨jb,0,none⟩),.agg #[.slice A1 nd.pre.length c1,.int .u64 (nd.val.toNat:Int),.slice A2 nd.labels.length c2,.slice A3 nd.kids.length c3]] w (Ia (DT j nd) base jb x d p L G w):=by
 obtain⟨W,hW,e0,e1,e2,e3,hb,hs⟩:=zX w 225 (.slice A1 nd.pre.length c1) (.int .u64 (nd.val.toNat:Int)) (.slice A2 nd.labels.length c2) (.slice A3 nd.kids.length c3);have HW:=Aa hW;have HE:=Aa (Qs A1 A2 A3 nd.pre.length c1 nd.labels.length c2 nd.kids.length c3 nd W (by omega) (by omega) (by omega) (h1.below hb) (h2.below hb) (h3.below hb));have HJ:=Aa h;have HB:=Aa hb;clear hW h hb h1 h2 h3;cases hR:Cc nd with
 | false=>
   have HP:Hid (DT j nd=(j,0,5)):=Aa (by unfold DT;rw [hR];rfl);go_enter Tryz.func177,Tryz.ntmps177
   go_wp2_with fail
   rw [<-HW.out];clear HW;refine HE.out.mono ?_;rintro e w1⟨hb1,hp1⟩;rw [hR]at hp1;replace hp1:e= .returned (.tuple #[.slice none 0 0,.bool false]):=hp1;subst hp1;have HB1:=Aa (HB.out.trans (hb1.mono HB.out.size));clear hb1 HE e0 e1 e2 e3
   go_wp2_with fail
   go_ret2;refine⟨by rw [HP.out];rfl,G,?_,AB.of_below HB1.out⟩;rw [HP.out];exact HJ.out.below HB1.out
 | true=>
   obtain⟨F,v,hj,hG⟩:=HJ.out;obtain⟨l0,l1,ok,Fp⟩:=hj.ix.L0;have hbj:=HB.out;have hjW:=hj.below HB.out;have ho:=Aa hR;have hcl:(if nd.kids.length<=4 then(1:Int)else 2)=((Dl nd:Nat):Int):=by unfold Dl;split<;>rfl
   have HC:=Aa (fun(W':World)(v1 v2 v3:Value)=>UE v1 v2 v3 A3 nd.kids.length c3 W' (by omega));rw [hcl]at HC;have HRs:=Aa (fun(W':World)(hW:Below W.heap.size W W')=>PH (hjW.below hW).ix.sys (Dl nd) (by have:=Rf nd;omega) (by have:=Rf nd;omega));have HJW:=Aa hjW;have HG:=Aa hG;have y0:=hjW.box.cell 0;have y1:=hjW.box.cell 1;have u0:=hjW.ix.box.cell 0;have u1:=hjW.ix.box.cell 1;simp only [Ad,Af]at y0 y1 u0 u1;have hjl:=hjW.box.lt;have hxl:=hjW.ix.box.lt;have hwl:w.heap.size<W.heap.size:=by omega
   have wZ:=Aa ok;have HNt:=Aa Fp;clear hj hG hjW hbj hcl ok Fp hR;cases hres:C9 j.s (Dl nd)with
   | none=>
     have HV:Hid (resV j.s (Dl nd)= .tuple #[.int .i64 0,.int .i64 6]):=Aa (by unfold resV;rw [hres]);have HS:Hid (Qz j.s (Dl nd)=j.s):=Aa (by unfold Qz;rw [hres]);have HP:Hid (DT j nd=(j,0,6)):=Aa (by unfold DT;rw [ho.out,hres];rfl);rw [HV.out,HS.out]at HRs;clear HV HS hres;go_enter Tryz.func177,Tryz.ntmps177
     go_wp2_with fail
     rw [<-HW.out];clear HW;refine HE.out.mono ?_;rintro e w1⟨hb1,hp1⟩;rw [ho.out,if_pos rfl]at hp1;obtain⟨vr,rfl,hor⟩:=hp1;obtain⟨Ar,cr,rfl,hcr,hrr⟩:=CP hor;have HB1:=Aa hb1;replace y0:=(hb1.cell (p:=⟨jb,0,none⟩) hjl).trans y0;replace y1:=(hb1.cell (p:=⟨jb,1,none⟩) hjl).trans y1;replace u0:=(hb1.cell (p:=⟨x,0,none⟩) hxl).trans u0;replace u1:=(hb1.cell (p:=⟨x,1,none⟩) hxl).trans u1;replace e0:=(hb1.cell (p:=⟨w.heap.size,0,none⟩) hwl).trans e0;replace e1:=(hb1.cell (p:=⟨w.heap.size,1,none⟩) hwl).trans e1;replace e2:=(hb1.cell (p:=⟨w.heap.size,2,none⟩) hwl).trans e2;replace e3:=(hb1.cell (p:=⟨w.heap.size,3,none⟩) hwl).trans e3;have Aet:jb<w1.heap.size:=Cb hjl hb1.size;have Aeu:x<w1.heap.size:=Cb hxl hb1.size;clear hb1 HE hor hrr
     go_wp2_with fail
     go_region_with(first
      | (go_at_call 195;go_loud(refine(HC.out _ _ _ _).mono ?_;rintro e w2⟨rfl,hb2⟩;have z0:=(hb2.cell (p:=⟨jb,0,none⟩) Aet).trans y0;have z1:=(hb2.cell (p:=⟨x,1,none⟩) Aeu).trans u1;have hB2:=(HB1.out.trans (((Dr.drew w1).below W.heap.size))).trans (hb2.mono HB1.out.size)))
      | (go_at_call 34;go_loud(refine(HRs.out _ hB2).mono ?_;rintro e w3⟨rfl,hs3,hm3⟩)))
     all_goals(obtain⟨G',q1,q2,q3⟩:=(HJW.out.below hB2).move HG.out hs3 hm3)
     all_goals(have HF:Hid (∃G',FU w3 base jb x d p L j G'/\AB G G' w w3):=Aa ⟨G',⟨F,v,q1,q2⟩,(AB.of_below (HB.out.trans (hB2.mono HB.out.size))).trans q3⟩)
     all_goals(clear q1 q2 q3 hs3 hm3 hB2 z0 z1 hb2)
     all_goals(go_wp2_with fail)
     all_goals(go_ret2)
     all_goals(refine⟨by rw [HP.out];rfl,?_⟩)
     all_goals(rw [HP.out])
     all_goals(exact HF.out)
   | some os=>
     obtain⟨off,s1⟩:=os;obtain⟨o,ho8,hol⟩:=SQ wZ.out HNt.out (Rf nd) hres;have HV:Hid (resV j.s (Dl nd)= .tuple #[.int .i64 (off:Int),.int .i64 0]):=Aa (by unfold resV;rw [hres]);have HS:Hid (Qz j.s (Dl nd)=s1):=Aa (by unfold Qz;rw [hres]);obtain⟨T,hT⟩:∃T,T=Fh {s1 with ws:=BA s1.ws (off/8) (DI nd)} (off:Int):=⟨_,rfl⟩;have HP:Hid (DT j nd=if T.2=0 then(⟨T.1,j.made++[(off:Int)]⟩,AA off,0)else(⟨T.1,j.made++[(off:Int)]⟩,0,T.2)):=Aa (by unfold DT;rw [ho.out,hres,hT];rfl);rw [HV.out,HS.out]at HRs;have hoff:(off:Int)<=65536:=by omega
     have hlen:=qj nd;have HT:=Aa hT;have HO8:=Aa ho8;have HOl:=Aa hol;have HLen:=Aa hlen;have HEl:Hid (0<(DI nd).length):=Aa (by rw [hlen];rcases Rf nd with e| e<;>rw [e]<;>decide);have HU:Hid (((AA off).toNat:Int)=(off:Int)):=Aa (by rw [UInt64.toNat_ofNat'];omega);have hwu:IntKind.u64.wrap (off:Int)=(off:Int):=by
      exact IntWalk.u64_in _ (by omega)
     have jM:=Aa HJ.out.lt;clear hlen hol hT ho8;clear HV HS hres;go_enter Tryz.func177,Tryz.ntmps177
     go_wp2_with fail
     rw [<-HW.out];clear HW;refine HE.out.mono ?_;rintro e w1⟨hb1,hp1⟩;rw [ho.out,if_pos rfl]at hp1;obtain⟨vr,rfl,hor⟩:=hp1;obtain⟨Ar,cr,rfl,hcr,hrr⟩:=CP hor;have HB1:=Aa hb1;replace y0:=(hb1.cell (p:=⟨jb,0,none⟩) hjl).trans y0;replace y1:=(hb1.cell (p:=⟨jb,1,none⟩) hjl).trans y1;replace u0:=(hb1.cell (p:=⟨x,0,none⟩) hxl).trans u0;replace u1:=(hb1.cell (p:=⟨x,1,none⟩) hxl).trans u1;replace e0:=(hb1.cell (p:=⟨w.heap.size,0,none⟩) hwl).trans e0;replace e1:=(hb1.cell (p:=⟨w.heap.size,1,none⟩) hwl).trans e1;replace e2:=(hb1.cell (p:=⟨w.heap.size,2,none⟩) hwl).trans e2;replace e3:=(hb1.cell (p:=⟨w.heap.size,3,none⟩) hwl).trans e3;have Aet:jb<w1.heap.size:=Cb hjl hb1.size;have Aeu:x<w1.heap.size:=Cb hxl hb1.size;have dH:Hid (JI w1 G Ar (DI nd).length ((DI nd).map wv)):=Aa (JI.LY hor (fun b hb1' _ hg=>by have:=jM.out b hg;have:=HB.out.size;omega));clear hb1 HE hor hrr
     go_wp2_with fail
     go_region_with(first
      | (go_at_call 195;go_loud(refine(HC.out _ _ _ _).mono ?_;rintro e w2⟨rfl,hb2⟩;have z0:=(hb2.cell (p:=⟨jb,0,none⟩) Aet).trans y0;have z1:=(hb2.cell (p:=⟨x,1,none⟩) Aeu).trans u1;have hB2:=(HB1.out.trans (((Dr.drew w1).below W.heap.size))).trans (hb2.mono HB1.out.size)))
      | (go_at_call 34;go_loud(refine(HRs.out _ hB2).mono ?_;rintro e w3⟨rfl,hs3,hm3⟩)))
     all_goals(obtain⟨G',q1,q2,q3⟩:=(HJW.out.below hB2).move HG.out hs3 hm3)
     all_goals(have HM3:Hid (AB G G' w w3):=Aa ((AB.of_below (HB.out.trans (hB2.mono HB.out.size))).trans q3))
     all_goals(have HR3:Hid (JI w3 G' Ar (DI nd).length ((DI nd).map wv)):=Aa ((dH.out.below (((Dr.drew w1).below w1.heap.size).trans hb2)).moved q3))
     all_goals(have Yf:=Aa q1)
     all_goals(have HG3:=Aa q2)
     all_goals(clear q1 q2 q3 hs3 hm3 hB2 z0 z1 hb2 y0 y1 u0 u1 e0 e1 e2 e3 Aet Aeu dH)
     all_goals(have y0:=Yf.out.box.cell 0)
     all_goals(have y1:=Yf.out.box.cell 1)
     all_goals(simp only [Ad,Af]at y0 y1)
     all_goals(have u0:=Yf.out.ix.box.cell 0)
     all_goals(simp only [Ad]at u0)
     all_goals(have hxj:=Yf.out.xj)
     all_goals(have hjx:jb≠x:=fun e=>hxj e.symm)
     all_goals(have jB:=Aa Yf.out.row)
     all_goals(have Ak1:base<=w3.heap.size:=Nat.le_of_lt (Nat.lt_of_le_of_lt Yf.out.bj Yf.out.box.lt))
     all_goals(have hmm:j.made.length<=1000000:=by omega)
     all_goals(clear HC HRs HB1 HB HJW)
     all_goals(go_wp2_with(at_builtin;refine DZ rfl (.tmp 39) (.tmp 41) 59 rfl Tryz.Aes w3 base v j.made.length (j.made.map zv) [zv (off:Int)] rfl jB.out rfl w3.heap.size 1 rfl rfl rfl (by decide) (by simp [zv,Value.oneCell']) hmm (by decide) Ak1 ?_;intro g6 c6 w6 XQ QV hK6 gK;have B6:BI w6 jb 235 [.pointer (some ⟨x,0,none⟩),v]:=(hK6.2 jb Yf.out.box.lt (fun e=>Yf.out.mj e.symm)).trans Yf.out.box;have X6:BI w6 x 181 [.pointer (some ⟨d,0,none⟩),.pointer (some ⟨p,0,none⟩)]:=(hK6.2 x Yf.out.ix.box.lt (fun e=>Yf.out.mx e.symm)).trans Yf.out.ix.box;have z0:=B6.cell 0;have z1:=B6.cell 1;have fz1:=B6.frozen 1;have s0:=X6.cell 0;have s1:=X6.cell 1;simp only [Ad,Af]at z0 z1 s0 s1))
     all_goals(obtain⟨G7,q1,q2,q3⟩:=Yf.out.app HG3.out (o:=(off:Int)) (by omega) XQ QV hK6 gK)
     all_goals(obtain⟨W7,hW7⟩:∃W7,W7=w6.setCell ⟨jb,1,none⟩ (.slice (some ⟨g6,0,none⟩) (j.made.length+1) c6):=⟨_,rfl⟩)
     all_goals(rw [<-hW7]at q1 q3⊢)
     all_goals(have HPA:=XD q1.ix.sys o (DI nd).length cr Ar (DI nd) (by have:=HOl.out;have:=HLen.out;omega) HEl.out (HR3.out.moved q3).1)
     all_goals(rw [show((8*o:Nat):Int)=(off:Int)by have:=HO8.out;omega]at HPA)
     all_goals(have Zg:=Aa (HM3.out.trans q3))
     all_goals(have HJ7:=Aa q1)
     all_goals(have HG7:=Aa q2)
     all_goals(clear q1 q2 q3 XQ QV hK6 gK B6 X6 z0 z1 fz1 s0 s1 hW7 HM3 HR3 Yf HG3 y0 y1 u0 jB Ak1)
     all_goals(refine HPA.mono ?_)
     all_goals(rintro e w8⟨rfl,F8,hs8,dW⟩)
     all_goals(obtain⟨G8,q1,q2,q3⟩:=HJ7.out.move HG7.out hs8 dW)
     all_goals(have YI:=ZL q1.ix.sys (off:Int) (by omega))
     all_goals(rw [show({s:={s1 with ws:=BA s1.ws o (DI nd)},made:=j.made++[(off:Int)]}:Jb).s={s1 with ws:=BA s1.ws (off/8) (DI nd)}by rw [HO8.out,show 8*o/8=o by omega],<-HT.out]at YI)
     all_goals(have YI:=Aa YI)
     all_goals(have HM8:=Aa (Zg.out.trans q3))
     all_goals(have HJ8:=Aa q1)
     all_goals(have HG8:=Aa q2)
     all_goals(have y0:=q1.box.cell 0)
     all_goals(have u1:=q1.ix.box.cell 1)
     all_goals(simp only [Ad,Af]at y0 u1)
     all_goals(clear q1 q2 q3 hs8 dW HPA Zg HJ7 HG7)
     all_goals(go_wp2_with fail)
     all_goals(refine YI.out.mono ?_)
     all_goals(rintro e w9⟨rfl,F9,hs9,hm9⟩)
     all_goals(obtain⟨G9,q1,q2,q3⟩:=HJ8.out.move HG8.out hs9 hm9)
     all_goals(have HF:Hid (∃G',FU w9 base jb x d p L ⟨T.1,j.made++[(off:Int)]⟩ G'/\AB G G' w w9):=Aa ⟨G9,⟨F9,_,q1,q2⟩,HM8.out.trans q3⟩)
     all_goals(obtain⟨te,hte⟩:∃te,te=T.2:=⟨_,rfl⟩)
     all_goals(rw [<-hte]at HP⊢)
     all_goals(clear q1 q2 q3 hs9 hm9 HM8 HJ8 HG8 YI y0 u1 HT hte)
     all_goals(by_cases he:te=0)
     all_goals first
      | (have HP':Hid (DT j nd=(⟨T.1,j.made++[(off:Int)]⟩,AA off,0)):=Aa (by rw [HP.out,if_pos he])
         subst he;clear HP
         go_wp2_with fail
         go_ret2;refine⟨by rw [HP'.out];show _=Ending.returned (.tuple #[.int .u64 ((AA off).toNat:Int),.int .i64 0]);rw [HU.out];rfl,?_⟩;rw [HP'.out];exact HF.out)
      | (have HP':Hid (DT j nd=(⟨T.1,j.made++[(off:Int)]⟩,0,te)):=Aa (by rw [HP.out,if_neg he])
         have t3:(te !=0)=true:=by rw [bne_iff_ne];exact he
         clear HP he
         go_wp2_with fail
         go_ret2;refine⟨by rw [HP'.out];rfl,?_⟩;rw [HP'.out];exact HF.out)
end
theorem Tryz.UU:J4 Tryz.prog 59 3 (.int .i64 0) 1 8:=⟨Tryz.underlying59,by kernel_rfl,rfl⟩
def Zh(l:List Nat):List Value:=l.map fun a=> .int .i64 ((a:Nat):Int)
theorem uB(l:List Nat)(a:Nat):Zh (l++[a])=Zh l++[.int .i64 (a:Int)]:=by simp [Zh]
theorem xB(x:Nat)(w:World)(hx:x<18446744073709551616):Calls Tryz.prog 55 #[.int .u64 (x:Int)] w fun e w'=>∃v,e= .returned v/\w'.ownsRow w.heap.size 3 1 v (Ox x).length (Zh (Ox x))/\Below w.heap.size w w':=by
 have HC:=Aa (GK x w hx);have dN:=Aa (fun W=>Gj (Bd x) W (by have:=MQ x;omega));have hbl:=H7 (Bd x);have HHs:=Aa (fun W a(ha:a<16)=>Qw x a W hx (by omega));have hdef:Ox x=(Eo (Bi (Bd x))).filter (EF x):=rfl;rw [hdef];clear hdef;generalize Bi (Bd x)=nb at*;generalize Bd x=cl at*;go_enter Tryz.func55,Tryz.ntmps55
 go_wp2_with fail
 refine HC.out.mono ?_;rintro e w1⟨rfl,hd1⟩;have HD1:=Aa (hd1.below w.heap.size);clear HC hd1
 go_wp2_with fail
 refine(dN.out w1).mono ?_;rintro e w2⟨rfl,rfl⟩;clear dN
 go_wp2_with fail
 go_loopw [3,8](fun u i wr=>∃k:Nat,k<=nb/\i= .int .i64 (k:Nat)/\wr.ownsRow w.heap.size 3 1 u ((Eo k).filter (EF x)).length (Zh ((Eo k).filter (EF x)))/\Below w.heap.size w wr)(fun _ i _=>nb- (intOf i).toNat)
 case atStart=>exact⟨0,BH _,rfl,EO _ _ _ _,HD1.out⟩
 case round=>
  obtain⟨k,hk,rfl,hown,hb⟩:=hrel;have HO:=Aa hown;have HB:=Aa hb;clear hown hb;by_cases hlt:k<nb
  ·have hx1:(k:Int)<(nb:Int):=by omega
   have hx2:decide ((k:Int)<(nb:Int))=true:=decide_eq_true hx1;have hx5:decide (k<nb)=true:=decide_eq_true hlt;have hwk:IntKind.i64.wrap ((k:Int)+1)=(k:Int)+1:=wrap64 _ (by omega) (by omega);have YI:Hid ((Eo (k+1)).filter (EF x)=if EF x k then(Eo k).filter (EF x)++[k]else(Eo k).filter (EF x)):=Aa (by
    rw [YM,List.filter_append];simp only [List.filter_cons,List.filter_nil];split<;>simp)
   have hfl:((Eo k).filter (EF x)).length<=16:=Bf (Ql _ _) (by simp;omega);have HH:=Aa (HHs.out wr k (by omega));generalize(Eo k).filter (EF x)=M at*
   go_wp2_with fail
   refine HH.out.mono ?_;rintro e w3⟨rfl,hd3⟩;have HB3:=Aa (HB.out.trans (hd3.below w.heap.size));have dK:=Aa (ED HO.out (Kept.of_below (r:=none) (hd3.below _)) (by
    rcases HO.out.2 with⟨h1,_⟩| ⟨g,cap,cur,h1,_⟩
    ·exact .inr (by subst h1;rfl)
    ·exact .inl (by subst h1;exact fun e=>nomatch e)))
   clear HH hd3 HO HB;cases hh:EF x k with
   | true=>
     rw [hh,if_pos rfl]at YI
     go_wp2_with(at_builtin;refine DZ rfl (.tmp 14) (.tmp 16) 59 rfl Tryz.UU w3 w.heap.size u3 M.length (Zh M) [.int .i64 (k:Int)] rfl (by exact dK.out) rfl w3.heap.size 1 rfl rfl rfl (by decide) (by intro u hu;simp at hu;subst hu;rfl) (by omega) (by decide) (by exact HB3.out.size) ?_;intro g6 c6 w6 XQ QV hK6 gK)
     have dV:=Aa XQ;have NH:=Aa (HB3.out.trans QV);clear XQ QV hK6 gK
     go_wp2_with fail
     go_roundw
     case rel=>exact⟨k+1,by omega,by go_num,by rw [YI.out,AQ,uB];exact dV.out,NH.out⟩
     case measure=>simp [intOf];omega
   | false=>
     rw [hh]at YI
     go_wp2_with fail
     go_roundw
     case rel=>exact⟨k+1,by omega,by go_num,by rw [YI.out];exact dK.out,HB3.out⟩
     case measure=>simp [intOf];omega
  ·have hx2:decide ((k:Int)<(nb:Int))=false:=decide_eq_false (by omega);have hx5:decide (k<nb)=false:=decide_eq_false hlt;have hkn:k=nb:=by omega
   subst hkn
   go_wp2_with fail
   go_ret;exact⟨_,rfl,HO.out,HB.out⟩
section
variable{w w':World}{d p L:Nat}{s:St}{tb hb n cT cH:Nat}
def WO(s:St)(i:Nat):List Nat:=(Ox (Hr s i)).map fun a=>CS s.sh i (Bd (Hr s i)) a
def PY(s:St)(i:Nat):List Nat:=(Eo i).flatMap (WO s)
theorem Yg(s:St)(i:Nat):PY s (i+1)=PY s i++WO s i:=by simp [PY,YM]
theorem jO(s:St)(i:Nat):(WO s i).length<=16:=by
 unfold WO;rw [CZ];exact Bf (Ql _ _) (by simp [H7])
theorem aj(s:St):∀i,(PY s i).length<=16*i
 | 0=>by simp [PY]
 | i+1=>by rw [Yg,AQ];have:=aj s i;have:=jO s i;omega
theorem Yh(h:Iu w d p L s tb hb n cT cH):Calls Tryz.prog 22 #[.pointer (some ⟨p,0,none⟩)] w fun e w'=>∃v,e= .returned v/\w'.ownsRow w.heap.size 3 1 v (Jo s).length (Zh (Jo s))/\Below w.heap.size w w':=by
 have UT:=Aa (Gu h);have HP:=Aa h;have y5:=h.y5;have Ag6:n<=64:=by have:=h.ok.fits;have:=h.L1;have:=h.dm;omega
 have hall:Jo s=PY s n:=by unfold Jo PY;rw [h.Ot];rfl
 rw [hall];clear h hall;go_enter Tryz.func22,Tryz.ntmps22
 go_wp2_with fail
 refine UT.out.mono ?_;rintro e w1⟨rfl,rfl⟩;clear UT
 go_wp2_with fail
 go_loopw [3,15](fun u i wr=>∃k:Nat,k<=n/\i= .int .i64 (k:Nat)/\wr.ownsRow w.heap.size 3 1 u (PY s k).length (Zh (PY s k))/\Below w.heap.size w wr)(fun _ i _=>n- (intOf i).toNat)
 case atStart=>exact⟨0,BH _,rfl,EO _ _ _ _,Below.refl _ _⟩
 case round=>
  obtain⟨k,hk,rfl,hown,hb⟩:=hrel;have HO:=Aa hown;have HB:=Aa hb;clear hown hb;by_cases hlt:k<n
  ·have hx1:(k:Int)<(n:Int):=by omega
   have hx2:decide ((k:Int)<(n:Int))=true:=decide_eq_true hx1;have hx5:decide (k<n)=true:=decide_eq_true hlt;have hwk:IntKind.i64.wrap ((k:Int)+1)=(k:Int)+1:=wrap64 _ (by omega) (by omega);have z1:=(HP.out.below HB.out).tk k hlt;have hx:=Px s k;have hcl:=MQ (Hr s k);have hal:=aj s k;have qx:=Aa (xB (Hr s k) wr hx);have SL:=Aa (fun W=>GK (Hr s k) W hx);have jP:=Aa (fun(W:World)a(hW:Below w.heap.size w W)(ha:a<=16)=>SI (HP.out.below hW) k (Bd (Hr s k)) a hlt hcl ha);have YI:Hid (PY s (k+1)=PY s k++(Ox (Hr s k)).map fun a=>CS s.sh k (Bd (Hr s k)) a):=Aa (Yg s k);have hls:∀a∈Ox (Hr s k),a<=16:=fun a ha=>by
    have:=List.mem_range.1 (List.mem_filter.1 ha).1;have:=H7 (Bd (Hr s k));omega
   have hll:(Ox (Hr s k)).length<=16:=Bf (Ql _ _) (by simp [H7]);generalize Ox (Hr s k)=l at*;generalize Bd (Hr s k)=cl at*;generalize Hr s k=x at*;generalize PY s k=M at*
   go_wp2_with fail
   refine qx.out.mono ?_;rintro e w3⟨v3,rfl,ho3,hb3⟩;have hA3:∀A c,v3= .slice A l.length c->∀a,A=some a->wr.heap.size<=a.block/\a.block<w3.heap.size:=fun A c e a ea=>by
    rcases ho3.2 with⟨h1,_⟩| ⟨g,cap,cur,h1,h2,h3,_⟩
    ·rw [h1,ea]at e;cases e
    ·rw [h1,ea]at e;injection e with e
     injection e with e
     rw [<-e];exact⟨h2,(Az.1 h3).1⟩
   obtain⟨A3,c3,rfl,hc3,hr3⟩:=CP ho3;have hap:∀a,A3=some a->a.block<w3.heap.size/\u3.ownBlock≠some a.block:=fun a ea=>by
    obtain⟨h1,h2⟩:=hA3 A3 c3 rfl a ea;refine⟨h2,fun e=> ?_⟩;rcases HO.out.2 with⟨h3,_⟩| ⟨g,cap,cur,h3,_,h4,_⟩
    ·rw [h3]at e;cases e
    ·rw [h3]at e;injection e with e
     have:=(Az.1 h4).1;simp only at e;omega
   have HAp:=Aa hap;clear hA3 hap;have HR3:=Aa hr3;have HB3:=Aa (HB.out.trans (hb3.mono HB.out.size));have dK:=Aa (ED HO.out (Kept.of_below (r:=none) hb3) (by
    rcases HO.out.2 with⟨h1,_⟩| ⟨g,cap,cur,h1,_⟩
    ·exact .inr (by subst h1;rfl)
    ·exact .inl (by subst h1;exact fun e=>nomatch e)))
   clear qx ho3 hb3 hr3 HO HB
   go_wp2_with fail
   go_loopw [3,23](fun u i wr=>∃j:Nat,j<=l.length/\i= .int .i64 (j:Nat)/\wr.ownsRow w.heap.size 3 1 u (M++(l.take j).map fun a=>CS s.sh k cl a).length (Zh (M++(l.take j).map fun a=>CS s.sh k cl a))/\Below w.heap.size w wr/\Rd wr A3 l.length (Zh l)/\∀a,A3=some a->a.block<wr.heap.size/\u.ownBlock≠some a.block)(fun _ i _=>l.length- (intOf i).toNat)
   case atStart=>exact⟨0,BH _,rfl,by simpa using dK.out,HB3.out,HR3.out,HAp.out⟩
   case round=>
    obtain⟨j,hj,rfl,hown,hb,hrd,hap⟩:=hrel;have YT:=Aa hown;have HB4:=Aa hb;have HR4:=Aa hrd;have Ak2:=Aa hap;clear hown hb hrd hap HAp;by_cases hjl:j<l.length
    ·have hy1:(j:Int)<(l.length:Int):=by omega
     have hy2:decide ((j:Int)<(l.length:Int))=true:=decide_eq_true hy1;have hy5:decide (j<l.length)=true:=decide_eq_true hjl;have hwj:IntKind.i64.wrap ((j:Int)+1)=(j:Int)+1:=wrap64 _ (by omega) (by omega);obtain⟨b,off,rfl,hbw,hcc⟩:=HR4.out.2 (by omega);have z2:=hcc j hjl;rw [Zh,List.getElem?_map,List.getElem?_eq_getElem hjl]at z2;simp only [Option.map_some]at z2;clear hcc;have ha16:=hls l[j] (List.getElem_mem hjl);have HTj:Hid (M++(l.take (j+1)).map (fun a=>CS s.sh k cl a)=M++(l.take j).map (fun a=>CS s.sh k cl a)++[CS s.sh k cl l[j]]):=Aa (by
      rw [List.take_succ_eq_append_getElem hjl,List.map_append,List.append_assoc];rfl)
     have hml:(M++(l.take j).map fun a=>CS s.sh k cl a).length<=2000:=by
      simp only [AQ,CZ,List.length_take];omega
     generalize l[j]=a at*;generalize(M++(l.take j).map fun a=>CS s.sh k cl a)=Q at*
     go_wp2_with fail
     refine(SL.out wr).mono ?_;rintro e w5⟨rfl,hd5⟩;have Ahr:=hd5.below w.heap.size;have Ou:=Aa (HB4.out.trans (hd5.below w.heap.size));have Ak3:=Aa (jP.out w5 a Ou.out ha16);have Z7:=Aa (ED YT.out (Kept.of_below (r:=none) (hd5.below _)) (by
      rcases YT.out.2 with⟨h1,_⟩| ⟨g,cap,cur,h1,_⟩
      ·exact .inr (by subst h1;rfl)
      ·exact .inl (by subst h1;exact fun e=>nomatch e)))
     clear YT HB4
     go_wp2_with fail
     refine Ak3.out.mono ?_;rintro e w6⟨rfl,hd6⟩;have NH:=Aa (Ou.out.trans (hd6.below w.heap.size));have dV:=Aa (ED Z7.out (Kept.of_below (r:=none) (hd6.below _)) (by
      rcases Z7.out.2 with⟨h1,_⟩| ⟨g,cap,cur,h1,_⟩
      ·exact .inr (by subst h1;rfl)
      ·exact .inl (by subst h1;exact fun e=>nomatch e)))
     have HT6:=NH;have hs6:wr.heap.size<=w6.heap.size:=Bf (Ahr.size) (hd6.below w.heap.size).size;have Wx:Rd w6 (some ⟨b,off,none⟩) l.length (Zh l):=Rd.below HR4.out ((hd5.below _).trans ((hd6.below _).mono Ahr.size));have HR6:=Aa Wx;clear Ak3 hd6 Z7 Ou Wx hd5 Ahr
     go_wp2_with(at_builtin;refine DZ rfl (.tmp 27) (.tmp 34) 59 rfl Tryz.UU w6 w.heap.size u3 Q.length (Zh Q) [.int .i64 ((CS s.sh k cl a:Nat):Int)] rfl (by exact dV.out) rfl w6.heap.size 1 rfl rfl rfl (by decide) (by intro u hu;simp at hu;subst hu;rfl) (by omega) (by decide) (by exact HT6.out.size) ?_;intro g8 c8 w8 hO8 IM hK8 hg8)
     have HO8:=Aa hO8;have KC:=Aa (HT6.out.trans IM);have hne:=(Ak2.out _ rfl).2;have hbl:=(Ak2.out _ rfl).1;simp only at hne hbl;have HR8:Hid (Rd w8 (some ⟨b,off,none⟩) l.length (Zh l)):=Aa (by
      refine⟨HR6.out.1,fun hn=> ?_⟩;obtain⟨b',off',e',hb',Anh⟩:=HR6.out.2 hn;injection e' with e'
      injection e' with e1 e2
      subst e1 e2;exact⟨b,off,rfl,Cb hb' hK8.1,fun j hj=>(World.cell?_of_block (w:=w6) (hK8.2 b hb' (fun e=>hne e.symm))).trans (Anh j hj)⟩)
     have HA8:Hid (b<w8.heap.size/\some g8≠some b):=Aa (by
      refine⟨by have:=hK8.1;omega,fun e=> ?_⟩;injection e with e
      rcases hg8 with h| h
      ·exact hne (by rw [h,e])
      ·omega)
     clear hO8 IM hK8 hg8 hne hbl HR6
     go_wp2_with fail
     go_roundw
     case rel=>exact⟨j+1,by omega,by go_num,by rw [HTj.out,AQ,uB];exact HO8.out,KC.out,HR8.out,fun a ea=>by injection ea with ea;subst ea;exact HA8.out⟩
     case measure=>simp [intOf];omega
    ·have hy2:decide ((j:Int)<(l.length:Int))=false:=decide_eq_false (by omega);have hy5:decide (j<l.length)=false:=decide_eq_false hjl;have hjn:j=l.length:=by omega
     subst hjn;have Z7:Hid (wr.ownsRow w.heap.size 3 1 u3 (M++l.map fun a=>CS s.sh k cl a).length (Zh (M++l.map fun a=>CS s.sh k cl a))):=Aa (by have:=YT.out;rwa [List.take_length]at this);have HT5:=HB4;clear YT
     go_wp2_with fail
     go_roundw
     case rel=>exact⟨k+1,by omega,by go_num,by rw [YI.out];exact Z7.out,HT5.out⟩
     case measure=>simp [intOf];omega
  ·have hx2:decide ((k:Int)<(n:Int))=false:=decide_eq_false (by omega);have hx5:decide (k<n)=false:=decide_eq_false hlt;have hkn:k=n:=by omega
   subst hkn
   go_wp2_with fail
   go_ret;exact⟨_,rfl,HO.out,HB.out⟩
end
end Go.Proofs.YtjcppneoncpdbaaGreatDoor
