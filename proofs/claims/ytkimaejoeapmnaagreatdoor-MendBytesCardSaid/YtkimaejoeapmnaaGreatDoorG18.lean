import Derived.Test.YtkimaejoeapmnaaGreatDoorG15
set_option maxHeartbeats 32000000
set_option maxRecDepth 100000
open Go.Lib renaming hid->Aa
open List renaming getElem?_cons_zero->Aj,getElem?_cons_succ->Az,range->D7,range_succ->aF,length_filter_le->Me,length_append->AQ,length_map->BH
open Nat renaming lt_of_lt_of_le->Cf,zero_le->BK,le_trans->Bg
open UInt64 renaming ofNat->AA
open Go.World renaming ownsRow_nil->Fj
open Array renaming getElem?_eq_some_iff->AB
namespace Go.Proofs.YtkimaejoeapmnaaGreatDoor
open Go.RowKit
theorem Tryz.Ai9:Jt Tryz.prog 38 3 (.int .i64 0) 1 8:=⟨Tryz.underlying38,by kernel_rfl,rfl⟩
section
variable{w w':World}{x d p L:Nat}{s:St}{F:Nat->Prop}
theorem Qd{q:Ms}(h:IxM w x d p L q F)(pl:Pl)(hp:Abm L pl)(A1 A2 A3:Option Addr)(n1 c1 n2 c2 n3 c3:Nat)(n:UInt64):
 Calls Tryz.prog 113 #[Aw x,.agg #[.slice A1 n1 c1,.int .u64 (pl.nd.val.toNat:Int),.slice A2 n2 c2,.slice A3 n3 c3,.int .i64 pl.off,.int .u8 (pl.label.toNat:Int),.int .i64 pl.word],.int .u64 (n.toNat:Int)] w fun e w'=>
  e= .returned (.int .i64 (NF q pl n).2)/\∃F',IxM w' x d p L (NF q pl n).1 F'/\AO F F' w w':=by
 obtain⟨o,ho,hol⟩:=hp.off;obtain⟨l0,l1,ok,FT⟩:=h.L0;have hb0:Below w.heap.size w (w.alloc (.cells #[.slice A1 n1 c1,.int .u64 (pl.nd.val.toNat:Int),.slice A2 n2 c2,.slice A3 n3 c3,.int .i64 pl.off,.int .u8 (pl.label.toNat:Int),.int .i64 pl.word] 214)):=(Below.refl _ _).alloc (Nat.le_refl _) _;have HP:=Aa (fun(W:World)(hW:Below w.heap.size w W)=>UO (q:=q) (h.below hW).sys (o+2) n (by omega));rw [show((8*(o+2):Nat):Int)=pl.off+16 by omega]at HP;have HX:=Aa h;have hval:NF q pl n=XU q 3 (Gg q.s.ws (o+2) n):=by unfold NF;rw [ho,show((8*o:Nat):Int).toNat/8=o by omega]
 rw [<-hval]at HP;generalize NF q pl n=vr at HP⊢;have hw1:IntKind.i64.wrap (pl.off+16)=pl.off+16:=wrap64 _ (by omega) (by omega);have y0:=(hb0.cell (p:=⟨x,0,none⟩) h.box.lt).trans (h.box.cell 0);simp only [Aj]at y0;have B0:CG (w.alloc (.cells #[.slice A1 n1 c1,.int .u64 (pl.nd.val.toNat:Int),.slice A2 n2 c2,.slice A3 n3 c3,.int .i64 pl.off,.int .u8 (pl.label.toNat:Int),.int .i64 pl.word] 214)) w.heap.size 214 [.slice A1 n1 c1,.int .u64 (pl.nd.val.toNat:Int),.slice A2 n2 c2,.slice A3 n3 c3,.int .i64 pl.off,.int .u8 (pl.label.toNat:Int),.int .i64 pl.word]:=heap_alloc_new _ _;have y4:=(ED B0).2.2.2.2.1;have hoff:0<=pl.off/\pl.off<=65536:=by omega
 generalize pl.off=off at*;clear h hval hp ho hol ok FT B0;go_enter Tryz.func113,Tryz.ntmps113
 go_wp2_with fail
 generalize w.alloc (.cells #[.slice A1 n1 c1,.int .u64 (pl.nd.val.toNat:Int),.slice A2 n2 c2,.slice A3 n3 c3,.int .i64 off,.int .u8 (pl.label.toNat:Int),.int .i64 pl.word] 214)=W0 at*
 go_region_with(go_at_call 95;go_loud(refine(HP.out _ (hb0.trans ((Dr.drew _).below _))).mono ?_;rintro e w8⟨rfl,F',hs8,VO⟩))
 all_goals(go_wp2_with fail)
 all_goals(go_ret)
 all_goals(have hm:=(AO.of_below (F:=F) (hb0.trans ((Dr.drew W0).below _))).trans VO)
 all_goals(exact⟨rfl,F',HX.out.move hs8 hm,hm⟩)
theorem Abw{q:Ms}(h:QC w d p L q F)(j n c:Nat)(A:Option Addr)(xs:List UInt64)(hj:j+n<=8*L)(hn0:0<n)(hx:Ws w A n xs){r:Ms}{cw:Int}(hr:XU q (iW j n) (BQ q.s.ws j xs)=(r,cw)):
 Calls Tryz.prog 139 #[Aw d,.int .i64 ((8*j:Nat):Int),.slice A n c] w fun e w'=>e= .returned (.int .i64 cw)/\∃F',QC w' d p L r F'/\AO F F' w w':=by
 have:=nz h j n c A xs hj hn0 hx;rw [show n+((j+n-1)/8-j/8+1)+1=iW j n from rfl,hr]at this;exact this
end
def Io(r:Jm×UInt64×Int)(base jb x d p L:Nat)(G:Nat->Prop)(w:World)(e:Ending)(w':World):Prop:=
 e= .returned (.tuple #[.int .u64 (r.2.1.toNat:Int),.int .i64 r.2.2])/\∃G',FU w' base jb x d p L r.1 G'/\AO G G' w w'
section
variable{w w':World}{base jb x d p L:Nat}{j:Jm}{G:Nat->Prop}
theorem Lj(h:FU w base jb x d p L j G)(nd:Nd)(A1 A2 A3:Option Addr)(c1 c2 c3:Nat)(b1:nd.pre.length<=1000)(b2:nd.labels.length<=1000)(b3:nd.kids.length<=1000)
 (h1:Bs w A1 nd.pre.length nd.pre)(h2:Bs w A2 nd.labels.length nd.labels)(h3:Ws w A3 nd.kids.length nd.kids)(hm:j.made.length<=1000):
 Calls Tryz.prog 159 #[Aw jb,.agg #[.slice A1 nd.pre.length c1,.int .u64 (nd.val.toNat:Int),.slice A2 nd.labels.length c2,.slice A3 nd.kids.length c3]] w (Io (Ec j nd) base jb x d p L G w):=by
 obtain⟨W,hW,e0,e1,e2,e3,hb,hs⟩:=Aea w 212 (.slice A1 nd.pre.length c1) (.int .u64 (nd.val.toNat:Int)) (.slice A2 nd.labels.length c2) (.slice A3 nd.kids.length c3);have HW:=Aa hW;have HE:=Aa (QR A1 A2 A3 nd.pre.length c1 nd.labels.length c2 nd.kids.length c3 nd W (by omega) (by omega) (by omega) (h1.below hb) (h2.below hb) (h3.below hb));have HJ:=Aa h;have HB:=Aa hb;clear hW h hb h1 h2 h3;cases hR:Ci nd with
 | false=>
   have HP:Hid (Ec j nd=(j,0,5)):=Aa (by unfold Ec;rw [hR];rfl);go_enter Tryz.func159,Tryz.ntmps159
   go_wp2_with fail
   rw [<-HW.out];clear HW;refine HE.out.mono ?_;rintro e w1⟨hb1,hp1⟩;rw [hR]at hp1;replace hp1:e= .returned (.tuple #[.slice none 0 0,.bool false]):=hp1;subst hp1;have HB1:=Aa (HB.out.trans (hb1.mono HB.out.size));clear hb1 HE e0 e1 e2 e3
   go_wp2_with fail
   go_ret2;refine⟨by rw [HP.out];rfl,G,?_,AO.of_below HB1.out⟩;rw [HP.out];exact HJ.out.below HB1.out
 | true=>
   obtain⟨F,v,hj,hG⟩:=HJ.out;obtain⟨l0,l1,ok,FT⟩:=hj.ix.L0;have hbj:=HB.out;have hjW:=hj.below HB.out;have ho:=Aa hR;have hcl:(if nd.kids.length<=4 then(1:Int)else 2)=((Dn nd:Nat):Int):=by unfold Dn;split<;>rfl
   have HC:=Aa (fun(W':World)(v1 v2 v3:Value)=>V7 v1 v2 v3 A3 nd.kids.length c3 W' (by omega));rw [hcl]at HC;have HRs:=Aa (fun(W':World)(hW:Below W.heap.size W W')=>MW (hjW.below hW).ix.sys (Dn nd) (by have:=SC nd;omega) (by have:=SC nd;omega));have HJW:=Aa hjW;have HG:=Aa hG;have y0:=hjW.box.cell 0;have y1:=hjW.box.cell 1;have u0:=hjW.ix.box.cell 0;have u1:=hjW.ix.box.cell 1;simp only [Aj,Az]at y0 y1 u0 u1;have hjl:=hjW.box.lt;have hxl:=hjW.ix.box.lt;have hwl:w.heap.size<W.heap.size:=by omega
   have iQ:=Aa ok;have HNt:=Aa FT;clear hj hG hjW hbj hcl ok FT hR;cases hres:CQ j.s.s (Dn nd)with
   | none=>
     have HV:Hid (resV j.s.s (Dn nd)= .tuple #[.int .i64 0,.int .i64 6]):=Aa (by unfold resV;rw [hres]);have HS:Hid (O5 j.s.s (Dn nd)=j.s.s):=Aa (by unfold O5;rw [hres]);have HP:Hid (Ec j nd=(j,0,6)):=Aa (by unfold Ec;rw [ho.out,hres];rfl);rw [HV.out,HS.out]at HRs;clear HV HS hres;go_enter Tryz.func159,Tryz.ntmps159
     go_wp2_with fail
     rw [<-HW.out];clear HW;refine HE.out.mono ?_;rintro e w1⟨hb1,hp1⟩;rw [ho.out,if_pos rfl]at hp1;obtain⟨vr,rfl,hor⟩:=hp1;obtain⟨Ar,cr,rfl,hcr,hrr⟩:=CO hor;have HB1:=Aa hb1;replace y0:=(hb1.cell (p:=⟨jb,0,none⟩) hjl).trans y0;replace y1:=(hb1.cell (p:=⟨jb,1,none⟩) hjl).trans y1;replace u0:=(hb1.cell (p:=⟨x,0,none⟩) hxl).trans u0;replace u1:=(hb1.cell (p:=⟨x,1,none⟩) hxl).trans u1;replace e0:=(hb1.cell (p:=⟨w.heap.size,0,none⟩) hwl).trans e0;replace e1:=(hb1.cell (p:=⟨w.heap.size,1,none⟩) hwl).trans e1;replace e2:=(hb1.cell (p:=⟨w.heap.size,2,none⟩) hwl).trans e2;replace e3:=(hb1.cell (p:=⟨w.heap.size,3,none⟩) hwl).trans e3;have Aja:jb<w1.heap.size:=Cf hjl hb1.size;have Ajb:x<w1.heap.size:=Cf hxl hb1.size;clear hb1 HE hor hrr
     go_wp2_with fail
     go_region_with(first
      | (go_at_call 184;go_loud(refine(HC.out _ _ _ _).mono ?_;rintro e w2⟨rfl,hb2⟩;have z0:=(hb2.cell (p:=⟨jb,0,none⟩) Aja).trans y0;have z1:=(hb2.cell (p:=⟨x,1,none⟩) Ajb).trans u1;have hB2:=(HB1.out.trans (((Dr.drew w1).below W.heap.size))).trans (hb2.mono HB1.out.size)))
      | (go_at_call 18;go_loud(refine(HRs.out _ hB2).mono ?_;rintro e w3⟨rfl,hs3,hm3⟩)))
     all_goals(obtain⟨G',q1,q2,q3⟩:=(HJW.out.below hB2).move HG.out hs3 hm3)
     all_goals(have HF:Hid (∃G',FU w3 base jb x d p L j G'/\AO G G' w w3):=Aa ⟨G',⟨F,v,q1,q2⟩,(AO.of_below (HB.out.trans (hB2.mono HB.out.size))).trans q3⟩)
     all_goals(clear q1 q2 q3 hs3 hm3 hB2 z0 z1 hb2)
     all_goals(go_wp2_with fail)
     all_goals(go_ret2)
     all_goals(refine⟨by rw [HP.out];rfl,?_⟩)
     all_goals(rw [HP.out])
     all_goals(exact HF.out)
   | some os=>
     obtain⟨off,s1⟩:=os;obtain⟨o,ho8,hol⟩:=TW iQ.out HNt.out (SC nd) hres;have HV:Hid (resV j.s.s (Dn nd)= .tuple #[.int .i64 (off:Int),.int .i64 0]):=Aa (by unfold resV;rw [hres]);have HS:Hid (O5 j.s.s (Dn nd)=s1):=Aa (by unfold O5;rw [hres]);have ho9:off/8=o:=by omega
     obtain⟨⟨r,cw⟩,hR9⟩:∃R,XU ⟨j.s.pw,s1⟩ (iW o (DX nd).length) (BQ s1.ws o (DX nd))=R:=⟨_,rfl⟩;obtain⟨T,hT⟩:∃T,T=Qy r (off:Int):=⟨_,rfl⟩;have HP:Hid (Ec j nd=if cw=0 then(if T.2=0 then(⟨T.1,j.made++[(off:Int)]⟩,AA off,0)else(⟨T.1,j.made++[(off:Int)]⟩,0,T.2))else(⟨r,j.made++[(off:Int)]⟩,0,cw)):=Aa (by unfold Ec;rw [ho.out,hres,hT];simp only [Bool.not_true,Bool.false_eq_true,if_false,ho9,hR9]);have HR9:=Aa hR9;rw [HV.out,HS.out]at HRs;have hoff:(off:Int)<=65536:=by omega
     have hlen:=vU nd;have HT:=Aa hT;have HO8:=Aa ho8;have HOl:=Aa hol;have HLen:=Aa hlen;have HEl:Hid (0<(DX nd).length):=Aa (by rw [hlen];rcases SC nd with e| e<;>rw [e]<;>decide);have HU:Hid (((AA off).toNat:Int)=(off:Int)):=Aa (by rw [UInt64.toNat_ofNat'];omega);have hwu:IntKind.u64.wrap (off:Int)=(off:Int):=by
      exact IntWalk.u64_in _ (by omega)
     have ou:=Aa HJ.out.lt;clear hlen hol hT ho8 ho9 hR9;clear HV HS hres;go_enter Tryz.func159,Tryz.ntmps159
     go_wp2_with fail
     rw [<-HW.out];clear HW;refine HE.out.mono ?_;rintro e w1⟨hb1,hp1⟩;rw [ho.out,if_pos rfl]at hp1;obtain⟨vr,rfl,hor⟩:=hp1;obtain⟨Ar,cr,rfl,hcr,hrr⟩:=CO hor;have HB1:=Aa hb1;replace y0:=(hb1.cell (p:=⟨jb,0,none⟩) hjl).trans y0;replace y1:=(hb1.cell (p:=⟨jb,1,none⟩) hjl).trans y1;replace u0:=(hb1.cell (p:=⟨x,0,none⟩) hxl).trans u0;replace u1:=(hb1.cell (p:=⟨x,1,none⟩) hxl).trans u1;replace e0:=(hb1.cell (p:=⟨w.heap.size,0,none⟩) hwl).trans e0;replace e1:=(hb1.cell (p:=⟨w.heap.size,1,none⟩) hwl).trans e1;replace e2:=(hb1.cell (p:=⟨w.heap.size,2,none⟩) hwl).trans e2;replace e3:=(hb1.cell (p:=⟨w.heap.size,3,none⟩) hwl).trans e3;have Aja:jb<w1.heap.size:=Cf hjl hb1.size;have Ajb:x<w1.heap.size:=Cf hxl hb1.size;have iV:Hid (IK w1 G Ar (DX nd).length ((DX nd).map wv)):=Aa (IK.JI hor (fun b hb1' _ hg=>by have:=ou.out b hg;have:=HB.out.size;omega));clear hb1 HE hor hrr
     go_wp2_with fail
     go_region_with(first
      | (go_at_call 184;go_loud(refine(HC.out _ _ _ _).mono ?_;rintro e w2⟨rfl,hb2⟩;have z0:=(hb2.cell (p:=⟨jb,0,none⟩) Aja).trans y0;have z1:=(hb2.cell (p:=⟨x,1,none⟩) Ajb).trans u1;have hB2:=(HB1.out.trans (((Dr.drew w1).below W.heap.size))).trans (hb2.mono HB1.out.size)))
      | (go_at_call 18;go_loud(refine(HRs.out _ hB2).mono ?_;rintro e w3⟨rfl,hs3,hm3⟩)))
     all_goals(obtain⟨G',q1,q2,q3⟩:=(HJW.out.below hB2).move (s':=⟨j.s.pw,s1⟩) HG.out hs3 hm3)
     all_goals(have HM3:Hid (AO G G' w w3):=Aa ((AO.of_below (HB.out.trans (hB2.mono HB.out.size))).trans q3))
     all_goals(have HR3:Hid (IK w3 G' Ar (DX nd).length ((DX nd).map wv)):=Aa ((iV.out.below (((Dr.drew w1).below w1.heap.size).trans hb2)).moved q3))
     all_goals(have Z4:=Aa q1)
     all_goals(have HG3:=Aa q2)
     all_goals(clear q1 q2 q3 hs3 hm3 hB2 z0 z1 hb2 y0 y1 u0 u1 e0 e1 e2 e3 Aja Ajb iV)
     all_goals(have y0:=Z4.out.box.cell 0)
     all_goals(have y1:=Z4.out.box.cell 1)
     all_goals(simp only [Aj,Az]at y0 y1)
     all_goals(have u0:=Z4.out.ix.box.cell 0)
     all_goals(simp only [Aj]at u0)
     all_goals(have hxj:=Z4.out.xj)
     all_goals(have hjx:jb≠x:=fun e=>hxj e.symm)
     all_goals(have nT:=Aa Z4.out.row)
     all_goals(have Aqz:base<=w3.heap.size:=Nat.le_of_lt (Nat.lt_of_le_of_lt Z4.out.bj Z4.out.box.lt))
     all_goals(have hmm:j.made.length<=1000000:=by omega)
     all_goals(clear HC HRs HB1 HB HJW)
     all_goals(go_wp2_with(at_builtin;refine Eh rfl (.tmp 39) (.tmp 41) 38 rfl Tryz.Ai9 w3 base v j.made.length (j.made.map zv) [zv (off:Int)] rfl nT.out rfl w3.heap.size 1 rfl rfl rfl (by decide) (by simp [zv,Value.oneCell']) hmm (by decide) Aqz ?_;intro g6 c6 w6 Xa Nz hK6 kR;have B6:CG w6 jb 219 [Aw x,v]:=(hK6.2 jb Z4.out.box.lt (fun e=>Z4.out.mj e.symm)).trans Z4.out.box;have X6:CG w6 x 154 [Aw d,Aw p]:=(hK6.2 x Z4.out.ix.box.lt (fun e=>Z4.out.mx e.symm)).trans Z4.out.ix.box;have z0:=B6.cell 0;have z1:=B6.cell 1;have fz1:=B6.frozen 1;have e8:=X6.cell 0;have e9:=X6.cell 1;simp only [Aj,Az]at z0 z1 e8 e9))
     all_goals(obtain⟨G7,q1,q2,q3⟩:=Z4.out.app HG3.out (o:=(off:Int)) (by omega) Xa Nz hK6 kR)
     all_goals(obtain⟨W7,hW7⟩:∃W7,W7=w6.setCell ⟨jb,1,none⟩ (.slice (some ⟨g6,0,none⟩) (j.made.length+1) c6):=⟨_,rfl⟩)
     all_goals(rw [<-hW7]at q1 q3⊢)
     all_goals(have HPA:=Abw (q:=⟨j.s.pw,s1⟩) q1.ix.sys o (DX nd).length cr Ar (DX nd) (by have:=HOl.out;have:=HLen.out;omega) HEl.out (HR3.out.moved q3).1 HR9.out)
     all_goals(rw [show((8*o:Nat):Int)=(off:Int)by have:=HO8.out;omega]at HPA)
     all_goals(have Ya:=Aa (HM3.out.trans q3))
     all_goals(have HJ7:=Aa q1)
     all_goals(have HG7:=Aa q2)
     all_goals(clear q1 q2 q3 Xa Nz hK6 kR B6 X6 z0 z1 fz1 e8 e9 hW7 HM3 HR3 Z4 HG3 y0 y1 u0 nT Aqz)
     all_goals(refine HPA.mono ?_)
     all_goals(rintro e w8⟨rfl,F8,hs8,VO⟩)
     all_goals(obtain⟨G8,q1,q2,q3⟩:=HJ7.out.move HG7.out hs8 VO)
     all_goals(by_cases hcw:cw=0)
     all_goals first
      | (have hne:cw≠0:=hcw
         have HP':Hid (Ec j nd=(⟨r,j.made++[(off:Int)]⟩,0,cw)):=Aa (by rw [HP.out,if_neg hne]);have t3:(cw !=0)=true:=by rw [bne_iff_ne];exact hne
         have HF:Hid (∃G',FU w8 base jb x d p L ⟨r,j.made++[(off:Int)]⟩ G'/\AO G G' w w8):=Aa ⟨G8,⟨F8,_,q1,q2⟩,Ya.out.trans q3⟩;clear q1 q2 q3 hs8 VO HPA Ya HJ7 HG7 HP hcw hne HT HR9
         go_wp2_with fail
         go_ret2;refine⟨by rw [HP'.out];rfl,?_⟩;rw [HP'.out];exact HF.out)
      | skip
     all_goals(subst hcw)
     all_goals(rw [if_pos rfl]at HP)
     all_goals(have Vr:=Zh (q:=r) q1.ix.sys (off:Int) (by omega))
     all_goals(rw [<-HT.out]at Vr)
     all_goals(have Vr:=Aa Vr)
     all_goals(have oq:=Aa (Ya.out.trans q3))
     all_goals(have HJ8:=Aa q1)
     all_goals(have HG8:=Aa q2)
     all_goals(have y0:=q1.box.cell 0)
     all_goals(have u1:=q1.ix.box.cell 1)
     all_goals(simp only [Aj,Az]at y0 u1)
     all_goals(clear q1 q2 q3 hs8 VO HPA Ya HJ7 HG7)
     all_goals(go_wp2_with fail)
     all_goals(refine Vr.out.mono ?_)
     all_goals(rintro e w9⟨rfl,F9,hs9,hm9⟩)
     all_goals(obtain⟨G9,q1,q2,q3⟩:=HJ8.out.move HG8.out hs9 hm9)
     all_goals(have HF:Hid (∃G',FU w9 base jb x d p L ⟨T.1,j.made++[(off:Int)]⟩ G'/\AO G G' w w9):=Aa ⟨G9,⟨F9,_,q1,q2⟩,oq.out.trans q3⟩)
     all_goals(obtain⟨te,hte⟩:∃te,te=T.2:=⟨_,rfl⟩)
     all_goals(rw [<-hte]at HP⊢)
     all_goals(clear q1 q2 q3 hs9 hm9 oq HJ8 HG8 Vr y0 u1 HT hte)
     all_goals(by_cases he:te=0)
     all_goals first
      | (have HP':Hid (Ec j nd=(⟨T.1,j.made++[(off:Int)]⟩,AA off,0)):=Aa (by rw [HP.out,if_pos he])
         subst he;clear HP
         go_wp2_with fail
         go_ret2;refine⟨by rw [HP'.out];show _=Ending.returned (.tuple #[.int .u64 ((AA off).toNat:Int),.int .i64 0]);rw [HU.out];rfl,?_⟩;rw [HP'.out];exact HF.out)
      | (have HP':Hid (Ec j nd=(⟨T.1,j.made++[(off:Int)]⟩,0,te)):=Aa (by rw [HP.out,if_neg he])
         have t3:(te !=0)=true:=by rw [bne_iff_ne];exact he
         clear HP he
         go_wp2_with fail
         go_ret2;refine⟨by rw [HP'.out];rfl,?_⟩;rw [HP'.out];exact HF.out)
end
theorem Tryz.VP:Jt Tryz.prog 38 3 (.int .i64 0) 1 8:=⟨Tryz.underlying38,by kernel_rfl,rfl⟩
def UW(l:List Nat):List Value:=l.map fun a=> .int .i64 ((a:Nat):Int)
theorem zg(l:List Nat)(a:Nat):UW (l++[a])=UW l++[.int .i64 (a:Int)]:=by simp [UW]
theorem dY(x:Nat)(w:World)(hx:x<18446744073709551616):Calls Tryz.prog 49 #[.int .u64 (x:Int)] w fun e w'=>∃v,e= .returned v/\w'.ownsRow w.heap.size 3 1 v (IE x).length (UW (IE x))/\Below w.heap.size w w':=by
 have HC:=Aa (Hf x w hx);have jd:=Aa (fun W=>Gw (Bd x) W (by have:=Nk x;omega));have hbl:=FY (Bd x);have HHs:=Aa (fun W a(ha:a<16)=>QV x a W hx (by omega));have hdef:IE x=(D7 (Bv (Bd x))).filter (EK x):=rfl;rw [hdef];clear hdef;generalize Bv (Bd x)=nb at*;generalize Bd x=cl at*;go_enter Tryz.func49,Tryz.ntmps49
 go_wp2_with fail
 refine HC.out.mono ?_;rintro e w1⟨rfl,hd1⟩;have HD1:=Aa (hd1.below w.heap.size);clear HC hd1
 go_wp2_with fail
 refine(jd.out w1).mono ?_;rintro e w2⟨rfl,rfl⟩;clear jd
 go_wp2_with fail
 go_loopw [3,8](fun u i wr=>∃k:Nat,k<=nb/\i= .int .i64 (k:Nat)/\wr.ownsRow w.heap.size 3 1 u ((D7 k).filter (EK x)).length (UW ((D7 k).filter (EK x)))/\Below w.heap.size w wr)(fun _ i _=>nb- (intOf i).toNat)
 case atStart=>exact⟨0,BK _,rfl,Fj _ _ _ _,HD1.out⟩
 case round=>
  obtain⟨k,hk,rfl,hown,hb⟩:=hrel;have HO:=Aa hown;have HB:=Aa hb;clear hown hb;by_cases hlt:k<nb
  ·obtain⟨hx1,hx2,hx5⟩:=aJ hlt;have hwk:IntKind.i64.wrap ((k:Int)+1)=(k:Int)+1:=wrap64 _ (by omega) (by omega);have Vr:Hid ((D7 (k+1)).filter (EK x)=if EK x k then(D7 k).filter (EK x)++[k]else(D7 k).filter (EK x)):=Aa (by
    rw [aF,List.filter_append];simp only [List.filter_cons,List.filter_nil];split<;>simp)
   have hfl:((D7 k).filter (EK x)).length<=16:=Bg (Me _ _) (by simp;omega);have HH:=Aa (HHs.out wr k (by omega));generalize(D7 k).filter (EK x)=M at*
   go_wp2_with fail
   refine HH.out.mono ?_;rintro e w3⟨rfl,hd3⟩;have HB3:=Aa (HB.out.trans (hd3.below w.heap.size));have iZ:=Aa (EO HO.out (Kept.of_below (r:=none) (hd3.below _)) (by
    rcases HO.out.2 with⟨h1,_⟩| ⟨g,cap,cur,h1,_⟩
    ·exact .inr (by subst h1;rfl)
    ·exact .inl (by subst h1;exact fun e=>nomatch e)))
   clear HH hd3 HO HB;cases hh:EK x k with
   | true=>
     rw [hh,if_pos rfl]at Vr
     go_wp2_with(at_builtin;refine Eh rfl (.tmp 14) (.tmp 16) 38 rfl Tryz.VP w3 w.heap.size u3 M.length (UW M) [.int .i64 (k:Int)] rfl (by exact iZ.out) rfl w3.heap.size 1 rfl rfl rfl (by decide) (by intro u hu;simp at hu;subst hu;rfl) (by omega) (by decide) (by exact HB3.out.size) ?_;intro g6 c6 w6 Xa Nz hK6 kR)
     have bz:=Aa Xa;have KO:=Aa (HB3.out.trans Nz);clear Xa Nz hK6 kR
     go_wp2_with fail
     go_roundw
     case rel=>exact⟨k+1,by omega,by go_num,by rw [Vr.out,AQ,zg];exact bz.out,KO.out⟩
     case measure=>simp [intOf];omega
   | false=>
     rw [hh]at Vr
     go_wp2_with fail
     go_roundw
     case rel=>exact⟨k+1,by omega,by go_num,by rw [Vr.out];exact iZ.out,HB3.out⟩
     case measure=>simp [intOf];omega
  ·obtain⟨hx2,hx5⟩:=yj hlt;have hkn:k=nb:=by omega
   subst hkn
   go_wp2_with fail
   go_ret;exact⟨_,rfl,HO.out,HB.out⟩
section
variable{w w':World}{d p L:Nat}{s:St}{tb hb n cT cH:Nat}
def Yb(s:St)(i:Nat):List Nat:=(IE (GR s i)).map fun a=>CW s.sh i (Bd (GR s i)) a
def Q7(s:St)(i:Nat):List Nat:=(D7 i).flatMap (Yb s)
theorem Z5(s:St)(i:Nat):Q7 s (i+1)=Q7 s i++Yb s i:=by simp [Q7,aF]
theorem oz(s:St)(i:Nat):(Yb s i).length<=16:=by
 unfold Yb;rw [BH];exact Bg (Me _ _) (by simp [FY])
theorem dZ(s:St):∀i,(Q7 s i).length<=16*i
 | 0=>by simp [Q7]
 | i+1=>by rw [Z5,AQ];have:=dZ s i;have:=oz s i;omega
theorem Pg(h:H7 w d p L s tb hb n cT cH):Calls Tryz.prog 17 #[Aw p] w fun e w'=>∃v,e= .returned v/\w'.ownsRow w.heap.size 3 1 v (Dx s).length (UW (Dx s))/\Below w.heap.size w w':=by
 have SE:=Aa (Gt h);have HP:=Aa h;have y5:=h.y5;have Air:n<=64:=by have:=h.ok.fits;have:=h.L1;have:=h.au;omega
 have hall:Dx s=Q7 s n:=by unfold Dx Q7;rw [h.NR];rfl
 rw [hall];clear h hall;go_enter Tryz.func17,Tryz.ntmps17
 go_wp2_with fail
 refine SE.out.mono ?_;rintro e w1⟨rfl,rfl⟩;clear SE
 go_wp2_with fail
 go_loopw [3,15](fun u i wr=>∃k:Nat,k<=n/\i= .int .i64 (k:Nat)/\wr.ownsRow w.heap.size 3 1 u (Q7 s k).length (UW (Q7 s k))/\Below w.heap.size w wr)(fun _ i _=>n- (intOf i).toNat)
 case atStart=>exact⟨0,BK _,rfl,Fj _ _ _ _,Below.refl _ _⟩
 case round=>
  obtain⟨k,hk,rfl,hown,hb⟩:=hrel;have HO:=Aa hown;have HB:=Aa hb;clear hown hb;by_cases hlt:k<n
  ·obtain⟨hx1,hx2,hx5⟩:=aJ hlt;have hwk:IntKind.i64.wrap ((k:Int)+1)=(k:Int)+1:=wrap64 _ (by omega) (by omega);have z1:=(HP.out.below HB.out).tk k hlt;have hx:=PO s k;have hcl:=Nk (GR s k);have hal:=dZ s k;have VN:=Aa (dY (GR s k) wr hx);have QD:=Aa (fun W=>Hf (GR s k) W hx);have o5:=Aa (fun(W:World)a(hW:Below w.heap.size w W)(ha:a<=16)=>TQ (HP.out.below hW) k (Bd (GR s k)) a hlt hcl ha);have Vr:Hid (Q7 s (k+1)=Q7 s k++(IE (GR s k)).map fun a=>CW s.sh k (Bd (GR s k)) a):=Aa (Z5 s k);have hls:∀a∈IE (GR s k),a<=16:=fun a ha=>by
    have:=List.mem_range.1 (List.mem_filter.1 ha).1;have:=FY (Bd (GR s k));omega
   have hll:(IE (GR s k)).length<=16:=Bg (Me _ _) (by simp [FY]);generalize IE (GR s k)=l at*;generalize Bd (GR s k)=cl at*;generalize GR s k=x at*;generalize Q7 s k=M at*
   go_wp2_with fail
   refine VN.out.mono ?_;rintro e w3⟨v3,rfl,ho3,hb3⟩;have hA3:∀A c,v3= .slice A l.length c->∀a,A=some a->wr.heap.size<=a.block/\a.block<w3.heap.size:=fun A c e a ea=>by
    rcases ho3.2 with⟨h1,_⟩| ⟨g,cap,cur,h1,h2,h3,_⟩
    ·rw [h1,ea]at e;cases e
    ·rw [h1,ea]at e;injection e with e
     injection e with e
     rw [<-e];exact⟨h2,(AB.1 h3).1⟩
   obtain⟨A3,c3,rfl,hc3,hr3⟩:=CO ho3;have hap:∀a,A3=some a->a.block<w3.heap.size/\u3.ownBlock≠some a.block:=fun a ea=>by
    obtain⟨h1,h2⟩:=hA3 A3 c3 rfl a ea;refine⟨h2,fun e=> ?_⟩;rcases HO.out.2 with⟨h3,_⟩| ⟨g,cap,cur,h3,_,h4,_⟩
    ·rw [h3]at e;cases e
    ·rw [h3]at e;injection e with e
     have:=(AB.1 h4).1;simp only at e;omega
   have HAp:=Aa hap;clear hA3 hap;have HR3:=Aa hr3;have HB3:=Aa (HB.out.trans (hb3.mono HB.out.size));have iZ:=Aa (EO HO.out (Kept.of_below (r:=none) hb3) (by
    rcases HO.out.2 with⟨h1,_⟩| ⟨g,cap,cur,h1,_⟩
    ·exact .inr (by subst h1;rfl)
    ·exact .inl (by subst h1;exact fun e=>nomatch e)))
   clear VN ho3 hb3 hr3 HO HB
   go_wp2_with fail
   go_loopw [3,23](fun u i wr=>∃j:Nat,j<=l.length/\i= .int .i64 (j:Nat)/\wr.ownsRow w.heap.size 3 1 u (M++(l.take j).map fun a=>CW s.sh k cl a).length (UW (M++(l.take j).map fun a=>CW s.sh k cl a))/\Below w.heap.size w wr/\Rd wr A3 l.length (UW l)/\∀a,A3=some a->a.block<wr.heap.size/\u.ownBlock≠some a.block)(fun _ i _=>l.length- (intOf i).toNat)
   case atStart=>exact⟨0,BK _,rfl,by simpa using iZ.out,HB3.out,HR3.out,HAp.out⟩
   case round=>
    obtain⟨j,hj,rfl,hown,hb,hrd,hap⟩:=hrel;have ak:=Aa hown;have HB4:=Aa hb;have HR4:=Aa hrd;have Aq0:=Aa hap;clear hown hb hrd hap HAp;by_cases hjl:j<l.length
    ·obtain⟨hy1,hy2,hy5⟩:=aJ hjl;have hwj:IntKind.i64.wrap ((j:Int)+1)=(j:Int)+1:=wrap64 _ (by omega) (by omega);obtain⟨b,off,rfl,hbw,hcc⟩:=HR4.out.2 (by omega);have z2:=hcc j hjl;rw [UW,List.getElem?_map,List.getElem?_eq_getElem hjl]at z2;simp only [Option.map_some]at z2;clear hcc;have ha16:=hls l[j] (List.getElem_mem hjl);have HTj:Hid (M++(l.take (j+1)).map (fun a=>CW s.sh k cl a)=M++(l.take j).map (fun a=>CW s.sh k cl a)++[CW s.sh k cl l[j]]):=Aa (by
      rw [List.take_succ_eq_append_getElem hjl,List.map_append,List.append_assoc];rfl)
     have hml:(M++(l.take j).map fun a=>CW s.sh k cl a).length<=2000:=by
      simp only [AQ,BH,List.length_take];omega
     generalize l[j]=a at*;generalize(M++(l.take j).map fun a=>CW s.sh k cl a)=Q at*
     go_wp2_with fail
     refine(QD.out wr).mono ?_;rintro e w5⟨rfl,hd5⟩;have Amr:=hd5.below w.heap.size;have Jy:=Aa (HB4.out.trans (hd5.below w.heap.size));have Aq1:=Aa (o5.out w5 a Jy.out ha16);have cO:=Aa (EO ak.out (Kept.of_below (r:=none) (hd5.below _)) (by
      rcases ak.out.2 with⟨h1,_⟩| ⟨g,cap,cur,h1,_⟩
      ·exact .inr (by subst h1;rfl)
      ·exact .inl (by subst h1;exact fun e=>nomatch e)))
     clear ak HB4
     go_wp2_with fail
     refine Aq1.out.mono ?_;rintro e w6⟨rfl,hd6⟩;have KO:=Aa (Jy.out.trans (hd6.below w.heap.size));have bz:=Aa (EO cO.out (Kept.of_below (r:=none) (hd6.below _)) (by
      rcases cO.out.2 with⟨h1,_⟩| ⟨g,cap,cur,h1,_⟩
      ·exact .inr (by subst h1;rfl)
      ·exact .inl (by subst h1;exact fun e=>nomatch e)))
     have HT6:=KO;have hs6:wr.heap.size<=w6.heap.size:=Bg (Amr.size) (hd6.below w.heap.size).size;have XD:Rd w6 (some ⟨b,off,none⟩) l.length (UW l):=Rd.below HR4.out ((hd5.below _).trans ((hd6.below _).mono Amr.size));have rZ:=Aa XD;clear Aq1 hd6 cO Jy XD hd5 Amr
     go_wp2_with(at_builtin;refine Eh rfl (.tmp 27) (.tmp 34) 38 rfl Tryz.VP w6 w.heap.size u3 Q.length (UW Q) [.int .i64 ((CW s.sh k cl a:Nat):Int)] rfl (by exact bz.out) rfl w6.heap.size 1 rfl rfl rfl (by decide) (by intro u hu;simp at hu;subst hu;rfl) (by omega) (by decide) (by exact HT6.out.size) ?_;intro g8 c8 w8 hO8 Yc hK8 hg8)
     have HO8:=Aa hO8;have az:=Aa (HT6.out.trans Yc);have hne:=(Aq0.out _ rfl).2;have hbl:=(Aq0.out _ rfl).1;simp only at hne hbl;have HR8:Hid (Rd w8 (some ⟨b,off,none⟩) l.length (UW l)):=Aa (by
      refine⟨rZ.out.1,fun hn=> ?_⟩;obtain⟨b',off',e',hb',At6⟩:=rZ.out.2 hn;injection e' with e'
      injection e' with e1 e2
      subst e1 e2;exact⟨b,off,rfl,Cf hb' hK8.1,fun j hj=>(World.cell?_of_block (w:=w6) (hK8.2 b hb' (fun e=>hne e.symm))).trans (At6 j hj)⟩)
     have HA8:Hid (b<w8.heap.size/\some g8≠some b):=Aa (by
      refine⟨by have:=hK8.1;omega,fun e=> ?_⟩;injection e with e
      rcases hg8 with h| h
      ·exact hne (by rw [h,e])
      ·omega)
     clear hO8 Yc hK8 hg8 hne hbl rZ
     go_wp2_with fail
     go_roundw
     case rel=>exact⟨j+1,by omega,by go_num,by rw [HTj.out,AQ,zg];exact HO8.out,az.out,HR8.out,fun a ea=>by injection ea with ea;subst ea;exact HA8.out⟩
     case measure=>simp [intOf];omega
    ·obtain⟨hy2,hy5⟩:=yj hjl;have hjn:j=l.length:=by omega
     subst hjn;have cO:Hid (wr.ownsRow w.heap.size 3 1 u3 (M++l.map fun a=>CW s.sh k cl a).length (UW (M++l.map fun a=>CW s.sh k cl a))):=Aa (by have:=ak.out;rwa [List.take_length]at this);have HT5:=HB4;clear ak
     go_wp2_with fail
     go_roundw
     case rel=>exact⟨k+1,by omega,by go_num,by rw [Vr.out];exact cO.out,HT5.out⟩
     case measure=>simp [intOf];omega
  ·obtain⟨hx2,hx5⟩:=yj hlt;have hkn:k=n:=by omega
   subst hkn
   go_wp2_with fail
   go_ret;exact⟨_,rfl,HO.out,HB.out⟩
end
