import Derived.Test.YtdjfbnoolfpcnaaGreatDoorG12
import Derived.Test.YtdjfbnoolfpcnaaGreatDoorG22
namespace Go.Proofs.YtdjfbnoolfpcnaaGreatDoor
open Go.RowKit
theorem Tryz.intsTyK:RowTyK Tryz.prog 53 3 (.int .i64 0) 1 8:=⟨Tryz.underlying53,by kernel_rfl,rfl⟩
section
variable{w w':World}{x d p L:Nat}{s:St}{F:Nat→Prop}
set_option maxHeartbeats 4000000 in
theorem value_indexM{q:Ms}(h:IxM w x d p L q F)(pl:Pl)(hp:PlOk L pl)(A1 A2 A3:Option Addr)(n1 c1 n2 c2 n3 c3:Nat)(n:UInt64):
 Calls Tryz.prog 26 #[.pointer (some ⟨x,0,none⟩),.agg #[.slice A1 n1 c1,.int .u64 (pl.nd.val.toNat:Int),.slice A2 n2 c2,.slice A3 n3 c3,.int .i64 pl.off,.int .u8 (pl.label.toNat:Int),.int .i64 pl.word],.int .u64 (n.toNat:Int)] w fun e w'=>
  e= .returned (.int .i64 (valueM q pl n).2)∧∃F',IxM w' x d p L (valueM q pl n).1 F'∧Moved F F' w w':=by
 obtain⟨o,ho,hol⟩:=hp.off;obtain⟨l0,l1,ok,hntk⟩:=h.L0;have hb0:Below w.heap.size w (w.alloc (.cells #[.slice A1 n1 c1,.int .u64 (pl.nd.val.toNat:Int),.slice A2 n2 c2,.slice A3 n3 c3,.int .i64 pl.off,.int .u8 (pl.label.toNat:Int),.int .i64 pl.word] 74)):=(Below.refl _ _).alloc (Nat.le_refl _) _;have HP:=Lib.hid (fun(W:World)(hW:Below w.heap.size w W)=>sys_putM (q:=q) (h.below hW).sys (o+2) n (by omega));rw [show((8*(o+2):Nat):Int)=pl.off+16 by omega]at HP;have HX:=Lib.hid h;have hval:valueM q pl n=wrM q 3 (put1 q.s.ws (o+2) n):=by unfold valueM;rw [ho,show((8*o:Nat):Int).toNat/8=o by omega]
 rw [←hval]at HP;generalize valueM q pl n=vr at HP⊢;have hw1:IntKind.i64.wrap (pl.off+16)=pl.off+16:=wrap64 _ (by omega) (by omega);have y0:=(hb0.cell (p:=⟨x,0,none⟩) h.box.lt).trans (h.box.cell 0);simp only [List.getElem?_cons_zero]at y0;have B0:Blk (w.alloc (.cells #[.slice A1 n1 c1,.int .u64 (pl.nd.val.toNat:Int),.slice A2 n2 c2,.slice A3 n3 c3,.int .i64 pl.off,.int .u8 (pl.label.toNat:Int),.int .i64 pl.word] 74)) w.heap.size 74 [.slice A1 n1 c1,.int .u64 (pl.nd.val.toNat:Int),.slice A2 n2 c2,.slice A3 n3 c3,.int .i64 pl.off,.int .u8 (pl.label.toNat:Int),.int .i64 pl.word]:=heap_alloc_new _ _;have y4:=(cell7 B0).2.2.2.2.1;have hoff:0≤pl.off∧pl.off≤65536:=by omega
 generalize pl.off=off at*;clear h hval hp ho hol ok hntk B0;go_enter Tryz.func26,Tryz.ntmps26
 go_wp2_with fail
 generalize w.alloc (.cells #[.slice A1 n1 c1,.int .u64 (pl.nd.val.toNat:Int),.slice A2 n2 c2,.slice A3 n3 c3,.int .i64 off,.int .u8 (pl.label.toNat:Int),.int .i64 pl.word] 74)=W0 at*
 go_region_with(go_at_call 51;go_loud(refine(HP.out _ (hb0.trans ((Dr.drew _).below _))).mono ?_;rintro e w8⟨rfl,F',hs8,hm8⟩))
 all_goals(go_wp2_with fail)
 all_goals(go_ret)
 all_goals(have hm:=(Moved.of_below (F:=F) (hb0.trans ((Dr.drew W0).below _))).trans hm8)
 all_goals(exact⟨rfl,F',HX.out.move hs8 hm,hm⟩)
theorem putAll_at{q:Ms}(h:SysM w d p L q F)(j n c:Nat)(A:Option Addr)(xs:List UInt64)(hj:j+n≤8*L)(hn0:0<n)(hx:Ws w A n xs){r:Ms}{cw:Int}(hr:wrM q (stepsN j n) (putWs q.s.ws j xs)=(r,cw)):
 Calls Tryz.prog 71 #[.pointer (some ⟨d,0,none⟩),.int .i64 ((8*j:Nat):Int),.slice A n c] w fun e w'=>e= .returned (.int .i64 cw)∧∃F',SysM w' d p L r F'∧Moved F F' w w':=by
 have:=sys_putAllM h j n c A xs hj hn0 hx;rw [show n+((j+n-1)/8-j/8+1)+1=stepsN j n from rfl,hr]at this;exact this
end
def JobPost(r:Jm×UInt64×Int)(base jb x d p L:Nat)(G:Nat→Prop)(w:World)(e:Ending)(w':World):Prop:=
 e= .returned (.tuple #[.int .u64 (r.2.1.toNat:Int),.int .i64 r.2.2])∧∃G',JobAt w' base jb x d p L r.1 G'∧Moved G G' w w'
section
variable{w w':World}{base jb x d p L:Nat}{j:Jm}{G:Nat→Prop}
set_option maxHeartbeats 8000000 in
set_option maxRecDepth 100000 in
theorem build_job(h:JobAt w base jb x d p L j G)(nd:Nd)(A1 A2 A3:Option Addr)(c1 c2 c3:Nat)(b1:nd.pre.length≤1000)(b2:nd.labels.length≤1000)(b3:nd.kids.length≤1000)
 (h1:Bs w A1 nd.pre.length nd.pre)(h2:Bs w A2 nd.labels.length nd.labels)(h3:Ws w A3 nd.kids.length nd.kids)(hm:j.made.length≤1000):
 Calls Tryz.prog 50 #[.pointer (some ⟨jb,0,none⟩),.agg #[.slice A1 nd.pre.length c1,.int .u64 (nd.val.toNat:Int),.slice A2 nd.labels.length c2,.slice A3 nd.kids.length c3]] w (JobPost (buildM j nd) base jb x d p L G w):=by
 obtain⟨W,hW,e0,e1,e2,e3,hb,hs⟩:=box4 w 72 (.slice A1 nd.pre.length c1) (.int .u64 (nd.val.toNat:Int)) (.slice A2 nd.labels.length c2) (.slice A3 nd.kids.length c3);have HW:=Lib.hid hW;have HE:=Lib.hid (encode_node A1 A2 A3 nd.pre.length c1 nd.labels.length c2 nd.kids.length c3 nd W (by omega) (by omega) (by omega) (h1.below hb) (h2.below hb) (h3.below hb));have HJ:=Lib.hid h;have HB:=Lib.hid hb;clear hW h hb h1 h2 h3;cases hR:rightB nd with
 | false=>
   have HP:Hid (buildM j nd=(j,0,5)):=Lib.hid (by unfold buildM;rw [hR];rfl);go_enter Tryz.func50,Tryz.ntmps50
   go_wp2_with fail
   rw [←HW.out];clear HW;refine HE.out.mono ?_;rintro e w1⟨hb1,hp1⟩;rw [hR]at hp1;replace hp1:e= .returned (.tuple #[.slice none 0 0,.bool false]):=hp1;subst hp1;have HB1:=Lib.hid (HB.out.trans (hb1.mono HB.out.size));clear hb1 HE e0 e1 e2 e3
   go_wp2_with fail
   go_ret2;refine⟨by rw [HP.out];rfl,G,?_,Moved.of_below HB1.out⟩;rw [HP.out];exact HJ.out.below HB1.out
 | true=>
   obtain⟨F,v,hj,hG⟩:=HJ.out;obtain⟨l0,l1,ok,hntk⟩:=hj.ix.L0;have hbj:=HB.out;have hjW:=hj.below HB.out;have ho:=Lib.hid hR;have hcl:(if nd.kids.length≤4 then(1:Int)else 2)=((classN nd:Nat):Int):=by unfold classN;split<;>rfl
   have HC:=Lib.hid (fun(W':World)(v1 v2 v3:Value)=>class_any v1 v2 v3 A3 nd.kids.length c3 W' (by omega));rw [hcl]at HC;have HRs:=Lib.hid (fun(W':World)(hW:Below W.heap.size W W')=>reserve_pool (hjW.below hW).ix.sys (classN nd) (by have:=classN_or nd;omega) (by have:=classN_or nd;omega));have HJW:=Lib.hid hjW;have HG:=Lib.hid hG;have y0:=hjW.box.cell 0;have y1:=hjW.box.cell 1;have u0:=hjW.ix.box.cell 0;have u1:=hjW.ix.box.cell 1;simp only [List.getElem?_cons_zero,List.getElem?_cons_succ]at y0 y1 u0 u1;have hjl:=hjW.box.lt;have hxl:=hjW.ix.box.lt;have hwl:w.heap.size<W.heap.size:=by omega
   have HOk:=Lib.hid ok;have HNt:=Lib.hid hntk;clear hj hG hjW hbj hcl ok hntk hR;cases hres:reserveP j.s.s (classN nd)with
   | none=>
     have HV:Hid (resV j.s.s (classN nd)= .tuple #[.int .i64 0,.int .i64 6]):=Lib.hid (by unfold resV;rw [hres]);have HS:Hid (resS j.s.s (classN nd)=j.s.s):=Lib.hid (by unfold resS;rw [hres]);have HP:Hid (buildM j nd=(j,0,6)):=Lib.hid (by unfold buildM;rw [ho.out,hres];rfl);rw [HV.out,HS.out]at HRs;clear HV HS hres;go_enter Tryz.func50,Tryz.ntmps50
     go_wp2_with fail
     rw [←HW.out];clear HW;refine HE.out.mono ?_;rintro e w1⟨hb1,hp1⟩;rw [ho.out,if_pos rfl]at hp1;obtain⟨vr,rfl,hor⟩:=hp1;obtain⟨Ar,cr,rfl,hcr,hrr⟩:=rd_of_own hor;have HB1:=Lib.hid hb1;replace y0:=(hb1.cell (p:=⟨jb,0,none⟩) hjl).trans y0;replace y1:=(hb1.cell (p:=⟨jb,1,none⟩) hjl).trans y1;replace u0:=(hb1.cell (p:=⟨x,0,none⟩) hxl).trans u0;replace u1:=(hb1.cell (p:=⟨x,1,none⟩) hxl).trans u1;replace e0:=(hb1.cell (p:=⟨w.heap.size,0,none⟩) hwl).trans e0;replace e1:=(hb1.cell (p:=⟨w.heap.size,1,none⟩) hwl).trans e1;replace e2:=(hb1.cell (p:=⟨w.heap.size,2,none⟩) hwl).trans e2;replace e3:=(hb1.cell (p:=⟨w.heap.size,3,none⟩) hwl).trans e3;have hjl1:jb<w1.heap.size:=Nat.lt_of_lt_of_le hjl hb1.size;have hxl1:x<w1.heap.size:=Nat.lt_of_lt_of_le hxl hb1.size;clear hb1 HE hor hrr
     go_wp2_with fail
     go_region_with(first
      | (go_at_call 78;go_loud(refine(HC.out _ _ _ _).mono ?_;rintro e w2⟨rfl,hb2⟩;have z0:=(hb2.cell (p:=⟨jb,0,none⟩) hjl1).trans y0;have z1:=(hb2.cell (p:=⟨x,1,none⟩) hxl1).trans u1;have hB2:=(HB1.out.trans (((Dr.drew w1).below W.heap.size))).trans (hb2.mono HB1.out.size)))
      | (go_at_call 83;go_loud(refine(HRs.out _ hB2).mono ?_;rintro e w3⟨rfl,hs3,hm3⟩)))
     all_goals(obtain⟨G',q1,q2,q3⟩:=(HJW.out.below hB2).move HG.out hs3 hm3)
     all_goals(have HF:Hid (∃G',JobAt w3 base jb x d p L j G'∧Moved G G' w w3):=Lib.hid ⟨G',⟨F,v,q1,q2⟩,(Moved.of_below (HB.out.trans (hB2.mono HB.out.size))).trans q3⟩)
     all_goals(clear q1 q2 q3 hs3 hm3 hB2 z0 z1 hb2)
     all_goals(go_wp2_with fail)
     all_goals(go_ret2)
     all_goals(refine⟨by rw [HP.out];rfl,?_⟩)
     all_goals(rw [HP.out])
     all_goals(exact HF.out)
   | some os=>
     obtain⟨off,s1⟩:=os;obtain⟨o,ho8,hol⟩:=reserve_at HOk.out HNt.out (classN_or nd) hres;have HV:Hid (resV j.s.s (classN nd)= .tuple #[.int .i64 (off:Int),.int .i64 0]):=Lib.hid (by unfold resV;rw [hres]);have HS:Hid (resS j.s.s (classN nd)=s1):=Lib.hid (by unfold resS;rw [hres]);have ho9:off/8=o:=by omega
     obtain⟨⟨r,cw⟩,hR9⟩:∃R,wrM ⟨j.s.pw,s1⟩ (stepsN o (encW nd).length) (putWs s1.ws o (encW nd))=R:=⟨_,rfl⟩;obtain⟨T,hT⟩:∃T,T=takeM r (off:Int):=⟨_,rfl⟩;have HP:Hid (buildM j nd=if cw=0 then(if T.2=0 then(⟨T.1,j.made++[(off:Int)]⟩,UInt64.ofNat off,0)else(⟨T.1,j.made++[(off:Int)]⟩,0,T.2))else(⟨r,j.made++[(off:Int)]⟩,0,cw)):=Lib.hid (by unfold buildM;rw [ho.out,hres,hT];simp only [Bool.not_true,Bool.false_eq_true,if_false,ho9,hR9]);have HR9:=Lib.hid hR9;rw [HV.out,HS.out]at HRs;have hoff:(off:Int)≤65536:=by omega
     have hlen:=encW_lines nd;have HT:=Lib.hid hT;have HO8:=Lib.hid ho8;have HOl:=Lib.hid hol;have HLen:=Lib.hid hlen;have HEl:Hid (0<(encW nd).length):=Lib.hid (by rw [hlen];rcases classN_or nd with e| e<;>rw [e]<;>decide);have HU:Hid (((UInt64.ofNat off).toNat:Int)=(off:Int)):=Lib.hid (by rw [UInt64.toNat_ofNat'];omega);have hwu:IntKind.u64.wrap (off:Int)=(off:Int):=by
      exact IntWalk.u64_in _ (by omega)
     have HGl:=Lib.hid HJ.out.lt;clear hlen hol hT ho8 ho9 hR9;clear HV HS hres;go_enter Tryz.func50,Tryz.ntmps50
     go_wp2_with fail
     rw [←HW.out];clear HW;refine HE.out.mono ?_;rintro e w1⟨hb1,hp1⟩;rw [ho.out,if_pos rfl]at hp1;obtain⟨vr,rfl,hor⟩:=hp1;obtain⟨Ar,cr,rfl,hcr,hrr⟩:=rd_of_own hor;have HB1:=Lib.hid hb1;replace y0:=(hb1.cell (p:=⟨jb,0,none⟩) hjl).trans y0;replace y1:=(hb1.cell (p:=⟨jb,1,none⟩) hjl).trans y1;replace u0:=(hb1.cell (p:=⟨x,0,none⟩) hxl).trans u0;replace u1:=(hb1.cell (p:=⟨x,1,none⟩) hxl).trans u1;replace e0:=(hb1.cell (p:=⟨w.heap.size,0,none⟩) hwl).trans e0;replace e1:=(hb1.cell (p:=⟨w.heap.size,1,none⟩) hwl).trans e1;replace e2:=(hb1.cell (p:=⟨w.heap.size,2,none⟩) hwl).trans e2;replace e3:=(hb1.cell (p:=⟨w.heap.size,3,none⟩) hwl).trans e3;have hjl1:jb<w1.heap.size:=Nat.lt_of_lt_of_le hjl hb1.size;have hxl1:x<w1.heap.size:=Nat.lt_of_lt_of_le hxl hb1.size;have HRow:Hid (RdO w1 G Ar (encW nd).length ((encW nd).map wv)):=Lib.hid (RdO.of_own hor (fun b hb1' _ hg=>by have:=HGl.out b hg;have:=HB.out.size;omega));clear hb1 HE hor hrr
     go_wp2_with fail
     go_region_with(first
      | (go_at_call 78;go_loud(refine(HC.out _ _ _ _).mono ?_;rintro e w2⟨rfl,hb2⟩;have z0:=(hb2.cell (p:=⟨jb,0,none⟩) hjl1).trans y0;have z1:=(hb2.cell (p:=⟨x,1,none⟩) hxl1).trans u1;have hB2:=(HB1.out.trans (((Dr.drew w1).below W.heap.size))).trans (hb2.mono HB1.out.size)))
      | (go_at_call 83;go_loud(refine(HRs.out _ hB2).mono ?_;rintro e w3⟨rfl,hs3,hm3⟩)))
     all_goals(obtain⟨G',q1,q2,q3⟩:=(HJW.out.below hB2).move (s':=⟨j.s.pw,s1⟩) HG.out hs3 hm3)
     all_goals(have HM3:Hid (Moved G G' w w3):=Lib.hid ((Moved.of_below (HB.out.trans (hB2.mono HB.out.size))).trans q3))
     all_goals(have HR3:Hid (RdO w3 G' Ar (encW nd).length ((encW nd).map wv)):=Lib.hid ((HRow.out.below (((Dr.drew w1).below w1.heap.size).trans hb2)).moved q3))
     all_goals(have HJ3:=Lib.hid q1)
     all_goals(have HG3:=Lib.hid q2)
     all_goals(clear q1 q2 q3 hs3 hm3 hB2 z0 z1 hb2 y0 y1 u0 u1 e0 e1 e2 e3 hjl1 hxl1 HRow)
     all_goals(have y0:=HJ3.out.box.cell 0)
     all_goals(have y1:=HJ3.out.box.cell 1)
     all_goals(simp only [List.getElem?_cons_zero,List.getElem?_cons_succ]at y0 y1)
     all_goals(have u0:=HJ3.out.ix.box.cell 0)
     all_goals(simp only [List.getElem?_cons_zero]at u0)
     all_goals(have hxj:=HJ3.out.xj)
     all_goals(have hjx:jb≠x:=fun e=>hxj e.symm)
     all_goals(have HRw:=Lib.hid HJ3.out.row)
     all_goals(have hbs3:base≤w3.heap.size:=Nat.le_of_lt (Nat.lt_of_le_of_lt HJ3.out.bj HJ3.out.box.lt))
     all_goals(have hmm:j.made.length≤1000000:=by omega)
     all_goals(clear HC HRs HB1 HB HJW)
     all_goals(go_wp2_with(at_builtin;refine wpList_app_one rfl (.tmp 39) (.tmp 41) 53 rfl Tryz.intsTyK w3 base v j.made.length (j.made.map zv) [zv (off:Int)] rfl HRw.out rfl w3.heap.size 1 rfl rfl rfl (by decide) (by simp [zv,Value.oneCell']) hmm (by decide) hbs3 ?_;intro g6 c6 w6 hO6 hB6 hK6 hg6;have B6:Blk w6 jb 79 [.pointer (some ⟨x,0,none⟩),v]:=(hK6.2 jb HJ3.out.box.lt (fun e=>HJ3.out.mj e.symm)).trans HJ3.out.box;have X6:Blk w6 x 119 [.pointer (some ⟨d,0,none⟩),.pointer (some ⟨p,0,none⟩)]:=(hK6.2 x HJ3.out.ix.box.lt (fun e=>HJ3.out.mx e.symm)).trans HJ3.out.ix.box;have z0:=B6.cell 0;have z1:=B6.cell 1;have fz1:=B6.frozen 1;have e8:=X6.cell 0;have e9:=X6.cell 1;simp only [List.getElem?_cons_zero,List.getElem?_cons_succ]at z0 z1 e8 e9))
     all_goals(obtain⟨G7,q1,q2,q3⟩:=HJ3.out.app HG3.out (o:=(off:Int)) (by omega) hO6 hB6 hK6 hg6)
     all_goals(obtain⟨W7,hW7⟩:∃W7,W7=w6.setCell ⟨jb,1,none⟩ (.slice (some ⟨g6,0,none⟩) (j.made.length+1) c6):=⟨_,rfl⟩)
     all_goals(rw [←hW7]at q1 q3⊢)
     all_goals(have HPA:=putAll_at (q:=⟨j.s.pw,s1⟩) q1.ix.sys o (encW nd).length cr Ar (encW nd) (by have:=HOl.out;have:=HLen.out;omega) HEl.out (HR3.out.moved q3).1 HR9.out)
     all_goals(rw [show((8*o:Nat):Int)=(off:Int)by have:=HO8.out;omega]at HPA)
     all_goals(have HM7:=Lib.hid (HM3.out.trans q3))
     all_goals(have HJ7:=Lib.hid q1)
     all_goals(have HG7:=Lib.hid q2)
     all_goals(clear q1 q2 q3 hO6 hB6 hK6 hg6 B6 X6 z0 z1 fz1 e8 e9 hW7 HM3 HR3 HJ3 HG3 y0 y1 u0 HRw hbs3)
     all_goals(refine HPA.mono ?_)
     all_goals(rintro e w8⟨rfl,F8,hs8,hm8⟩)
     all_goals(obtain⟨G8,q1,q2,q3⟩:=HJ7.out.move HG7.out hs8 hm8)
     all_goals(by_cases hcw:cw=0)
     all_goals first
      | (have hne:cw≠0:=hcw
         have HP':Hid (buildM j nd=(⟨r,j.made++[(off:Int)]⟩,0,cw)):=Lib.hid (by rw [HP.out,if_neg hne]);have t3:(cw !=0)=true:=by rw [bne_iff_ne];exact hne
         have HF:Hid (∃G',JobAt w8 base jb x d p L ⟨r,j.made++[(off:Int)]⟩ G'∧Moved G G' w w8):=Lib.hid ⟨G8,⟨F8,_,q1,q2⟩,HM7.out.trans q3⟩;clear q1 q2 q3 hs8 hm8 HPA HM7 HJ7 HG7 HP hcw hne HT HR9
         go_wp2_with fail
         go_ret2;refine⟨by rw [HP'.out];rfl,?_⟩;rw [HP'.out];exact HF.out)
      | skip
     all_goals(subst hcw)
     all_goals(rw [if_pos rfl]at HP)
     all_goals(have HTk:=take_poolM (q:=r) q1.ix.sys (off:Int) (by omega))
     all_goals(rw [←HT.out]at HTk)
     all_goals(have HTk:=Lib.hid HTk)
     all_goals(have HM8:=Lib.hid (HM7.out.trans q3))
     all_goals(have HJ8:=Lib.hid q1)
     all_goals(have HG8:=Lib.hid q2)
     all_goals(have y0:=q1.box.cell 0)
     all_goals(have u1:=q1.ix.box.cell 1)
     all_goals(simp only [List.getElem?_cons_zero,List.getElem?_cons_succ]at y0 u1)
     all_goals(clear q1 q2 q3 hs8 hm8 HPA HM7 HJ7 HG7)
     all_goals(go_wp2_with fail)
     all_goals(refine HTk.out.mono ?_)
     all_goals(rintro e w9⟨rfl,F9,hs9,hm9⟩)
     all_goals(obtain⟨G9,q1,q2,q3⟩:=HJ8.out.move HG8.out hs9 hm9)
     all_goals(have HF:Hid (∃G',JobAt w9 base jb x d p L ⟨T.1,j.made++[(off:Int)]⟩ G'∧Moved G G' w w9):=Lib.hid ⟨G9,⟨F9,_,q1,q2⟩,HM8.out.trans q3⟩)
     all_goals(obtain⟨te,hte⟩:∃te,te=T.2:=⟨_,rfl⟩)
     all_goals(rw [←hte]at HP⊢)
     all_goals(clear q1 q2 q3 hs9 hm9 HM8 HJ8 HG8 HTk y0 u1 HT hte)
     all_goals(by_cases he:te=0)
     all_goals first
      | (have HP':Hid (buildM j nd=(⟨T.1,j.made++[(off:Int)]⟩,UInt64.ofNat off,0)):=Lib.hid (by rw [HP.out,if_pos he])
         subst he;clear HP
         go_wp2_with fail
         go_ret2;refine⟨by rw [HP'.out];show _=Ending.returned (.tuple #[.int .u64 ((UInt64.ofNat off).toNat:Int),.int .i64 0]);rw [HU.out];rfl,?_⟩;rw [HP'.out];exact HF.out)
      | (have HP':Hid (buildM j nd=(⟨T.1,j.made++[(off:Int)]⟩,0,te)):=Lib.hid (by rw [HP.out,if_neg he])
         have t3:(te !=0)=true:=by rw [bne_iff_ne];exact he
         clear HP he
         go_wp2_with fail
         go_ret2;refine⟨by rw [HP'.out];rfl,?_⟩;rw [HP'.out];exact HF.out)
end
theorem withOk_is(x:Nd)(label:UInt8)(kid:UInt64):withOkP x label kid=withOk x label kid:=rfl
theorem set4{w W:World}{base g:Nat}{e:TypeId}{a0 a1 a2 a3:Value}(h:Blk W g e [a0,a1,a2,a3])(hb:Below base w W)(hg:base≤g)(b0 b1 b2 b3:Value):
 ∃W',W'=(((W.setCell ⟨g,0,none⟩ b0).setCell ⟨g,1,none⟩ b1).setCell ⟨g,2,none⟩ b2).setCell ⟨g,3,none⟩ b3∧Blk W' g e [b0,b1,b2,b3]∧Below base w W'∧Kept W W' (some g):=
 ⟨_,rfl,(((h.set_ 0 b0).set_ 1 b1).set_ 2 b2).set_ 3 b3,
   (((hb.setCell (p:=⟨g,0,none⟩) hg b0).setCell (p:=⟨g,1,none⟩) hg b1).setCell (p:=⟨g,2,none⟩) hg b2).setCell (p:=⟨g,3,none⟩) hg b3,
   (((Kept.set_ W g 0 b0).trans' (Kept.set_ _ g 1 b1)).trans' (Kept.set_ _ g 2 b2)).trans' (Kept.set_ _ g 3 b3)⟩
theorem own_past{w w':World}{B g k n:Nat}{e:TypeId}{v:Value}{xs:List Value}(h:w.ownsRow B e k v n xs)(kp:Kept w w' (some g))(hg:g<B):w'.ownsRow B e k v n xs:=by
 refine own_stay h kp (.inl ?_);rcases h.2 with⟨h1,_⟩| ⟨g',cap,cur,h1,h2,_⟩
 ·subst h1;simp [Value.ownBlock]
 ·subst h1;simp [Value.ownBlock];omega
section
variable{w w':World}{base jb x d p L:Nat}{j:Jm}{G:Nat→Prop}
theorem JobPost.of_below{r:Jm×UInt64×Int}{W:World}(hb:Below w.heap.size w W){e:Ending}(h:JobPost r base jb x d p L G W e w'):JobPost r base jb x d p L G w e w':=by
 obtain⟨h1,G',h2,h3⟩:=h;exact⟨h1,G',h2,(Moved.of_below hb).trans h3⟩
set_option maxHeartbeats 8000000 in
set_option maxRecDepth 100000 in
theorem above_job(h:JobAt w base jb x d p L j G)(nd:Nd)(A1 A2 A3:Option Addr)(c1 c2 c3:Nat)(label:UInt8)(kid:UInt64)(e:Int)(b1:nd.pre.length≤100)(b2:nd.labels.length≤100)(b3:nd.kids.length≤100)
 (h1:Bs w A1 nd.pre.length nd.pre)(h2:Bs w A2 nd.labels.length nd.labels)(h3:Ws w A3 nd.kids.length nd.kids)(hm:j.made.length≤1000):
 Calls Tryz.prog 52 #[.pointer (some ⟨jb,0,none⟩),.agg #[.slice A1 nd.pre.length c1,.int .u64 (nd.val.toNat:Int),.slice A2 nd.labels.length c2,.slice A3 nd.kids.length c3],.int .u8 (label.toNat:Int),.int .u64 (kid.toNat:Int),.int .i64 e] w (JobPost (aboveM j nd label kid e) base jb x d p L G w):=by
 obtain⟨W,hW,e0,e1,e2,e3,hb,hs⟩:=box4 w 72 (.slice A1 nd.pre.length c1) (.int .u64 (nd.val.toNat:Int)) (.slice A2 nd.labels.length c2) (.slice A3 nd.kids.length c3);have B0:Blk W w.heap.size 72 [.slice A1 nd.pre.length c1,.int .u64 (nd.val.toNat:Int),.slice A2 nd.labels.length c2,.slice A3 nd.kids.length c3]:=hW▸heap_alloc_new _ _;have HW:=Lib.hid hW;have HJ:=Lib.hid h;have HB:=Lib.hid hb;by_cases he:e=0
 ·subst he;have g1:=h1.below hb;have g2:=h2.below hb;have g3:=h3.below hb;clear h1 h2 h3 h hW hb;cases hok:withOk nd label kid with
  | false=>
    have HP:Hid (aboveM j nd label kid 0=(j,0,5)):=Lib.hid (by unfold aboveM;rw [if_neg (by simp),withOk_is,hok];rfl);have HN:=Lib.hid (with_no A1 A2 A3 nd.pre.length c1 nd.labels.length c2 nd.kids.length c3 nd label kid W (by omega) (by omega) (by omega) g1 g2 g3 hok);unfold noNode at HN;clear hok g1 g2 g3;go_enter Tryz.func52,Tryz.ntmps52
    go_wp2_with fail
    rw [←HW.out];clear HW;refine HN.out.mono ?_;rintro e w1⟨rfl,hb1⟩;have B1:=B0.below hb1 B0.lt;have HB1:=Lib.hid (HB.out.trans (hb1.mono HB.out.size));clear e0 e1 e2 e3 B0 hb1 HN;obtain⟨y0,y1,y2,y3,f0,f1,f2,f3⟩:=blk4' B1;have HBk:=Lib.hid B1;clear B1
    go_wp2_with fail
    go_ret2;refine⟨by rw [HP.out];rfl,G,?_,?_⟩
    ·rw [HP.out];obtain⟨W9,hW9, -,hb9, -⟩:=set4 HBk.out HB1.out (Nat.le_refl _) (.slice none 0 0) (.int .u64 0) (.slice none 0 0) (.slice none 0 0);rw [←hW9];exact HJ.out.below hb9
    ·obtain⟨W9,hW9, -,hb9, -⟩:=set4 HBk.out HB1.out (Nat.le_refl _) (.slice none 0 0) (.int .u64 0) (.slice none 0 0) (.slice none 0 0);rw [←hW9];exact Moved.of_below hb9
  | true=>
    have hri:=hok;have HP:Hid (aboveM j nd label kid 0=buildM j (withN nd label kid)):=Lib.hid (by unfold aboveM;rw [if_neg (by simp),withOk_is,hok];rfl);have HN:=Lib.hid (with_yes A1 A2 A3 nd.pre.length c1 nd.labels.length c2 nd.kids.length c3 nd label kid W (by omega) (by omega) (by omega) g1 g2 g3 hok);have hbl:(withN nd label kid).pre.length≤1000∧(withN nd label kid).labels.length≤1000∧(withN nd label kid).kids.length≤1000:=by
     unfold withN ins;simp;omega
    generalize withN nd label kid=nd' at*;clear hok g1 g2 g3;go_enter Tryz.func52,Tryz.ntmps52
    go_wp2_with fail
    rw [←HW.out];clear HW;refine HN.out.mono ?_;rintro e w1⟨⟨A1',c1',A2',c2',A3',c3',rfl,q1,q2,q3⟩,hb1⟩;have B1:=B0.below hb1 B0.lt;have HB1:=Lib.hid (HB.out.trans (hb1.mono HB.out.size));have Q:=Lib.hid (And.intro q1 (And.intro q2 q3));clear e0 e1 e2 e3 B0 hb1 HN q1 q2 q3;obtain⟨y0,y1,y2,y3,f0,f1,f2,f3⟩:=blk4' B1;have HBk:=Lib.hid B1;clear B1
    go_wp2_with fail
    obtain⟨W9,hW9,B9,hb9,k9⟩:=set4 HBk.out HB1.out (Nat.le_refl _) (.slice A1' nd'.pre.length c1') (.int .u64 (nd'.val.toNat:Int)) (.slice A2' nd'.labels.length c2') (.slice A3' nd'.kids.length c3');rw [←hW9];have HQ:=Lib.hid (build_job (HJ.out.below hb9) nd' A1' A2' A3' c1' c2' c3' hbl.1 hbl.2.1 hbl.2.2 (rd_own (own_past Q.out.1 k9 (by omega))).2 (rd_own (own_past Q.out.2.1 k9 (by omega))).2 (rd_own (own_past Q.out.2.2 k9 (by omega))).2 hm);have HB9:=Lib.hid hb9;obtain⟨y0,y1,y2,y3,f0,f1,f2,f3⟩:=blk4' B9;clear hb9 k9 B9 hW9
    first
     | go_wp2_with fail
     | skip
    refine HQ.out.mono ?_;rintro e w10⟨rfl,hg10⟩;have HG:=Lib.hid hg10;clear hg10
    go_wp2_with fail
    go_ret2;rw [HP.out];exact(JobPost.of_below HB9.out ⟨rfl,HG.out⟩)
 ·have HP:Hid (aboveM j nd label kid e=(j,0,e)):=Lib.hid (by unfold aboveM;rw [if_pos he]);have t1:(e !=0)=true:=by rw [bne_iff_ne];exact he
  clear h1 h2 h3 h hW hb he;go_enter Tryz.func52,Tryz.ntmps52
  go_wp2_with fail
  rw [←HW.out];go_ret2;refine⟨by rw [HP.out];rfl,G,?_,Moved.of_below HB.out⟩;rw [HP.out];exact HJ.out.below HB.out
end
section
variable{base jb x d p L:Nat}
theorem rdo_cell{w:World}{G:Nat→Prop}{A:Option Addr}{l:List UInt8}(h:RdO w G A l.length (l.map bv))(k:Nat)(hk:k<l.length):∃b off,A=some ⟨b,off,none⟩∧b<w.heap.size∧w.cell? ⟨b,off+k,none⟩=some (.int .u8 ((l.getD k 0).toNat:Int)):=by
 obtain⟨b,off,e,hb,hc⟩:=h.1.2 (by omega);refine⟨b,off,e,hb,?_⟩;rw [hc k hk,List.getElem?_map,List.getElem?_eq_getElem hk,List.getD_eq_getElem?_getD,List.getElem?_eq_getElem hk];rfl
set_option maxHeartbeats 8000000 in
set_option maxRecDepth 100000 in
theorem leaf_job:∀(f:Nat)(w:World)(j:Jm)(G:Nat→Prop)(l:List UInt8)(value:UInt64)(A:Option Addr)(c:Nat),JobAt w base jb x d p L j G→RdO w G A l.length (l.map bv)→l.length≤c→l.length<f→l.length≤100→j.made.length+f≤1000→
 Calls Tryz.prog 27 #[.pointer (some ⟨jb,0,none⟩),.slice A l.length c,.int .u64 (value.toNat:Int)] w (JobPost (leafM f j l value) base jb x d p L G w)
 | 0,w,j,G,l,value,A,c,h,hl,hc,hf,hle,hm=>absurd hf (by omega)
 | f+1,w,j,G,l,value,A,c,h,hl,hc,hf,hle,hm=>by
   by_cases h15:l.length≤15
   ·have HP:Hid (leafM (f+1) j l value=buildM j ⟨l,value,[],[]⟩):=Lib.hid (by rw [leafM,if_pos h15]);have HB:=Lib.hid (build_job h ⟨l,value,[],[]⟩ A none none c 0 0 (by simp only;omega) (by simp) (by simp) hl.1 Rd.nil Rd.nil (by omega));have t1:decide ((l.length:Int)≤15)=true:=decide_eq_true (by omega);clear h hl;go_enter Tryz.func27,Tryz.ntmps27
    go_wp2_with fail
    refine HB.out.mono ?_;rintro e w1⟨rfl,hg⟩;have HG:=Lib.hid hg;clear hg
    go_wp2_with fail
    go_ret2;rw [HP.out];exact⟨rfl,HG.out⟩
   ·have t1:decide ((l.length:Int)≤15)=false:=decide_eq_false (by omega);obtain⟨b,off,rfl,hbw, -⟩:=rdo_cell hl 15 (by omega);have hcut:=hl.cut 16 (by omega) hc;rw [←List.map_drop,show l.length-16=(l.drop 16).length by simp]at hcut;have HL:=leaf_job f w j G (l.drop 16) value _ (c-16) h hcut (by simp;omega) (by simp;omega) (by simp;omega) (by omega);rw [show(l.drop 16).length=l.length-16 by simp]at HL;obtain⟨⟨j1,kid,er⟩,hr⟩:∃r,leafM f j (l.drop 16) value=r:=⟨_,rfl⟩;have hmd:=leafM_made f j (l.drop 16) value;have HP:Hid (leafM (f+1) j l value=aboveM j1 ⟨l.take 15,0,[],[]⟩ (l.getD 15 0) kid er):=Lib.hid (by rw [leafM,if_neg h15,hr]);rw [hr]at HL hmd;simp only at hmd;have HL:Hid (∀P C,C=c-16→P=(if c=16 then some (⟨b,off,none⟩:Addr)else some ⟨b,off+16,none⟩)→Calls Tryz.prog 27 #[.pointer (some ⟨jb,0,none⟩),.slice P (l.length-16) C,.int .u64 (value.toNat:Int)] w (JobPost (j1,kid,er) base jb x d p L G w)):=Lib.hid (fun P C e1 e2=>by subst e1 e2;exact HL);have Hl:=Lib.hid hl;clear h hl hcut hr;go_enter Tryz.func27,Tryz.ntmps27
    go_wp2_with fail
    all_goals(refine(HL.out _ _ (by omega) (by split<;>first| rfl| omega)).mono ?_)
    all_goals(rintro e w1⟨rfl,G1,hj1,hm1⟩)
    all_goals(clear HL)
    all_goals(have hl1:=Hl.out.moved hm1)
    all_goals(obtain⟨b',off',e',hbw',hck⟩:=rdo_cell hl1 15 (by omega))
    all_goals(injection e' with e';injection e' with e1 e2;subst e1 e2)
    all_goals(have hln:(l.take 15).length=15:=by simp;omega)
    all_goals(have hrd:RdO w1 G1 (some ⟨b,off,none⟩) 15 ((l.take 15).map bv):=by have:=hl1.take 15 (by omega);rwa [←List.map_take]at this)
    all_goals(have hab:=fun(W:World)(hW:Below w1.heap.size w1 W)=>above_job (hj1.below hW) ⟨l.take 15,0,[],[]⟩ (some ⟨b,off,none⟩) none none 15 0 0 (l.getD 15 0) kid er (by show(l.take 15).length≤100;omega) (by simp) (by simp) (by show Rd W _ (l.take 15).length _;rw [hln];exact(hrd.below hW).1) Rd.nil Rd.nil (by show j1.made.length≤1000;omega))
    all_goals(replace hab:=Lib.hid hab)
    all_goals(rw [hln]at hab)
    all_goals(have HM1:=Lib.hid hm1)
    all_goals(generalize l.getD 15 0=lab at*)
    all_goals(generalize l.take 15=l15 at*)
    all_goals(clear hj1 hm1 hl1 HL hln hrd)
    all_goals(have hx1:(15:Int)<(l.length:Int):=by omega)
    all_goals(have hx2:decide ((15:Int)<(l.length:Int))=true:=decide_eq_true hx1)
    all_goals(have hx3:15<l.length:=by omega)
    all_goals(have hx4:15≤c:=by omega)
    all_goals(go_wp2_with fail)
    all_goals(go_region_with(go_at_call 52;go_loud(refine(hab.out _ ((Dr.drew w1).below _)).mono ?_;rintro e w2⟨rfl,hg2⟩)))
    all_goals(obtain⟨G2,q1,q2⟩:=hg2)
    all_goals(have HF:=Lib.hid (And.intro q1 (HM1.out.trans ((Moved.of_below ((Dr.drew w1).below _)).trans q2))))
    all_goals(clear q1 q2)
    all_goals(go_wp2_with fail)
    all_goals(go_ret2)
    all_goals(rw [HP.out])
    all_goals(exact⟨rfl,G2,HF.out.1,HF.out.2⟩)
end
section
variable{base jb x d p L:Nat}
theorem NdR.reads{w:World}{G:Nat→Prop}{A1 A2 A3:Option Addr}{n1 c1 n2 c2 n3 c3:Nat}{v:Value}{nd:Nd}(h:NdR w G (.slice A1 n1 c1) v (.slice A2 n2 c2) (.slice A3 n3 c3) nd):
 RdO w G A1 nd.pre.length (nd.pre.map bv)∧RdO w G A2 nd.labels.length (nd.labels.map bv)∧RdO w G A3 nd.kids.length (nd.kids.map wv)∧nd.pre.length≤c1:=by
 obtain⟨_,_,_,_,_,_,e1,_,e3,e4,hc,q1,q2,q3⟩:=h;injection e1 with a1 a2 a3
 injection e3 with b1 b2 b3
 injection e4 with d1 d2 d3
 subst a1 a3 b1 d1;exact⟨q1,q2,q3,hc⟩
theorem RdO.rest{w:World}{G:Nat→Prop}{b off c k n:Nat}{l:List UInt8}(h:RdO w G (some ⟨b,off,none⟩) n (l.map bv))(hn:n=l.length)(hk:k≤l.length)(hc:l.length≤c){P:Option Addr}(hP:P=(if c=k then some ⟨b,off,none⟩else some ⟨b,off+k,none⟩)):
 RdO w G P (l.drop k).length ((l.drop k).map bv):=by
 subst hn hP;have:=h.cut k (by omega) hc;rw [List.map_drop,List.length_drop];exact this
set_option maxHeartbeats 8000000 in
set_option maxRecDepth 100000 in
theorem grow_same{w:World}{j:Jm}{G:Nat→Prop}(h:JobAt w base jb x d p L j G)(nd:Nd)(A1 A2 A3:Option Addr)(c1 c2 c3:Nat)(off word:Int)(lb:UInt8)(rest:List UInt8)(A:Option Addr)(c:Nat)(value:UInt64)
 (hN:NdR w G (.slice A1 nd.pre.length c1) (.int .u64 (nd.val.toNat:Int)) (.slice A2 nd.labels.length c2) (.slice A3 nd.kids.length c3) nd)(b1:nd.pre.length≤100)(b2:nd.labels.length≤100)(b3:nd.kids.length≤100)
 (hR:RdO w G A rest.length (rest.map bv))(hrc:rest.length≤c)(hrl:rest.length≤100)(hm:j.made.length≤500)(hs:common nd.pre rest=nd.pre.length)(hlt:common nd.pre rest<rest.length):
 Calls Tryz.prog 29 #[.pointer (some ⟨jb,0,none⟩),.agg #[.slice A1 nd.pre.length c1,.int .u64 (nd.val.toNat:Int),.slice A2 nd.labels.length c2,.slice A3 nd.kids.length c3,.int .i64 off,.int .u8 (lb.toNat:Int),.int .i64 word],.slice A rest.length c,.int .u64 (value.toNat:Int)] w (JobPost (growM j nd rest value) base jb x d p L G w):=by
 have hb0:Below w.heap.size w (w.alloc (.cells #[.slice A1 nd.pre.length c1,.int .u64 (nd.val.toNat:Int),.slice A2 nd.labels.length c2,.slice A3 nd.kids.length c3,.int .i64 off,.int .u8 (lb.toNat:Int),.int .i64 word] 74)):=(Below.refl _ _).alloc (Nat.le_refl _) _;have B0:Blk (w.alloc (.cells #[.slice A1 nd.pre.length c1,.int .u64 (nd.val.toNat:Int),.slice A2 nd.labels.length c2,.slice A3 nd.kids.length c3,.int .i64 off,.int .u8 (lb.toNat:Int),.int .i64 word] 74)) w.heap.size 74 [.slice A1 nd.pre.length c1,.int .u64 (nd.val.toNat:Int),.slice A2 nd.labels.length c2,.slice A3 nd.kids.length c3,.int .i64 off,.int .u8 (lb.toNat:Int),.int .i64 word]:=heap_alloc_new _ _;obtain⟨W0,hW0⟩:∃W0,W0=w.alloc (.cells #[.slice A1 nd.pre.length c1,.int .u64 (nd.val.toNat:Int),.slice A2 nd.labels.length c2,.slice A3 nd.kids.length c3,.int .i64 off,.int .u8 (lb.toNat:Int),.int .i64 word] 74):=⟨_,rfl⟩;rw [←hW0]at hb0 B0;have HW:=Lib.hid hW0;obtain⟨b,o,rfl,hbw, -⟩:=rdo_cell hR _ hlt;obtain⟨k,hk⟩:∃k,k=common nd.pre rest:=⟨_,rfl⟩;rw [←hk]at hs hlt;obtain⟨⟨j1,kid,er⟩,hr⟩:∃r,leafM (rest.length+1) j (rest.drop (k+1)) value=r:=⟨_,rfl⟩;have hmd:=leafM_made (rest.length+1) j (rest.drop (k+1)) value;rw [hr]at hmd;simp only at hmd;have HP:Hid (growM j nd rest value=aboveM j1 nd (rest.getD k 0) kid er):=Lib.hid (by rw [growM,←hk,if_pos hs,hr]);have HL:=Lib.hid (fun(W:World)(hW:Below w.heap.size w W)(P:Option Addr)(C:Nat)(hC:C=c- (k+1))(hP:P=(if c=k+1 then some (⟨b,o,none⟩:Addr)else some ⟨b,o+(k+1),none⟩))=>leaf_job (rest.length+1) W j G (rest.drop (k+1)) value P C (h.below hW) ((hR.below hW).rest rfl (by omega) hrc hP) (by rw [List.length_drop];omega) (by rw [List.length_drop];omega) (by rw [List.length_drop];omega) (by omega));rw [hr,List.length_drop]at HL;have HC:=Lib.hid (fun(W:World)(hW:Below w.heap.size w W)=>common_any A1 (some ⟨b,o,none⟩) nd.pre.length rest.length c1 c nd.pre rest W (by omega) (by omega) (hN.reads.1.below hW).1 (hR.below hW).1);rw [←hk]at HC;have HN:=Lib.hid hN;have HR:=Lib.hid hR;have HGl:=Lib.hid h.lt;clear h hN hR hr hW0;have t1:((k:Int)==(nd.pre.length:Int))=true:=by rw [beq_iff_eq];omega
 have hw1:IntKind.i64.wrap ((k:Int)+1)=(k:Int)+1:=wrap64 _ (by omega) (by omega);obtain⟨y0,y1,y2,y3,y4,y5,y6⟩:=cell7 B0;have Hs:=Lib.hid hs;clear hk hs;go_enter Tryz.func29,Tryz.ntmps29
 go_wp2_with fail
 rw [←HW.out];clear HW;refine(HC.out W0 hb0).mono ?_;rintro e w1⟨rfl,hd1⟩;have hb1:=hb0.trans ((hd1.below W0.heap.size).mono hb0.size);have B1:=B0.below (hd1.below _) B0.lt;have HB1:=Lib.hid hb1;have HBk:=Lib.hid B1;clear B0 hb0 hd1 y0 y1 y2 y3 y4 y5 y6 hb1;obtain⟨y0,y1,y2,y3,y4,y5,y6⟩:=cell7 B1;clear B1
 go_wp2_with fail
 all_goals(refine(HL.out w1 HB1.out _ _ (by omega) (by split<;>first| rfl| omega)).mono ?_)
 all_goals(rintro e w2⟨rfl,G2,hj2,hm2⟩)
 all_goals(have HM2:=Lib.hid ((Moved.of_below (F:=G) HB1.out).trans hm2))
 all_goals(have hrd:=HN.out.moved HM2.out)
 all_goals(obtain⟨r1,r2,r3, -⟩:=hrd.reads)
 all_goals(have hrr:=HR.out.moved HM2.out)
 all_goals(obtain⟨b',o',e',hbw',hck⟩:=rdo_cell hrr k hlt)
 all_goals(injection e' with e';injection e' with e1 e2;subst e1 e2)
 all_goals(have hab:=fun(W:World)(hW:Below w2.heap.size w2 W)=>above_job (hj2.below hW) nd A1 A2 A3 c1 c2 c3 (rest.getD k 0) kid er b1 b2 b3 (r1.below hW).1 (r2.below hW).1 (r3.below hW).1 (by show j1.made.length≤1000;omega))
 all_goals(replace hab:=Lib.hid hab)
 all_goals(have B2:=HBk.out.touch hm2.touch (fun hg=>by have:=HGl.out _ hg;omega))
 all_goals(generalize rest.getD k 0=lab at*)
 all_goals(clear hj2 hm2 hrd r1 r2 r3 hrr HL hbw' y0 y1 y2 y3 y4 y5 y6)
 all_goals(obtain⟨y0,y1,y2,y3,y4,y5,y6⟩:=cell7 B2)
 all_goals(clear B2)
 all_goals(have hx1:(k:Int)<(rest.length:Int):=by omega)
 all_goals(have hx2:decide ((k:Int)<(rest.length:Int))=true:=decide_eq_true hx1)
 all_goals(go_wp2_with fail)
 all_goals(go_region_with(go_at_call 52;go_loud(refine(hab.out _ ((Dr.drew w2).below _)).mono ?_;rintro e w3⟨rfl,G3,q1,q2⟩)))
 all_goals(have HF:=Lib.hid (And.intro q1 (HM2.out.trans ((Moved.of_below ((Dr.drew w2).below _)).trans q2))))
 all_goals(clear q1 q2)
 all_goals(go_wp2_with fail)
 all_goals(go_ret2)
 all_goals(rw [HP.out])
 all_goals(exact⟨rfl,G3,HF.out.1,HF.out.2⟩)
end
end Go.Proofs.YtdjfbnoolfpcnaaGreatDoor
