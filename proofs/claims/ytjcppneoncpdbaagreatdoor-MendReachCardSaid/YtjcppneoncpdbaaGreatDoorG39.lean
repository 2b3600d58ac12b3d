import Derived.Test.YtjcppneoncpdbaaGreatDoorG34
import Derived.Test.YtjcppneoncpdbaaGreatDoorG35
import Derived.Test.YtjcppneoncpdbaaGreatDoorG37
import Derived.Test.YtjcppneoncpdbaaGreatDoorG38
set_option maxHeartbeats 32000000
set_option maxRecDepth 100000
open Go.Lib renaming hid->Aa
open Nat renaming le_refl->Ae,le_trans->Bf
open List renaming getElem?_map->BO,getElem?_eq_getElem->Ag,getElem?_cons_zero->Ad,getElem?_cons_succ->Af,length_map->CZ
open Option renaming map_some->Dw
open Int renaming ofNat->CE
namespace Go.Proofs.YtjcppneoncpdbaaGreatDoor
open Go.RowKit
theorem mf(r:Nat)(h:r<6):∃sh,shapeOf (3+16*(1+r))=some sh:=by
 rcases(show r=0\/r=1\/r=2\/r=3\/r=4\/r=5 by omega)with rfl| rfl| rfl| rfl| rfl| rfl
 ·exact⟨_,(by decide+kernel:shapeOf 19=some ((shapeOf 19).getD ET))⟩
 ·exact⟨_,(by decide+kernel:shapeOf 35=some ((shapeOf 35).getD ET))⟩
 ·exact⟨_,(by decide+kernel:shapeOf 51=some ((shapeOf 51).getD ET))⟩
 ·exact⟨_,(by decide+kernel:shapeOf 67=some ((shapeOf 67).getD ET))⟩
 ·exact⟨_,(by decide+kernel:shapeOf 83=some ((shapeOf 83).getD ET))⟩
 ·exact⟨_,(by decide+kernel:shapeOf 99=some ((shapeOf 99).getD ET))⟩
theorem Zr(y:Nat)(l:List (List Wr))(A:Option Addr)(c:Nat)(w:World)(hy:y<256)(hl:l.length<=maxLen)(h:Vr w A l)(hT:Tabs w):
 Calls Tryz.prog 6 #[.int .u8 (y:Int),.slice A l.length c] w fun e w'=>e= .returned (.bool true)/\Below w.heap.size w w':=by
 have HA:=Aa (Afr hT);have HSs:=Aa (fun W(k:Below w.heap.size w W)=>Ail l A c W hl (h.below k));obtain⟨r,hr⟩:∃r,r=y%6:=⟨_,rfl⟩;have hr4:r<6:=by omega
 obtain⟨L,hL⟩:∃L,L=3+16*(1+r):=⟨_,rfl⟩;obtain⟨sh,hsh⟩:=mf r hr4;rw [<-hL]at hsh;have HBg:=Aa (fun W(k:Below w.heap.size w W)=>uV (w:=W) (L:=L) (by omega) (by omega) hsh (hT.below k));have Aiv:=Aa (rJ (L:=L) (by omega) hsh);have H80:Hid (((st0 sh).ws 8).toNat=0):=Aa (by rw [show(st0 sh).ws 8=0 from H8 sh 8 (by decide)];rfl);have Q3:Hid ((3+16*(1+(y:Int)%6))=(L:Int)):=Aa (by omega);clear hr hL hr4 hT h hl hsh;go_enter Tryz.func6,Tryz.ntmps6
 go_wp2_with fail
 refine HA.out.mono ?_;rintro e w1⟨rfl,hb1⟩;have HB1:=Aa hb1;clear hb1 HA
 go_wp2_with fail
 refine(HSs.out w1 HB1.out).mono ?_;rintro e w2⟨hb2,(rfl| ⟨v,ps,rfl,hps,Apv⟩)⟩
 ·have HB2:=Aa (HB1.out.trans (hb2.mono HB1.out.size))
  go_wp2_with fail
  go_ret;exact⟨rfl,HB2.out⟩
 have HB2:=Aa (HB1.out.trans (hb2.mono HB1.out.size));obtain⟨Av,cv,rfl,_⟩:=id hps;have HPs:Hid (OT w2 (fun b=>w2.heap.size<=b) (.slice Av ps.length cv) ps):=Aa (hps.mono (fun b h1 h2=>by omega));clear hps hb2 HB1 HSs
 go_wp2_with fail
 rw [Q3.out];refine(HBg.out w2 HB2.out).mono ?_;rintro e w3⟨d,p,x,F,rfl,hx,hb3,hF,hxw⟩;obtain⟨wb,hwb⟩:∃wb,wb=w3.heap.size:=⟨_,rfl⟩;obtain⟨W4,TB⟩:∃W4,W4=w3.alloc (.cells #[.pointer (some ⟨d,0,none⟩),.pointer (some ⟨p,0,none⟩),.pointer (some ⟨x,0,none⟩)] 31):=⟨_,rfl⟩;have hb4:Below w3.heap.size w3 W4:=TB▸(Below.refl _ _).alloc (Ae _) _;have B4:BI W4 wb 31 [.pointer (some ⟨d,0,none⟩),.pointer (some ⟨p,0,none⟩),.pointer (some ⟨x,0,none⟩)]:=by rw [hwb];exact TB▸heap_alloc_new _ _
 have HB4:=Aa ((HB2.out.trans (hb3.mono HB2.out.size)).trans (hb4.mono (Bf HB2.out.size hb3.size)));have vT:=Aa (hx.below hb4);have HP4:=Aa ((HPs.out.below hb3).below hb4);have Amm:=Aa B4;have HF4:Hid (∀b,F b->w2.heap.size<=b/\b≠wb):=Aa (fun b hb=>⟨hF b hb,by have:=hx.sys.lt b hb;omega⟩);have mX:=Aa TB;have Hwb:=Aa hwb;have Aoz:Hid (w2.heap.size<=wb):=Aa (by rw [hwb];exact hb3.size);clear HBg hx hb3 hF hxw Q3 hb4 B4 TB hwb HPs;unfold wV;generalize st0 sh=s0 at vT Aiv H80
 go_wp2_with fail
 rw [<-mX.out,<-Hwb.out]
 go_wp2_with fail
 go_loopw [37](fun i wr=>∃(k:Nat)(s:St)(items:List Kv)(ch:List UInt8->List Lk)(F:Nat->Prop),k<=ps.length/\i= .int .i64 (k:Nat)/\Ix wr x d p L s F/\Dc L s items ch/\(s.ws 8).toNat<=k/\(∀key,∀y∈ch key,y.rc.stamp.toNat<=(s.ws 8).toNat)/\(∀b,F b->w2.heap.size<=b/\b≠wb)/\
  OT wr (fun b=>w2.heap.size<=b) (.slice Av ps.length cv) ps/\BI wr wb 31 [.pointer (some ⟨d,0,none⟩),.pointer (some ⟨p,0,none⟩),.pointer (some ⟨x,0,none⟩)]/\Below w.heap.size w wr)(fun i _=>ps.length- (intOf i).toNat)
 case atStart=>exact⟨0,s0,[],fun _=>[],F,Nat.zero_le _,rfl,vT.out,Aiv.out,by rw [H80.out];exact Ae _,fun _ _ h=>(nomatch h),HF4.out,HP4.out,Amm.out,HB4.out⟩
 case round=>
  obtain⟨k,s,items,ch,F1,hk,rfl,hx1,hs1,h81,hst1,hF1,hP1,Ac5,hb1⟩:=hrel;clear vT Aiv HF4 HB4 HP4 Amm mX Hwb H80;by_cases hlt:k<ps.length
  ·have Ao0:(k:Int)<(ps.length:Int):=by omega
   have hx2:decide ((k:Int)<(ps.length:Int))=true:=decide_eq_true Ao0;have hx5:decide (k<ps.length)=true:=decide_eq_true hlt;have hwk:IntKind.i64.wrap ((k:Int)+1)=(k:Int)+1:=IntWalk.i64_in _ (by omega);obtain⟨Av',cv',ev,hrd,hall⟩:=id hP1;simp only [Value.slice.injEq,true_and]at ev;obtain⟨rfl,rfl⟩:=ev;obtain⟨b,off,rfl,hbw,hc⟩:=hrd.1.2 (by omega);have q0:=hc k hlt;rw [BO,Ag hlt,Dw]at q0;obtain⟨hset,hgood⟩:=hall _ (List.getElem_mem hlt);generalize ps[k]=pk at*;obtain⟨vs,set⟩:=pk;simp only at q0 hset hgood;have y0:=Ac5.cell 0;have y1:=Ac5.cell 1;have y2:=Ac5.cell 2;simp only [Ad,Af]at y0 y1 y2;have HCm:=Aci hx1 hs1 hset hgood.1 hgood.2.1 hgood.2.2 (by omega) hst1;unfold Tv wV at HCm;have HCm:=Aa HCm;have HF:=Aa hF1;have HP:=Aa hP1;have HWb:=Aa Ac5;have HB:=Aa hb1;have RS:=Aa hst1;clear hx1 hs1 hF1 hP1 Ac5 hb1 hset hgood hst1 hrd hall hc
   go_wp2_with fail
   refine HCm.out.mono ?_;clear HCm;rintro e w8 hcp;have hM:∃(er:Int)(s8:St)(F8:Nat->Prop)(it:List Kv)(c8:List UInt8->List Lk),e= .returned (.int .i64 er)/\Ix w8 x d p L s8 F8/\AB F1 F8 wr w8/\Dc L s8 it c8/\(s8.ws 8).toNat<=k+1/\(∀key,∀y∈c8 key,y.rc.stamp.toNat<=(s8.ws 8).toNat):=by
    rcases hcp with⟨rfl,s8,F8,hs8,hlow,hx8,hM8⟩| ⟨rfl,s8,F8,h88,hsh,hlo,⟨it,c8,hs8,Aft⟩,hx8,hM8⟩
    ·have e8:s8.ws 8=s.ws 8:=hlow.2 8 (by decide) (by decide);exact⟨6,s8,F8,items,ch,rfl,hx8,hM8,hs8,by rw [e8];omega,fun key y hy=>by rw [e8];exact RS.out key y hy⟩
    ·exact⟨0,s8,F8,it,c8,rfl,hx8,hM8,hs8,by omega,fun key y hy=>by rw [h88];exact Aft key y hy⟩
   obtain⟨er,s8,F8,it,c8,rfl,hx8,hM8,hs8,h88,Aft⟩:=hM;have KC:=Aa (HB.out.trans (hM8.touch.below HB.out.size (fun b h=>Bf HB2.out.size (HF.out b h).1)));have sF:=Aa (HWb.out.touch hM8.touch (fun h=>(HF.out _ h).2 rfl));have HF8:Hid (∀b,F8 b->w2.heap.size<=b/\b≠wb):=Aa (fun b hb=>(hM8.own b hb).elim (HF.out b) (fun h=>by have:=HWb.out.lt;have:=Aoz.out;omega));have HP8:=Aa (HP.out.moved (⟨hM8.touch.mono (fun b hb=>(HF.out b hb).1),fun b h=> .inl h⟩:AB (fun b=>w2.heap.size<=b) (fun b=>w2.heap.size<=b) wr w8));have HX8:=Aa hx8;have HS8:=Aa hs8;have H88:=Aa h88;have Ao1:=Aa Aft;clear y0 y1 y2;have y0:=sF.out.cell 0;have y1:=sF.out.cell 1;have y2:=sF.out.cell 2;simp only [Ad,Af]at y0 y1 y2;obtain⟨its,met,r,q1,_,q3,q4,q5,q6,_⟩:=lq hs8;have hRe:=mendReach hx8 q1 q3 q4 q6;obtain⟨n,hn⟩:∃n,n=(Jo s8).length:=⟨_,rfl⟩;have hrn:r.length=n:=by rw [<-MW r,q5,CZ,hn]
   have hn1:n<=100000:=by omega
   rw [hrn,q5]at hRe;have HRe:=Aa hRe;have HUp:=Aa (Agi (WT hs8.ix.ok));have HN:=Aa hn;clear hcp hx8 hM8 hs8 h88 Aft HB HWb HP HF q1 q3 q4 q5 q6 hRe hrn hn
   go_wp2_with fail
   refine HRe.out.mono ?_;rintro e w9⟨v9,rfl,ho9,Ze⟩;obtain⟨A9,c9,rfl,hc9,hr9⟩:=Ea ho9;have HR9:=Aa hr9;have HA:=Aa (show Calls Tryz.prog 22 #[.pointer (some ⟨p,0,none⟩)] w9 fun e w'=>∃v,e= .returned v/\w'.ownsRow w9.heap.size 3 1 v (Jo s8).length (Zh (Jo s8))/\Below w9.heap.size w9 w' from by
    obtain⟨tb,hb,n,cT,cH,own,hr, -⟩:=(HX8.out.below Ze).sys;exact Yh hr.at)
   rw [<-HN.out]at HA;have Amn:=sF.out.below Ze sF.out.lt;have dQ:=Aa Ze;clear y0 y1 y2;have y1:=Amn.cell 1;simp only [Ad,Af]at y1;clear HRe ho9 hr9 Ze hc9 Amn
   go_wp2_with fail
   refine HA.out.mono ?_;rintro e w10⟨v10,rfl,Amo,Qc⟩;obtain⟨A10,c10,rfl,Ao2,Amq⟩:=Ea Amo;have Amr:=Aa (HR9.out.below Qc);have Zf:Hid (Below w8.heap.size w8 w10):=Aa (dQ.out.trans (Qc.mono dQ.out.size));have hnl:((Jo s8).map CE).length=n:=by rw [CZ,HN.out]
   have HSm:=yS ((Jo s8).map CE) A9 A10 c9 c10 w10 (by omega) (by have h:=Amr.out;rw [Nat.mul_one]at h;rw [hnl];exact h) (by have h:=Amq;rw [Nat.mul_one]at h;rw [hnl];simpa [Zh,U7,List.map_map,Function.comp_def]using h);rw [hnl]at HSm;have HSm:=Aa HSm;have HNl:=Aa hnl;clear HA Amo Amq Qc Ao2 HR9 dQ y1 hnl
   go_wp2_with fail
   refine HSm.out.mono ?_;rintro e w11⟨rfl,hdr⟩;have HD:=Aa hdr;clear hdr HSm
   go_wp2_with fail
   go_loopw [13](fun i wq=>∃j:Nat,1<=j/\i= .int .i64 (j:Nat)/\Dr w10 wq)(fun i _=>n- (intOf i).toNat)
   case atStart=>exact⟨1,Ae _,rfl,HD.out⟩
   case round=>
    obtain⟨j,hj1,rfl,hdq⟩:=hrel;have HDq:=Aa hdq;clear hdq;by_cases hjn:j<n
    ·have hnl:=HNl.out;obtain⟨ba,oa,rfl,_,qa⟩:=(Rd.below Amr.out (HDq.out.below _)).2 (by have:=HN.out;omega);have hup:=HUp.out (j-1) j (by omega) (by omega) (by omega);have q1:=qa (j-1) (by have:=HN.out;omega);have q2:=qa j (by have:=HN.out;omega);rw [U7,BO,Ag (by omega),Dw]at q1 q2;generalize((Jo s8).map CE)[j-1]=a1 at*;generalize((Jo s8).map CE)[j]=a2 at*;have hx1:(j:Int)<(n:Int):=by omega
     have hx2:decide ((j:Int)<(n:Int))=true:=decide_eq_true hx1;have hx5:decide (j<n)=true:=decide_eq_true hjn;have hwj:IntKind.i64.wrap ((j:Int)+1)=(j:Int)+1:=IntWalk.i64_in _ (by omega);have hwm:IntKind.i64.wrap ((j:Int) -1)=((j-1:Nat):Int):=by rw [IntWalk.i64_in _ (by omega)];omega
     have t1:decide (a2<=a1)=false:=decide_eq_false (by omega);have hj2:j-1<n:=by omega
     clear hnl qa hup
     go_wp2_with fail
     go_quiet(fail)
     go_wp2_with fail
     go_roundw
     case rel=>exact⟨j+1,by omega,by go_num,by first| exact(HDq.out.trans (Dr.one _ _))| exact HDq.out⟩
     case measure=>simp [intOf];omega
    ·have hx2:decide ((j:Int)<(n:Int))=false:=decide_eq_false (by omega);have hx5:decide (j<n)=false:=decide_eq_false hjn
     go_wp2_with fail
     go_roundw
     case rel=>exact⟨k+1,s8,it,c8,F8,by omega,by go_num,HX8.out.below (Zf.out.trans ((HDq.out.below _))),HS8.out,H88.out,Ao1.out,HF8.out,HP8.out.below (Zf.out.trans ((HDq.out.below _))),sF.out.below (Zf.out.trans ((HDq.out.below _))) sF.out.lt,KC.out.trans ((Zf.out.trans ((HDq.out.below _))).mono KC.out.size)⟩
     case measure=>simp [intOf];omega
  ·have hx2:decide ((k:Int)<(ps.length:Int))=false:=decide_eq_false (by omega);have hx5:decide (k<ps.length)=false:=decide_eq_false hlt;have HB:=Aa hb1
   go_wp2_with fail
   go_ret;exact⟨rfl,HB.out⟩
end Go.Proofs.YtjcppneoncpdbaaGreatDoor
