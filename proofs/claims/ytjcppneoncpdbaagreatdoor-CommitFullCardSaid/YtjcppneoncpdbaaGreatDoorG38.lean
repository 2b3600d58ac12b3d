import Derived.Test.YtjcppneoncpdbaaGreatDoorG32
import Derived.Test.YtjcppneoncpdbaaGreatDoorG34
import Derived.Test.YtjcppneoncpdbaaGreatDoorG35
import Derived.Test.YtjcppneoncpdbaaGreatDoorG37
set_option maxHeartbeats 32000000
set_option maxRecDepth 100000
open List renaming mem_cons_self->Be,map_map->FM,getElem?_cons_zero->Ac,getElem?_cons_succ->Ae,getElem_toArray->Ap,getElem_cons_succ->Ak,getElem_cons_zero->Ah,setIfInBounds_toArray->Ag,set_cons_zero->Aj,set_cons_succ->Am
open Go.Lib renaming hid->Aa
open Nat renaming le_trans->AL
namespace Go.Proofs.YtjcppneoncpdbaaGreatDoor
open Go.RowKit
theorem oO(r:Nat)(h:r<4):∃sh,shapeOf (3+16*(1+r))=some sh:=by
 rcases(show r=0\/r=1\/r=2\/r=3 by omega)with rfl| rfl| rfl| rfl
 ·exact⟨_,(by decide+kernel:shapeOf 19=some ((shapeOf 19).getD GM))⟩
 ·exact⟨_,(by decide+kernel:shapeOf 35=some ((shapeOf 35).getD GM))⟩
 ·exact⟨_,(by decide+kernel:shapeOf 51=some ((shapeOf 51).getD GM))⟩
 ·exact⟨_,(by decide+kernel:shapeOf 67=some ((shapeOf 67).getD GM))⟩
theorem Vh{L:Nat}{s:St}{items:List Kv}{ch:List UInt8->List Lk}(hs:Cm L s items ch):((items.map fun kv=>ch kv.1).flatten).length<=(IB s).length/\(IB s).length<=65537/\((IB s).length=0->items=[]):=by
 obtain⟨its,met,r,h1,_,_,_,h5,_,h7⟩:=jr hs;have hup:=VJ hs.ix.ok;have hn:(IB s).Nodup:=hup.imp (fun{a b}hab=>by omega);have hle:=Ky (IB s) (List.range 65537) hn (fun o ho=>by
  obtain⟨d,hd⟩:=(TB hs.ix.ok o).1 ho;have:=(hd.bounds hs.ix.ok).2.1;have:=hs.ix.ok.L1;exact List.mem_range.2 (by omega))
 rw [List.length_range]at hle;refine⟨by omega,hle,fun h0=> ?_⟩;have h8:((items.map fun kv=>ch kv.1).flatten).length=0:=by omega
 cases items with
 | nil=>rfl
 | cons kv t=>
   have hne:=zU (hs.chain kv (Be ..)).1 (hs.chain kv (Be ..)).2;rw [List.length_eq_zero_iff]at h8;rw [List.map_cons,List.flatten_cons,List.append_eq_nil_iff]at h8;exact absurd h8.1 hne
theorem qV:∀{l:List Nat}{a:Nat},a∈l->a<=l.sum
 | b::t,a,h=>by
   rw [List.sum_cons];rcases List.mem_cons.1 h with rfl| h
   ·omega
   ·have:=qV h;omega
theorem XT{m:List (ByteArray×Y6)}{items:List Kv}{ch:List UInt8->List Lk}(he:m.map (fun q=>(q.1,q.2.l))=items.map (fun kv=>((Y5 kv).k,ch kv.1))):(m.map fun q=>q.2.l.length).sum=((items.map fun kv=>ch kv.1).flatten).length/\m.length=items.length/\∀q∈m,q.2.l.length<=((items.map fun kv=>ch kv.1).flatten).length:=by
 have e1:m.map (fun q=>q.2.l.length)=items.map (fun kv=>(ch kv.1).length):=by
  have:=congrArg (List.map (fun q:ByteArray×List Lk=>q.2.length)) he;simpa [FM,Function.comp_def]using this
 have e2:(m.map fun q=>q.2.l.length).sum=((items.map fun kv=>ch kv.1).flatten).length:=by
  rw [e1,List.length_flatten,FM];rfl
 refine⟨e2,by simpa using congrArg List.length he,fun q hq=> ?_⟩;rw [<-e2];exact qV (List.mem_map.2 ⟨q,hq,rfl⟩)
theorem XU(y:Nat)(l:List (List Wr))(A:Option Addr)(c:Nat)(w:World)(hy:y<256)(hl:l.length<=maxLen)(h:U4 w A l)(hT:Tabs w):
 Calls Tryz.prog 4 #[.int .u8 (y:Int),.slice A l.length c] w fun e w'=>e= .returned (.bool true)/\Below w.heap.size w w':=by
 have HA:=Aa (Adh hT);have HSs:=Aa (fun W(k:Below w.heap.size w W)=>Agd l A c W hl (h.below k));obtain⟨r,hr⟩:∃r,r=y%4:=⟨_,rfl⟩;have hr4:r<4:=by omega
 obtain⟨L,hL⟩:∃L,L=3+16*(1+r):=⟨_,rfl⟩;obtain⟨sh,hsh⟩:=oO r hr4;rw [<-hL]at hsh;have HBg:=Aa (fun W(k:Below w.heap.size w W)=>qQ (w:=W) (L:=L) (by omega) (by omega) hsh (hT.below k));have Agf:=Aa (Aaa (L:=L) (by omega) hsh);have H80:Hid (((st0 sh).ws 8).toNat=0):=Aa (by rw [show(st0 sh).ws 8=0 from Gt sh 8 (by decide)];rfl);have Q3:Hid ((3+16*(1+(y:Int)%4))=(L:Int)):=Aa (by omega);clear hr hL hr4 hT h hl hsh;go_enter Tryz.func4,Tryz.ntmps4
 go_wp2_with fail
 refine HA.out.mono ?_;rintro e w1⟨rfl,hb1⟩;have HB1:=Aa hb1;clear hb1 HA
 go_wp2_with fail
 refine(HSs.out w1 HB1.out).mono ?_;rintro e w2⟨hb2,(rfl| ⟨v,ps,rfl,hps,Am8⟩)⟩
 ·have HB2:=Aa (HB1.out.trans (hb2.mono HB1.out.size))
  go_wp2_with fail
  go_ret;exact⟨rfl,HB2.out⟩
 have HB2:=Aa (HB1.out.trans (hb2.mono HB1.out.size));obtain⟨Av,cv,rfl,_⟩:=id hps;have HPs:Hid (Ol w2 (fun b=>w2.heap.size<=b) (.slice Av ps.length cv) ps):=Aa (hps.mono (fun b h1 h2=>by omega));clear hps hb2 HB1 HSs
 go_wp2_with fail
 rw [Q3.out];refine(HBg.out w2 HB2.out).mono ?_;rintro e w3⟨d,p,x,F,rfl,hx,hb3,hF,hxw⟩;obtain⟨wb,hwb⟩:∃wb,wb=w3.heap.size:=⟨_,rfl⟩;obtain⟨W4,UI⟩:∃W4,W4=w3.alloc (.cells #[.pointer (some ⟨d,0,none⟩),.pointer (some ⟨p,0,none⟩),.pointer (some ⟨x,0,none⟩)] 31):=⟨_,rfl⟩;have hb4:Below w3.heap.size w3 W4:=UI▸(Below.refl _ _).alloc (Nat.le_refl _) _;have B4:BH W4 wb 31 [.pointer (some ⟨d,0,none⟩),.pointer (some ⟨p,0,none⟩),.pointer (some ⟨x,0,none⟩)]:=by rw [hwb];exact UI▸heap_alloc_new _ _
 have HB4:=Aa ((HB2.out.trans (hb3.mono HB2.out.size)).trans (hb4.mono (AL HB2.out.size hb3.size)));have HX4:=Aa (hx.below hb4);have HP4:=Aa ((HPs.out.below hb3).below hb4);have Aj0:=Aa B4;have HF4:Hid (∀b,F b->w2.heap.size<=b/\b≠wb):=Aa (fun b hb=>⟨hF b hb,by have:=hx.sys.lt b hb;omega⟩);have HW4:=Aa UI;have Hwb:=Aa hwb;have Al6:Hid (w2.heap.size<=wb):=Aa (by rw [hwb];exact hb3.size);clear HBg hx hb3 hF hxw Q3 hb4 B4 UI hwb HPs;unfold wV;generalize st0 sh=s0 at HX4 Agf H80
 go_wp2_with fail
 rw [<-HW4.out,<-Hwb.out]
 go_wp2_with fail
 go_loopw [46](fun i wr=>∃(k:Nat)(s:St)(items:List Kv)(ch:List UInt8->List Lk)(F:Nat->Prop),k<=ps.length/\i= .int .i64 (k:Nat)/\Ix wr x d p L s F/\Cm L s items ch/\(s.ws 8).toNat<=k/\(∀key,∀y∈ch key,y.rc.stamp.toNat<=(s.ws 8).toNat)/\(∀b,F b->w2.heap.size<=b/\b≠wb)/\
  Ol wr (fun b=>w2.heap.size<=b) (.slice Av ps.length cv) ps/\BH wr wb 31 [.pointer (some ⟨d,0,none⟩),.pointer (some ⟨p,0,none⟩),.pointer (some ⟨x,0,none⟩)]/\Below w.heap.size w wr)(fun i _=>ps.length- (intOf i).toNat)
 case atStart=>exact⟨0,s0,[],fun _=>[],F,Nat.zero_le _,rfl,HX4.out,Agf.out,by rw [H80.out];exact Nat.le_refl _,fun _ _ h=>(nomatch h),HF4.out,HP4.out,Aj0.out,HB4.out⟩
 case round=>
  obtain⟨k,s,items,ch,F1,hk,rfl,hx1,hs1,h81,hst1,hF1,hP1,wE,hb1⟩:=hrel;clear HX4 Agf HF4 HB4 HP4 Aj0 HW4 Hwb H80;by_cases hlt:k<ps.length
  ·have Al7:(k:Int)<(ps.length:Int):=by omega
   have hx2:decide ((k:Int)<(ps.length:Int))=true:=decide_eq_true Al7;have hx5:decide (k<ps.length)=true:=decide_eq_true hlt;have hwk:IntKind.i64.wrap ((k:Int)+1)=(k:Int)+1:=IntWalk.i64_in _ (by omega);obtain⟨Av',cv',ev,hrd,hall⟩:=id hP1;simp only [Value.slice.injEq,true_and]at ev;obtain⟨rfl,rfl⟩:=ev;obtain⟨b,off,rfl,hbw,hc⟩:=hrd.1.2 (by omega);have q0:=hc k hlt;rw [List.getElem?_map,List.getElem?_eq_getElem hlt,Option.map_some]at q0;obtain⟨hset,hgood⟩:=hall _ (List.getElem_mem hlt);generalize ps[k]=pk at*;obtain⟨vs,set⟩:=pk;simp only at q0 hset hgood;have y0:=wE.cell 0;have y1:=wE.cell 1;have y2:=wE.cell 2;simp only [Ac,Ae]at y0 y1 y2;have XX:=Aa (di hx1 hs1);unfold wV at XX;have HX:=Aa hx1;have HS:=Aa hs1;have HF:=Aa hF1;have HP:=Aa hP1;have HWb:=Aa wE;have HB:=Aa hb1;have Abw:=Aa hset;have Aaq:=Aa hgood;have Qx:=Aa hst1;clear hx1 hs1 hF1 hP1 wE hb1 hset hgood hst1 hrd hall hc
   go_wp2_with fail
   refine XX.out.mono ?_;rintro e w5⟨mb1,m1,rfl,hm1,Al8,he1,hnd1,hb5⟩;have HM1:=Aa hm1;have HE1:=Aa he1;have HN1:=Aa hnd1;have MF:=Aa hb5;have oP:=HWb.out.below hb5 HWb.out.lt;have HWB:Hid (∀W',Below w5.heap.size w5 W'->W'.cell? ⟨wb,0,none⟩=some (.pointer (some ⟨d,0,none⟩))/\W'.cell? ⟨wb,1,none⟩=some (.pointer (some ⟨p,0,none⟩))/\W'.cell? ⟨wb,2,none⟩=some (.pointer (some ⟨x,0,none⟩))):=Aa (fun W' kk=>⟨(oP.below kk oP.lt).cell 0,(oP.below kk oP.lt).cell 1,(oP.below kk oP.lt).cell 2⟩);clear y0 y1 y2;obtain⟨y0,y1,y2⟩:=HWB.out w5 (Below.refl _ _);have Pv:=Aa (fun W'(kk:Below w5.heap.size w5 W')=>U2 (x:=x) (((HX.out.below hb5).below kk).sys));unfold wV at Pv;have pY:=Aa (fun W'(kk:Below w5.heap.size w5 W')=>Ad7 ((HX.out.below hb5).below kk));clear hm1 he1 hnd1 hb5 oP XX q0
   go_wp2_with fail
   refine wp_region_held_drew (S:=(fun w'=>w'.cell? ⟨wb,0,none⟩=some (.pointer (some ⟨d,0,none⟩))/\w'.cell? ⟨wb,1,none⟩=some (.pointer (some ⟨p,0,none⟩))/\w'.cell? ⟨wb,2,none⟩=some (.pointer (some ⟨x,0,none⟩)))) (by kernel_rfl) ⟨y0,y1,y2⟩ (fun hHeld=> ?_);refine Ew 0 (.agg #[.pointer (some ⟨d,0,none⟩),.pointer (some ⟨p,0,none⟩),.pointer (some ⟨x,0,none⟩)]) rfl (by kernel_rfl) (fun _ _ _ h=>h) (by rfl) (fun w hSw=>by obtain⟨s0,s1,s2⟩:=hSw;go_simp) hHeld ?_;refine Ew 2 (.pointer (some ⟨wb,1,none⟩)) rfl (by kernel_rfl) (fun _ _ _ h=>h) (by rfl) (fun w hSw=>by clear hSw;go_simp) hHeld ?_;refine Ew 3 (.pointer (some ⟨p,0,none⟩)) rfl (by kernel_rfl) (fun _ _ _ h=>h) (by rfl) (fun w hSw=>by obtain⟨s0,s1,s2⟩:=hSw;go_simp) hHeld ?_
   try simp only [Act.put,Ap,Ak,Ah,Ag,Aj,Am]
   refine wpAnyH_ready (rs:=[1]) (by kernel_rfl) (by simp) ?_;refine AllReadyH.cons rfl (fun K hK=> ?_) AllReadyH.nil;go_simp;go_at_call 21;refine(Pv.out _ ((Dr.drew _).below _)).mono ?_;rintro e wa⟨rfl,hba⟩;have Aar:Below w5.heap.size w5 wa:=((Dr.drew w5).below _).trans hba;refine hK.out _ _ (HWB.out _ Aar) (fun hHeld=> ?_);clear hK K
   try simp only [Act.put,Ap,Ak,Ah,Ag,Aj,Am]
   refine wpAnyH_ready (rs:=[4]) (by kernel_rfl) (by simp) ?_;refine AllReadyH.cons rfl (fun K hK=> ?_) AllReadyH.nil;go_simp;go_at_call 22;refine(pY.out _ Aar).mono ?_;rintro e wc⟨vA,vc,rfl,hbc⟩;have dm:Below w5.heap.size w5 wc:=Aar.trans (hbc.mono Aar.size);refine hK.out _ _ (HWB.out _ dm) (fun hHeld=> ?_);clear hK K
   try simp only [Act.put,Ap,Ak,Ah,Ag,Aj,Am]
   refine Ew 5 (.int .i64 ((IB s).length:Int)) rfl (by kernel_rfl) (fun _ _ _ h=>h) (by rfl) (fun w hSw=>by clear hSw;go_simp) hHeld ?_;refine Ew 6 (.int .u64 ((s.ws 8).toNat:Int)) rfl (by kernel_rfl) (fun _ _ _ h=>h) (by rfl) (fun w hSw=>by clear hSw;go_simp) hHeld ?_;refine Ew 7 (.int .i64 ((IB s).length:Int)) rfl (by kernel_rfl) (fun _ _ _ h=>h) (by rfl) (fun w hSw=>by clear hSw;go_simp) hHeld ?_
   try simp only [Act.put,Ap,Ak,Ah,Ag,Aj,Am]
   refine wpAnyH_done (by kernel_rfl) ?_ _;have Aj1:=(HWb.out.below MF.out HWb.out.lt).below dm (HWb.out.below MF.out HWb.out.lt).lt;have hXc:=(HX.out.below MF.out).below dm;have HPc:=Aa ((HP.out.below MF.out).below dm);have HCm:=Aam hXc HS.out ((Abw.out.below MF.out).below dm) Aaq.out.1 Aaq.out.2.1 Aaq.out.2.2 (by omega) Qx.out;unfold XO wV at HCm;have HCm:=Aa HCm;have HBc:=Aa ((HB.out.trans (MF.out.mono HB.out.size)).trans (dm.mono (AL HB.out.size MF.out.size)));have Aj2:=Aa (HM1.out.below dm);have Hlt:Hid (∀b,F1 b->b<wr.heap.size):=Aa HX.out.sys.lt;have Agg:=Aa Aj1;clear y0 y1 y2;obtain⟨y0,y1,y2⟩:=HWB.out _ dm;clear Aj1 hXc dm hbc Aar hba hHeld Pv pY HWB HX Abw HB MF HM1 HP HWb
   go_wp2_with fail
   refine HCm.out.mono ?_;clear HCm;rintro e w8 hcp;have hM:∃s8 F8,Ix w8 x d p L s8 F8/\Aq F1 F8 wc w8/\((e= .returned (.int .i64 6)/\Cm L s8 items ch/\s8.ws 8=s.ws 8)\/(e= .returned (.int .i64 0)/\(s8.ws 8).toNat=(s.ws 8).toNat+1/\∃it c,Cm L s8 it c/\∀k,∀y∈c k,y.rc.stamp.toNat<=(s.ws 8).toNat+1)):=by
    rcases hcp with⟨rfl,s8,F8,hs8,hlow,hx8,hM8⟩| ⟨rfl,s8,F8,h88,hsh,hlo,Adm,hx8,hM8⟩
    ·exact⟨s8,F8,hx8,hM8,.inl ⟨rfl,hs8,hlow.2 8 (by decide) (by decide)⟩⟩
    ·exact⟨s8,F8,hx8,hM8,.inr ⟨rfl,h88,Adm⟩⟩
   obtain⟨s8,F8,hx8,hM8,hcase⟩:=hM;have JM:=Aa (HBc.out.trans (hM8.touch.below HBc.out.size (fun b h=>AL HB2.out.size (HF.out b h).1)));have N9:=Aa (Agg.out.touch hM8.touch (fun h=>(HF.out _ h).2 rfl));have HF8:Hid (∀b,F8 b->w2.heap.size<=b/\b≠wb):=Aa (fun b hb=>(hM8.own b hb).elim (HF.out b) (fun h=>by have:=Agg.out.lt;have:=Al6.out;omega));have HP8:=Aa (HPc.out.moved (⟨hM8.touch.mono (fun b hb=>(HF.out b hb).1),fun b h=> .inl h⟩:Aq (fun b=>w2.heap.size<=b) (fun b=>w2.heap.size<=b) wc w8));have HM8:=Aa (Aj2.out.touch Al8 hM8.touch Hlt.out);have HX8:=Aa hx8;clear y0 y1 y2;have y0:=N9.out.cell 0;have y1:=N9.out.cell 1;have y2:=N9.out.cell 2;simp only [Ac,Ae]at y0 y1 y2;clear hcp hx8 hM8 HBc Agg HPc Aj2 Hlt HF;rcases hcase with⟨rfl,hs8,he8⟩| ⟨rfl,h88,it,c8,hs8,Adm⟩
   ·have oQ:=Aa (di HX8.out hs8);unfold wV at oQ;have HS8:=Aa hs8;have HE8:=Aa he8;clear hs8 he8
    go_wp2_with fail
    refine oQ.out.mono ?_;rintro e w9⟨mb2,m2,rfl,hm2,Al9,he2,Y4,VD⟩;have HHd:=Aa (Aap (HX8.out.below VD) HS8.out);have Vw:=Aa VD;have TN:=Aa hm2;have HE2:=Aa he2;clear y0 y1 y2 oQ VD hm2 he2;have Aas:=N9.out.below Vw.out N9.out.lt;have y1:=Aas.cell 1;simp only [Ac,Ae]at y1;clear Aas
    go_wp2_with fail
    refine HHd.out.mono ?_;rintro e w10⟨rfl,MI⟩;have Ti:Hid (Below w8.heap.size w8 w10):=Aa (Vw.out.trans (MI.mono Vw.out.size));have Aat:=Aa (TN.out.below MI);have hrg:=TJ (P:=Tryz.prog) Tryz.underlying55 w10 mb2 (Nk m2) Aat.out.map;clear MI HHd y1 TN
    go_wp2_with fail
    obtain⟨wo,hwo⟩:∃wo,wo=wr:=⟨_,rfl⟩
    go_loopw [18](fun u wq=>∃(w1':World)(seen:Array Nat),Dr w10 w1'/\wq=w1'.alloc (Yb mb2 (Nk m2).length seen)/\u= .int .i64 (J8 seen 0 m2:Nat))(fun _ wq=>(leftOf (TF 0 (Nk m2)).toArray (wq.iterSeen w10.heap.size)).size)
    case atStart=>exact⟨w10,#[],Dr.refl _,rfl,by rw [XR];rfl⟩
    case round=>
     obtain⟨dG,seen,hdr,rfl,rfl⟩:=hrel;obtain⟨hsum,Amf,Aj3⟩:=XT HE2.out;obtain⟨hT1,hT2,xN⟩:=Vh HS8.out;have hsz:dG.heap.size=w10.heap.size:=by obtain⟨q,rfl⟩:=hdr;rfl
     have K1:=Aat.out.below (hdr.below _);have law:=Vf (P:=Tryz.prog) dG 0 mb2 seen (Nk m2) K1.map;rw [hsz]at law;rcases law with⟨hall,hrun⟩| ⟨j,hj,w12,Aao,hns,hless,hrun⟩
     ·have hnx:∀ty,(Instr.next (.pointer (some ⟨w10.heap.size,0,none⟩)) false ty).run Tryz.prog (dG.alloc (Yb mb2 (Nk m2).length seen))=_:=fun _=>hrun
      have Aj4:J8 seen 0 m2=((items.map fun kv=>ch kv.1).flatten).length:=by
       rw [Z9 seen m2 0 (fun j hj=>by rw [Nat.zero_add];exact hall j (by rw [OU];exact hj)),hsum]
      rw [Aj4];obtain⟨W,hW⟩:∃W,W=dG.alloc (Yb mb2 (Nk m2).length seen):=⟨_,rfl⟩;have hbW:Below w8.heap.size w8 W:=Ti.out.trans (hW▸(hdr.below _).alloc (by have:=Ti.out.size;omega) _);have Ad8:Below w10.heap.size w10 W:=hW▸(hdr.below _).alloc (by omega) _;have Aj5:=N9.out.below hbW N9.out.lt;have y2:=Aj5.cell 2;simp only [Ac,Ae]at y2;have HNd:=Aa (Adk (HX8.out.below hbW) HS8.out);have HBW:=Aa hbW;have Aj6:=Aa (Aat.out.below Ad8);rw [<-hW]at hnx;have HW:=Aa hW;have HsT:Hid (((items.map fun kv=>ch kv.1).flatten).length<=65537):=Aa (by omega);generalize hT:((items.map fun kv=>ch kv.1).flatten).length=T at*;have HTT:=Aa hT;clear hT;clear hrun hsz K1 hdr hW hbW Ad8 Aj5 hall Aj4 hsum Aj3 hT1 hT2 hrg Aat Ti Vw;rw [<-HW.out]
      go_wp2_with fail
      refine HNd.out.mono ?_;rintro e w12⟨An,nn,cn,rfl,hcount,Aau,Fg⟩;have Y7:Hid (Below w8.heap.size w8 w12):=Aa (HBW.out.trans (Fg.mono HBW.out.size));have Pv:=U2 (x:=x) ((HX8.out.below Y7.out).sys);rw [HE8.out]at Pv;unfold wV at Pv;have Pv:=Aa Pv;have Ad9:=Aa (Aj6.out.below Fg);have qW:=N9.out.below Y7.out N9.out.lt;clear y2;have y0:=qW.cell 0;have y1:=qW.cell 1;have y2:=qW.cell 2;simp only [Ac,Ae]at y0 y1 y2;have t1:(((s.ws 8).toNat:Int)!=((s.ws 8).toNat:Int))=false:=by simp
      have t1':((s.ws 8).toNat !=(s.ws 8).toNat)=false:=by simp
      have HCt:=Aa hcount;have Amg:=Aau;clear HNd Fg hnx qW Aj6 hcount Aau
      go_wp2_with fail
      refine Pv.out.mono ?_;rintro e w13⟨rfl,RI⟩;have Agh:Hid (Below w8.heap.size w8 w13):=Aa (Y7.out.trans (RI.mono Y7.out.size));have HSm:=Aa (oM (HM8.out.below Agh.out) (Ad9.out.below RI) (HE1.out.trans HE2.out.symm) HN1.out (fun q hq=>by have:=(XT HE1.out).2.2 q hq;have:=HsT.out;have:=HTT.out;omega));clear Pv RI Ad9 y0 y1 y2
      go_wp2_with fail
      refine HSm.out.mono ?_;rintro e w14⟨rfl,iV⟩;have Adn:Hid (Below w8.heap.size w8 w14):=Aa (Agh.out.trans (iV.mono Agh.out.size));have pY:=Aa (Ad7 (HX8.out.below Adn.out));have Aea:=N9.out.below Adn.out N9.out.lt;have y1:=Aea.cell 1;simp only [Ac,Ae]at y1;clear HSm iV Aea
      go_wp2_with fail
      refine pY.out.mono ?_;rintro e w15⟨A15,c15,rfl,Aj7⟩;have dn:Hid (Below w8.heap.size w8 w15):=Aa (Adn.out.trans (Aj7.mono Adn.out.size));have hln:=run_len_map (P:=Tryz.prog) (w:=w15) 55 3 mb1 _ _ (by kernel_rfl) (HM8.out.below dn.out).map;simp only [List.size_toArray,cu,OU]at hln;rw [(XT HE1.out).2.1]at hln;have t2:(((IB s8).length:Int)!=((IB s8).length:Int))=false:=by simp
      have t2':((IB s8).length !=(IB s8).length)=false:=by simp
      have hwn:IntKind.i64.wrap ((nn:Int)+(T:Int))=((IB s8).length:Int):=by have:=HCt.out;rw [IntWalk.i64_in _ (by omega)];omega
      have h0:=(Vh HS.out).2.2;clear Aj7 pY;generalize(IB s8).length=N8 at*;generalize(IB s).length=N0 at*;by_cases hz:N0=0
      ·subst hz;rw [h0 rfl]at hln;clear h0
       go_wp2_with fail
       go_roundw
       case rel=>refine⟨k+1,s8,items,ch,F8,by omega,by go_num,HX8.out.below dn.out,HS8.out,by rw [HE8.out];omega,fun key z hz=>by rw [HE8.out];exact Qx.out key z hz,HF8.out,HP8.out.below dn.out,N9.out.below dn.out N9.out.lt,JM.out.trans (dn.out.mono JM.out.size)⟩
       case measure=>simp [intOf];omega
      ·have t3:((N0:Int)==0)=false:=by rw [beq_eq_false_iff_ne];omega
       have t3':(N0==0)=false:=by rw [beq_eq_false_iff_ne];exact hz
       clear h0 hln
       go_wp2_with fail
       go_roundw
       case rel=>refine⟨k+1,s8,items,ch,F8,by omega,by go_num,HX8.out.below dn.out,HS8.out,by rw [HE8.out];omega,fun key z hz=>by rw [HE8.out];exact Qx.out key z hz,HF8.out,HP8.out.below dn.out,N9.out.below dn.out N9.out.lt,JM.out.trans (dn.out.mono JM.out.size)⟩
       case measure=>simp [intOf];omega
     ·have hjl:=hj;rw [OU]at hj;have Y9:=hdr.trans Aao;have hsz2:w12.heap.size=w10.heap.size:=by obtain⟨q,rfl⟩:=Y9;rfl
      have hnx:∀ty,(Instr.next (.pointer (some ⟨w10.heap.size,0,none⟩)) false ty).run Tryz.prog (dG.alloc (Yb mb2 (Nk m2).length seen))=_:=fun _=>hrun
      have hen:=TI (P:=Tryz.prog) w12 mb2 seen (Nk m2) (Aat.out.below (Y9.below _)).map j hjl;rw [hsz2]at hen;rw [VK m2 j hjl hj]at hen hnx;have hpush:=XQ seen j hns m2 0 (by omega) (by omega);simp only [Nat.sub_zero]at hpush;have hle1:=jM (seen.push j) m2 0;have hwm:IntKind.i64.wrap ((J8 seen 0 m2:Int)+(m2[j].2.l.length:Int))=((J8 (seen.push j) 0 m2:Nat):Int):=by rw [IntWalk.i64_in _ (by omega),hpush];omega
      unfold lkV at hen hnx;have HD3:=Aa Y9;have XX:=Aa hless;have Hsz:=Aa hsz;have Adj:=Aa hsz2;generalize m2[j]=yj at*;clear hrun hsz K1 hdr Aao Y9 hsz2 hless hrg hns hpush hle1 hT1 hT2 xN hsum Aj3
      go_wp2_with fail
      go_roundw
      case rel=>exact⟨w12,seen.push j,HD3.out,rfl,rfl⟩
      case measure=>
       rw [show w10.heap.size=w12.heap.size from Adj.out.symm,show(w12.alloc (Yb mb2 (Nk m2).length (seen.push j))).iterSeen w12.heap.size=seen.push j from World.iterSeen_alloc _ _ _ _ _,show w12.heap.size=dG.heap.size from Adj.out.trans Hsz.out.symm,show(dG.alloc (Yb mb2 (Nk m2).length seen)).iterSeen dG.heap.size=seen from World.iterSeen_alloc _ _ _ _ _];exact XX.out
   ·have oQ:=Aa (di HX8.out hs8);unfold wV at oQ;have HS8:=Aa hs8;have H88:=Aa h88;have Ama:=Aa Adm;clear hs8 h88 Adm
    go_wp2_with fail
    refine oQ.out.mono ?_;rintro e w9⟨mb2,m2,rfl,hm2,Al9,he2,Y4,VD⟩;have HHd:=Aa (Aap (HX8.out.below VD) HS8.out);have Vw:=Aa VD;clear y0 y1 y2 oQ VD hm2 he2 Y4;have Aas:=N9.out.below Vw.out N9.out.lt;have y1:=Aas.cell 1;simp only [Ac,Ae]at y1;clear Aas
    go_wp2_with fail
    refine HHd.out.mono ?_;rintro e w10⟨rfl,MI⟩;have Ti:Hid (Below w8.heap.size w8 w10):=Aa (Vw.out.trans (MI.mono Vw.out.size));clear MI HHd y1 Vw;have qX:=N9.out.below Ti.out N9.out.lt;have y0:=qX.cell 0;have y1:=qX.cell 1;have y2:=qX.cell 2;simp only [Ac,Ae]at y0 y1 y2;have Pv:=U2 (x:=x) ((HX8.out.below Ti.out).sys);unfold wV at Pv;have Pv:=Aa Pv;have hwu:IntKind.u64.wrap (((s.ws 8).toNat:Int)+1)=((s8.ws 8).toNat:Int):=by rw [H88.out,IntKind.wrap_u64];omega
    have t1:(((s8.ws 8).toNat:Int)!=((s8.ws 8).toNat:Int))=false:=by simp
    have t1':((s8.ws 8).toNat !=(s8.ws 8).toNat)=false:=by simp
    clear qX
    go_wp2_with fail
    refine Pv.out.mono ?_;rintro e dG⟨rfl,V3⟩;have Y8:Hid (Below w8.heap.size w8 dG):=Aa (Ti.out.trans (V3.mono Ti.out.size));clear Pv V3
    go_wp2_with fail
    go_roundw
    case rel=>
     refine⟨k+1,s8,it,c8,F8,by omega,by go_num,HX8.out.below Y8.out,HS8.out,by have:=H88.out;omega,fun key z hz=>by have:=Ama.out key z hz;have:=H88.out;omega,HF8.out,HP8.out.below Y8.out,N9.out.below Y8.out N9.out.lt,JM.out.trans (Y8.out.mono JM.out.size)⟩
    case measure=>simp [intOf];omega
  ·have hkn:k=ps.length:=by omega
   have hx2:decide ((k:Int)<(ps.length:Int))=false:=decide_eq_false (by omega);have hx5:decide (k<ps.length)=false:=decide_eq_false hlt;have HB:=Aa hb1;clear hx1 hs1 hF1 hP1 wE hb1 hst1
   go_wp2_with fail
   go_ret;exact⟨rfl,HB.out⟩
end Go.Proofs.YtjcppneoncpdbaaGreatDoor
