import Derived.Defers
import Derived.Test.YtjcppneoncpdbaaGreatDoorG12
import Derived.Test.YtjcppneoncpdbaaGreatDoorG13
set_option maxHeartbeats 32000000
set_option maxRecDepth 100000
open Nat renaming le_refl->Ae
open List renaming getElem?_cons_zero->Ad,set_cons_zero->Am
open Go.Lib renaming hid->Aa
open UInt64 renaming ofNat->AA
namespace Go.Proofs.YtjcppneoncpdbaaGreatDoor
open Go.RowKit
theorem Aep(b0 b1 b2:Nat)(W:World)(u:FrameMode)(h:W.cell? ⟨b0,0,none⟩=some (.int .i64 0)):
 CallsD Tryz.prog 138 #[.pointer (some ⟨b0,0,none⟩),.pointer (some ⟨b1,0,none⟩),.pointer (some ⟨b2,0,none⟩)] u W fun e u' w'=>u'=u/\(e= .returned (.tuple #[])/\w'=W):=by
 go_enter_d Tryz.func138,Tryz.ntmps138
 go_wp2;go_end0;exact⟨rfl,rfl⟩
theorem EL.ML{m:DX}{w:World}{d p L:Nat}{s:St}{F:Nat->Prop}(h:EL m w d p L s F){b:Nat}(i:Nat)(v:Value)(hb:¬F b)(g1:b≠0)(g2:b≠1):EL m (w.setCell ⟨b,i,none⟩ v) d p L s F:=
 h.keep (G:=fun k=>k=b) ((Touch.refl (fun k=>k=b) w).setCell (p:=⟨b,i,none⟩) (.inl rfl) v) (fun _ hk e=>hb (e▸hk)) (fun e=>g1 e.symm) (fun e=>g2 e.symm)
def Lp(s:St)(r:Rc)(d p L:Nat)(F:Nat->Prop)(w:World)(e:Ending)(w':World):Prop:=
 e= .returned (.tuple #[.int .u64 ((GI s r).2.1.toNat:Int),.int .i64 (GI s r).2.2])/\∃F',Sys w' d p L (GI s r).1 F'/\AB F F' w w'
section
variable{w w':World}{d p L:Nat}{s:St}{F:Nat->Prop}
theorem Ko(h:Sys w d p L s F)(r:Rc)(hr:r.text.size<=4294967296)(hT:∀off s1,C9 s 1=some (off,s1)->(Fh {s1 with ws:=BA s1.ws (off/8) (CJ r)} off).2=0):
 Calls Tryz.prog 92 #[.pointer (some ⟨d,0,none⟩),.pointer (some ⟨p,0,none⟩),ZY r] w (Lp s r d p L F w):=by
 have hmf:∀(fn:Fn)(first cap:Array Value)(w:World),(Instr.makeFunc fn first cap).run Tryz.prog w= .ok (.func fn first cap) w:=fun _ _ _ _=>rfl
 obtain⟨W0,hW0⟩:∃W0,W0=((w.alloc (.cells #[.pointer (some ⟨p,0,none⟩)] 28)).alloc (.cells #[.int .u64 (r.stamp.toNat:Int),.int .u64 (r.next.toNat:Int),.bool r.gone,.string r.text] 89)).alloc (.cells #[.int .i64 0] 34):=⟨_,rfl⟩;have hb0:Below w.heap.size w W0:=by
  rw [hW0];exact(((Below.refl _ _).alloc (Ae _) _).alloc (by simp) _).alloc (by simp;omega) _
 have hs0:W0.heap.size=w.heap.size+3:=by rw [hW0];simp
 have P0:BI W0 w.heap.size 28 [.pointer (some ⟨p,0,none⟩)]:=by
  rw [hW0];exact(heap_alloc_old _ _ (by simp;omega)).trans ((heap_alloc_old _ _ (by simp)).trans (heap_alloc_new _ _))
 have P1:BI W0 (w.heap.size+1) 89 [.int .u64 (r.stamp.toNat:Int),.int .u64 (r.next.toNat:Int),.bool r.gone,.string r.text]:=by
  rw [hW0];have:=heap_alloc_new (w.alloc (.cells #[.pointer (some ⟨p,0,none⟩)] 28)) (.cells #[.int .u64 (r.stamp.toNat:Int),.int .u64 (r.next.toNat:Int),.bool r.gone,.string r.text] 89);rw [show(w.alloc (.cells #[.pointer (some ⟨p,0,none⟩)] 28)).heap.size=w.heap.size+1 by simp]at this;exact(heap_alloc_old _ _ (by simp)).trans this
 have P2:BI W0 (w.heap.size+1+1) 34 [.int .i64 0]:=by
  rw [hW0];have:=heap_alloc_new ((w.alloc (.cells #[.pointer (some ⟨p,0,none⟩)] 28)).alloc (.cells #[.int .u64 (r.stamp.toNat:Int),.int .u64 (r.next.toNat:Int),.bool r.gone,.string r.text] 89)) (.cells #[.int .i64 0] 34);rw [show((w.alloc (.cells #[.pointer (some ⟨p,0,none⟩)] 28)).alloc (.cells #[.int .u64 (r.stamp.toNat:Int),.int .u64 (r.next.toNat:Int),.bool r.gone,.string r.text] 89)).heap.size=w.heap.size+1+1 by simp]at this;exact this
 obtain⟨b1,qA⟩:∃b,b=w.heap.size+1:=⟨_,rfl⟩;obtain⟨b2,qB⟩:∃b,b=w.heap.size+1+1:=⟨_,rfl⟩;rw [<-qB]at P2;rw [<-qA]at P1;have c0:=P0.cell 0;have c2:=P2.cell 0;have f2:=P2.frozen 0;obtain⟨y0,y1,y2,y3,_,_,_,_⟩:=Ce P1;simp only [Ad]at c0 c2;have HX:=Aa h;have HB0:=Aa hb0;have HN:=Aa (UQ (h.below hb0));have HE:=Aa (UO r W0 hr);have uA:=Aa P0;have zY:=Aa P1;have HP2:=Aa P2;have HW0:=Aa hW0;have HS0:=Aa hs0;have HD1:=Aa qA;have HD2:=Aa qB;have HT:=Aa hT;have hlts:w.heap.size<b1/\b1<b2/\b2<W0.heap.size:=by omega
 have Ha:=Aa h.lt;unfold ZY at HE⊢;clear h hb0 hs0 P0 P1 P2 hW0 hT
 go_enter_defers Tryz.func92,Tryz.ntmps92
 go_wp2_with fail
 rw [<-HW0.out,<-HD2.out,<-HD1.out];refine HN.out.mono ?_;rintro e w1⟨rfl,rfl⟩;clear HN qA qB
 go_wp2_with fail
 refine HE.out.mono ?_;rintro e w1⟨hb1,hp1⟩;have HB1:=Aa (HB0.out.trans (hb1.mono HB0.out.size));have Am9:=Aa hb1;have P0:=uA.out.below hb1 uA.out.lt;have P1:=zY.out.below hb1 zY.out.lt;have P2:=HP2.out.below hb1 HP2.out.lt;replace c0:=P0.cell 0;replace c2:=P2.cell 0;replace f2:=P2.frozen 0;simp only [Ad]at c0 c2;have hs1:=hb1.size;clear HE hb1 y0 y1 y2 y3;cases hR:DU r with
 | false=>
   rw [hR]at hp1;replace hp1:e= .returned (.tuple #[.slice none 0 0,.bool false]):=hp1;subst hp1;have HV:Hid (GI s r=(s,0,2)):=Aa (by unfold GI;rw [if_pos hR]);have HB2:=Aa (HB1.out.setCell (p:=⟨b2,0,none⟩) (by show _<=b2;omega) (.int .i64 2));have P3:=P2.AU 0 (.int .i64 2);have c3:=P3.cell 0;simp only [Am,Ad]at c3;clear hR P0 P1 P2 P3
   go_wp2_with fail
   refine⟨.tuple #[.int .u64 0,.int .i64 2],by simp [results,Tryz.results92,go_sem,c3],?_,F,?_,AB.of_below HB2.out⟩
   ·rw [HV.out];rfl
   ·rw [HV.out];exact HX.out.below HB2.out
 | true=>
   rw [hR,if_pos rfl]at hp1;obtain⟨g1,rfl,ho1⟩:=hp1;have wU:=Aa ho1;have HRs:=Aa (PH (HX.out.below HB1.out) 1 (by decide) (by decide));have HR:=Aa hR;have uA:=Aa P0;have HP2:=Aa P2;cases hres:C9 s 1 with
   | none=>
     have hv:resV s 1= .tuple #[.int .i64 0,.int .i64 6]:=by unfold resV;rw [hres]
     have hss:Qz s 1=s:=by unfold Qz;rw [hres]
     rw [hv,hss]at HRs;have HV:Hid (GI s r=(s,0,6)):=Aa (by unfold GI;rw [if_neg (by rw [hR];exact fun e=>nomatch e),hres]);clear hv hss hres hR ho1 P0 P1 P2
     go_wp2_with fail
     refine HRs.out.mono ?_;rintro e w2⟨rfl,hs2,hm2⟩;have hnF:¬F b2:=fun hf=>by have:=Ha.out b2 hf;omega
     have P2:=HP2.out.touch hm2.touch hnF;have P2a:BI (w2.alloc (.cells #[.int .i64 0] 3)) b2 34 [.int .i64 0]:=(heap_alloc_old _ _ P2.lt).trans P2;have P3:=P2a.AU 0 (.int .i64 6);have a2:=P2a.cell 0;have g2:=P2a.frozen 0;have c3:=P3.cell 0;have f3:=P3.frozen 0;simp only [Am,Ad]at c3 a2;have hba:Below w2.heap.size w2 (w2.alloc (.cells #[.int .i64 0] 3)):=(Below.refl _ _).alloc (Ae _) _;have hg:=hs2.tabs.lt;have hgw:0<w.heap.size/\1<w.heap.size:=HX.out.tabs.lt;have Ana:Hid (Sys ((w2.alloc (.cells #[.int .i64 0] 3)).setCell ⟨b2,0,none⟩ (.int .i64 6)) d p L s F):=Aa ((hs2.below hba).ML 0 _ hnF (by omega) (by omega));have Anb:Hid (AB F F w ((w2.alloc (.cells #[.int .i64 0] 3)).setCell ⟨b2,0,none⟩ (.int .i64 6))):=Aa (((AB.of_below (F:=F) HB1.out).trans (hm2.below hba)).set (p:=⟨b2,0,none⟩) (.inr (by show _<=b2;omega)) _);have Anc:=Aa (Ana.out.ML 0 (.int .i64 6) hnF (by omega) (by omega));have Ane:=Aa (Anb.out.set (p:=⟨b2,0,none⟩) (.inr (by show _<=b2;omega)) (.int .i64 6));clear P2 P2a P3 hba hg hgw hs2 hm2 hnF
     go_wp2_with fail
     go_region
     all_goals(go_wp2_with fail)
     all_goals(refine⟨.tuple #[.int .u64 0,.int .i64 6],by simp [results,Tryz.results92,go_sem,c3],by rw [HV.out];rfl,F,?_,Ane.out.below ((Dr.drew _).below _)⟩)
     all_goals(rw [HV.out])
     all_goals(exact EL.below Anc.out ((Dr.drew _).below _))
   | some os=>
     obtain⟨off,s1⟩:=os;have hv:resV s 1= .tuple #[.int .i64 (off:Int),.int .i64 0]:=by unfold resV;rw [hres]
     have hss:Qz s 1=s1:=by unfold Qz;rw [hres]
     rw [hv,hss]at HRs;obtain⟨_,_,ok,Fp⟩:=HX.out.pos;obtain⟨o,ho,hoL⟩:=SQ ok Fp (.inl rfl) hres;have hTk:=HT.out off s1 hres;have HV:Hid (GI s r=((Fh {s1 with ws:=BA s1.ws (off/8) (CJ r)} off).1,AA off,0)):=Aa (by
      unfold GI;rw [if_neg (by rw [HR.out];exact fun e=>nomatch e),hres]
      dsimp only
      rw [if_pos hTk])
     have YI:=Aa hTk;have HO:=Aa ho;have Anf:off+64<=64*L/\L<=1024:=⟨by simp only [AZ]at hoL;omega,HX.out.pos.2.1⟩;clear hv hss hres hR ho1 P0 P1 P2 ok Fp ho hoL hTk HT
     go_wp2_with fail
     refine HRs.out.mono ?_;rintro e w2⟨rfl,hs2,hm2⟩;have hnF:¬F b2:=fun hf=>by have:=Ha.out b2 hf;omega
     have qC:¬F w.heap.size:=fun hf=>by have:=Ha.out _ hf;omega
     have hlt2:=hm2.touch.size;obtain⟨W3,hW3⟩:∃W3,W3=w2.alloc (.cells #[.int .i64 (off:Int)] 3):=⟨_,rfl⟩;obtain⟨b3,hb3⟩:∃b,b=w2.heap.size:=⟨_,rfl⟩;have hba:Below w2.heap.size w2 W3:=by rw [hW3];exact(Below.refl _ _).alloc (Ae _) _
     have P2:=(HP2.out.touch hm2.touch hnF).below hba (HP2.out.touch hm2.touch hnF).lt;have P0:=(uA.out.touch hm2.touch qC).below hba (uA.out.touch hm2.touch qC).lt;have P3:BI W3 b3 3 [.int .i64 (off:Int)]:=by rw [hW3,hb3];exact heap_alloc_new _ _
     have hw3:Ws W3 (some ⟨g1,0,none⟩) 8 (CJ r):=by
      have h1:=(Cj wU.out).2;have h2:∀a,some (⟨g1,0,none⟩:Addr)=some a->¬F a.block:=fun a ha hf=>by
       obtain⟨g',e',hg',_⟩:=JV wU.out (by decide);injection e' with e'
       injection e' with e'
       injection ha with ha
       subst ha;have:=Ha.out _ hf;have:=HB0.out.size;show False;simp only at*;omega
      exact Ws.below (Rd.touch h1 hm2.touch h2) hba
     have hgw:0<w.heap.size/\1<w.heap.size:=HX.out.tabs.lt;have hs3:=hs2.below hba;have Ak0:b2<b3:=by omega
     have HPA:=Aa (fun(W:World)(h:Sys W d p L s1 F)(hw:Ws W (some ⟨g1,0,none⟩) 8 (CJ r))=>XD h o 8 8 (some ⟨g1,0,none⟩) (CJ r) (by have:=HO.out;omega) (by decide) hw);have c0:=P0.cell 0;have c2:=P2.cell 0;have f2:=P2.frozen 0;have c3:=P3.cell 0;simp only [Ad]at c0 c2 c3;rw [hW3]at c0 c2 f2 c3;rw [hb3]at c3;have hs4:=hs3.ML 0 (.int .i64 0) hnF (b:=b2) (by omega) (by omega);have hw4:Ws (W3.setCell ⟨b2,0,none⟩ (.int .i64 0)) (some ⟨g1,0,none⟩) 8 (CJ r):=by
      refine Rd.touch hw3 ((Touch.refl (fun k=>k=b2) W3).setCell (p:=⟨b2,0,none⟩) (.inl rfl) _) (fun a ha e=> ?_);obtain⟨g',e',hg',_⟩:=JV wU.out (by decide);injection e' with e'
      injection e' with e'
      injection ha with ha
      subst ha;simp only at e;omega
     have Py:=HPA.out _ hs4 hw4;have eo:o=off/8:=by have:=HO.out;omega
     rw [show((8*o:Nat):Int)=(off:Int)by have:=HO.out;omega,eo]at Py;have Py:=Aa Py;have P24:=P2.AU 0 (.int .i64 0);have P04:=P0.far (show w.heap.size≠b2 by omega) 0 (.int .i64 0);have P34:=P3.far (show b3≠b2 by omega) 0 (.int .i64 0);simp only [Am]at P24;have hm4:AB F F w (W3.setCell ⟨b2,0,none⟩ (.int .i64 0)):=((AB.of_below (F:=F) HB1.out).trans (hm2.below hba)).set (p:=⟨b2,0,none⟩) (.inr (by show _<=b2;omega)) _;have e3:=P34.cell 0;simp only [Ad]at e3;rw [hW3,hb3]at e3;have Aeq:=P34.lt;have xA:=P24.lt;obtain⟨W4,TB⟩:∃W4,W4=W3.setCell ⟨b2,0,none⟩ (.int .i64 0):=⟨_,rfl⟩;rw [<-TB]at Py P24 P04 P34 hm4 Aeq xA;have HM4:=Aa hm4;have Aho:=Aa P24;have Ahp:=Aa P04;have Ahq:=Aa P34;have mX:=Aa TB;have HW3:=Aa hW3;have HB3:=Aa hb3;have Aer:¬F b3:=fun hf=>by have:=Ha.out _ hf;omega
     clear eo hs4 hw4 P24 P04 P34 hm4 TB hw3 hs3 hs2 hm2 P0 P2 P3 hba HPA hlt2 hW3 hb3
     go_wp2_with fail
     rw [<-HW3.out,<-mX.out,<-HB3.out];refine Py.out.mono ?_;rintro e w5⟨rfl,F5,hs5,Qi⟩;have P2:=Aho.out.touch Qi.touch hnF;have P0:=Ahp.out.touch Qi.touch qC;have P3:=Ahq.out.touch Qi.touch Aer;have h5F:∀b,b<W4.heap.size->¬F b->¬F5 b:=fun b hb hn hf=>(Qi.own b hf).elim hn (fun h=>by omega)
     have hs6:=hs5.ML 0 (.int .i64 0) (b:=b2) (h5F b2 xA hnF) (by omega) (by omega);have ai:=ZL hs6 (off:Int) (by omega);rw [YI.out]at ai;have ai:=Aa ai;have c0:=P0.cell 0;have c2:=P2.cell 0;have f2:=P2.frozen 0;have c3:=P3.cell 0;have P26:=P2.AU 0 (.int .i64 0);have d0:=(P0.far (show w.heap.size≠b2 by omega) 0 (.int .i64 0)).cell 0;have d3:=(P3.far (show b3≠b2 by omega) 0 (.int .i64 0)).cell 0;have d2:=P26.cell 0;simp only [Ad,Am]at c0 c2 c3 d0 d2 d3;have Un:=Aa ((HM4.out.trans Qi).set (p:=⟨b2,0,none⟩) (.inr (by show _<=b2;omega)) (.int .i64 0));clear hs5 hs6;have K6:=ai;have T0:=P0.far (show w.heap.size≠b2 by omega) 0 (.int .i64 0);have T3:=P3.far (show b3≠b2 by omega) 0 (.int .i64 0);have h6F:Hid (∀b,b<W4.heap.size->¬F b->¬F5 b):=Aa h5F;have hn5:=h5F b2 xA hnF;have Ang:=h5F b3 Aeq Aer;have hw5:=Qi.touch.size;have HT2:=Aa P26;have HT3:=Aa T3;clear h5F Qi P0 P2 P3 P26 T0 T3 K6
     go_wp2_with fail
     refine ai.out.mono ?_;rintro e w7⟨rfl,F7,hs7,hm7⟩;have P2:=HT2.out.touch hm7.touch hn5;have P3:=HT3.out.touch hm7.touch Ang;have Ape:b2<(w5.setCell ⟨b2,0,none⟩ (.int .i64 0)).heap.size:=HT2.out.lt;have h7F:¬F7 b2:=fun hf=>(hm7.own b2 hf).elim hn5 (fun h=>by omega)
     have a2:=P2.cell 0;have g2:=P2.frozen 0;have a3:=P3.cell 0;have Q2:=P2.AU 0 (.int .i64 0);have Q3:=P3.far (show b3≠b2 by omega) 0 (.int .i64 0);have q2:=Q2.cell 0;have r2:=Q2.frozen 0;have q3:=Q3.cell 0;have R2:=Q2.AU 0 (.int .i64 0);have z2:=R2.cell 0;simp only [Ad,Am]at a2 a3 q2 q3 z2;have hs8:=(hs7.ML 0 (.int .i64 0) h7F (by omega) (by omega)).ML 0 (.int .i64 0) h7F (by omega) (by omega);have HS8:=Aa hs8;have HM8:=Aa (((Un.out.trans hm7).set (p:=⟨b2,0,none⟩) (.inr (by show _<=b2;omega)) (.int .i64 0)).set (p:=⟨b2,0,none⟩) (.inr (by show _<=b2;omega)) (.int .i64 0));have HZ2:=Aa z2;have hwr:IntKind.u64.wrap (off:Int)=(off:Int):=by rw [IntKind.wrap_u64];omega
     have hof:Hid ((AA off).toNat=off):=Aa (by rw [UInt64.toNat_ofNat'];exact Nat.mod_eq_of_lt (by omega));clear hs7 hm7 P2 P3 Q2 Q3 R2 hs8 c0 c2 f2 c3 d0 d2 d3 ai
     go_wp2_with fail
     refine leaves_cons (f:=138) (args:= #[.pointer (some ⟨b2,0,none⟩),.pointer (some ⟨w.heap.size,0,none⟩),.pointer (some ⟨b3,0,none⟩)]) (by simp) (by simp [go_sem]) ?_;refine(Aep b2 w.heap.size b3 _ .returning ?_).mono ?_
     ·simp [HZ2.out]
     rintro e u' w''⟨rfl,rfl,rfl⟩;refine⟨.tuple #[.int .u64 (off:Int),.int .i64 0],by simp [results,Tryz.results92,go_sem,HZ2.out],?_,F7,?_,HM8.out⟩
     ·rw [HV.out,hof.out]
     ·rw [HV.out];exact HS8.out
end
end Go.Proofs.YtjcppneoncpdbaaGreatDoor
