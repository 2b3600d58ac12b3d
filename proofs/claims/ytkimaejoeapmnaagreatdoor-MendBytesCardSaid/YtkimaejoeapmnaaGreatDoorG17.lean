import Derived.Test.YtkimaejoeapmnaaGreatDoorG16
set_option maxHeartbeats 32000000
set_option maxRecDepth 100000
open Nat renaming le_refl->Ad
open List renaming getElem?_cons_zero->Aj,set_cons_zero->Am
open Go.Lib renaming hid->Aa
open UInt64 renaming ofNat->AA
namespace Go.Proofs.YtkimaejoeapmnaaGreatDoor
open Go.RowKit
theorem Ai6(b0 b1 b2:Nat)(W:World)(u:FrameMode)(h:W.cell? ⟨b0,0,none⟩=some (.int .i64 0)):
 CallsD Tryz.prog 172 #[Aw b0,Aw b1,Aw b2] u W fun e u' w'=>u'=u/\(e= .returned (.tuple #[])/\w'=W):=by
 go_enter_d Tryz.func172,Tryz.ntmps172
 go_wp2;go_end0;exact⟨rfl,rfl⟩
theorem Ej.MZ{m:DW}{w:World}{d p L:Nat}{s:St}{F:Nat->Prop}(h:Ej m w d p L s F){b:Nat}(i:Nat)(v:Value)(hb:¬F b)(g1:b≠0)(g2:b≠1):Ej m (w.setCell ⟨b,i,none⟩ v) d p L s F:=
 h.keep (G:=fun k=>k=b) ((Touch.refl (fun k=>k=b) w).setCell (p:=⟨b,i,none⟩) (.inl rfl) v) (fun _ hk e=>hb (e▸hk)) (fun e=>g1 e.symm) (fun e=>g2 e.symm)
def yZ(s:St)(r:Rc)(d p L:Nat)(F:Nat->Prop)(w:World)(e:Ending)(w':World):Prop:=
 e= .returned (.tuple #[.int .u64 ((IQ s r).2.1.toNat:Int),.int .i64 (IQ s r).2.2])/\∃F',Sys w' d p L (IQ s r).1 F'/\AO F F' w w'
section
variable{w w':World}{d p L:Nat}{s:St}{F:Nat->Prop}
theorem Afs(h:Sys w d p L s F)(r:Rc)(hr:r.text.size<=4294967296)(hT:∀off s1,CQ s 1=some (off,s1)->(IP {s1 with ws:=BQ s1.ws (off/8) (Dk r)} off).2=0):
 Calls Tryz.prog 141 #[Aw d,Aw p,yP r] w (yZ s r d p L F w):=by
 have hmf:∀(fn:Fn)(first cap:Array Value)(w:World),(Instr.makeFunc fn first cap).run Tryz.prog w= .ok (.func fn first cap) w:=fun _ _ _ _=>rfl
 obtain⟨W0,hW0⟩:∃W0,W0=((w.alloc (.cells #[Aw p] 26)).alloc (.cells #[.int .u64 (r.stamp.toNat:Int),.int .u64 (r.next.toNat:Int),.bool r.gone,.string r.text] 109)).alloc (.cells #[.int .i64 0] 31):=⟨_,rfl⟩;have hb0:Below w.heap.size w W0:=by
  rw [hW0];exact(((Below.refl _ _).alloc (Ad _) _).alloc (by simp) _).alloc (by simp;omega) _
 have hs0:W0.heap.size=w.heap.size+3:=by rw [hW0];simp
 have P0:CG W0 w.heap.size 26 [Aw p]:=by
  rw [hW0];exact(heap_alloc_old _ _ (by simp;omega)).trans ((heap_alloc_old _ _ (by simp)).trans (heap_alloc_new _ _))
 have P1:CG W0 (w.heap.size+1) 109 [.int .u64 (r.stamp.toNat:Int),.int .u64 (r.next.toNat:Int),.bool r.gone,.string r.text]:=by
  rw [hW0];have:=heap_alloc_new (w.alloc (.cells #[Aw p] 26)) (.cells #[.int .u64 (r.stamp.toNat:Int),.int .u64 (r.next.toNat:Int),.bool r.gone,.string r.text] 109);rw [show(w.alloc (.cells #[Aw p] 26)).heap.size=w.heap.size+1 by simp]at this;exact(heap_alloc_old _ _ (by simp)).trans this
 have P2:CG W0 (w.heap.size+1+1) 31 [.int .i64 0]:=by
  rw [hW0];have:=heap_alloc_new ((w.alloc (.cells #[Aw p] 26)).alloc (.cells #[.int .u64 (r.stamp.toNat:Int),.int .u64 (r.next.toNat:Int),.bool r.gone,.string r.text] 109)) (.cells #[.int .i64 0] 31);rw [show((w.alloc (.cells #[Aw p] 26)).alloc (.cells #[.int .u64 (r.stamp.toNat:Int),.int .u64 (r.next.toNat:Int),.bool r.gone,.string r.text] 109)).heap.size=w.heap.size+1+1 by simp]at this;exact this
 obtain⟨b1,wu⟩:∃b,b=w.heap.size+1:=⟨_,rfl⟩;obtain⟨b2,wz⟩:∃b,b=w.heap.size+1+1:=⟨_,rfl⟩;rw [<-wz]at P2;rw [<-wu]at P1;have c0:=P0.cell 0;have c2:=P2.cell 0;have f2:=P2.frozen 0;obtain⟨y0,y1,y2,y3,_,_,_,_⟩:=C9 P1;simp only [Aj]at c0 c2;have HX:=Aa h;have HB0:=Aa hb0;have HN:=Aa (VL (h.below hb0));have HE:=Aa (VJ r W0 hr);have zf:=Aa P0;have uj:=Aa P1;have HP2:=Aa P2;have HW0:=Aa hW0;have HS0:=Aa hs0;have HD1:=Aa wu;have HD2:=Aa wz;have HT:=Aa hT;have hlts:w.heap.size<b1/\b1<b2/\b2<W0.heap.size:=by omega
 have LG:=Aa h.lt;unfold yP at HE⊢;clear h hb0 hs0 P0 P1 P2 hW0 hT
 go_enter_defers Tryz.func141,Tryz.ntmps141
 go_wp2_with fail
 rw [<-HW0.out,<-HD2.out,<-HD1.out];refine HN.out.mono ?_;rintro e w1⟨rfl,rfl⟩;clear HN wu wz
 go_wp2_with fail
 refine HE.out.mono ?_;rintro e w1⟨hb1,hp1⟩;have HB1:=Aa (HB0.out.trans (hb1.mono HB0.out.size));have Atx:=Aa hb1;have P0:=zf.out.below hb1 zf.out.lt;have P1:=uj.out.below hb1 uj.out.lt;have P2:=HP2.out.below hb1 HP2.out.lt;replace c0:=P0.cell 0;replace c2:=P2.cell 0;replace f2:=P2.frozen 0;simp only [Aj]at c0 c2;have hs1:=hb1.size;clear HE hb1 y0 y1 y2 y3;cases hR:Eg r with
 | false=>
   rw [hR]at hp1;replace hp1:e= .returned (.tuple #[.slice none 0 0,.bool false]):=hp1;subst hp1;have HV:Hid (IQ s r=(s,0,2)):=Aa (by unfold IQ;rw [if_pos hR]);have HB2:=Aa (HB1.out.setCell (p:=⟨b2,0,none⟩) (by show _<=b2;omega) (.int .i64 2));have P3:=P2.AZ 0 (.int .i64 2);have c3:=P3.cell 0;simp only [Am,Aj]at c3;clear hR P0 P1 P2 P3
   go_wp2_with fail
   refine⟨.tuple #[.int .u64 0,.int .i64 2],by simp [results,Tryz.results141,go_sem,c3],?_,F,?_,AO.of_below HB2.out⟩
   ·rw [HV.out];rfl
   ·rw [HV.out];exact HX.out.below HB2.out
 | true=>
   rw [hR,if_pos rfl]at hp1;obtain⟨g1,rfl,ho1⟩:=hp1;have HO1:=Aa ho1;have HRs:=Aa (MW (HX.out.below HB1.out) 1 (by decide) (by decide));have HR:=Aa hR;have zf:=Aa P0;have HP2:=Aa P2;cases hres:CQ s 1 with
   | none=>
     have hv:resV s 1= .tuple #[.int .i64 0,.int .i64 6]:=by unfold resV;rw [hres]
     have hss:O5 s 1=s:=by unfold O5;rw [hres]
     rw [hv,hss]at HRs;have HV:Hid (IQ s r=(s,0,6)):=Aa (by unfold IQ;rw [if_neg (by rw [hR];exact fun e=>nomatch e),hres]);clear hv hss hres hR ho1 P0 P1 P2
     go_wp2_with fail
     refine HRs.out.mono ?_;rintro e w2⟨rfl,hs2,hm2⟩;have hnF:¬F b2:=fun hf=>by have:=LG.out b2 hf;omega
     have P2:=HP2.out.touch hm2.touch hnF;have P2a:CG (w2.alloc (.cells #[.int .i64 0] 3)) b2 31 [.int .i64 0]:=(heap_alloc_old _ _ P2.lt).trans P2;have P3:=P2a.AZ 0 (.int .i64 6);have a2:=P2a.cell 0;have g2:=P2a.frozen 0;have c3:=P3.cell 0;have f3:=P3.frozen 0;simp only [Am,Aj]at c3 a2;have hba:Below w2.heap.size w2 (w2.alloc (.cells #[.int .i64 0] 3)):=(Below.refl _ _).alloc (Ad _) _;have hg:=hs2.tabs.lt;have hgw:0<w.heap.size/\1<w.heap.size:=HX.out.tabs.lt;have Aty:Hid (Sys ((w2.alloc (.cells #[.int .i64 0] 3)).setCell ⟨b2,0,none⟩ (.int .i64 6)) d p L s F):=Aa ((hs2.below hba).MZ 0 _ hnF (by omega) (by omega));have Atz:Hid (AO F F w ((w2.alloc (.cells #[.int .i64 0] 3)).setCell ⟨b2,0,none⟩ (.int .i64 6))):=Aa (((AO.of_below (F:=F) HB1.out).trans (hm2.below hba)).set (p:=⟨b2,0,none⟩) (.inr (by show _<=b2;omega)) _);have At1:=Aa (Aty.out.MZ 0 (.int .i64 6) hnF (by omega) (by omega));have At3:=Aa (Atz.out.set (p:=⟨b2,0,none⟩) (.inr (by show _<=b2;omega)) (.int .i64 6));clear P2 P2a P3 hba hg hgw hs2 hm2 hnF
     go_wp2_with fail
     go_region
     all_goals(go_wp2_with fail)
     all_goals(refine⟨.tuple #[.int .u64 0,.int .i64 6],by simp [results,Tryz.results141,go_sem,c3],by rw [HV.out];rfl,F,?_,At3.out.below ((Dr.drew _).below _)⟩)
     all_goals(rw [HV.out])
     all_goals(exact Ej.below At1.out ((Dr.drew _).below _))
   | some os=>
     obtain⟨off,s1⟩:=os;have hv:resV s 1= .tuple #[.int .i64 (off:Int),.int .i64 0]:=by unfold resV;rw [hres]
     have hss:O5 s 1=s1:=by unfold O5;rw [hres]
     rw [hv,hss]at HRs;obtain⟨_,_,ok,FT⟩:=HX.out.pos;obtain⟨o,ho,hoL⟩:=TW ok FT (.inl rfl) hres;have hTk:=HT.out off s1 hres;have HV:Hid (IQ s r=((IP {s1 with ws:=BQ s1.ws (off/8) (Dk r)} off).1,AA off,0)):=Aa (by
      unfold IQ;rw [if_neg (by rw [HR.out];exact fun e=>nomatch e),hres]
      dsimp only
      rw [if_pos hTk])
     have Vr:=Aa hTk;have HO:=Aa ho;have At4:off+64<=64*L/\L<=1024:=⟨by simp only [Be]at hoL;omega,HX.out.pos.2.1⟩;clear hv hss hres hR ho1 P0 P1 P2 ok FT ho hoL hTk HT
     go_wp2_with fail
     refine HRs.out.mono ?_;rintro e w2⟨rfl,hs2,hm2⟩;have hnF:¬F b2:=fun hf=>by have:=LG.out b2 hf;omega
     have wB:¬F w.heap.size:=fun hf=>by have:=LG.out _ hf;omega
     have hlt2:=hm2.touch.size;obtain⟨W3,hW3⟩:∃W3,W3=w2.alloc (.cells #[.int .i64 (off:Int)] 3):=⟨_,rfl⟩;obtain⟨b3,hb3⟩:∃b,b=w2.heap.size:=⟨_,rfl⟩;have hba:Below w2.heap.size w2 W3:=by rw [hW3];exact(Below.refl _ _).alloc (Ad _) _
     have P2:=(HP2.out.touch hm2.touch hnF).below hba (HP2.out.touch hm2.touch hnF).lt;have P0:=(zf.out.touch hm2.touch wB).below hba (zf.out.touch hm2.touch wB).lt;have P3:CG W3 b3 3 [.int .i64 (off:Int)]:=by rw [hW3,hb3];exact heap_alloc_new _ _
     have hw3:Ws W3 (some ⟨g1,0,none⟩) 8 (Dk r):=by
      have h1:=(CB HO1.out).2;have h2:∀a,some (⟨g1,0,none⟩:Addr)=some a->¬F a.block:=fun a ha hf=>by
       obtain⟨g',e',hg',_⟩:=Kr HO1.out (by decide);injection e' with e'
       injection e' with e'
       injection ha with ha
       subst ha;have:=LG.out _ hf;have:=HB0.out.size;show False;simp only at*;omega
      exact Ws.below (Rd.touch h1 hm2.touch h2) hba
     have hgw:0<w.heap.size/\1<w.heap.size:=HX.out.tabs.lt;have hs3:=hs2.below hba;have Aqy:b2<b3:=by omega
     have HPA:=Aa (fun(W:World)(h:Sys W d p L s1 F)(hw:Ws W (some ⟨g1,0,none⟩) 8 (Dk r))=>uN h o 8 8 (some ⟨g1,0,none⟩) (Dk r) (by have:=HO.out;omega) (by decide) hw);have c0:=P0.cell 0;have c2:=P2.cell 0;have f2:=P2.frozen 0;have c3:=P3.cell 0;simp only [Aj]at c0 c2 c3;rw [hW3]at c0 c2 f2 c3;rw [hb3]at c3;have hs4:=hs3.MZ 0 (.int .i64 0) hnF (b:=b2) (by omega) (by omega);have hw4:Ws (W3.setCell ⟨b2,0,none⟩ (.int .i64 0)) (some ⟨g1,0,none⟩) 8 (Dk r):=by
      refine Rd.touch hw3 ((Touch.refl (fun k=>k=b2) W3).setCell (p:=⟨b2,0,none⟩) (.inl rfl) _) (fun a ha e=> ?_);obtain⟨g',e',hg',_⟩:=Kr HO1.out (by decide);injection e' with e'
      injection e' with e'
      injection ha with ha
      subst ha;simp only at e;omega
     have PR:=HPA.out _ hs4 hw4;have eo:o=off/8:=by have:=HO.out;omega
     rw [show((8*o:Nat):Int)=(off:Int)by have:=HO.out;omega,eo]at PR;have PR:=Aa PR;have P24:=P2.AZ 0 (.int .i64 0);have P04:=P0.far (show w.heap.size≠b2 by omega) 0 (.int .i64 0);have P34:=P3.far (show b3≠b2 by omega) 0 (.int .i64 0);simp only [Am]at P24;have hm4:AO F F w (W3.setCell ⟨b2,0,none⟩ (.int .i64 0)):=((AO.of_below (F:=F) HB1.out).trans (hm2.below hba)).set (p:=⟨b2,0,none⟩) (.inr (by show _<=b2;omega)) _;have e3:=P34.p1;rw [hW3,hb3]at e3;have Ai7:=P34.lt;have Abv:=P24.lt;obtain⟨W4,Vs⟩:∃W4,W4=W3.setCell ⟨b2,0,none⟩ (.int .i64 0):=⟨_,rfl⟩;rw [<-Vs]at PR P24 P04 P34 hm4 Ai7 Abv;have HM4:=Aa hm4;have Amn:=Aa P24;have Amo:=Aa P04;have Amq:=Aa P34;have aA:=Aa Vs;have HW3:=Aa hW3;have HB3:=Aa hb3;have Ai8:¬F b3:=fun hf=>by have:=LG.out _ hf;omega
     clear eo hs4 hw4 P24 P04 P34 hm4 Vs hw3 hs3 hs2 hm2 P0 P2 P3 hba HPA hlt2 hW3 hb3
     go_wp2_with fail
     rw [<-HW3.out,<-aA.out,<-HB3.out];refine PR.out.mono ?_;rintro e w5⟨rfl,F5,hs5,QH⟩;have P2:=Amn.out.touch QH.touch hnF;have P0:=Amo.out.touch QH.touch wB;have P3:=Amq.out.touch QH.touch Ai8;have h5F:∀b,b<W4.heap.size->¬F b->¬F5 b:=fun b hb hn hf=>(QH.own b hf).elim hn (fun h=>by omega)
     have hs6:=hs5.MZ 0 (.int .i64 0) (b:=b2) (h5F b2 Abv hnF) (by omega) (by omega);have dX:=dI hs6 (off:Int) (by omega);rw [Vr.out]at dX;have dX:=Aa dX;have c0:=P0.cell 0;have c2:=P2.cell 0;have f2:=P2.frozen 0;have c3:=P3.cell 0;have P26:=P2.AZ 0 (.int .i64 0);have d0:=(P0.far (show w.heap.size≠b2 by omega) 0 (.int .i64 0)).cell 0;have d3:=(P3.far (show b3≠b2 by omega) 0 (.int .i64 0)).cell 0;have d2:=P26.cell 0;simp only [Aj,Am]at c0 c2 c3 d0 d2 d3;have TY:=Aa ((HM4.out.trans QH).set (p:=⟨b2,0,none⟩) (.inr (by show _<=b2;omega)) (.int .i64 0));clear hs5 hs6;have K6:=dX;have T0:=P0.far (show w.heap.size≠b2 by omega) 0 (.int .i64 0);have T3:=P3.far (show b3≠b2 by omega) 0 (.int .i64 0);have h6F:Hid (∀b,b<W4.heap.size->¬F b->¬F5 b):=Aa h5F;have hn5:=h5F b2 Abv hnF;have At5:=h5F b3 Ai7 Ai8;have hw5:=QH.touch.size;have HT2:=Aa P26;have HT3:=Aa T3;clear h5F QH P0 P2 P3 P26 T0 T3 K6
     go_wp2_with fail
     refine dX.out.mono ?_;rintro e w7⟨rfl,F7,hs7,wC⟩;have P2:=HT2.out.touch wC.touch hn5;have P3:=HT3.out.touch wC.touch At5;have Awf:b2<(w5.setCell ⟨b2,0,none⟩ (.int .i64 0)).heap.size:=HT2.out.lt;have h7F:¬F7 b2:=fun hf=>(wC.own b2 hf).elim hn5 (fun h=>by omega)
     have a2:=P2.cell 0;have g2:=P2.frozen 0;have a3:=P3.cell 0;have Q2:=P2.AZ 0 (.int .i64 0);have Q3:=P3.far (show b3≠b2 by omega) 0 (.int .i64 0);have q2:=Q2.cell 0;have r2:=Q2.frozen 0;have q3:=Q3.cell 0;have R2:=Q2.AZ 0 (.int .i64 0);have z2:=R2.cell 0;simp only [Aj,Am]at a2 a3 q2 q3 z2;have hs8:=(hs7.MZ 0 (.int .i64 0) h7F (by omega) (by omega)).MZ 0 (.int .i64 0) h7F (by omega) (by omega);have HS8:=Aa hs8;have oq:=Aa (((TY.out.trans wC).set (p:=⟨b2,0,none⟩) (.inr (by show _<=b2;omega)) (.int .i64 0)).set (p:=⟨b2,0,none⟩) (.inr (by show _<=b2;omega)) (.int .i64 0));have HZ2:=Aa z2;have hwr:IntKind.u64.wrap (off:Int)=(off:Int):=by rw [IntKind.wrap_u64];omega
     have hof:Hid ((AA off).toNat=off):=Aa (by rw [UInt64.toNat_ofNat'];exact Nat.mod_eq_of_lt (by omega));clear hs7 wC P2 P3 Q2 Q3 R2 hs8 c0 c2 f2 c3 d0 d2 d3 dX
     go_wp2_with fail
     refine leaves_cons (f:=172) (args:= #[Aw b2,Aw w.heap.size,Aw b3]) (by simp) (by simp [go_sem]) ?_;refine(Ai6 b2 w.heap.size b3 _ .returning ?_).mono ?_
     ·simp [HZ2.out]
     rintro e u' w''⟨rfl,rfl,rfl⟩;refine⟨.tuple #[.int .u64 (off:Int),.int .i64 0],by simp [results,Tryz.results141,go_sem,HZ2.out],?_,F7,?_,oq.out⟩
     ·rw [HV.out,hof.out]
     ·rw [HV.out];exact HS8.out
end
