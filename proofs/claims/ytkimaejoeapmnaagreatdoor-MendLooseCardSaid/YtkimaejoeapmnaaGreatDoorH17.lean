import Derived.Test.YtkimaejoeapmnaaGreatDoorH16
set_option linter.defProp false
set_option maxHeartbeats 32000000
set_option maxRecDepth 100000
open Nat renaming le_refl->Ad
open List renaming getElem?_cons_zero->Am,set_cons_zero->Aj
open Go.Lib renaming hid->Aa
open UInt64 renaming ofNat->Aw
namespace Go.Proofs.YtkimaejoeapmnaaGreatDoor
open Go.RowKit
open Go.Proofs.Tryz
def Akm(b0 b1 b2:Nat)(W:World)(u:FrameMode)(h:W.cell? (Φ b0)=some (.int .i64 0)):
 CallsD prog 172 #[Az b0,Az b1,Az b2] u W λe u' w'=>u'=u/\(e= .returned (.tuple #[])/\w'=W):=by
 go_enter_d func172,ntmps172
 go_wp2;go_end0;exact⟨rfl,rfl⟩
def Ew.NF{m:DY}{w:World}{d p L:Nat}{s:St}{F:Nat->Prop}(h:Ew m w d p L s F){b:Nat}(i:Nat)(v:Value)(hb:¬F b)(g1:b≠0)(g2:b≠1):Ew m (w.setCell (Δ b i) v) d p L s F:=
 h.keep (G:=λk=>k=b) ((Touch.refl (λk=>k=b) w).setCell (p:=Δ b i) (.inl rfl) v) (λ_ hk e=>hb (e▸hk)) (λe=>g1 e.symm) (λe=>g2 e.symm)
def Aal(s:St)(r:Rc)(d p L:Nat)(F:Nat->Prop)(w:World)(e:Ending)(w':World):Prop:=
 e= .returned (.tuple #[.int .u64 ((IZ s r).2.1.toNat:Int),.int .i64 (IZ s r).2.2])/\∃F',Sys w' d p L (IZ s r).1 F'/\AP F F' w w'
section
variable{w w':World}{d p L:Nat}{s:St}{F:Nat->Prop}
def Ag4(h:Sys w d p L s F)(r:Rc)(hr:r.text.size<=4294967296)(hT:∀off s1,CO s 1=some (off,s1)->(Ib {s1 with ws:=BO s1.ws (off/8) (Dj r)} off).2=0):
 Calls prog 141 #[Az d,Az p,rcV r] w (Aal s r d p L F w):=by
 have hmf:∀(fn:Fn)(first cap:Array Value)(w:World),(Instr.makeFunc fn first cap).run prog w= .ok (.func fn first cap) w:=λ_ _ _ _=>rfl
 obtain⟨W0,hW0⟩:∃W0,W0=((w.alloc (.cells #[Az p] 26)).alloc (.cells #[.int .u64 (r.stamp.toNat:Int),.int .u64 (r.next.toNat:Int),.bool r.gone,.string r.text] 109)).alloc (.cells #[.int .i64 0] 31):=⟨_,rfl⟩;have hb0:η w W0:=by
  rw [hW0];exact(((Below.refl _ _).alloc (Ad _) _).alloc Θ _).alloc (by simp;omega) _
 have hs0:W0.heap.size=w.heap.size+3:=by rw [hW0];simp
 have P0:CS W0 w.heap.size 26 [Az p]:=by
  rw [hW0];exact(χ _ _ (by simp;omega)).trans ((χ _ _ Θ).trans (heap_alloc_new _ _))
 have P1:CS W0 (w.heap.size+1) 109 [.int .u64 (r.stamp.toNat:Int),.int .u64 (r.next.toNat:Int),.bool r.gone,.string r.text]:=by
  rw [hW0];have:=heap_alloc_new (w.alloc (.cells #[Az p] 26)) (.cells #[.int .u64 (r.stamp.toNat:Int),.int .u64 (r.next.toNat:Int),.bool r.gone,.string r.text] 109);rw [show(w.alloc (.cells #[Az p] 26)).heap.size=w.heap.size+1 by simp]at this;exact(χ _ _ Θ).trans this
 have P2:CS W0 (w.heap.size+1+1) 31 [.int .i64 0]:=by
  rw [hW0];have:=heap_alloc_new ((w.alloc (.cells #[Az p] 26)).alloc (.cells #[.int .u64 (r.stamp.toNat:Int),.int .u64 (r.next.toNat:Int),.bool r.gone,.string r.text] 109)) (.cells #[.int .i64 0] 31);rw [show((w.alloc (.cells #[Az p] 26)).alloc (.cells #[.int .u64 (r.stamp.toNat:Int),.int .u64 (r.next.toNat:Int),.bool r.gone,.string r.text] 109)).heap.size=w.heap.size+1+1 by simp]at this;exact this
 obtain⟨b1,xX⟩:∃b,b=w.heap.size+1:=⟨_,rfl⟩;obtain⟨b2,xY⟩:∃b,b=w.heap.size+1+1:=⟨_,rfl⟩;rw [<-xY]at P2;rw [<-xX]at P1;have c0:=P0.cell 0;have c2:=P2.cell 0;have f2:=P2.frozen 0;obtain⟨y0,y1,y2,y3,_,_,_,_⟩:=CG P1;simp only [Am]at c0 c2;have HX:=Aa h;have HB0:=Aa hb0;have HN:=Aa (WJ (h.below hb0));have HE:=Aa (WH r W0 hr);have HP0:=Aa P0;have vV:=Aa P1;have HP2:=Aa P2;have HW0:=Aa hW0;have HS0:=Aa hs0;have HD1:=Aa xX;have HD2:=Aa xY;have HT:=Aa hT;have hlts:w.heap.size<b1/\b1<b2/\b2<W0.heap.size:=O
 have MC:=Aa h.lt;unfold rcV at HE⊢;clear h hb0 hs0 P0 P1 P2 hW0 hT
 go_enter_defers func141,ntmps141
 go_wp2_with fail
 rw [<-HW0.out,<-HD2.out,<-HD1.out];refine HN.out.mono ?_;rintro e w1⟨rfl,rfl⟩;clear HN xX xY
 go_wp2_with fail
 refine HE.out.mono ?_;rintro e w1⟨hb1,hp1⟩;have HB1:=Aa (τ HB0.out hb1);have Ava:=Aa hb1;have P0:=HP0.out.ξ hb1;have P1:=vV.out.ξ hb1;have P2:=HP2.out.ξ hb1;replace c0:=P0.cell 0;replace c2:=P2.cell 0;replace f2:=P2.frozen 0;simp only [Am]at c0 c2;have hs1:=hb1.size;clear HE hb1 y0 y1 y2 y3;cases hR:Eb r with
 | false=>
   rw [hR]at hp1;replace hp1:e= .returned (.tuple #[.slice none 0 0,.bool false]):=hp1;subst hp1;have HV:Hid (IZ s r=(s,0,2)):=Aa (by unfold IZ;rw [if_pos hR]);have HB2:=Aa (HB1.out.setCell (p:=Φ b2) (by show _<=b2;omega) (.int .i64 2));have P3:=P2.AZ 0 (.int .i64 2);have c3:=P3.cell 0;simp only [Aj,Am]at c3;clear hR P0 P1 P2 P3
   go_wp2_with fail
   refine⟨.tuple #[.int .u64 0,.int .i64 2],by simp [results,results141,go_sem,c3],?_,F,?_,AP.of_below HB2.out⟩
   ·rw [HV.out];rfl
   ·rw [HV.out];exact HX.out.below HB2.out
 | true=>
   rw [hR,if_pos rfl]at hp1;obtain⟨g1,rfl,ho1⟩:=hp1;have HO1:=Aa ho1;have HRs:=Aa (NC (HX.out.below HB1.out) 1 U U);have HR:=Aa hR;have HP0:=Aa P0;have HP2:=Aa P2;cases hres:CO s 1 with
   | none=>
     have hv:resV s 1= .tuple #[.int .i64 0,.int .i64 6]:=by unfold resV;rw [hres]
     have hss:OV s 1=s:=by unfold OV;rw [hres]
     rw [hv,hss]at HRs;have HV:Hid (IZ s r=(s,0,6)):=Aa (by unfold IZ;rw [if_neg (by rw [hR];exact λe=>nomatch e),hres]);clear hv hss hres hR ho1 P0 P1 P2
     go_wp2_with fail
     refine HRs.out.mono ?_;rintro e w2⟨rfl,hs2,hm2⟩;have hnF:¬F b2:=λhf=>Ω (MC.out b2 hf)
     have P2:=HP2.out.touch hm2.touch hnF;have P2a:CS (w2.alloc (.cells #[.int .i64 0] 3)) b2 31 [.int .i64 0]:=(χ _ _ P2.lt).trans P2;have P3:=P2a.AZ 0 (.int .i64 6);have a2:=P2a.cell 0;have g2:=P2a.frozen 0;have c3:=P3.cell 0;have f3:=P3.frozen 0;simp only [Aj,Am]at c3 a2;have hba:η w2 (w2.alloc (.cells #[.int .i64 0] 3)):=(Below.refl _ _).alloc (Ad _) _;have hg:=hs2.tabs.lt;have hgw:0<w.heap.size/\1<w.heap.size:=HX.out.tabs.lt;have Avb:Hid (Sys ((w2.alloc (.cells #[.int .i64 0] 3)).setCell (Φ b2) (.int .i64 6)) d p L s F):=Aa ((hs2.below hba).NF 0 _ hnF O O);have Avc:Hid (AP F F w ((w2.alloc (.cells #[.int .i64 0] 3)).setCell (Φ b2) (.int .i64 6))):=Aa (((AP.of_below (F:=F) HB1.out).trans (hm2.below hba)).set (p:=Φ b2) (.inr (by show _<=b2;omega)) _);have Avd:=Aa (Avb.out.NF 0 (.int .i64 6) hnF O O);have Ave:=Aa (Avc.out.set (p:=Φ b2) (.inr (by show _<=b2;omega)) (.int .i64 6));clear P2 P2a P3 hba hg hgw hs2 hm2 hnF
     go_wp2_with fail
     go_region
     all_goals(go_wp2_with fail)
     all_goals(refine⟨.tuple #[.int .u64 0,.int .i64 6],by simp [results,results141,go_sem,c3],by rw [HV.out];rfl,F,?_,Ave.out.below ((Dr.drew _).below _)⟩)
     all_goals(rw [HV.out])
     all_goals(exact Ew.below Avd.out ((Dr.drew _).below _))
   | some os=>
     obtain⟨off,s1⟩:=os;have hv:resV s 1= .tuple #[.int .i64 (off:Int),.int .i64 0]:=by unfold resV;rw [hres]
     have hss:OV s 1=s1:=by unfold OV;rw [hres]
     rw [hv,hss]at HRs;obtain⟨_,_,ok,FZ⟩:=HX.out.pos;obtain⟨o,ho,hoL⟩:=U0 ok FZ (.inl rfl) hres;have hTk:=HT.out off s1 hres;have HV:Hid (IZ s r=((Ib {s1 with ws:=BO s1.ws (off/8) (Dj r)} off).1,Aw off,0)):=Aa (by
      unfold IZ;rw [if_neg (by rw [HR.out];exact λe=>nomatch e),hres]
      dsimp only
      rw [if_pos hTk])
     have UN:=Aa hTk;have HO:=Aa ho;have Avf:off+64<=64*L/\L<=1024:=⟨by simp only [Bf]at hoL;omega,HX.out.pos.2.1⟩;clear hv hss hres hR ho1 P0 P1 P2 ok FZ ho hoL hTk HT
     go_wp2_with fail
     refine HRs.out.mono ?_;rintro e w2⟨rfl,hs2,hm2⟩;have hnF:¬F b2:=λhf=>Ω (MC.out b2 hf)
     have xZ:¬F w.heap.size:=λhf=>Ω (MC.out _ hf)
     have hlt2:=hm2.touch.size;obtain⟨W3,hW3⟩:∃W3,W3=w2.alloc (.cells #[.int .i64 (off:Int)] 3):=⟨_,rfl⟩;obtain⟨b3,hb3⟩:∃b,b=w2.heap.size:=⟨_,rfl⟩;have hba:η w2 W3:=by rw [hW3];exact(Below.refl _ _).alloc (Ad _) _
     have P2:=(HP2.out.touch hm2.touch hnF).below hba (HP2.out.touch hm2.touch hnF).lt;have P0:=(HP0.out.touch hm2.touch xZ).below hba (HP0.out.touch hm2.touch xZ).lt;have P3:CS W3 b3 3 [.int .i64 (off:Int)]:=by rw [hW3,hb3];exact heap_alloc_new _ _
     have hw3:Ws W3 (some (Φ g1)) 8 (Dj r):=by
      have h1:=(CP HO1.out).2;have h2:∀a,some ((Φ g1):Addr)=some a->¬F a.block:=λa ha hf=>by
       obtain⟨g',e',hg',_⟩:=KL HO1.out U;injection e' with e'
       injection e' with e'
       injection ha with ha
       subst ha;have:=MC.out _ hf;have:=HB0.out.size;show False;simp only at*;omega
      exact Ws.below (Rd.touch h1 hm2.touch h2) hba
     have hgw:0<w.heap.size/\1<w.heap.size:=HX.out.tabs.lt;have hs3:=hs2.below hba;have Asm:b2<b3:=O
     have HPA:=Aa (λ(W:World)(h:Sys W d p L s1 F)(hw:Ws W (some (Φ g1)) 8 (Dj r))=>wO h o 8 8 (some (Φ g1)) (Dj r) (Ω HO.out) U hw);have c0:=P0.cell 0;have c2:=P2.cell 0;have f2:=P2.frozen 0;have c3:=P3.cell 0;simp only [Am]at c0 c2 c3;rw [hW3]at c0 c2 f2 c3;rw [hb3]at c3;have hs4:=hs3.NF 0 (.int .i64 0) hnF (b:=b2) O O;have hw4:Ws (W3.setCell (Φ b2) (.int .i64 0)) (some (Φ g1)) 8 (Dj r):=by
      refine Rd.touch hw3 ((Touch.refl (λk=>k=b2) W3).setCell (p:=Φ b2) (.inl rfl) _) (λa ha e=> ?_);obtain⟨g',e',hg',_⟩:=KL HO1.out U;injection e' with e'
      injection e' with e'
      injection ha with ha
      subst ha;simp only at e;omega
     have Qi:=HPA.out _ hs4 hw4;have eo:o=off/8:=Ω HO.out
     rw [show((8*o:Nat):Int)=(off:Int)by have:=HO.out;omega,eo]at Qi;have Qi:=Aa Qi;have P24:=P2.AZ 0 (.int .i64 0);have P04:=P0.far (show w.heap.size≠b2 by omega) 0 (.int .i64 0);have P34:=P3.far (show b3≠b2 by omega) 0 (.int .i64 0);simp only [Aj]at P24;have hm4:AP F F w (W3.setCell (Φ b2) (.int .i64 0)):=((AP.of_below (F:=F) HB1.out).trans (hm2.below hba)).set (p:=Φ b2) (.inr (by show _<=b2;omega)) _;have e3:=P34.p1;rw [hW3,hb3]at e3;have Akn:=P34.lt;have Ac2:=P24.lt;obtain⟨W4,VV⟩:∃W4,W4=W3.setCell (Φ b2) (.int .i64 0):=⟨_,rfl⟩;rw [<-VV]at Qi P24 P04 P34 hm4 Akn Ac2;have HM4:=Aa hm4;have An9:=Aa P24;have Aoa:=Aa P04;have Aob:=Aa P34;have YE:=Aa VV;have HW3:=Aa hW3;have HB3:=Aa hb3;have Ako:¬F b3:=λhf=>Ω (MC.out _ hf)
     clear eo hs4 hw4 P24 P04 P34 hm4 VV hw3 hs3 hs2 hm2 P0 P2 P3 hba HPA hlt2 hW3 hb3
     go_wp2_with fail
     rw [<-HW3.out,<-YE.out,<-HB3.out];refine Qi.out.mono ?_;rintro e w5⟨rfl,F5,hs5,Qw⟩;have P2:=An9.out.touch Qw.touch hnF;have P0:=Aoa.out.touch Qw.touch xZ;have P3:=Aob.out.touch Qw.touch Ako;have h5F:∀b,b<W4.heap.size->¬F b->¬F5 b:=λb hb hn hf=>(Qw.own b hf).elim hn (λh=>O)
     have hs6:=hs5.NF 0 (.int .i64 0) (b:=b2) (h5F b2 Ac2 hnF) O O;have gZ:=gp hs6 (off:Int) O;rw [UN.out]at gZ;have gZ:=Aa gZ;have c0:=P0.cell 0;have c2:=P2.cell 0;have f2:=P2.frozen 0;have c3:=P3.cell 0;have P26:=P2.AZ 0 (.int .i64 0);have d0:=(P0.far (show w.heap.size≠b2 by omega) 0 (.int .i64 0)).cell 0;have d3:=(P3.far (show b3≠b2 by omega) 0 (.int .i64 0)).cell 0;have d2:=P26.cell 0;simp only [Am,Aj]at c0 c2 c3 d0 d2 d3;have U2:=Aa ((HM4.out.trans Qw).set (p:=Φ b2) (.inr (by show _<=b2;omega)) (.int .i64 0));clear hs5 hs6;have K6:=gZ;have T0:=P0.far (show w.heap.size≠b2 by omega) 0 (.int .i64 0);have T3:=P3.far (show b3≠b2 by omega) 0 (.int .i64 0);have h6F:Hid (∀b,b<W4.heap.size->¬F b->¬F5 b):=Aa h5F;have hn5:=h5F b2 Ac2 hnF;have Avg:=h5F b3 Akn Ako;have hw5:=Qw.touch.size;have HT2:=Aa P26;have HT3:=Aa T3;clear h5F Qw P0 P2 P3 P26 T0 T3 K6
     go_wp2_with fail
     refine gZ.out.mono ?_;rintro e w7⟨rfl,F7,hs7,yc⟩;have P2:=HT2.out.touch yc.touch hn5;have P3:=HT3.out.touch yc.touch Avg;have Axl:b2<(w5.setCell (Δ b2 0) (.int .i64 0)).heap.size:=HT2.out.lt;have h7F:¬F7 b2:=λhf=>(yc.own b2 hf).elim hn5 (λh=>O)
     have a2:=P2.cell 0;have g2:=P2.frozen 0;have a3:=P3.cell 0;have Q2:=P2.AZ 0 (.int .i64 0);have Q3:=P3.far (show b3≠b2 by omega) 0 (.int .i64 0);have q2:=Q2.cell 0;have r2:=Q2.frozen 0;have q3:=Q3.cell 0;have R2:=Q2.AZ 0 (.int .i64 0);have z2:=R2.cell 0;simp only [Am,Aj]at a2 a3 q2 q3 z2;have hs8:=(hs7.NF 0 (.int .i64 0) h7F O O).NF 0 (.int .i64 0) h7F O O;have HS8:=Aa hs8;have qC:=Aa (((U2.out.trans yc).set (p:=Φ b2) (.inr (by show _<=b2;omega)) (.int .i64 0)).set (p:=Φ b2) (.inr (by show _<=b2;omega)) (.int .i64 0));have HZ2:=Aa z2;have hwr:IntKind.u64.wrap (off:Int)=(off:Int):=by rw [IntKind.wrap_u64];omega
     have hof:Hid ((Aw off).toNat=off):=Aa (by rw [UInt64.toNat_ofNat'];exact Nat.mod_eq_of_lt O);clear hs7 yc P2 P3 Q2 Q3 R2 hs8 c0 c2 f2 c3 d0 d2 d3 gZ
     go_wp2_with fail
     refine leaves_cons (f:=172) (args:= #[Az b2,Az w.heap.size,Az b3]) Θ (by simp [go_sem]) ?_;refine(Akm b2 w.heap.size b3 _ .returning ?_).mono ?_
     ·simp [HZ2.out]
     rintro e u' w''⟨rfl,rfl,rfl⟩;refine⟨.tuple #[.int .u64 (off:Int),.int .i64 0],by simp [results,results141,go_sem,HZ2.out],?_,F7,?_,qC.out⟩
     ·rw [HV.out,hof.out]
     ·rw [HV.out];exact HS8.out
end
