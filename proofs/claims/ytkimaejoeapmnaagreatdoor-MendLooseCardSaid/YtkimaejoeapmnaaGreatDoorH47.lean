import Derived.Test.YtkimaejoeapmnaaGreatDoorH43
import Derived.Test.YtkimaejoeapmnaaGreatDoorH44
set_option linter.defProp false
set_option maxHeartbeats 32000000
set_option maxRecDepth 100000
open Nat renaming le_refl->Ad
open Go.Lib renaming hid->Aa
namespace Go.Proofs.YtkimaejoeapmnaaGreatDoor
open Go.RowKit
open Go.Proofs.Tryz
section
variable{w w':World}{x d p L:Nat}{s:St}{F:Nat->Prop}
def eF{lf:Int}(h:Jd (.up (MU lf)) w x d p L s F)(hlf:0<lf/\lf<=9){jb:Nat}{stamp:UInt64}{vs vd:Value}{en:Int}(hj:Nl w jb x d p stamp vs vd false en F)(y:Wr)(hk:y.key.size<=16)(ht:y.text.size<=40){v:UInt64}
 (hg:Gy s y.key.data.toList=(v,0))(hv0:v.toNat≠0)(_:y.gone=false)(hR:Eb ⟨stamp,v,y.gone,y.text⟩=true){off:Nat}{s1:St}(hres:CO s 1=some (off,s1))(hT:(Ib {s1 with ws:=BO s1.ws (off/8) (Dj ⟨stamp,v,y.gone,y.text⟩)} off).2=0):
 Calls prog 93 #[Az jb,U1 y] w λe w'=>e= .returned (.tuple #[.agg #[.int .u64 0,.int .u64 0],.int .i64 12])/\
  ∃F',Jd (.down (Half s1.ws (BO s1.ws (off/8) (Dj ⟨stamp,v,y.gone,y.text⟩)))) w' x d p L (Aek {s1 with ws:=BO s1.ws (off/8) (Dj ⟨stamp,v,y.gone,y.text⟩)} off) F'/\Nl w' jb x d p stamp vs vd false en F'/\AP F F' w w':=by
 exact(iC (m2:= .up M0) (m3:= .up M0) h hj y hk hg hv0 (er:=12) (Nu:=0) (s2:=s) (s3:=s) (pl:=0) (λW' k=>WU (h.below k) y.key O)
  (λW' k=>tV (h.below k).sys hlf ⟨stamp,v,y.gone,y.text⟩ (by show y.text.size<=_;omega) hR hres hT) (λh0=>absurd h0 U) (λh0=>absurd h0 U)).mono λe w' hh=>hh
end
section
variable{w:World}{x d p:Nat}{F:Nat->Prop}
def Aeu(h:Ix w x d p 100 (st0 FV) F){v:Value}{G:Nat->Prop}(hset:I4 w G v [Xl]):
 Calls prog 15 #[wV d p x,v] w λe w'=>e= .returned (.int .i64 0)/\∃F',Ix w' x d p 100 Gu F'/\AP F F' w w':=by
 have h80:(st0 FV).ws 8=0:=Iz FV 8 U;have e1:(st0 FV).ws 8+1=1:=by rw [h80];rfl
 refine(lW h hset (by decide+kernel) (List.pairwise_singleton _ _) U (by rw [h80];decide)
  (λjb vs k wr=>∃w1,w.heap.size<=jb/\η w w1/\((k=0/\wr=w1/\Adb w1 w.heap.size jb x d p 100 (st0 FV) 1 vs [Xl] [] false 0 F (.slice none 0 0))\/
   (k=1/\∃F' v',Adb wr w.heap.size jb x d p 100 (TI FV Kr JJ) 1 vs [Xl] [(0,OD FV JJ)] false 0 F' v'/\AP (JG F jb (.slice none 0 0)) (JG F' jb v') w1 wr)))
  (λc w'=>c=0/\∃F',Ix w' x d p 100 Gu F'/\AP F F' w w') (λjb vs w1 h1 h2 h3=> ?_) (λjb vs k wr hk hJ=> ?_)).mono ?_
 ·rw [e1]at h3;exact⟨w1,h1,h2,.inl ⟨rfl,rfl,h3⟩⟩
 ·obtain⟨w1,h1,h2,⟨rfl,rfl,hC⟩| ⟨rfl,F',v',hC,hM⟩⟩:=hJ
  ·refine(qV hC U U (pv:=0) (pl:=OD FV JJ) (s2:=TI FV Kr JJ) (λW' k=>(Ahc (hC.ix.below k) ⟨hC.box.ξ k,hC.fj⟩ Xl U U (Aaj FV Kr U) rfl (Ag2 sD) (one_add sD) (Aai sD)).mono (λe w'' hh=>⟨hh.1,hh.2⟩))).mono ?_;rintro e w6⟨rfl,F6,v6,lh,nJ⟩;exact .inl ⟨rfl,by decide,wr,h1,h2,.inr ⟨rfl,F6,v6,lh,nJ⟩⟩
  ·refine(aQ hC rfl).mono ?_;rintro e w9⟨rfl,F9,hx9,_,hM9⟩;exact .inr ⟨0,rfl,rfl,F9,hx9,TB h2 h1 (hM.trans hM9)⟩
 ·rintro e w'⟨c,rfl,rfl,hc⟩;exact⟨rfl,hc⟩
def Aev(h:Jd (.up (MU 8)) w x d p 100 Gu F){v:Value}{G:Nat->Prop}(hset:I4 w G v [Alb,Aow]){off:Nat}{s1:St}(hr1:CO Gu 1=some (off,s1))(hr2:(Ib {s1 with ws:=BO s1.ws (off/8) (Dj bC)} off).2=0):
 Calls prog 15 #[wV d p x,v] w λe w'=>e= .returned (.int .i64 12)/\∃s' F',Jd (.down (Half s1.ws (BO s1.ws (off/8) (Dj bC)))) w' x d p 100 s' F'/\AP F F' w w':=by
 have h81:Gu.ws 8=1:=by show FN (TI FV Kr JJ).ws 8 1 8=1;unfold FN;rw [if_pos rfl]
 have e1:Gu.ws 8+1=2:=by rw [h81];rfl
 refine(lW (md:=MU 8) h hset (by decide+kernel) (by unfold af;decide+kernel) U (by rw [h81];decide)
  (λjb vs k wr=>∃w1,w.heap.size<=jb/\η w w1/\k=0/\wr=w1/\Fz (.up (MU 8)) w1 w.heap.size jb x d p 100 Gu 2 vs [Alb,Aow] [] false 0 F (.slice none 0 0))
  (λc w'=>c=12/\∃s' F',Jd (.down (Half s1.ws (BO s1.ws (off/8) (Dj bC)))) w' x d p 100 s' F'/\AP F F' w w') (λjb vs w1 h1 h2 h3=> ?_) (λjb vs k wr hk hJ=> ?_)).mono ?_
 ·rw [e1]at h3;exact⟨w1,h1,h2,rfl,rfl,h3⟩
 ·obtain⟨w1,h1,h2,rfl,rfl,hC⟩:=hJ;refine(sK (m1:= .down (Half s1.ws (BO s1.ws (off/8) (Dj bC)))) (er:=12) U hC (Nat.zero_le _) U U (by decide+kernel) (s2:=Aek {s1 with ws:=BO s1.ws (off/8) (Dj bC)} off)
   (λW' k=>(eF (hC.ix.below k) U ⟨hC.box.ξ k,hC.fj⟩ Alb U U Ate Aoy rfl Alc hr1 hr2).mono (λe w'' hh=>⟨hh.1,hh.2⟩)) (.inl rfl) (λk hk=>absurd hk (Nat.not_lt_zero _))).mono ?_
  rintro e w6⟨rfl,F6,lh,nJ⟩;exact .inr ⟨12,rfl,rfl,_,F6,lh.ix,TB h2 h1 nJ⟩
 ·rintro e w'⟨c,rfl,rfl,hc⟩;exact⟨rfl,hc⟩
end
def Alz{ws:Nat->UInt64}{o:Nat}(h8:ws 8=1):∀k,∀y∈IY (λ_=>[]) (Dn Kr.data.toList) ⟨o,⟨1,0,false,JJ⟩⟩ k,y.rc.stamp.toNat<=((Ih Gu ws).ws 8).toNat:=by
 intro k y hy;rw [show(Ih Gu ws).ws 8=1 from h8];unfold IY at hy;split at hy
 ·rw [List.mem_singleton]at hy;subst hy;exact Ad 1
 ·cases hy
def Abf(hO:Abb){w:World}(hT:Tabs w):Calls prog 6 #[] w λe w'=>e= .returned (.bool true)/\η w w':=by
 have HBg:=Aa6 (L:=100) U U YO hT;rw [show((100:Nat):Int)=100 from rfl]at HBg;have HBg:=Aa HBg;have kX:=Aa hT.lt;obtain⟨off,s1,hr1,hr2,Aif⟩:=Ald;have HR1:=Aa (And.intro hr1 hr2);have HFd:=Aa Aif;clear hT hr1 hr2 Aif;go_enter func6,ntmps6
 go_wp2_with fail
 refine HBg.out.mono ?_;rintro e w1⟨d,p,x,F,rfl,hx,hb1,hF,hxw⟩;unfold wV;obtain⟨W2,hW2,hb2,B2⟩:=EZ w1 49 [Az d,Az p,Az x];obtain⟨W3,hW3,hb3,S3⟩:=EZ W2 74 [.string Kr,.string JJ,.bool false];have hset:I4 W3 (λ_=>False) (.slice (some (Φ W2.heap.size)) 1 1) [Xl]:=⟨some (Φ W2.heap.size),1,rfl,Ad _,CS.rd S3,λ_ _ _ h=>h⟩;have Q8:η w1 W3:=τ hb2 hb3;have hx3:=hx.below Q8;have hsz2:W2.heap.size=w1.heap.size+1:=by rw [hW2];simp
 have hFl:∀b,F b->b<w1.heap.size:=hx.sys.lt;have htl:=hx.sys.tabs.lt;have hxl:=hx.box.lt;rw [hsz2]at hset;have HCa:=Aeu hx3 hset;unfold wV at HCa;have HCa:=Aa HCa;have HB3:=Aa (τ hb1 Q8);have kC:=Aa (B2.ξ hb3);have HW2:=Aa hW2;have HW3:=Aa hW3;have HF:Hid (∀b,F b->w.heap.size<=b/\b<w1.heap.size):=Aa (λb h=>⟨hF b h,hFl b h⟩);obtain⟨y0,y1,y2⟩:=B2.p3;rw [hW2]at y0 y1 y2;have Axy:=hb1.size;clear HBg hx hb1 hF hW2 hW3 hb2 hb3 B2 S3 hset Q8 hx3 hFl
 go_wp2_with fail
 rw [<-HW2.out];rw [show W2.alloc (.cells #[.string {data:= #[97]},.string {data:= #[120]},.bool false] 74)=W3 from HW3.out.symm];refine HCa.out.mono ?_;rintro e w4⟨rfl,F4,hx4,hM4⟩;have Axz:=kC.out.lt;have HB4:=Aa (HB3.out.trans (hM4.touch.below HB3.out.size (λb h=>(HF.out b h).1)));have ZN:=Aa (kC.out.touch hM4.touch (λh=>Ω ((HF.out _ h).2)));have HF4:Hid (∀b,F4 b->w.heap.size<=b/\b≠w1.heap.size):=Aa (λb h=>(hM4.own b h).elim (λh=>Ω (HF.out b h)) (λh2=>Ω HB3.out.size));have MX:=Aa (Aie hx4.sys 8 U);have HX4:=Aa hx4;clear y0 y1 y2;obtain⟨y0,y1,y2⟩:=ZN.out.p3;clear HCa hx4 hM4
 go_wp2_with fail
 refine MX.out.mono ?_;rintro e w5⟨⟨v5,rfl⟩,m5,F5,hs5,Ot,Qw⟩;obtain rfl:m5= .up (MU 8):=Qw.elim (λh=>h.2) (λh=>absurd h.1 U);have hx5:Jd (.up (MU 8)) w5 x d p 100 Gu F5:=⟨hs5,HX4.out.box.touch Ot.touch HX4.out.out,λh=>(Ot.own x h).elim HX4.out.out (λh2=>Ω HX4.out.box.lt)⟩;have Jz:=Aa (HB4.out.trans (Ot.touch.below HB4.out.size (λb h=>(HF4.out b h).1)));have Apt:=Aa (ZN.out.touch Ot.touch (λh=>(HF4.out _ h).2 rfl));have HF5:Hid (∀b,F5 b->w.heap.size<=b/\b≠w1.heap.size):=Aa (λb h=>(Ot.own b h).elim (HF4.out b) (λh2=>Ψ ZN.out.lt HB4.out.size));obtain⟨W6,QY,hb6,S6⟩:=EZ w5 74 [.string Kr,.string Aov,.bool false,.string Ata,.string Atb,.bool false];have hset:I4 W6 (λ_=>False) (.slice (some (Φ w5.heap.size)) 2 2) [Alb,Aow]:=⟨some (Φ w5.heap.size),2,rfl,Ad _,CS.rd S6,λ_ _ _ h=>h⟩;have HCb:=Aev (hx5.below hb6) hset HR1.out.1 HR1.out.2;unfold wV at HCb;have HCb:=Aa HCb;have Me:=Aa (τ Jz.out hb6);have At4:=Aa (Apt.out.ξ hb6);have HW6:=Aa QY;clear y0 y1 y2;obtain⟨y0,y1,y2⟩:=Apt.out.p3;clear MX HX4 hs5 Ot Qw hx5 QY hb6 S6 hset
 go_wp2_with fail
 rw [show w5.alloc (.cells #[.string {data:= #[97]},.string {data:= #[121]},.bool false,.string {data:= #[98]},.string {data:= #[122]},.bool false] 74)=W6 from HW6.out.symm];refine HCb.out.mono ?_;rintro e w7⟨rfl,s7,F7,hx7,hM7⟩;have dK:=Aa (Me.out.trans (hM7.touch.below Me.out.size (λb h=>(HF5.out b h).1)));have Apu:=Aa (At4.out.touch hM7.touch (λh=>(HF5.out _ h).2 rfl));have HF7:Hid (∀b,F7 b->w.heap.size<=b/\b≠w1.heap.size):=Aa (λb h=>(hM7.own b h).elim (HF5.out b) (λh2=>Ψ At4.out.lt Me.out.size));have HX7:=Aa hx7;clear y0 y1 y2;obtain⟨y0,y1,y2⟩:=Apu.out.p3;clear HCb hx7 hM7
 go_wp2_with fail
 obtain⟨W8,hW8,hb8,S8⟩:=EZ w7 5 [.int .u8 9,.int .u8 9,.int .u8 9];have hBs:Bs W8 (some (Φ w7.heap.size)) 3 [9,9,9]:=CS.rd S8;have At5:∀b,F7 b->b<w7.heap.size:=HX7.out.sys.lt;have HCr:=Aa (zh (.inr ⟨_,rfl⟩) (HX7.out.sys.below hb8) (some (Φ w7.heap.size)) 3 3 [9,9,9] U ⟨Ad _,hBs,λa ea h=>by
  injection ea with ea
  subst ea;exact absurd (At5 _ h) (Nat.lt_irrefl _)⟩)
 have cO:=Aa (τ dK.out hb8);have Awq:=Aa (Apu.out.ξ hb8);have HW8:=Aa hW8;clear hW8 hb8 S8 hBs At5;rw [show w7.alloc (.cells #[.int .u8 9,.int .u8 9,.int .u8 9] 5)=W8 from HW8.out.symm];refine HCr.out.mono ?_;rintro e w9⟨⟨v9,rfl⟩,ws,own,hmay,Yx,hown,ht9,At6,g1,g2⟩;have hmay:Half s1.ws (BO s1.ws (off/8) (Dj bC)) ws:=hmay;obtain⟨h8,hws,⟨o,hso⟩,hrt,hst⟩:=HFd.out ws hmay;have xB:=Aa (cO.out.trans (ht9.below cO.out.size (λb h=>(HF7.out b h).1)));have At7:=Aa (Awq.out.touch ht9 (λh=>(HF7.out _ h).2 rfl));have hsh:(Ih Gu ws).sh=FV:=by rw [hst]
 have hMo:=hO w9 _ _ _ _ (Ih Gu ws) (Ih Gu ws) _ _ U U Yx At6 g1 g2 (by rw [hsh];exact YO) (by rw [hsh];exact hws) (Loose.start hso) hso.ix.ok (Alz h8) (by rw [show(Ih Gu ws).ws 8=1 from h8];decide);rw [show(Ih Gu ws).ws 8=1 from h8,show((1:UInt64).toNat:Int)=1 from rfl]at hMo;have HMo:=Aa hMo;have UO:Hid ((DC (Ih Gu ws)).length=2):=Aa Atd;have HF9:Hid (∀b,own b->w.heap.size<=b/\b≠w1.heap.size):=Aa (λb h=>HF7.out b (hown b h));clear y0 y1 y2;obtain⟨y0,y1,y2⟩:=At7.out.p3;clear HCr hmay h8 hws hso hrt hst Yx hown ht9 At6 g1 g2 hMo hsh HFd HR1
 go_wp2_with fail
 refine HMo.out.mono ?_;rintro e w10⟨p2,x2,F10,s10,rfl,Apv,⟨hs10, -,Apw⟩,Apx,Awr,hx2⟩;have dO:=Aa (xB.out.trans (Apx.below xB.out.size (λb h=>(HF9.out b h).1)));have Amy:=Aa (At7.out.touch Apx (λh=>(HF9.out _ h).2 rfl));obtain⟨its,met,r,q1,q2,q3,q4,q5,q6,_⟩:=bz hs10;have HRl:Hid (r.length=2):=Aa (by rw [<-KF r,q5,List.length_map,Apw];exact UO.out);have Aws:=Aa Apw;have Ax0:=Aa Apv;obtain⟨W11,Apy,dZ,B11⟩:=EZ w10 30 [Az p2,Az x2,.int .u64 1];have Apz:=Apv.below dZ;have hRe:=TC Apz q1 q3 q4 q6;rw [HRl.out]at hRe;have HRe:=Aa hRe;have Awt:=Aa Apz;have sU:=Aa (τ dO.out dZ);have Aiv:=Aa (Amy.out.ξ dZ);have Acy:=Aa B11;replace y0:=Aiv.out.cell 0;replace y1:=Aiv.out.cell 1;replace y2:=Aiv.out.cell 2;have z0:=B11.cell 0;have z1:=B11.cell 1;have z2:=B11.cell 2;simp only [List.getElem?_cons_zero,List.getElem?_cons_succ]at y0 y1 y2 z0 z1 z2;rw [Apy]at y0 y1 y2 z0 z1 z2;have Awu:=Aa Apy;clear HMo Apv Apx Awr hx2 Apy dZ B11 Apz hRe hs10 Apw q1 q2 q3 q4 q5 q6
 go_wp2_with fail
 rw [<-Awu.out];refine HRe.out.mono ?_;rintro e w12⟨v12,rfl,At8,Ha⟩;obtain⟨A12,c12,rfl,hc12,_⟩:=DL At8;have dY:=Aa (τ sU.out Ha);have Ap0:=Aa (Acy.out.ξ Ha);have Awv:=Aa (Awt.out.below Ha);clear z0 z1 z2;obtain⟨z0,z1,z2⟩:=Ap0.out.p3;have HNw:=Aa (zV 40 w12 U U);rw [show((40:Nat):Int)=40 from rfl]at HNw;clear HRe At8 Ha
 go_wp2_with fail
 refine HNw.out.mono ?_;rintro e uT⟨d13,g13,rfl,At9,_,_,Q8⟩;have Aua:=Aa (Awv.out.below Q8);have HMn:=Aa (pU (w:=uT) ⟨g13,_,At9,λ_=>Iff.rfl⟩ Aua.out.sys.tabs);have uw:=Aa (τ dY.out Q8);have Aub:=Aa (Ap0.out.ξ Q8);clear HNw At9 Q8
 go_wp2_with fail
 refine HMn.out.mono ?_;rintro e w14⟨rfl,Yv⟩;have HMz:=Aa (λW=>XD W);have Aww:=Aa (Aua.out.below Yv);have Auc:=Aa (τ uw.out Yv);have Aud:=Aa (Aub.out.ξ Yv);clear HMn Yv
 go_wp2_with fail
 refine(HMz.out _).mono ?_;rintro e Aue⟨rfl,jh⟩;have eG:η w14 Aue:=(Below.trans ((Below.refl w14.heap.size w14).alloc (Ad _) (.cells #[.pointer none,.pointer none,.int .u64 0] 30)) (jh.mono Θ));obtain⟨w15,Al0⟩:∃w15,w15=Aue.alloc (.cells #[.pointer none,.pointer none,.int .u64 0] 30):=⟨_,rfl⟩;replace eG:η w14 w15:=eG.trans (Al0▸(Below.refl _ _).alloc eG.size _);have Awx:=Aa (Aww.out.below eG);have Auf:=Aa (τ Auc.out eG);have Awy:=Aa (Aud.out.ξ eG);have HA:=Aa (show Calls prog 17 #[Az p2] w15 λe w'=>∃v,e= .returned v/\w'.ownsRow w15.heap.size 3 1 v (DC s10).length (VB (DC s10))/\η w15 w' from by
  obtain⟨tb,hb,n,cT,cH,own,hr, -⟩:=Awx.out.sys;exact RV hr.at)
 rw [Aws.out,UO.out]at HA;clear z0 z1 z2;obtain⟨z0,z1,z2⟩:=Awy.out.p3;rw [Al0]at z0 z1 z2;have Awz:=Aa Al0;clear HMz eG jh Al0
 go_wp2_with fail
 rw [<-Awz.out];refine HA.out.mono ?_;rintro e w16⟨v16,rfl,Aug,hb16⟩;obtain⟨A16,c16,rfl,hc16,_⟩:=DL Aug;have Aw0:=Aa (τ Auf.out hb16);clear HA Aug hb16
 go_wp2_with fail
 go_ret;exact⟨rfl,Aw0.out⟩
