import Derived.Test.YtkimaejoeapmnaaGreatDoorG43
import Derived.Test.YtkimaejoeapmnaaGreatDoorG44
set_option maxHeartbeats 32000000
set_option maxRecDepth 100000
open Nat renaming le_refl->Ad
open Go.Lib renaming hid->Aa
namespace Go.Proofs.YtkimaejoeapmnaaGreatDoor
open Go.RowKit
section
variable{w w':World}{x d p L:Nat}{s:St}{F:Nat->Prop}
theorem bK{lf:Int}(h:IX (.up (MU lf)) w x d p L s F)(hlf:0<lf/\lf<=9){jb:Nat}{stamp:UInt64}{vs vd:Value}{en:Int}(hj:NT w jb x d p stamp vs vd false en F)(y:Wr)(hk:y.key.size<=16)(ht:y.text.size<=40){v:UInt64}
 (hg:GI s y.key.data.toList=(v,0))(hv0:v.toNat≠0)(_:y.gone=false)(hR:Eg ⟨stamp,v,y.gone,y.text⟩=true){off:Nat}{s1:St}(hres:CQ s 1=some (off,s1))(hT:(IP {s1 with ws:=BQ s1.ws (off/8) (Dk ⟨stamp,v,y.gone,y.text⟩)} off).2=0):
 Calls Tryz.prog 93 #[Aw jb,Xe y] w fun e w'=>e= .returned (.tuple #[.agg #[.int .u64 0,.int .u64 0],.int .i64 12])/\
  ∃F',IX (.down (Half s1.ws (BQ s1.ws (off/8) (Dk ⟨stamp,v,y.gone,y.text⟩)))) w' x d p L (Ac8 {s1 with ws:=BQ s1.ws (off/8) (Dk ⟨stamp,v,y.gone,y.text⟩)} off) F'/\NT w' jb x d p stamp vs vd false en F'/\AO F F' w w':=by
 exact(eG (m2:= .up M0) (m3:= .up M0) h hj y hk hg hv0 (er:=12) (NI:=0) (s2:=s) (s3:=s) (pl:=0) (fun W' k=>VU (h.below k) y.key (by omega))
  (fun W' k=>qN (h.below k).sys hlf ⟨stamp,v,y.gone,y.text⟩ (by show y.text.size<=_;omega) hR hres hT) (fun h0=>absurd h0 (by decide)) (fun h0=>absurd h0 (by decide))).mono fun e w' hh=>hh
end
section
variable{w:World}{x d p:Nat}{F:Nat->Prop}
theorem Adk(h:Ix w x d p 100 (st0 FN) F){v:Value}{G:Nat->Prop}(hset:Ju w G v [Wx]):
 Calls Tryz.prog 15 #[wV d p x,v] w fun e w'=>e= .returned (.int .i64 0)/\∃F',Ix w' x d p 100 Gp F'/\AO F F' w w':=by
 have h80:(st0 FN).ws 8=0:=Il FN 8 (by decide);have e1:(st0 FN).ws 8+1=1:=by rw [h80];rfl
 refine(zN h hset (by decide+kernel) (List.pairwise_singleton _ _) (by decide) (by rw [h80];decide)
  (fun jb vs k wr=>∃w1,w.heap.size<=jb/\Below w.heap.size w w1/\((k=0/\wr=w1/\Amu w1 w.heap.size jb x d p 100 (st0 FN) 1 vs [Wx] [] false 0 F (.slice none 0 0))\/
   (k=1/\∃F' v',Amu wr w.heap.size jb x d p 100 (SV FN JP JA) 1 vs [Wx] [(0,Oj FN JA)] false 0 F' v'/\AO (JG F jb (.slice none 0 0)) (JG F' jb v') w1 wr)))
  (fun c w'=>c=0/\∃F',Ix w' x d p 100 Gp F'/\AO F F' w w') (fun jb vs w1 h1 h2 h3=> ?_) (fun jb vs k wr hk hJ=> ?_)).mono ?_
 ·rw [e1]at h3;exact⟨w1,h1,h2,.inl ⟨rfl,rfl,h3⟩⟩
 ·obtain⟨w1,h1,h2,⟨rfl,rfl,hC⟩| ⟨rfl,F',v',hC,hM⟩⟩:=hJ
  ·refine(Af1 hC (by decide) (by decide) (pv:=0) (pl:=Oj FN JA) (s2:=SV FN JP JA) (fun W' k=>(Af0 (hC.ix.below k) ⟨hC.box.below k hC.box.lt,hC.fj⟩ Wx (by decide) (by decide) (yX FN JP (by decide)) rfl (Afq qi) (one_add qi) (yV qi)).mono (fun e w'' hh=>⟨hh.1,hh.2⟩))).mono ?_;rintro e w6⟨rfl,F6,v6,jF,kU⟩;exact .inl ⟨rfl,by decide,wr,h1,h2,.inr ⟨rfl,F6,v6,jF,kU⟩⟩
  ·refine(wQ hC rfl).mono ?_;rintro e w9⟨rfl,F9,hx9,_,hM9⟩;exact .inr ⟨0,rfl,rfl,F9,hx9,fO h2 h1 (hM.trans hM9)⟩
 ·rintro e w'⟨c,rfl,rfl,hc⟩;exact⟨rfl,hc⟩
theorem Adl(h:IX (.up (MU 8)) w x d p 100 Gp F){v:Value}{G:Nat->Prop}(hset:Ju w G v [Ajx,Anb]){off:Nat}{s1:St}(hr1:CQ Gp 1=some (off,s1))(hr2:(IP {s1 with ws:=BQ s1.ws (off/8) (Dk ZQ)} off).2=0):
 Calls Tryz.prog 15 #[wV d p x,v] w fun e w'=>e= .returned (.int .i64 12)/\∃s' F',IX (.down (Half s1.ws (BQ s1.ws (off/8) (Dk ZQ)))) w' x d p 100 s' F'/\AO F F' w w':=by
 have h81:Gp.ws 8=1:=by show Gg (SV FN JP JA).ws 8 1 8=1;unfold Gg;rw [if_pos rfl]
 have e1:Gp.ws 8+1=2:=by rw [h81];rfl
 refine(zN (md:=MU 8) h hset (by decide+kernel) (by unfold UpS;decide+kernel) (by decide) (by rw [h81];decide)
  (fun jb vs k wr=>∃w1,w.heap.size<=jb/\Below w.heap.size w w1/\k=0/\wr=w1/\Fv (.up (MU 8)) w1 w.heap.size jb x d p 100 Gp 2 vs [Ajx,Anb] [] false 0 F (.slice none 0 0))
  (fun c w'=>c=12/\∃s' F',IX (.down (Half s1.ws (BQ s1.ws (off/8) (Dk ZQ)))) w' x d p 100 s' F'/\AO F F' w w') (fun jb vs w1 h1 h2 h3=> ?_) (fun jb vs k wr hk hJ=> ?_)).mono ?_
 ·rw [e1]at h3;exact⟨w1,h1,h2,rfl,rfl,h3⟩
 ·obtain⟨w1,h1,h2,rfl,rfl,hC⟩:=hJ;refine(Agq (m1:= .down (Half s1.ws (BQ s1.ws (off/8) (Dk ZQ)))) (er:=12) (by decide) hC (Nat.zero_le _) (by decide) (by decide) (by decide+kernel) (s2:=Ac8 {s1 with ws:=BQ s1.ws (off/8) (Dk ZQ)} off)
   (fun W' k=>(bK (hC.ix.below k) (by decide) ⟨hC.box.below k hC.box.lt,hC.fj⟩ Ajx (by decide) (by decide) Arr Ane rfl Ajy hr1 hr2).mono (fun e w'' hh=>⟨hh.1,hh.2⟩)) (.inl rfl) (fun k hk=>absurd hk (Nat.not_lt_zero _))).mono ?_
  rintro e w6⟨rfl,F6,jF,kU⟩;exact .inr ⟨12,rfl,rfl,_,F6,jF.ix,fO h2 h1 kU⟩
 ·rintro e w'⟨c,rfl,rfl,hc⟩;exact⟨rfl,hc⟩
end
theorem Ake{ws:Nat->UInt64}{o:Nat}(h8:ws 8=1):∀k,∀y∈Q9 (fun _=>[]) (DR JP.data.toList) ⟨o,⟨1,0,false,JA⟩⟩ k,y.rc.stamp.toNat<=((Ib Gp ws).ws 8).toNat:=by
 intro k y hy;rw [show(Ib Gp ws).ws 8=1 from h8];unfold Q9 at hy;split at hy
 ·rw [List.mem_singleton]at hy;subst hy;exact Ad 1
 ·cases hy
theorem Aaa(hO:Ak7){w:World}(hT:Tabs w):Calls Tryz.prog 6 #[] w fun e w'=>e= .returned (.bool true)/\Below w.heap.size w w':=by
 have HBg:=zM (L:=100) (by decide) (by decide) Yi hT;rw [show((100:Nat):Int)=100 from rfl]at HBg;have HBg:=Aa HBg;have jB:=Aa hT.lt;obtain⟨off,s1,hr1,hr2,Ag1⟩:=Ajz;have HR1:=Aa (And.intro hr1 hr2);have HFd:=Aa Ag1;clear hT hr1 hr2 Ag1;go_enter Tryz.func6,Tryz.ntmps6
 go_wp2_with fail
 refine HBg.out.mono ?_;rintro e w1⟨d,p,x,F,rfl,hx,hb1,hF,hxw⟩;unfold wV;obtain⟨W2,hW2,hb2,B2⟩:=FB w1 49 [Aw d,Aw p,Aw x];obtain⟨W3,hW3,hb3,S3⟩:=FB W2 74 [.string JP,.string JA,.bool false];have hset:Ju W3 (fun _=>False) (.slice (some ⟨W2.heap.size,0,none⟩) 1 1) [Wx]:=⟨some ⟨W2.heap.size,0,none⟩,1,rfl,Ad _,CG.rd S3,fun _ _ _ h=>h⟩;have Qj:Below w1.heap.size w1 W3:=hb2.trans (hb3.mono hb2.size);have hx3:=hx.below Qj;have hsz2:W2.heap.size=w1.heap.size+1:=by rw [hW2];simp
 have hFl:∀b,F b->b<w1.heap.size:=hx.sys.lt;have htl:=hx.sys.tabs.lt;have hxl:=hx.box.lt;rw [hsz2]at hset;have HCa:=Adk hx3 hset;unfold wV at HCa;have HCa:=Aa HCa;have HB3:=Aa (hb1.trans (Qj.mono hb1.size));have Ae2:=Aa (B2.below hb3 B2.lt);have HW2:=Aa hW2;have HW3:=Aa hW3;have HF:Hid (∀b,F b->w.heap.size<=b/\b<w1.heap.size):=Aa (fun b h=>⟨hF b h,hFl b h⟩);obtain⟨y0,y1,y2⟩:=B2.p3;rw [hW2]at y0 y1 y2;have Awv:=hb1.size;clear HBg hx hb1 hF hW2 hW3 hb2 hb3 B2 S3 hset Qj hx3 hFl
 go_wp2_with fail
 rw [<-HW2.out];rw [show W2.alloc (.cells #[.string {data:= #[97]},.string {data:= #[120]},.bool false] 74)=W3 from HW3.out.symm];refine HCa.out.mono ?_;rintro e w4⟨rfl,F4,hx4,hM4⟩;have Aww:=Ae2.out.lt;have HB4:=Aa (HB3.out.trans (hM4.touch.below HB3.out.size (fun b h=>(HF.out b h).1)));have Zi:=Aa (Ae2.out.touch hM4.touch (fun h=>by have:=(HF.out _ h).2;omega));have HF4:Hid (∀b,F4 b->w.heap.size<=b/\b≠w1.heap.size):=Aa (fun b h=>(hM4.own b h).elim (fun h=>by have:=HF.out b h;omega) (fun h2=>by have:=HB3.out.size;omega));have OO:=Aa (Ag0 hx4.sys 8 (by decide));have HX4:=Aa hx4;clear y0 y1 y2;obtain⟨y0,y1,y2⟩:=Zi.out.p3;clear HCa hx4 hM4
 go_wp2_with fail
 refine OO.out.mono ?_;rintro e w5⟨⟨v5,rfl⟩,m5,F5,hs5,Pz,QH⟩;obtain rfl:m5= .up (MU 8):=QH.elim (fun h=>h.2) (fun h=>absurd h.1 (by decide));have hx5:IX (.up (MU 8)) w5 x d p 100 Gp F5:=⟨hs5,HX4.out.box.touch Pz.touch HX4.out.out,fun h=>(Pz.own x h).elim HX4.out.out (fun h2=>by have:=HX4.out.box.lt;omega)⟩;have Jy:=Aa (HB4.out.trans (Pz.touch.below HB4.out.size (fun b h=>(HF4.out b h).1)));have An5:=Aa (Zi.out.touch Pz.touch (fun h=>(HF4.out _ h).2 rfl));have HF5:Hid (∀b,F5 b->w.heap.size<=b/\b≠w1.heap.size):=Aa (fun b h=>(Pz.own b h).elim (HF4.out b) (fun h2=>by have:=Zi.out.lt;have:=HB4.out.size;omega));obtain⟨W6,QE,hb6,S6⟩:=FB w5 74 [.string JP,.string Ana,.bool false,.string Arn,.string Aro,.bool false];have hset:Ju W6 (fun _=>False) (.slice (some ⟨w5.heap.size,0,none⟩) 2 2) [Ajx,Anb]:=⟨some ⟨w5.heap.size,0,none⟩,2,rfl,Ad _,CG.rd S6,fun _ _ _ h=>h⟩;have HCb:=Adl (hx5.below hb6) hset HR1.out.1 HR1.out.2;unfold wV at HCb;have HCb:=Aa HCb;have KO:=Aa (Jy.out.trans (hb6.mono Jy.out.size));have Asn:=Aa (An5.out.below hb6 An5.out.lt);have HW6:=Aa QE;clear y0 y1 y2;obtain⟨y0,y1,y2⟩:=An5.out.p3;clear OO HX4 hs5 Pz QH hx5 QE hb6 S6 hset
 go_wp2_with fail
 rw [show w5.alloc (.cells #[.string {data:= #[97]},.string {data:= #[121]},.bool false,.string {data:= #[98]},.string {data:= #[122]},.bool false] 74)=W6 from HW6.out.symm];refine HCb.out.mono ?_;rintro e w7⟨rfl,s7,F7,hx7,hM7⟩;have aY:=Aa (KO.out.trans (hM7.touch.below KO.out.size (fun b h=>(HF5.out b h).1)));have An6:=Aa (Asn.out.touch hM7.touch (fun h=>(HF5.out _ h).2 rfl));have HF7:Hid (∀b,F7 b->w.heap.size<=b/\b≠w1.heap.size):=Aa (fun b h=>(hM7.own b h).elim (HF5.out b) (fun h2=>by have:=Asn.out.lt;have:=KO.out.size;omega));have zq:=Aa hx7;clear y0 y1 y2;obtain⟨y0,y1,y2⟩:=An6.out.p3;clear HCb hx7 hM7
 go_wp2_with fail
 obtain⟨W8,zo,hb8,S8⟩:=FB w7 5 [.int .u8 9,.int .u8 9,.int .u8 9];have hBs:Bs W8 (some ⟨w7.heap.size,0,none⟩) 3 [9,9,9]:=CG.rd S8;have Aso:∀b,F7 b->b<w7.heap.size:=zq.out.sys.lt;have HCr:=Aa (xH (.inr ⟨_,rfl⟩) (zq.out.sys.below hb8) (some ⟨w7.heap.size,0,none⟩) 3 3 [9,9,9] (by decide) ⟨Ad _,hBs,fun a ea h=>by
  injection ea with ea
  subst ea;exact absurd (Aso _ h) (Nat.lt_irrefl _)⟩)
 have az:=Aa (aY.out.trans (hb8.mono aY.out.size));have Avg:=Aa (An6.out.below hb8 An6.out.lt);have HW8:=Aa zo;clear zo hb8 S8 hBs Aso;rw [show w7.alloc (.cells #[.int .u8 9,.int .u8 9,.int .u8 9] 5)=W8 from HW8.out.symm];refine HCr.out.mono ?_;rintro e w9⟨⟨v9,rfl⟩,ws,own,hmay,XI,hown,ht9,Asp,g1,g2⟩;have hmay:Half s1.ws (BQ s1.ws (off/8) (Dk ZQ)) ws:=hmay;obtain⟨h8,hws,⟨o,hso⟩,hrt,hst⟩:=HFd.out ws hmay;have vM:=Aa (az.out.trans (ht9.below az.out.size (fun b h=>(HF7.out b h).1)));have Asq:=Aa (Avg.out.touch ht9 (fun h=>(HF7.out _ h).2 rfl));have hsh:(Ib Gp ws).sh=FN:=by rw [hst]
 have hMo:=hO w9 _ _ _ _ (Ib Gp ws) (Ib Gp ws) _ _ (by decide) (by decide) XI Asp g1 g2 (by rw [hsh];exact Yi) (by rw [hsh];exact hws) (Loose.start hso) hso.ix.ok (Ake h8) (by rw [show(Ib Gp ws).ws 8=1 from h8];decide);rw [show(Ib Gp ws).ws 8=1 from h8,show((1:UInt64).toNat:Int)=1 from rfl]at hMo;have HMo:=Aa hMo;have XW:Hid ((Dx (Ib Gp ws)).length=2):=Aa Arq;have HF9:Hid (∀b,own b->w.heap.size<=b/\b≠w1.heap.size):=Aa (fun b h=>HF7.out b (hown b h));clear y0 y1 y2;obtain⟨y0,y1,y2⟩:=Asq.out.p3;clear HCr hmay h8 hws hso hrt hst XI hown ht9 Asp g1 g2 hMo hsh HFd HR1
 go_wp2_with fail
 refine HMo.out.mono ?_;rintro e w10⟨p2,x2,F10,s10,rfl,An7,⟨hs10, -,An8⟩,An9,Avh,hx2⟩;have bn:=Aa (vM.out.trans (An9.below vM.out.size (fun b h=>(HF9.out b h).1)));have Alb:=Aa (Asq.out.touch An9 (fun h=>(HF9.out _ h).2 rfl));obtain⟨its,met,r,q1,q2,q3,q4,q5,q6,_⟩:=Vf hs10;have HRl:Hid (r.length=2):=Aa (by rw [<-JZ r,q5,List.length_map,An8];exact XW.out);have Avi:=Aa An8;have Awx:=Aa An7;obtain⟨W11,Aoa,bI,B11⟩:=FB w10 30 [Aw p2,Aw x2,.int .u64 1];have Aob:=An7.below bI;have hRe:=SL Aob q1 q3 q4 q6;rw [HRl.out]at hRe;have HRe:=Aa hRe;have Avj:=Aa Aob;have qy:=Aa (bn.out.trans (bI.mono bn.out.size));have Ahg:=Aa (Alb.out.below bI Alb.out.lt);have Abq:=Aa B11;replace y0:=Ahg.out.cell 0;replace y1:=Ahg.out.cell 1;replace y2:=Ahg.out.cell 2;have z0:=B11.cell 0;have z1:=B11.cell 1;have z2:=B11.cell 2;simp only [List.getElem?_cons_zero,List.getElem?_cons_succ]at y0 y1 y2 z0 z1 z2;rw [Aoa]at y0 y1 y2 z0 z1 z2;have Avk:=Aa Aoa;clear HMo An7 An9 Avh hx2 Aoa bI B11 Aob hRe hs10 An8 q1 q2 q3 q4 q5 q6
 go_wp2_with fail
 rw [<-Avk.out];refine HRe.out.mono ?_;rintro e w12⟨v12,rfl,Asr,GX⟩;obtain⟨A12,c12,rfl,hc12,_⟩:=DN Asr;have xO:=Aa (qy.out.trans (GX.mono qy.out.size));have Aoc:=Aa (Abq.out.below GX Abq.out.lt);have Avl:=Aa (Avj.out.below GX);clear z0 z1 z2;obtain⟨z0,z1,z2⟩:=Aoc.out.p3;have HNw:=Aa (yF 40 w12 (by decide) (by decide));rw [show((40:Nat):Int)=40 from rfl]at HNw;clear HRe Asr GX
 go_wp2_with fail
 refine HNw.out.mono ?_;rintro e sG⟨d13,g13,rfl,Ass,_,_,Qj⟩;have Asu:=Aa (Avl.out.below Qj);have HMn:=Aa (nG (w:=sG) ⟨g13,_,Ass,fun _=>Iff.rfl⟩ Asu.out.sys.tabs);have ry:=Aa (xO.out.trans (Qj.mono xO.out.size));have Asv:=Aa (Aoc.out.below Qj Aoc.out.lt);clear HNw Ass Qj
 go_wp2_with fail
 refine HMn.out.mono ?_;rintro e w14⟨rfl,XG⟩;have HMz:=Aa (fun W=>WY W);have Avm:=Aa (Asu.out.below XG);have Asw:=Aa (ry.out.trans (XG.mono ry.out.size));have Asx:=Aa (Asv.out.below XG Asv.out.lt);clear HMn XG
 go_wp2_with fail
 refine(HMz.out _).mono ?_;rintro e Asy⟨rfl,gu⟩;have bM:Below w14.heap.size w14 Asy:=(Below.trans ((Below.refl w14.heap.size w14).alloc (Ad _) (.cells #[.pointer none,.pointer none,.int .u64 0] 30)) (gu.mono (by simp)));obtain⟨w15,Akf⟩:∃w15,w15=Asy.alloc (.cells #[.pointer none,.pointer none,.int .u64 0] 30):=⟨_,rfl⟩;replace bM:Below w14.heap.size w14 w15:=bM.trans (Akf▸(Below.refl _ _).alloc bM.size _);have Avn:=Aa (Avm.out.below bM);have Asz:=Aa (Asw.out.trans (bM.mono Asw.out.size));have Avo:=Aa (Asx.out.below bM Asx.out.lt);have HA:=Aa (show Calls Tryz.prog 17 #[Aw p2] w15 fun e w'=>∃v,e= .returned v/\w'.ownsRow w15.heap.size 3 1 v (Dx s10).length (UW (Dx s10))/\Below w15.heap.size w15 w' from by
  obtain⟨tb,hb,n,cT,cH,own,hr, -⟩:=Avn.out.sys;exact Pg hr.at)
 rw [Avi.out,XW.out]at HA;clear z0 z1 z2;obtain⟨z0,z1,z2⟩:=Avo.out.p3;rw [Akf]at z0 z1 z2;have Avp:=Aa Akf;clear HMz bM gu Akf
 go_wp2_with fail
 rw [<-Avp.out];refine HA.out.mono ?_;rintro e w16⟨v16,rfl,As0,hb16⟩;obtain⟨A16,c16,rfl,hc16,_⟩:=DN As0;have Avq:=Aa (Asz.out.trans (hb16.mono Asz.out.size));clear HA As0 hb16
 go_wp2_with fail
 go_ret;exact⟨rfl,Avq.out⟩
