import Derived.Test.YtjcppneoncpdbaaGreatDoorG08
import Derived.Test.YtjcppneoncpdbaaGreatDoorG21
import Derived.Test.YtjcppneoncpdbaaGreatDoorG29
import Derived.Test.YtjcppneoncpdbaaGreatDoorG34
import Derived.Test.YtjcppneoncpdbaaGreatDoorG36
import Derived.Test.YtjcppneoncpdbaaGreatDoorG37
set_option maxHeartbeats 32000000
set_option maxRecDepth 100000
open UInt64 renaming ofNat->AA
open Nat renaming le_refl->Ae
open Go.Lib renaming hid->Aa
open List renaming getElem?_cons_zero->Ad,getElem?_cons_succ->Af
namespace Go.Proofs.YtjcppneoncpdbaaGreatDoor
open Go.RowKit
section
variable{w w':World}{x d p L:Nat}{s:St}{F:Nat->Prop}
theorem Zq{lf:Int}(h:Nv (.up (MU lf)) w x d p L s F)(hlf:0<lf/\lf<=9){jb:Nat}{stamp:UInt64}{vs vd:Value}{en:Int}(hj:Jj w jb x d p stamp vs vd false en F)(y:Wr)(hk:y.key.size<=16)(ht:y.text.size<=40){v:UInt64}
 (hg:FP s y.key.data.toList=(v,0))(hv0:v.toNat≠0)(_:y.gone=false)(hR:DU ⟨stamp,v,y.gone,y.text⟩=true){off:Nat}{s1:St}(hres:C9 s 1=some (off,s1))(hT:(Fh {s1 with ws:=BA s1.ws (off/8) (CJ ⟨stamp,v,y.gone,y.text⟩)} off).2=0):
 Calls Tryz.prog 48 #[.pointer (some ⟨jb,0,none⟩),NV y] w fun e w'=>e= .returned (.tuple #[.agg #[.int .u64 0,.int .u64 0],.int .i64 12])/\
  ∃F',Nv (.down (Half s1.ws (BA s1.ws (off/8) (CJ ⟨stamp,v,y.gone,y.text⟩)))) w' x d p L (rZ {s1 with ws:=BA s1.ws (off/8) (CJ ⟨stamp,v,y.gone,y.text⟩)} off) F'/\Jj w' jb x d p stamp vs vd false en F'/\AB F F' w w':=by
 exact(Ap2 (m2:= .up M0) (m3:= .up M0) h hj y hk hg hv0 (er:=12) (er2:=0) (s2:=s) (s3:=s) (pl:=0) (fun W' k=>GZ (h.below k) y.key (by omega))
  (fun W' k=>lS (h.below k).sys hlf ⟨stamp,v,y.gone,y.text⟩ (by show y.text.size<=_;omega) hR hres hT) (fun h0=>absurd h0 (by decide)) (fun h0=>absurd h0 (by decide))).mono fun e w' hh=>hh
end
section
variable{w:World}{x d p:Nat}{F:Nat->Prop}
theorem yU(h:Ix w x d p 100 (st0 ET) F){v:Value}{G:Nat->Prop}(hset:H9 w G v [Vo]):
 Calls Tryz.prog 23 #[wV d p x,v] w fun e w'=>e= .returned (.int .i64 0)/\∃F',Ix w' x d p 100 Gz F'/\AB F F' w w':=by
 have h80:(st0 ET).ws 8=0:=H8 ET 8 (by decide);have e1:(st0 ET).ws 8+1=1:=by rw [h80];rfl
 refine(gm h hset (by decide+kernel) (List.pairwise_singleton _ _) (by decide) (by rw [h80];decide)
  (fun jb vs k wr=>∃w1,w.heap.size<=jb/\Below w.heap.size w w1/\((k=0/\wr=w1/\xN w1 w.heap.size jb x d p 100 (st0 ET) 1 vs [Vo] [] false 0 F (.slice none 0 0))\/
   (k=1/\∃F' v',xN wr w.heap.size jb x d p 100 (Ry ET II Ja) 1 vs [Vo] [(0,NW ET Ja)] false 0 F' v'/\AB (JG F jb (.slice none 0 0)) (JG F' jb v') w1 wr)))
  (fun c w'=>c=0/\∃F',Ix w' x d p 100 Gz F'/\AB F F' w w') (fun jb vs w1 h1 h2 h3=> ?_) (fun jb vs k wr hk hJ=> ?_)).mono ?_
 ·rw [e1]at h3;exact⟨w1,h1,h2,.inl ⟨rfl,rfl,h3⟩⟩
 ·obtain⟨w1,h1,h2,⟨rfl,rfl,hC⟩| ⟨rfl,F',v',hC,hM⟩⟩:=hJ
  ·refine(kD hC (by decide) (by decide) (pv:=0) (pl:=NW ET Ja) (s2:=Ry ET II Ja) (fun W' k=>(kz (hC.ix.below k) ⟨hC.box.below k hC.box.lt,hC.fj⟩ Vo (by decide) (by decide) (uw ET II (by decide)) rfl (Abh lu) (one_add lu) (uu lu)).mono (fun e w'' hh=>⟨hh.1,hh.2⟩))).mono ?_;rintro e w6⟨rfl,F6,v6,eX,TC⟩;exact .inl ⟨rfl,by decide,wr,h1,h2,.inr ⟨rfl,F6,v6,eX,TC⟩⟩
  ·refine(Yv hC rfl).mono ?_;rintro e w9⟨rfl,F9,hx9,_,hM9⟩;exact .inr ⟨0,rfl,rfl,F9,hx9,Ro h2 h1 (hM.trans hM9)⟩
 ·rintro e w'⟨c,rfl,rfl,hc⟩;exact⟨rfl,hc⟩
theorem yV(h:Nv (.up (MU 8)) w x d p 100 Gz F){v:Value}{G:Nat->Prop}(hset:H9 w G v [Afd,Ah9]){off:Nat}{s1:St}(hr1:C9 Gz 1=some (off,s1))(hr2:(Fh {s1 with ws:=BA s1.ws (off/8) (CJ Y8)} off).2=0):
 Calls Tryz.prog 23 #[wV d p x,v] w fun e w'=>e= .returned (.int .i64 12)/\∃s' F',Nv (.down (Half s1.ws (BA s1.ws (off/8) (CJ Y8)))) w' x d p 100 s' F'/\AB F F' w w':=by
 have h81:Gz.ws 8=1:=by show FO (Ry ET II Ja).ws 8 1 8=1;unfold FO;rw [if_pos rfl]
 have e1:Gz.ws 8+1=2:=by rw [h81];rfl
 refine(gm (md:=MU 8) h hset (by decide+kernel) (by unfold XW;decide+kernel) (by decide) (by rw [h81];decide)
  (fun jb vs k wr=>∃w1,w.heap.size<=jb/\Below w.heap.size w w1/\k=0/\wr=w1/\ES (.up (MU 8)) w1 w.heap.size jb x d p 100 Gz 2 vs [Afd,Ah9] [] false 0 F (.slice none 0 0))
  (fun c w'=>c=12/\∃s' F',Nv (.down (Half s1.ws (BA s1.ws (off/8) (CJ Y8)))) w' x d p 100 s' F'/\AB F F' w w') (fun jb vs w1 h1 h2 h3=> ?_) (fun jb vs k wr hk hJ=> ?_)).mono ?_
 ·rw [e1]at h3;exact⟨w1,h1,h2,rfl,rfl,h3⟩
 ·obtain⟨w1,h1,h2,rfl,rfl,hC⟩:=hJ;refine(lF (m1:= .down (Half s1.ws (BA s1.ws (off/8) (CJ Y8)))) (er:=12) (by decide) hC (Nat.zero_le _) (by decide) (by decide) (by decide+kernel) (s2:=rZ {s1 with ws:=BA s1.ws (off/8) (CJ Y8)} off)
   (fun W' k=>(Zq (hC.ix.below k) (by decide) ⟨hC.box.below k hC.box.lt,hC.fj⟩ Afd (by decide) (by decide) Alp Aib rfl Afe hr1 hr2).mono (fun e w'' hh=>⟨hh.1,hh.2⟩)) (.inl rfl) (fun k hk=>absurd hk (Nat.not_lt_zero _))).mono ?_
  rintro e w6⟨rfl,F6,eX,TC⟩;exact .inr ⟨12,rfl,rfl,_,F6,eX.ix,Ro h2 h1 TC⟩
 ·rintro e w'⟨c,rfl,rfl,hc⟩;exact⟨rfl,hc⟩
end
theorem Afq{ws:Nat->UInt64}{o:Nat}(h8:ws 8=1)(hso:Dc 100 (IJ Gz ws) [(Di II.data.toList,AA o)] (Iq (fun _=>[]) (Di II.data.toList) ⟨o,⟨1,0,false,Ja⟩⟩)){its:List (List UInt8×UInt64)}(hi:its=[(Di II.data.toList,AA o)].map (fun kv=>(pairs kv.1,kv.2))):su (IJ Gz ws) (ws 8).toNat its:=by
 subst hi;intro k hk;have hk0:k=0:=by simp at hk;exact hk
 subst hk0;have h:=(hso.chain _ (List.mem_singleton.2 rfl)).1.listed hso.ix.ok;refine⟨⟨o,⟨1,0,false,Ja⟩⟩,[],?_,by rw [h8];exact Ae 1⟩;show NM _ (AA o)=_;rw [h];show some (Iq _ _ _ _)=_;unfold Iq;rw [if_pos rfl]
theorem Afr{w:World}(hT:Tabs w):Calls Tryz.prog 27 #[] w fun e w'=>e= .returned (.bool true)/\Below w.heap.size w w':=by
 have HBg:=uV (L:=100) (by decide) (by decide) WU hT;rw [show((100:Nat):Int)=100 from rfl]at HBg;have HBg:=Aa HBg;have zD:=Aa hT.lt;obtain⟨off,s1,hr1,hr2,Aco⟩:=Aff;have HR1:=Aa (And.intro hr1 hr2);have HFd:=Aa Aco;clear hT hr1 hr2 Aco;go_enter Tryz.func27,Tryz.ntmps27
 go_wp2_with fail
 refine HBg.out.mono ?_;rintro e w1⟨d,p,x,F,rfl,hx,hb1,hF,hxw⟩;unfold wV;obtain⟨W2,hW2⟩:∃W2,W2=w1.alloc (.cells #[.pointer (some ⟨d,0,none⟩),.pointer (some ⟨p,0,none⟩),.pointer (some ⟨x,0,none⟩)] 31):=⟨_,rfl⟩;obtain⟨W3,hW3⟩:∃W3,W3=W2.alloc (.cells #[.string II,.string Ja,.bool false] 87):=⟨_,rfl⟩;have hb2:Below w1.heap.size w1 W2:=hW2▸(Below.refl _ _).alloc (Ae _) _;have hb3:Below W2.heap.size W2 W3:=hW3▸(Below.refl _ _).alloc (Ae _) _;have B2:BI W2 w1.heap.size 31 [.pointer (some ⟨d,0,none⟩),.pointer (some ⟨p,0,none⟩),.pointer (some ⟨x,0,none⟩)]:=hW2▸heap_alloc_new _ _;have S3:BI W3 W2.heap.size 87 [.string II,.string Ja,.bool false]:=hW3▸heap_alloc_new _ _;have hset:H9 W3 (fun _=>False) (.slice (some ⟨W2.heap.size,0,none⟩) 1 1) [Vo]:=⟨some ⟨W2.heap.size,0,none⟩,1,rfl,Ae _,BI.rd S3,fun _ _ _ h=>h⟩;have Rz:Below w1.heap.size w1 W3:=hb2.trans (hb3.mono hb2.size);have hx3:=hx.below Rz;have hsz2:W2.heap.size=w1.heap.size+1:=by rw [hW2];simp
 have hFl:∀b,F b->b<w1.heap.size:=hx.sys.lt;have htl:=hx.sys.tabs.lt;have hxl:=hx.box.lt;rw [hsz2]at hset;have HCa:=yU hx3 hset;unfold wV at HCa;have HCa:=Aa HCa;have HB3:=Aa (hb1.trans (Rz.mono hb1.size));have Aav:=Aa (B2.below hb3 B2.lt);have HW2:=Aa hW2;have HW3:=Aa hW3;have HF:Hid (∀b,F b->w.heap.size<=b/\b<w1.heap.size):=Aa (fun b h=>⟨hF b h,hFl b h⟩);have y0:=B2.cell 0;have y1:=B2.cell 1;have y2:=B2.cell 2;simp only [Ad,Af]at y0 y1 y2;rw [hW2]at y0 y1 y2;have Aps:=hb1.size;clear HBg hx hb1 hF hW2 hW3 hb2 hb3 B2 S3 hset Rz hx3 hFl
 go_wp2_with fail
 rw [<-HW2.out];rw [show W2.alloc (.cells #[.string {data:= #[97]},.string {data:= #[120]},.bool false] 87)=W3 from HW3.out.symm];refine HCa.out.mono ?_;rintro e w4⟨rfl,F4,hx4,hM4⟩;have Apt:=Aav.out.lt;have HB4:=Aa (HB3.out.trans (hM4.touch.below HB3.out.size (fun b h=>(HF.out b h).1)));have UI:=Aa (Aav.out.touch hM4.touch (fun h=>by have:=(HF.out _ h).2;omega));have HF4:Hid (∀b,F4 b->w.heap.size<=b/\b≠w1.heap.size):=Aa (fun b h=>(hM4.own b h).elim (fun h=>by have:=HF.out b h;omega) (fun h2=>by have:=HB3.out.size;omega));have RS:=Aa (Acn hx4.sys 8 (by decide));have vT:=Aa hx4;replace y0:=UI.out.cell 0;replace y1:=UI.out.cell 1;replace y2:=UI.out.cell 2;simp only [Ad,Af]at y0 y1 y2;clear HCa hx4 hM4
 go_wp2_with fail
 refine RS.out.mono ?_;rintro e w5⟨⟨v5,rfl⟩,m5,F5,hs5,Ig,Qi⟩;obtain rfl:m5= .up (MU 8):=Qi.elim (fun h=>h.2) (fun h=>absurd h.1 (by decide));have hx5:Nv (.up (MU 8)) w5 x d p 100 Gz F5:=⟨hs5,vT.out.box.touch Ig.touch vT.out.out,fun h=>(Ig.own x h).elim vT.out.out (fun h2=>by have:=vT.out.box.lt;omega)⟩;have Ou:=Aa (HB4.out.trans (Ig.touch.below HB4.out.size (fun b h=>(HF4.out b h).1)));have Acz:=Aa (UI.out.touch Ig.touch (fun h=>(HF4.out _ h).2 rfl));have HF5:Hid (∀b,F5 b->w.heap.size<=b/\b≠w1.heap.size):=Aa (fun b h=>(Ig.own b h).elim (HF4.out b) (fun h2=>by have:=UI.out.lt;have:=HB4.out.size;omega));obtain⟨W6,Qh⟩:∃W6,W6=w5.alloc (.cells #[.string II,.string Afc,.bool false,.string Ah7,.string Ah8,.bool false] 87):=⟨_,rfl⟩;have hb6:Below w5.heap.size w5 W6:=Qh▸(Below.refl _ _).alloc (Ae _) _;have S6:BI W6 w5.heap.size 87 [.string II,.string Afc,.bool false,.string Ah7,.string Ah8,.bool false]:=Qh▸heap_alloc_new _ _;have hset:H9 W6 (fun _=>False) (.slice (some ⟨w5.heap.size,0,none⟩) 2 2) [Afd,Ah9]:=⟨some ⟨w5.heap.size,0,none⟩,2,rfl,Ae _,BI.rd S6,fun _ _ _ h=>h⟩;have HCb:=yV (hx5.below hb6) hset HR1.out.1 HR1.out.2;unfold wV at HCb;have HCb:=Aa HCb;have NH:=Aa (Ou.out.trans (hb6.mono Ou.out.size));have Al8:=Aa (Acz.out.below hb6 Acz.out.lt);have HW6:=Aa Qh;replace y0:=Acz.out.cell 0;replace y1:=Acz.out.cell 1;replace y2:=Acz.out.cell 2;simp only [Ad,Af]at y0 y1 y2;clear RS vT hs5 Ig Qi hx5 Qh hb6 S6 hset
 go_wp2_with fail
 rw [show w5.alloc (.cells #[.string {data:= #[97]},.string {data:= #[121]},.bool false,.string {data:= #[98]},.string {data:= #[122]},.bool false] 87)=W6 from HW6.out.symm];refine HCb.out.mono ?_;rintro e w7⟨rfl,s7,F7,hx7,Ur⟩;have dI:=Aa (NH.out.trans (Ur.touch.below NH.out.size (fun b h=>(HF5.out b h).1)));have Ac0:=Aa (Al8.out.touch Ur.touch (fun h=>(HF5.out _ h).2 rfl));have HF7:Hid (∀b,F7 b->w.heap.size<=b/\b≠w1.heap.size):=Aa (fun b h=>(Ur.own b h).elim (HF5.out b) (fun h2=>by have:=Al8.out.lt;have:=NH.out.size;omega));have gV:=Aa hx7;replace y0:=Ac0.out.cell 0;replace y1:=Ac0.out.cell 1;replace y2:=Ac0.out.cell 2;simp only [Ad,Af]at y0 y1 y2;clear HCb hx7 Ur
 go_wp2_with fail
 obtain⟨W8,Lt⟩:∃W8,W8=w7.alloc (.cells #[.int .u8 9,.int .u8 9,.int .u8 9] 5):=⟨_,rfl⟩;have hb8:Below w7.heap.size w7 W8:=Lt▸(Below.refl _ _).alloc (Ae _) _;have S8:BI W8 w7.heap.size 5 [.int .u8 9,.int .u8 9,.int .u8 9]:=Lt▸heap_alloc_new _ _;have hBs:Bs W8 (some ⟨w7.heap.size,0,none⟩) 3 [9,9,9]:=BI.rd S8;have Al9:∀b,F7 b->b<w7.heap.size:=gV.out.sys.lt;have HCr:=Aa (rY (.inr ⟨_,rfl⟩) (gV.out.sys.below hb8) (some ⟨w7.heap.size,0,none⟩) 3 3 [9,9,9] (by decide) ⟨Ae _,hBs,fun a ea h=>by
  injection ea with ea
  subst ea;exact absurd (Al9 _ h) (Nat.lt_irrefl _)⟩)
 have KC:=Aa (dI.out.trans (hb8.mono dI.out.size));have Aoq:=Aa (Ac0.out.below hb8 Ac0.out.lt);have HW8:=Aa Lt;clear Lt hb8 S8 hBs Al9;rw [show w7.alloc (.cells #[.int .u8 9,.int .u8 9,.int .u8 9] 5)=W8 from HW8.out.symm];refine HCr.out.mono ?_;rintro e w9⟨⟨v9,rfl⟩,ws,own,hmay,Acm,hown,ht9,Ama,g1,g2⟩;have hmay:Half s1.ws (BA s1.ws (off/8) (CJ Y8)) ws:=hmay;obtain⟨h8,hws,⟨o,hso⟩,hrt,hst⟩:=HFd.out ws hmay;obtain⟨its,met,r,q1,q2,q3,q4,q5,q6,_⟩:=lq hso;have dQ:=Aa (KC.out.trans (ht9.below KC.out.size (fun b h=>(HF7.out b h).1)));have Ac1:=Aa (Aoq.out.touch ht9 (fun h=>(HF7.out _ h).2 rfl));have hrl:r.length=2:=by
  rw [<-MW r,q5,List.length_map];exact Agd
 have hMo:=Acx (w:=w9) (by decide) (by decide) WU Acm Ama g1 g2 hws hrt hst q1 q3 q4 q6 (by rw [h8];decide) (Afq h8 hso q2) (fun W p x F hX=>lZ hX q1 q3 q4 q6 q5 (WT hso.ix.ok));rw [h8,show((1:UInt64).toNat:Int)=1 from rfl]at hMo;have HMo:=Aa hMo;have HQ:=Aa (And.intro q1 (And.intro q3 (And.intro q4 q6)));have HRl:=Aa hrl;have HAl:Hid ((Jo (IJ Gz ws)).length=2):=Aa Agd;replace y0:=Ac1.out.cell 0;replace y1:=Ac1.out.cell 1;replace y2:=Ac1.out.cell 2;simp only [Ad,Af]at y0 y1 y2;clear HCr hmay h8 hws hso hrt hst q1 q2 q3 q4 q5 q6 Acm hown ht9 Ama g1 g2 hMo hrl HFd HR1
 go_wp2_with fail
 refine HMo.out.mono ?_;rintro e w10⟨p2,x2,F10,rfl,Ais,Qc,Aor,hx2⟩;have Zf:=Aa (dQ.out.trans (Qc.mono dQ.out.size));have Agj:=Aa (Ac1.out.below Qc Ac1.out.lt);have Apu:=Aa Ais;obtain⟨W11,Ac2⟩:∃W11,W11=w10.alloc (.cells #[.pointer (some ⟨p2,0,none⟩),.pointer (some ⟨x2,0,none⟩),.int .u64 1] 69):=⟨_,rfl⟩;have rU:Below w10.heap.size w10 W11:=Ac2▸(Below.refl _ _).alloc (Ae _) _;have B11:BI W11 w10.heap.size 69 [.pointer (some ⟨p2,0,none⟩),.pointer (some ⟨x2,0,none⟩),.int .u64 1]:=Ac2▸heap_alloc_new _ _;have Ait:=Ais.below rU;have hRe:=mendReach Ait HQ.out.1 HQ.out.2.1 HQ.out.2.2.1 HQ.out.2.2.2;rw [HRl.out]at hRe;have HRe:=Aa hRe;have Aos:=Aa Ait;have Afl:=Aa (Zf.out.trans (rU.mono Zf.out.size));have Ac3:=Aa (Agj.out.below rU Agj.out.lt);have xu:=Aa B11;replace y0:=Ac3.out.cell 0;replace y1:=Ac3.out.cell 1;replace y2:=Ac3.out.cell 2;have z0:=B11.cell 0;have z1:=B11.cell 1;have z2:=B11.cell 2;simp only [Ad,Af]at y0 y1 y2 z0 z1 z2;rw [Ac2]at y0 y1 y2 z0 z1 z2;have Aot:=Aa Ac2;clear HMo Ais Qc Aor hx2 Ac2 rU B11 Ait hRe
 go_wp2_with fail
 rw [<-Aot.out];refine HRe.out.mono ?_;rintro e w12⟨v12,rfl,Amb,Gv⟩;obtain⟨A12,c12,rfl,hc12,_⟩:=Ea Amb;have Amc:=Aa (Afl.out.trans (Gv.mono Afl.out.size));have Ac4:=Aa (xu.out.below Gv xu.out.lt);have Aou:=Aa (Aos.out.below Gv);replace z0:=Ac4.out.cell 0;replace z1:=Ac4.out.cell 1;replace z2:=Ac4.out.cell 2;simp only [Ad,Af]at z0 z1 z2;have HNw:=Aa (tZ 40 w12 (by decide) (by decide));rw [show((40:Nat):Int)=40 from rfl]at HNw;clear HRe Amb Gv
 go_wp2_with fail
 refine HNw.out.mono ?_;rintro e w13⟨d13,g13,rfl,Amd,_,_,Rz⟩;have Ame:=Aa (Aou.out.below Rz);have HMn:=Aa (ji (w:=w13) ⟨g13,_,Amd,fun _=>Iff.rfl⟩ Ame.out.sys.tabs);have Amf:=Aa (Amc.out.trans (Rz.mono Amc.out.size));have Amg:=Aa (Ac4.out.below Rz Ac4.out.lt);clear HNw Amd Rz
 go_wp2_with fail
 refine HMn.out.mono ?_;rintro e w14⟨rfl,Zn⟩;have HMz:=Aa (fun W=>jh W);have Aov:=Aa (Ame.out.below Zn);have Amh:=Aa (Amf.out.trans (Zn.mono Amf.out.size));have Ami:=Aa (Amg.out.below Zn Amg.out.lt);clear HMn Zn
 go_wp2_with fail
 refine(HMz.out _).mono ?_;rintro e Amj⟨rfl,Agk⟩;have sD:Below w14.heap.size w14 Amj:=(Below.trans ((Below.refl w14.heap.size w14).alloc (Ae _) (.cells #[.pointer none,.pointer none,.int .u64 0] 69)) (Agk.mono (by simp)));obtain⟨w15,Afs⟩:∃w15,w15=Amj.alloc (.cells #[.pointer none,.pointer none,.int .u64 0] 69):=⟨_,rfl⟩;replace sD:Below w14.heap.size w14 w15:=sD.trans (Afs▸(Below.refl _ _).alloc sD.size _);have Aow:=Aa (Aov.out.below sD);have Amk:=Aa (Amh.out.trans (sD.mono Amh.out.size));have Aiu:=Aa (Ami.out.below sD Ami.out.lt);have HA:=Aa (show Calls Tryz.prog 22 #[.pointer (some ⟨p2,0,none⟩)] w15 fun e w'=>∃v,e= .returned v/\w'.ownsRow w15.heap.size 3 1 v (Jo (IJ Gz ws)).length (Zh (Jo (IJ Gz ws)))/\Below w15.heap.size w15 w' from by
  obtain⟨tb,hb,n,cT,cH,own,hr, -⟩:=Aow.out.sys;exact Yh hr.at)
 rw [HAl.out]at HA;replace z0:=Aiu.out.cell 0;replace z1:=Aiu.out.cell 1;replace z2:=Aiu.out.cell 2;simp only [Ad,Af]at z0 z1 z2;rw [Afs]at z0 z1 z2;have Aox:=Aa Afs;clear HMz sD Agk Afs
 go_wp2_with fail
 rw [<-Aox.out];refine HA.out.mono ?_;rintro e w16⟨v16,rfl,Aml,hb16⟩;obtain⟨A16,c16,rfl,hc16,_⟩:=Ea Aml;have Aoy:=Aa (Amk.out.trans (hb16.mono Amk.out.size));clear HA Aml hb16
 go_wp2_with fail
 go_ret;exact⟨rfl,Aoy.out⟩
end Go.Proofs.YtjcppneoncpdbaaGreatDoor
