import Derived.Deep.RegionHeldLaw
import Derived.Test.YtkimaejoeapmnaaGreatDoorG27
set_option maxHeartbeats 32000000
set_option maxRecDepth 100000
open Go.Lib renaming hid->Aa
open List renaming getElem?_cons_zero->Aj,getElem?_cons_succ->Az
open Go.Value renaming ownBlock->Ba
open Go.World renaming cell?_of_block->Bz
open Nat renaming le_refl->Ad
namespace Go.Proofs.YtkimaejoeapmnaaGreatDoor
open Go.RowKit
section
variable{w w':World}{x d p L:Nat}{s:St}{F:Nat->Prop}
theorem Amt(h:Ix w x d p L s F){jb:Nat}{stamp:UInt64}{en:Int}{n c c2:Nat}{A B:Option Addr}(hj:NT w jb x d p stamp (.slice A n c) (.slice B n c2) false en F)(hnx:x≠jb)(hg:0≠jb/\1≠jb):
 Calls Tryz.prog 47 #[Aw jb] w fun e w'=>e= .returned (.tuple #[.bool true,.int .i64 0])/\
  ∃F',Ix w' x d p L {s with ws:=Gg s.ws 8 stamp} F'/\NT w' jb x d p stamp (.slice A n c) (.slice B n c2) true en F'/\AO (fun b=>F b\/b=jb) (fun b=>F' b\/b=jb) w w':=by
 have hL2:=h.sys.pos.2.2.1.fits;have hL3:=h.sys.pos.2.2.1.MK;have HN:=Aa (jD jb _ hj.box);have j6:=hj.box.cell 6;have j5:=hj.box.cell 5;have j4:=hj.box.cell 4;have j3:=hj.box.cell 3;have j0:=hj.box.cell 0;unfold DI at j0 j3 j4 j5 j6;simp only [Aj,Az]at j0 j3 j4 j5 j6;have HX:=Aa h;have HJ:=Aa hj;have HP:=Aa (fun W'(k:Below w.heap.size w W')=>Aii (h.sys.below k) 8 stamp (by omega));rw [show((8*8:Nat):Int)=64 from rfl]at HP;have HG:=Aa hg;have HNX:=Aa hnx;have HK:Hid (∀W',Touch F w W'->W'.cell? ⟨jb,0,none⟩=some (Aw d)/\W'.cell? ⟨jb,3,none⟩=some (.int .u64 (stamp.toNat:Int))):=Aa (fun W' k=>⟨(hj.box.touch k hj.out).cell 0,(hj.box.touch k hj.out).cell 3⟩);have t1:decide ((n:Int)<(n:Int))=false:=decide_eq_false (by omega);have t2:decide (n<n)=false:=decide_eq_false (by omega);clear h hj hL2 hL3 hg hnx;go_enter Tryz.func47,Tryz.ntmps47
 go_wp2_with fail
 refine HN.out.mono ?_;rintro e w1⟨rfl,rfl⟩
 go_wp2_with fail
 go_region
 all_goals(go_wp2_with fail)
 all_goals(
  go_region_held3(fun w'=>w'.cell? ⟨jb,0,none⟩=some (Aw d)/\w'.cell? ⟨jb,3,none⟩=some (.int .u64 (stamp.toNat:Int)))
   (first| exact⟨j0,j3⟩| exact HK.out _ Pz.touch)
   ((first| (go_at_call 95;refine(HP.out _ (((Dr.drew w).trans (Dr.drew _)).below _)).mono ?_;rintro e w5⟨rfl,F5,hS5,XH⟩;have Pz:AO F F5 w w5:=(AO.of_below (((Dr.drew w).trans (Dr.drew _)).below _)).trans XH))))
 all_goals(
  have VV:Ix w5 x d p L {s with ws:=Gg s.ws 8 stamp} F5:=HX.out.move hS5 Pz;have mQ:=HJ.out.box.touch Pz.touch HJ.out.out;have c6:=mQ.cell 6;have f6:=mQ.frozen 6;unfold DI at c6;simp only [Aj,Az]at c6;have su:=Aa VV;have Jy:=Aa mQ;have QY:=Aa Pz;clear VV mQ Pz XH hS5 HP HK j0 j3 j4 j5 j6
  go_wp2_with fail
  go_ret2)
 all_goals(
  have hnf:¬F5 jb:=QY.out.out HJ.out.box.lt HJ.out.out;have zl:Touch (fun k=>k=jb) w5 (w5.setCell ⟨jb,6,none⟩ (.bool true)):=(Touch.refl (fun k=>k=jb) w5).setCell (p:=⟨jb,6,none⟩) (.inl rfl) _;refine⟨rfl,F5,⟨su.out.sys.keep zl (fun b hb e=>hnf (e▸hb)) HG.out.1 HG.out.2,su.out.box.touch zl HNX.out,su.out.out⟩,⟨by
   have:=Jy.out.AZ 6 (.bool true);unfold DI at this⊢;simpa only [List.set_cons_zero,List.set_cons_succ]using this,hnf⟩,?_⟩
  exact⟨(QY.out.touch.mono (fun _ hb=> .inl hb)).trans (zl.mono (fun _ e=> .inr e)) (fun _ e=> .inl e),fun b hb=>by
   rcases hb with hb| hb
   ·exact(QY.out.own b hb).imp .inl id
   ·exact .inl (.inr hb)⟩)
theorem Tryz.Aje:Jt Tryz.prog 185 189 (.agg #[.int .u64 0,.int .u64 0]) 2 16:=⟨Tryz.underlying185,by kernel_rfl,rfl⟩
end
def zt(q:UInt64×UInt64):List Value:=[.int .u64 (q.1.toNat:Int),.int .u64 (q.2.toNat:Int)]
def VW(l:List (UInt64×UInt64)):List Value:=(l.map zt).flatten
theorem wP(l:List (UInt64×UInt64))(a:UInt64×UInt64):VW (l++[a])=VW l++zt a:=by simp [VW]
structure Fv(m:DW)(w:World)(base jb x d p L:Nat)(s:St)(stamp:UInt64)(vs:Value)(l:List Wr)(ps:List (UInt64×UInt64))(over:Bool)(en:Int)(F:Nat->Prop)(v:Value):Prop where
 ix:IX m w x d p L s F
 box:CG w jb 187 (DI x d p stamp vs v over en)
 row:w.ownsRow base 189 2 v ps.length (VW ps)
 set:Ju w (fun b=>F b\/b=jb\/v.ownBlock=some b) vs l
 fj:¬F jb
 bj:base<=jb
 bx:x<base
 bt:0<base/\1<base
 mj:v.ownBlock≠some jb
 mF:∀b,v.ownBlock=some b->¬F b
abbrev Amu:=Fv (.up M0)
def JG(F:Nat->Prop)(jb:Nat)(v:Value)(b:Nat):Prop:=F b\/b=jb\/v.ownBlock=some b
section
variable{m0:DW}{w w':World}{base jb x d p L:Nat}{s:St}{stamp:UInt64}{vs:Value}{l:List Wr}{ps:List (UInt64×UInt64)}{over:Bool}{en:Int}{F:Nat->Prop}{v:Value}
theorem Fv.xj(h:Fv m0 w base jb x d p L s stamp vs l ps over en F v):x≠jb:=by have:=h.bj;have:=h.bx;omega
theorem Fv.gj(h:Fv m0 w base jb x d p L s stamp vs l ps over en F v):0≠jb/\1≠jb:=by have:=h.bj;have:=h.bt;omega
theorem Fv.mlt(h:Fv m0 w base jb x d p L s stamp vs l ps over en F v):∀b,v.ownBlock=some b->base<=b/\b<w.heap.size:=by
 intro b hb;rcases h.row.2 with⟨h1,_⟩| ⟨g,cap,cur,h1,h2,h3,_⟩
 ·subst h1;simp [Ba]at hb
 ·subst h1;simp only [Ba,Option.some.injEq]at hb;subst hb;exact⟨h2,(Array.getElem?_eq_some_iff.1 h3).1⟩
theorem Fv.mx(h:Fv m0 w base jb x d p L s stamp vs l ps over en F v):v.ownBlock≠some x:=fun e=>by have:=(h.mlt x e).1;have:=h.bx;omega
theorem Fv.below(h:Fv m0 w base jb x d p L s stamp vs l ps over en F v)(k:Below w.heap.size w w'):Fv m0 w' base jb x d p L s stamp vs l ps over en F v:=
 ⟨h.ix.below k,h.box.below k h.box.lt,EO h.row (Kept.of_below (r:=some jb) k) (.inl (fun e=>h.mj e.symm)),h.set.below k,h.fj,h.bj,h.bx,h.bt,h.mj,h.mF⟩
theorem Fv.b(h:Fv m0 w base jb x d p L s stamp vs l ps over en F v):NT w jb x d p stamp vs v over en F:=⟨h.box,h.fj⟩
theorem Fv.move(h:Fv m0 w base jb x d p L s stamp vs l ps over en F v){m1:DW}{s':St}{F':Nat->Prop}(hs:IX m1 w' x d p L s' F')(m:AO F F' w w'):Fv m1 w' base jb x d p L s' stamp vs l ps over en F' v/\AO (JG F jb v) (JG F' jb v) w w':=by
 have hjl:=h.box.lt;have hM:AO (JG F jb v) (JG F' jb v) w w':=⟨m.touch.mono (fun b hb=> .inl hb),fun b hb=>by
  rcases hb with h1| h1
  ·exact(m.own b h1).imp .inl id
  ·exact .inl (.inr h1)⟩
 exact⟨⟨hs,h.box.touch m.touch h.fj,H6 h.row m.touch h.mF,h.set.moved hM,fun h'=>(m.own _ h').elim h.fj (fun h''=>by omega),h.bj,h.bx,h.bt,h.mj,fun b hb h'=>(m.own _ h').elim (h.mF b hb) (fun h''=>by have:=(h.mlt b hb).2;omega)⟩,hM⟩
theorem Fv.app(h:Fv m0 w base jb x d p L s stamp vs l ps over en F v)(q:UInt64×UInt64){g c:Nat}{w1:World}
 (hown:w1.ownsRow base 189 2 (.slice (some ⟨g,0,none⟩) (ps.length+1) c) (ps.length+1) (VW ps++zt q))(hb:Below base w w1)(hk:Kept w w1 v.ownBlock)(hg:v.ownBlock=some g\/w.heap.size<=g):
 Fv m0 (w1.setCell ⟨jb,5,none⟩ (.slice (some ⟨g,0,none⟩) (ps.length+1) c)) base jb x d p L s stamp vs l (ps++[q]) over en F (.slice (some ⟨g,0,none⟩) (ps.length+1) c)/\
  AO (JG F jb v) (JG F jb (.slice (some ⟨g,0,none⟩) (ps.length+1) c)) w (w1.setCell ⟨jb,5,none⟩ (.slice (some ⟨g,0,none⟩) (ps.length+1) c)):=by
 have hjl:=h.box.lt;have hgj:g≠jb:=by
  rintro rfl;rcases hg with e| e
  ·exact h.mj e
  ·omega
 have hgF:¬F g:=by
  intro hf;rcases hg with e| e
  ·exact h.mF g e hf
  ·have:=h.ix.sys.lt g hf;omega
 have t1:Touch (fun b=>v.ownBlock=some b) w w1:=⟨hb.os,hb.tape,hb.output,hk.1,fun b hb' hn=>hk.2 b hb' (fun e=>hn e.symm)⟩;have t2:Touch (fun b=>b=jb\/v.ownBlock=some b) w (w1.setCell ⟨jb,5,none⟩ (.slice (some ⟨g,0,none⟩) (ps.length+1) c)):=(t1.mono (fun b=> .inr)).setCell (p:=⟨jb,5,none⟩) (.inl (.inl rfl)) _;have htb:∀{b:Nat},b<base->¬(b=jb\/v.ownBlock=some b):=by
  intro b hb' e;rcases e with rfl| e
  ·have:=h.bj;omega
  ·have:=(h.mlt b e).1;omega
 have hM:AO (JG F jb v) (JG F jb (.slice (some ⟨g,0,none⟩) (ps.length+1) c)) w (w1.setCell ⟨jb,5,none⟩ (.slice (some ⟨g,0,none⟩) (ps.length+1) c)):=⟨t2.mono (fun b hb'=> .inr hb'),fun b hb'=>by
  rcases hb' with h1| h1| h1
  ·exact .inl (.inl h1)
  ·exact .inl (.inr (.inl h1))
  ·simp only [Ba,Option.some.injEq]at h1;rcases hg with e| e
   ·exact .inl (.inr (.inr (h1▸e)))
   ·exact .inr (h1▸e)⟩
 have hs:Ej m0 (w1.setCell ⟨jb,5,none⟩ (.slice (some ⟨g,0,none⟩) (ps.length+1) c)) d p L s F:=h.ix.sys.keep t2 (fun b hb' hn=>hn.elim (fun e=>h.fj (e▸hb')) (fun e=>h.mF b e hb')) (htb h.bt.1) (htb h.bt.2);have hB1:CG w1 jb 187 (DI x d p stamp vs v over en):=(hk.2 jb hjl (fun e=>h.mj e.symm)).trans h.box;refine⟨⟨⟨hs,h.ix.box.touch t2 (fun e=>e.elim h.xj h.mx),h.ix.out⟩,hB1.AZ 5 _,?_,h.set.moved hM,h.fj,h.bj,h.bx,h.bt,by simp [Ba,hgj],?_⟩,hM⟩
 ·have:=EO hown (Kept.AZ w1 jb 5 (.slice (some ⟨g,0,none⟩) (ps.length+1) c)) (.inl (by simp [Ba,Ne.symm hgj]));rw [wP];simpa using this
 ·intro b hb';simp only [Ba,Option.some.injEq]at hb';exact hb'▸hgF
theorem Af1{m1:DW}(h:Fv m0 w base jb x d p L s stamp vs l ps false en F v)(hlt:ps.length<l.length)(Ajf:l.length<=100000){s2:St}{pv pl:UInt64}
 (hwr:∀W',Below w.heap.size w W'->Calls Tryz.prog 93 #[Aw jb,Xe l[ps.length]] W' fun e w''=>e= .returned (.tuple #[.agg #[.int .u64 (pv.toNat:Int),.int .u64 (pl.toNat:Int)],.int .i64 0])/\
  ∃F',IX m1 w'' x d p L s2 F'/\NT w'' jb x d p stamp vs v false en F'/\AO F F' W' w''):
 Calls Tryz.prog 47 #[Aw jb] w fun e w'=>e= .returned (.tuple #[.bool false,.int .i64 0])/\
  ∃F' v',Fv m1 w' base jb x d p L s2 stamp vs l (ps++[(pv,pl)]) false en F' v'/\AO (JG F jb v) (JG F' jb v') w w':=by
 have HN:=Aa (jD jb _ h.box);have j6:=h.box.cell 6;have j5:=h.box.cell 5;have j4:=h.box.cell 4;have HH:=Aa h;obtain⟨A5,c5,hv5,hc5,_⟩:=DN h.row;obtain⟨y,hy⟩:∃y,y=l[ps.length]:=⟨_,rfl⟩;obtain⟨b2,off,c2,hv2,hc2,hbw,hnG,q0,q1,q2⟩:=h.set.at ps.length hlt;rw [<-hy]at q0 q1 q2 hwr;obtain⟨k,hk⟩:∃k,k=ps.length:=⟨_,rfl⟩;obtain⟨n,hn⟩:∃n,n=l.length:=⟨_,rfl⟩;rw [<-hn]at hv2 Ajf hlt;rw [<-hk]at hv5 q0 q1 q2 hlt hc5;unfold DI at j4 j5 j6;simp only [Aj,Az]at j4 j5 j6;rw [hv2]at j4;rw [hv5]at j5;obtain⟨hx1,hx2,hx5⟩:=aJ hlt;have QD:Hid (∀W',Below w.heap.size w W'->W'.cell? ⟨jb,4,none⟩=some (.slice (some ⟨b2,off,none⟩) n c2)/\W'.cell? ⟨jb,5,none⟩=some (.slice A5 k c5)/\W'.cell? ⟨b2,off+k*3,none⟩=some (.string y.key)/\W'.cell? ⟨b2,off+k*3+1,none⟩=some (.string y.text)/\W'.cell? ⟨b2,off+k*3+2,none⟩=some (.bool y.gone)):=Aa (fun W' kk=>
  ⟨by rw [(h.box.below kk h.box.lt).cell 4,<-hv2];rfl,by rw [(h.box.below kk h.box.lt).cell 5,<-hv5];rfl,(Bz (w:=w) (kk.block _ hbw)).trans q0,(Bz (w:=w) (kk.block _ hbw)).trans q1,(Bz (w:=w) (kk.block _ hbw)).trans q2⟩)
 have HWr:=Aa hwr;unfold Xe at HWr;have hjlt:=h.box.lt;have HFn:Hid (¬F w.heap.size):=Aa (fun hf=>absurd (h.ix.sys.lt _ hf) (by omega));have ou:Hid (0≠w.heap.size/\1≠w.heap.size):=Aa (by have:=h.ix.sys.tabs.lt;omega);have HXl:Hid (x≠w.heap.size):=Aa (by have:=h.ix.box.lt;omega);have HK:=Aa hk;clear h hwr hc2 hnG hk hn hy hv2 hv5;go_enter Tryz.func47,Tryz.ntmps47
 go_wp2_with fail
 refine HN.out.mono ?_;rintro e w1⟨rfl,rfl⟩
 go_wp2_with fail
 go_region
 all_goals(go_wp2_with fail)
 all_goals(
  go_region_with(go_at_call 93;refine(HWr.out _ (by first| exact((Dr.drew w).trans (Dr.drew _)).below _| exact(((Dr.drew w).trans (Dr.drew _)).below _).alloc (Ad _) _| exact((((Dr.drew w).below _).alloc (Ad _) _).drew))).mono ?_;rintro e w5⟨rfl,F5,VV,hJ5,Pz⟩;try(have zb:CG w5 w.heap.size 189 [.int .u64 0,.int .u64 0]:=(Pz.touch.block w.heap.size (by simp) HFn.out).trans (heap_alloc_new _ _);have z0:=zb.cell 0;have z1:=zb.cell 1;have XE:=zb.frozen 0;have XF:=zb.frozen 1;simp only [Aj,Az]at z0 z1)))
 all_goals(
  first
  | (have hwb:Below w.heap.size w _:=((Dr.drew w).trans (Dr.drew _)).below w.heap.size
     have hM0:AO F F5 w w5:=(AO.of_below hwb).trans Pz;obtain⟨W6,QE⟩:∃W6,W6=w5.alloc (.cells #[.int .u64 (pv.toNat:Int),.int .u64 (pl.toNat:Int)] 189):=⟨_,rfl⟩;rw [<-QE];have hb6:Below w5.heap.size w5 W6:=QE▸(Below.refl _ _).alloc (Ad _) _;have P6:CG W6 w5.heap.size 189 [.int .u64 (pv.toNat:Int),.int .u64 (pl.toNat:Int)]:=QE▸heap_alloc_new _ _;have X6:=VV.below hb6;have M6:AO F F5 w W6:=hM0.below hb6;obtain⟨g,hg⟩:∃g,g=w5.heap.size:=⟨_,rfl⟩;rw [<-hg]at P6⊢;clear hwb hM0 QE hb6 hg VV hJ5 Pz)
  | (have hwb:Below w.heap.size w _:=(((Below.refl w.heap.size w).alloc (Ad _) (.cells #[.int .u64 0,.int .u64 0] 189)).drew).drew
     have hM0:AO F F5 w w5:=(AO.of_below hwb).trans Pz;obtain⟨W6,QE⟩:∃W6,W6=(w5.setCell ⟨w.heap.size,0,none⟩ (.int .u64 (pv.toNat:Int))).setCell ⟨w.heap.size,1,none⟩ (.int .u64 (pl.toNat:Int)):=⟨_,rfl⟩;rw [<-QE];have t6:Touch (fun k=>k=w.heap.size) w5 W6:=QE▸((Touch.refl (fun k=>k=w.heap.size) w5).setCell (p:=⟨w.heap.size,0,none⟩) (.inl rfl) _).setCell (p:=⟨w.heap.size,1,none⟩) (.inl rfl) _;have P6:CG W6 w.heap.size 189 [.int .u64 (pv.toNat:Int),.int .u64 (pl.toNat:Int)]:=by rw [QE];exact(zb.AZ 0 (.int .u64 (pv.toNat:Int))).AZ 1 (.int .u64 (pl.toNat:Int))
     have hnf:¬F5 w.heap.size:=fun h6=>(Pz.own _ h6).elim HFn.out (fun hs=>absurd hs (by simp))
     have X6:IX m1 W6 x d p L s2 F5:=⟨VV.sys.keep t6 (fun b hb e=>hnf (e▸hb)) ou.out.1 ou.out.2,VV.box.touch t6 HXl.out,VV.out⟩;have M6:AO F F5 w W6:=by rw [QE];exact(hM0.set (p:=⟨w.heap.size,0,none⟩) (.inr (Ad _)) _).set (p:=⟨w.heap.size,1,none⟩) (.inr (Ad _)) _
     obtain⟨g,hg⟩:∃g,g=w.heap.size:=⟨_,rfl⟩;rw [<-hg]at P6⊢;clear hwb hM0 QE t6 hnf hg VV hJ5 Pz zb z0 z1 XE XF))
 all_goals(
  obtain⟨jF,hMJ⟩:=HH.out.move X6 M6;have p0:=P6.cell 0;have p1:=P6.cell 1;have l5:=jF.box.cell 5;have k5:=jF.box.frozen 5;have QH:v.ownBlock≠some jb:=jF.mj;obtain⟨A6,c6,hv6,_,_⟩:=DN jF.row;have hrow:=jF.row;have hbb:base<=W6.heap.size:=Nat.le_of_lt (Nat.lt_of_le_of_lt jF.bj jF.box.lt);unfold DI at l5;simp only [Aj,Az]at p0 p1 l5;rw [<-HK.out]at hv6 hrow;rw [hv6]at l5;have HC6:=Aa jF;have HMJ:=Aa hMJ;have iV:=Aa hrow;have HV6:=Aa hv6;have hjl:=jF.box.lt;have hgl:=P6.lt;have KO:=Aa jF.box;clear X6 M6 P6 j4 j5 j6 q0 q1 q2 HWr QD HN HFn jF hMJ hrow hv6
  go_wp2_with fail)
 all_goals(
  go_region_law(refine MV rfl (.tmp 53) (.tmp 55) 185 rfl Tryz.Aje W6 base v k (VW ps) [.int .u64 (pv.toNat:Int),.int .u64 (pl.toNat:Int)] HV6.out.symm iV.out rfl rfl rfl rfl W6.heap.size 1 rfl rfl rfl (by decide) (by intro u hu;simp at hu;rcases hu with rfl| rfl<;>rfl) (by omega) (by decide) hbb ?_;intro g9 c9 w9 hO9 hB9 hK9 hg9;have Amv:CG w9 jb 187 (DI x d p stamp vs v false en):=(hK9.2 jb hjl (fun e=>QH e.symm)).trans KO.out;have n5:=Amv.cell 5;have m5:=Amv.frozen 5;unfold DI at n5;simp only [Aj,Az]at n5))
 all_goals(
  have HO9:=Aa hO9;have vM:=Aa hB9;have HK9:=Aa hK9;have HG9:=Aa hg9;clear p0 p1 l5 k5 hO9 hB9 hK9 hg9 Amv
  go_wp2_with fail
  go_ret2;have hkk:=HK.out;subst hkk;obtain⟨hC9,hM9⟩:=HC6.out.app (pv,pl) HO9.out vM.out HK9.out HG9.out;exact⟨rfl,F5,_,hC9,HMJ.out.trans hM9⟩)
theorem wQ(h:Amu w base jb x d p L s stamp vs l ps false en F v)(hlen:ps.length=l.length):
 Calls Tryz.prog 47 #[Aw jb] w fun e w'=>e= .returned (.tuple #[.bool true,.int .i64 0])/\
  ∃F',Ix w' x d p L {s with ws:=Gg s.ws 8 stamp} F'/\(∃A n c B c2,NT w' jb x d p stamp (.slice A n c) (.slice B n c2) true en F')/\AO (JG F jb v) (JG F' jb v) w w':=by
 obtain⟨A,c,hvs⟩:=h.set.slice;obtain⟨B,c2,hv,_,_⟩:=DN h.row;have hj:=h.b;rw [hvs,hv,hlen]at hj;refine(Amt h.ix hj h.xj h.gj).mono ?_;rintro e w'⟨rfl,F',hx,hj',m⟩;refine⟨rfl,F',hx,⟨A,l.length,c,B,c2,hj'⟩,m.touch.mono (fun b hb=>hb.imp id .inl),fun b hb=> ?_⟩;rcases hb with h1| h1| h1
 ·exact(m.own b (.inl h1)).imp (fun h2=>h2.imp id .inl) id
 ·exact .inl (.inr (.inl h1))
 ·exact .inl (.inr (.inr h1))
end
def VX:List Wr->Bool
 | []=>true
 | [_]=>true
 | a::b::t=>Op.bytesLess a.key.toList b.key.toList&&VX (b::t)
def ZF(l:List Wr)(k:Nat):Prop:=∀j(h:j+1<l.length),j+1<k->Op.bytesLess (l[j]'(by omega)).key.toList l[j+1].key.toList=true
theorem VY:∀(l:List Wr),ZF l l.length<->VX l=true
 | []=>⟨fun _=>rfl,fun _ j h=>by simp at h⟩
 | [a]=>⟨fun _=>rfl,fun _ j h=>by simp at h⟩
 | a::b::t=>by
   have ih:=VY (b::t);simp only [VX,Bool.and_eq_true];rw [<-ih];constructor
   ·intro h;exact⟨h 0 (by simp) (by simp),fun j hj hk=>h (j+1) (by simp at hj⊢;omega) (by simp at hk⊢;omega)⟩
   ·rintro⟨h1,h2⟩j hj hk;cases j with
    | zero=>exact h1
    | succ j=>exact h2 j (by simp at hj⊢;omega) (by simp at hk⊢;omega)
theorem Af2{l:List Wr}{m:Nat}(hm:m+1<l.length)(h:Op.bytesLess (l[m]'(by omega)).key.toList l[m+1].key.toList=false):VX l=false:=by
 cases hb:VX l
 ·rfl
 ·have:=(VY l).2 hb m hm (by omega);rw [h]at this;cases this
