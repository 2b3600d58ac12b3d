import Derived.Deep.RegionHeldLaw
import Derived.Test.YtjcppneoncpdbaaGreatDoorG04
import Derived.Test.YtjcppneoncpdbaaGreatDoorG13
import Derived.Test.YtjcppneoncpdbaaGreatDoorG21
set_option maxHeartbeats 32000000
set_option maxRecDepth 100000
open Go.Lib renaming hid->Aa
open List renaming getElem?_cons_zero->Ad,getElem?_cons_succ->Af
open Go.Value renaming ownBlock->AX
open Go.World renaming cell?_of_block->Bl
open Nat renaming le_refl->Ae
namespace Go.Proofs.YtjcppneoncpdbaaGreatDoor
open Go.RowKit
section
variable{w w':World}{x d p L:Nat}{s:St}{F:Nat->Prop}
theorem Ahs(h:Ix w x d p L s F){jb:Nat}{stamp:UInt64}{en:Int}{n c c2:Nat}{A B:Option Addr}(hj:Jj w jb x d p stamp (.slice A n c) (.slice B n c2) false en F)(hnx:x≠jb)(hg:0≠jb/\1≠jb):
 Calls Tryz.prog 17 #[.pointer (some ⟨jb,0,none⟩)] w fun e w'=>e= .returned (.tuple #[.bool true,.int .i64 0])/\
  ∃F',Ix w' x d p L {s with ws:=FO s.ws 8 stamp} F'/\Jj w' jb x d p stamp (.slice A n c) (.slice B n c2) true en F'/\AB (fun b=>F b\/b=jb) (fun b=>F' b\/b=jb) w w':=by
 have hL2:=h.sys.pos.2.2.1.fits;have hL3:=h.sys.pos.2.2.1.NR;have HN:=Aa (eP jb _ hj.box);have j6:=hj.box.cell 6;have j5:=hj.box.cell 5;have j4:=hj.box.cell 4;have j3:=hj.box.cell 3;have j0:=hj.box.cell 0;unfold BU at j0 j3 j4 j5 j6;simp only [Ad,Af]at j0 j3 j4 j5 j6;have HX:=Aa h;have HJ:=Aa hj;have HP:=Aa (fun W'(k:Below w.heap.size w W')=>WJ (h.sys.below k) 8 stamp (by omega));rw [show((8*8:Nat):Int)=64 from rfl]at HP;have HG:=Aa hg;have HNX:=Aa hnx;have HK:Hid (∀W',Touch F w W'->W'.cell? ⟨jb,0,none⟩=some (.pointer (some ⟨d,0,none⟩))/\W'.cell? ⟨jb,3,none⟩=some (.int .u64 (stamp.toNat:Int))):=Aa (fun W' k=>⟨(hj.box.touch k hj.out).cell 0,(hj.box.touch k hj.out).cell 3⟩);have t1:decide ((n:Int)<(n:Int))=false:=decide_eq_false (by omega);have t2:decide (n<n)=false:=decide_eq_false (by omega);clear h hj hL2 hL3 hg hnx;go_enter Tryz.func17,Tryz.ntmps17
 go_wp2_with fail
 refine HN.out.mono ?_;rintro e w1⟨rfl,rfl⟩
 go_wp2_with fail
 go_region
 all_goals(go_wp2_with fail)
 all_goals(
  go_region_held3(fun w'=>w'.cell? ⟨jb,0,none⟩=some (.pointer (some ⟨d,0,none⟩))/\w'.cell? ⟨jb,3,none⟩=some (.int .u64 (stamp.toNat:Int)))
   (first| exact⟨j0,j3⟩| exact HK.out _ Ig.touch)
   ((first| (go_at_call 50;refine(HP.out _ (((Dr.drew w).trans (Dr.drew _)).below _)).mono ?_;rintro e w5⟨rfl,F5,hS5,Gg⟩;have Ig:AB F F5 w w5:=(AB.of_below (((Dr.drew w).trans (Dr.drew _)).below _)).trans Gg))))
 all_goals(
  have LZ:Ix w5 x d p L {s with ws:=FO s.ws 8 stamp} F5:=HX.out.move hS5 Ig;have ja:=HJ.out.box.touch Ig.touch HJ.out.out;have c6:=ja.cell 6;have f6:=ja.frozen 6;unfold BU at c6;simp only [Ad,Af]at c6;have YJ:=Aa LZ;have Ou:=Aa ja;have KA:=Aa Ig;clear LZ ja Ig Gg hS5 HP HK j0 j3 j4 j5 j6
  go_wp2_with fail
  go_ret2)
 all_goals(
  have hnf:¬F5 jb:=KA.out.out HJ.out.box.lt HJ.out.out;have Ny:Touch (fun k=>k=jb) w5 (w5.setCell ⟨jb,6,none⟩ (.bool true)):=(Touch.refl (fun k=>k=jb) w5).setCell (p:=⟨jb,6,none⟩) (.inl rfl) _;refine⟨rfl,F5,⟨YJ.out.sys.keep Ny (fun b hb e=>hnf (e▸hb)) HG.out.1 HG.out.2,YJ.out.box.touch Ny HNX.out,YJ.out.out⟩,⟨by
   have:=Ou.out.AU 6 (.bool true);unfold BU at this⊢;simpa only [List.set_cons_zero,List.set_cons_succ]using this,hnf⟩,?_⟩
  exact⟨(KA.out.touch.mono (fun _ hb=> .inl hb)).trans (Ny.mono (fun _ e=> .inr e)) (fun _ e=> .inl e),fun b hb=>by
   rcases hb with hb| hb
   ·exact(KA.out.own b hb).imp .inl id
   ·exact .inl (.inr hb)⟩)
theorem Tryz.Aex:J4 Tryz.prog 111 115 (.agg #[.int .u64 0,.int .u64 0]) 2 16:=⟨Tryz.underlying111,by kernel_rfl,rfl⟩
end
def uG(q:UInt64×UInt64):List Value:=[.int .u64 (q.1.toNat:Int),.int .u64 (q.2.toNat:Int)]
def UZ(l:List (UInt64×UInt64)):List Value:=(l.map uG).flatten
theorem qL(l:List (UInt64×UInt64))(a:UInt64×UInt64):UZ (l++[a])=UZ l++uG a:=by simp [UZ]
structure ES(m:DX)(w:World)(base jb x d p L:Nat)(s:St)(stamp:UInt64)(vs:Value)(l:List Wr)(ps:List (UInt64×UInt64))(over:Bool)(en:Int)(F:Nat->Prop)(v:Value):Prop where
 ix:Nv m w x d p L s F
 box:BI w jb 113 (BU x d p stamp vs v over en)
 row:w.ownsRow base 115 2 v ps.length (UZ ps)
 set:H9 w (fun b=>F b\/b=jb\/v.ownBlock=some b) vs l
 fj:¬F jb
 bj:base<=jb
 bx:x<base
 bt:0<base/\1<base
 mj:v.ownBlock≠some jb
 mF:∀b,v.ownBlock=some b->¬F b
abbrev xN:=ES (.up M0)
def JG(F:Nat->Prop)(jb:Nat)(v:Value)(b:Nat):Prop:=F b\/b=jb\/v.ownBlock=some b
section
variable{m0:DX}{w w':World}{base jb x d p L:Nat}{s:St}{stamp:UInt64}{vs:Value}{l:List Wr}{ps:List (UInt64×UInt64)}{over:Bool}{en:Int}{F:Nat->Prop}{v:Value}
theorem ES.xj(h:ES m0 w base jb x d p L s stamp vs l ps over en F v):x≠jb:=by have:=h.bj;have:=h.bx;omega
theorem ES.gj(h:ES m0 w base jb x d p L s stamp vs l ps over en F v):0≠jb/\1≠jb:=by have:=h.bj;have:=h.bt;omega
theorem ES.mlt(h:ES m0 w base jb x d p L s stamp vs l ps over en F v):∀b,v.ownBlock=some b->base<=b/\b<w.heap.size:=by
 intro b hb;rcases h.row.2 with⟨h1,_⟩| ⟨g,cap,cur,h1,h2,h3,_⟩
 ·subst h1;simp [AX]at hb
 ·subst h1;simp only [AX,Option.some.injEq]at hb;subst hb;exact⟨h2,(Array.getElem?_eq_some_iff.1 h3).1⟩
theorem ES.mx(h:ES m0 w base jb x d p L s stamp vs l ps over en F v):v.ownBlock≠some x:=fun e=>by have:=(h.mlt x e).1;have:=h.bx;omega
theorem ES.below(h:ES m0 w base jb x d p L s stamp vs l ps over en F v)(k:Below w.heap.size w w'):ES m0 w' base jb x d p L s stamp vs l ps over en F v:=
 ⟨h.ix.below k,h.box.below k h.box.lt,ED h.row (Kept.of_below (r:=some jb) k) (.inl (fun e=>h.mj e.symm)),h.set.below k,h.fj,h.bj,h.bx,h.bt,h.mj,h.mF⟩
theorem ES.b(h:ES m0 w base jb x d p L s stamp vs l ps over en F v):Jj w jb x d p stamp vs v over en F:=⟨h.box,h.fj⟩
theorem ES.move(h:ES m0 w base jb x d p L s stamp vs l ps over en F v){m1:DX}{s':St}{F':Nat->Prop}(hs:Nv m1 w' x d p L s' F')(m:AB F F' w w'):ES m1 w' base jb x d p L s' stamp vs l ps over en F' v/\AB (JG F jb v) (JG F' jb v) w w':=by
 have hjl:=h.box.lt;have hM:AB (JG F jb v) (JG F' jb v) w w':=⟨m.touch.mono (fun b hb=> .inl hb),fun b hb=>by
  rcases hb with h1| h1
  ·exact(m.own b h1).imp .inl id
  ·exact .inl (.inr h1)⟩
 exact⟨⟨hs,h.box.touch m.touch h.fj,GY h.row m.touch h.mF,h.set.moved hM,fun h'=>(m.own _ h').elim h.fj (fun h''=>by omega),h.bj,h.bx,h.bt,h.mj,fun b hb h'=>(m.own _ h').elim (h.mF b hb) (fun h''=>by have:=(h.mlt b hb).2;omega)⟩,hM⟩
theorem ES.app(h:ES m0 w base jb x d p L s stamp vs l ps over en F v)(q:UInt64×UInt64){g c:Nat}{w1:World}
 (hown:w1.ownsRow base 115 2 (.slice (some ⟨g,0,none⟩) (ps.length+1) c) (ps.length+1) (UZ ps++uG q))(hb:Below base w w1)(hk:Kept w w1 v.ownBlock)(hg:v.ownBlock=some g\/w.heap.size<=g):
 ES m0 (w1.setCell ⟨jb,5,none⟩ (.slice (some ⟨g,0,none⟩) (ps.length+1) c)) base jb x d p L s stamp vs l (ps++[q]) over en F (.slice (some ⟨g,0,none⟩) (ps.length+1) c)/\
  AB (JG F jb v) (JG F jb (.slice (some ⟨g,0,none⟩) (ps.length+1) c)) w (w1.setCell ⟨jb,5,none⟩ (.slice (some ⟨g,0,none⟩) (ps.length+1) c)):=by
 have hjl:=h.box.lt;have hgj:g≠jb:=by
  rintro rfl;rcases hg with e| e
  ·exact h.mj e
  ·omega
 have hgF:¬F g:=by
  intro hf;rcases hg with e| e
  ·exact h.mF g e hf
  ·have:=h.ix.sys.lt g hf;omega
 have t1:Touch (fun b=>v.ownBlock=some b) w w1:=⟨hb.os,hb.tape,hb.output,hk.1,fun b hb' hn=>hk.2 b hb' (fun e=>hn e.symm)⟩;have t2:Touch (fun b=>b=jb\/v.ownBlock=some b) w (w1.setCell ⟨jb,5,none⟩ (.slice (some ⟨g,0,none⟩) (ps.length+1) c)):=(t1.mono (fun b=> .inr)).setCell (p:=⟨jb,5,none⟩) (.inl (.inl rfl)) _;have htb:∀{b:Nat},b<base->¬(b=jb\/v.ownBlock=some b):=by
  intro b hb' e;rcases e with rfl| e
  ·have:=h.bj;omega
  ·have:=(h.mlt b e).1;omega
 have hM:AB (JG F jb v) (JG F jb (.slice (some ⟨g,0,none⟩) (ps.length+1) c)) w (w1.setCell ⟨jb,5,none⟩ (.slice (some ⟨g,0,none⟩) (ps.length+1) c)):=⟨t2.mono (fun b hb'=> .inr hb'),fun b hb'=>by
  rcases hb' with h1| h1| h1
  ·exact .inl (.inl h1)
  ·exact .inl (.inr (.inl h1))
  ·simp only [AX,Option.some.injEq]at h1;rcases hg with e| e
   ·exact .inl (.inr (.inr (h1▸e)))
   ·exact .inr (h1▸e)⟩
 have hs:EL m0 (w1.setCell ⟨jb,5,none⟩ (.slice (some ⟨g,0,none⟩) (ps.length+1) c)) d p L s F:=h.ix.sys.keep t2 (fun b hb' hn=>hn.elim (fun e=>h.fj (e▸hb')) (fun e=>h.mF b e hb')) (htb h.bt.1) (htb h.bt.2);have hB1:BI w1 jb 113 (BU x d p stamp vs v over en):=(hk.2 jb hjl (fun e=>h.mj e.symm)).trans h.box;refine⟨⟨⟨hs,h.ix.box.touch t2 (fun e=>e.elim h.xj h.mx),h.ix.out⟩,hB1.AU 5 _,?_,h.set.moved hM,h.fj,h.bj,h.bx,h.bt,by simp [AX,hgj],?_⟩,hM⟩
 ·have:=ED hown (Kept.AU w1 jb 5 (.slice (some ⟨g,0,none⟩) (ps.length+1) c)) (.inl (by simp [AX,Ne.symm hgj]));rw [qL];simpa using this
 ·intro b hb';simp only [AX,Option.some.injEq]at hb';exact hb'▸hgF
theorem kD{m1:DX}(h:ES m0 w base jb x d p L s stamp vs l ps false en F v)(hlt:ps.length<l.length)(Aey:l.length<=100000){s2:St}{pv pl:UInt64}
 (hwr:∀W',Below w.heap.size w W'->Calls Tryz.prog 48 #[.pointer (some ⟨jb,0,none⟩),NV l[ps.length]] W' fun e w''=>e= .returned (.tuple #[.agg #[.int .u64 (pv.toNat:Int),.int .u64 (pl.toNat:Int)],.int .i64 0])/\
  ∃F',Nv m1 w'' x d p L s2 F'/\Jj w'' jb x d p stamp vs v false en F'/\AB F F' W' w''):
 Calls Tryz.prog 17 #[.pointer (some ⟨jb,0,none⟩)] w fun e w'=>e= .returned (.tuple #[.bool false,.int .i64 0])/\
  ∃F' v',ES m1 w' base jb x d p L s2 stamp vs l (ps++[(pv,pl)]) false en F' v'/\AB (JG F jb v) (JG F' jb v') w w':=by
 have HN:=Aa (eP jb _ h.box);have j6:=h.box.cell 6;have j5:=h.box.cell 5;have j4:=h.box.cell 4;have HH:=Aa h;obtain⟨A5,c5,hv5,hc5,_⟩:=Ea h.row;obtain⟨y,hy⟩:∃y,y=l[ps.length]:=⟨_,rfl⟩;obtain⟨b2,off,c2,hv2,hc2,hbw,hnG,q0,q1,q2⟩:=h.set.at ps.length hlt;rw [<-hy]at q0 q1 q2 hwr;obtain⟨k,hk⟩:∃k,k=ps.length:=⟨_,rfl⟩;obtain⟨n,hn⟩:∃n,n=l.length:=⟨_,rfl⟩;rw [<-hn]at hv2 Aey hlt;rw [<-hk]at hv5 q0 q1 q2 hlt hc5;unfold BU at j4 j5 j6;simp only [Ad,Af]at j4 j5 j6;rw [hv2]at j4;rw [hv5]at j5;have hx1:(k:Int)<(n:Int):=by omega
 have hx2:decide ((k:Int)<(n:Int))=true:=decide_eq_true hx1;have hx5:decide (k<n)=true:=decide_eq_true hlt;have SL:Hid (∀W',Below w.heap.size w W'->W'.cell? ⟨jb,4,none⟩=some (.slice (some ⟨b2,off,none⟩) n c2)/\W'.cell? ⟨jb,5,none⟩=some (.slice A5 k c5)/\W'.cell? ⟨b2,off+k*3,none⟩=some (.string y.key)/\W'.cell? ⟨b2,off+k*3+1,none⟩=some (.string y.text)/\W'.cell? ⟨b2,off+k*3+2,none⟩=some (.bool y.gone)):=Aa (fun W' kk=>
  ⟨by rw [(h.box.below kk h.box.lt).cell 4,<-hv2];rfl,by rw [(h.box.below kk h.box.lt).cell 5,<-hv5];rfl,(Bl (w:=w) (kk.block _ hbw)).trans q0,(Bl (w:=w) (kk.block _ hbw)).trans q1,(Bl (w:=w) (kk.block _ hbw)).trans q2⟩)
 have HWr:=Aa hwr;unfold NV at HWr;have hjlt:=h.box.lt;have HFn:Hid (¬F w.heap.size):=Aa (fun hf=>absurd (h.ix.sys.lt _ hf) (by omega));have jM:Hid (0≠w.heap.size/\1≠w.heap.size):=Aa (by have:=h.ix.sys.tabs.lt;omega);have HXl:Hid (x≠w.heap.size):=Aa (by have:=h.ix.box.lt;omega);have HK:=Aa hk;clear h hwr hc2 hnG hk hn hy hv2 hv5;go_enter Tryz.func17,Tryz.ntmps17
 go_wp2_with fail
 refine HN.out.mono ?_;rintro e w1⟨rfl,rfl⟩
 go_wp2_with fail
 go_region
 all_goals(go_wp2_with fail)
 all_goals(
  go_region_with(go_at_call 48;refine(HWr.out _ (by first| exact((Dr.drew w).trans (Dr.drew _)).below _| exact(((Dr.drew w).trans (Dr.drew _)).below _).alloc (Ae _) _| exact((((Dr.drew w).below _).alloc (Ae _) _).drew))).mono ?_;rintro e w5⟨rfl,F5,LZ,hJ5,Ig⟩;try(have zb:BI w5 w.heap.size 115 [.int .u64 0,.int .u64 0]:=(Ig.touch.block w.heap.size (by simp) HFn.out).trans (heap_alloc_new _ _);have z0:=zb.cell 0;have z1:=zb.cell 1;have Wy:=zb.frozen 0;have WA:=zb.frozen 1;simp only [Ad,Af]at z0 z1)))
 all_goals(
  first
  | (have hwb:Below w.heap.size w _:=((Dr.drew w).trans (Dr.drew _)).below w.heap.size
     have hM0:AB F F5 w w5:=(AB.of_below hwb).trans Ig;obtain⟨W6,Qh⟩:∃W6,W6=w5.alloc (.cells #[.int .u64 (pv.toNat:Int),.int .u64 (pl.toNat:Int)] 115):=⟨_,rfl⟩;rw [<-Qh];have hb6:Below w5.heap.size w5 W6:=Qh▸(Below.refl _ _).alloc (Ae _) _;have P6:BI W6 w5.heap.size 115 [.int .u64 (pv.toNat:Int),.int .u64 (pl.toNat:Int)]:=Qh▸heap_alloc_new _ _;have X6:=LZ.below hb6;have M6:AB F F5 w W6:=hM0.below hb6;obtain⟨g,hg⟩:∃g,g=w5.heap.size:=⟨_,rfl⟩;rw [<-hg]at P6⊢;clear hwb hM0 Qh hb6 hg LZ hJ5 Ig)
  | (have hwb:Below w.heap.size w _:=(((Below.refl w.heap.size w).alloc (Ae _) (.cells #[.int .u64 0,.int .u64 0] 115)).drew).drew
     have hM0:AB F F5 w w5:=(AB.of_below hwb).trans Ig;obtain⟨W6,Qh⟩:∃W6,W6=(w5.setCell ⟨w.heap.size,0,none⟩ (.int .u64 (pv.toNat:Int))).setCell ⟨w.heap.size,1,none⟩ (.int .u64 (pl.toNat:Int)):=⟨_,rfl⟩;rw [<-Qh];have t6:Touch (fun k=>k=w.heap.size) w5 W6:=Qh▸((Touch.refl (fun k=>k=w.heap.size) w5).setCell (p:=⟨w.heap.size,0,none⟩) (.inl rfl) _).setCell (p:=⟨w.heap.size,1,none⟩) (.inl rfl) _;have P6:BI W6 w.heap.size 115 [.int .u64 (pv.toNat:Int),.int .u64 (pl.toNat:Int)]:=by rw [Qh];exact(zb.AU 0 (.int .u64 (pv.toNat:Int))).AU 1 (.int .u64 (pl.toNat:Int))
     have hnf:¬F5 w.heap.size:=fun h6=>(Ig.own _ h6).elim HFn.out (fun hs=>absurd hs (by simp))
     have X6:Nv m1 W6 x d p L s2 F5:=⟨LZ.sys.keep t6 (fun b hb e=>hnf (e▸hb)) jM.out.1 jM.out.2,LZ.box.touch t6 HXl.out,LZ.out⟩;have M6:AB F F5 w W6:=by rw [Qh];exact(hM0.set (p:=⟨w.heap.size,0,none⟩) (.inr (Ae _)) _).set (p:=⟨w.heap.size,1,none⟩) (.inr (Ae _)) _
     obtain⟨g,hg⟩:∃g,g=w.heap.size:=⟨_,rfl⟩;rw [<-hg]at P6⊢;clear hwb hM0 Qh t6 hnf hg LZ hJ5 Ig zb z0 z1 Wy WA))
 all_goals(
  obtain⟨eX,hMJ⟩:=HH.out.move X6 M6;have p0:=P6.cell 0;have p1:=P6.cell 1;have l5:=eX.box.cell 5;have k5:=eX.box.frozen 5;have Qi:v.ownBlock≠some jb:=eX.mj;obtain⟨A6,c6,hv6,_,_⟩:=Ea eX.row;have hrow:=eX.row;have hbb:base<=W6.heap.size:=Nat.le_of_lt (Nat.lt_of_le_of_lt eX.bj eX.box.lt);unfold BU at l5;simp only [Ad,Af]at p0 p1 l5;rw [<-HK.out]at hv6 hrow;rw [hv6]at l5;have HC6:=Aa eX;have HMJ:=Aa hMJ;have dH:=Aa hrow;have HV6:=Aa hv6;have hjl:=eX.box.lt;have hgl:=P6.lt;have NH:=Aa eX.box;clear X6 M6 P6 j4 j5 j6 q0 q1 q2 HWr SL HN HFn eX hMJ hrow hv6
  go_wp2_with fail)
 all_goals(
  go_region_law(refine MJ rfl (.tmp 53) (.tmp 55) 111 rfl Tryz.Aex W6 base v k (UZ ps) [.int .u64 (pv.toNat:Int),.int .u64 (pl.toNat:Int)] HV6.out.symm dH.out rfl rfl rfl rfl W6.heap.size 1 rfl rfl rfl (by decide) (by intro u hu;simp at hu;rcases hu with rfl| rfl<;>rfl) (by omega) (by decide) hbb ?_;intro g9 c9 w9 hO9 hB9 hK9 hg9;have Aht:BI w9 jb 113 (BU x d p stamp vs v false en):=(hK9.2 jb hjl (fun e=>Qi e.symm)).trans NH.out;have n5:=Aht.cell 5;have m5:=Aht.frozen 5;unfold BU at n5;simp only [Ad,Af]at n5))
 all_goals(
  have HO9:=Aa hO9;have dQ:=Aa hB9;have HK9:=Aa hK9;have HG9:=Aa hg9;clear p0 p1 l5 k5 hO9 hB9 hK9 hg9 Aht
  go_wp2_with fail
  go_ret2;have hkk:=HK.out;subst hkk;obtain⟨hC9,hM9⟩:=HC6.out.app (pv,pl) HO9.out dQ.out HK9.out HG9.out;exact⟨rfl,F5,_,hC9,HMJ.out.trans hM9⟩)
theorem Yv(h:xN w base jb x d p L s stamp vs l ps false en F v)(hlen:ps.length=l.length):
 Calls Tryz.prog 17 #[.pointer (some ⟨jb,0,none⟩)] w fun e w'=>e= .returned (.tuple #[.bool true,.int .i64 0])/\
  ∃F',Ix w' x d p L {s with ws:=FO s.ws 8 stamp} F'/\(∃A n c B c2,Jj w' jb x d p stamp (.slice A n c) (.slice B n c2) true en F')/\AB (JG F jb v) (JG F' jb v) w w':=by
 obtain⟨A,c,hvs⟩:=h.set.slice;obtain⟨B,c2,hv,_,_⟩:=Ea h.row;have hj:=h.b;rw [hvs,hv,hlen]at hj;refine(Ahs h.ix hj h.xj h.gj).mono ?_;rintro e w'⟨rfl,F',hx,hj',m⟩;refine⟨rfl,F',hx,⟨A,l.length,c,B,c2,hj'⟩,m.touch.mono (fun b hb=>hb.imp id .inl),fun b hb=> ?_⟩;rcases hb with h1| h1| h1
 ·exact(m.own b (.inl h1)).imp (fun h2=>h2.imp id .inl) id
 ·exact .inl (.inr (.inl h1))
 ·exact .inl (.inr (.inr h1))
end
def Va:List Wr->Bool
 | []=>true
 | [_]=>true
 | a::b::t=>Op.bytesLess a.key.toList b.key.toList&&Va (b::t)
def Yw(l:List Wr)(k:Nat):Prop:=∀j(h:j+1<l.length),j+1<k->Op.bytesLess (l[j]'(by omega)).key.toList l[j+1].key.toList=true
theorem Vb:∀(l:List Wr),Yw l l.length<->Va l=true
 | []=>⟨fun _=>rfl,fun _ j h=>by simp at h⟩
 | [a]=>⟨fun _=>rfl,fun _ j h=>by simp at h⟩
 | a::b::t=>by
   have ih:=Vb (b::t);simp only [Va,Bool.and_eq_true];rw [<-ih];constructor
   ·intro h;exact⟨h 0 (by simp) (by simp),fun j hj hk=>h (j+1) (by simp at hj⊢;omega) (by simp at hk⊢;omega)⟩
   ·rintro⟨h1,h2⟩j hj hk;cases j with
    | zero=>exact h1
    | succ j=>exact h2 j (by simp at hj⊢;omega) (by simp at hk⊢;omega)
theorem Abr{l:List Wr}{m:Nat}(hm:m+1<l.length)(h:Op.bytesLess (l[m]'(by omega)).key.toList l[m+1].key.toList=false):Va l=false:=by
 cases hb:Va l
 ·rfl
 ·have:=(Vb l).2 hb m hm (by omega);rw [h]at this;cases this
end Go.Proofs.YtjcppneoncpdbaaGreatDoor
