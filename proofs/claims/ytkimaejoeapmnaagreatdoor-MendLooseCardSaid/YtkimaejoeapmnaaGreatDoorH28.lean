import Derived.Deep.RegionHeldLaw
import Derived.Test.YtkimaejoeapmnaaGreatDoorH27
set_option linter.defProp false
set_option maxHeartbeats 32000000
set_option maxRecDepth 100000
open Go.Lib renaming hid->Aa
open List renaming getElem?_cons_zero->Am,getElem?_cons_succ->AA
open Go.Value renaming ownBlock->Bd
open Go.World renaming cell?_of_block->BA
open Nat renaming le_refl->Ad
namespace Go.Proofs.YtkimaejoeapmnaaGreatDoor
open Go.RowKit
open Go.Proofs.Tryz
section
variable{w w':World}{x d p L:Nat}{s:St}{F:Nat->Prop}
def Aoe(h:Ix w x d p L s F){jb:Nat}{stamp:UInt64}{en:Int}{n c c2:Nat}{A B:Option Addr}(hj:Nl w jb x d p stamp (.slice A n c) (.slice B n c2) false en F)(hnx:x≠jb)(hg:0≠jb/\1≠jb):
 Calls prog 47 #[Az jb] w λe w'=>e= .returned (.tuple #[.bool true,.int .i64 0])/\
  ∃F',Ix w' x d p L {s with ws:=FN s.ws 8 stamp} F'/\Nl w' jb x d p stamp (.slice A n c) (.slice B n c2) true en F'/\AP (λb=>F b\/b=jb) (λb=>F' b\/b=jb) w w':=by
 have hL2:=h.sys.pos.2.2.1.fits;have hL3:=h.sys.pos.2.2.1.Le;have HN:=Aa (kZ jb _ hj.box);have j6:=hj.box.cell 6;have j5:=hj.box.cell 5;have j4:=hj.box.cell 4;have j3:=hj.box.cell 3;have j0:=hj.box.cell 0;unfold DN at j0 j3 j4 j5 j6;simp only [Am,AA]at j0 j3 j4 j5 j6;have HX:=Aa h;have HJ:=Aa hj;have HP:=Aa (λW'(k:η w W')=>Ajv (h.sys.below k) 8 stamp O);rw [show((8*8:Nat):Int)=64 from rfl]at HP;have HG:=Aa hg;have HNX:=Aa hnx;have HK:Hid (∀W',Touch F w W'->W'.cell? (Φ jb)=some (Az d)/\W'.cell? (Δ jb 3)=some (.int .u64 (stamp.toNat:Int))):=Aa (λW' k=>⟨(hj.box.touch k hj.out).cell 0,(hj.box.touch k hj.out).cell 3⟩);have t1:decide ((n:Int)<(n:Int))=false:=decide_eq_false O;have t2:decide (n<n)=false:=decide_eq_false O;clear h hj hL2 hL3 hg hnx;go_enter func47,ntmps47
 go_wp2_with fail
 refine HN.out.mono ?_;rintro e w1⟨rfl,rfl⟩
 go_wp2_with fail
 go_region
 all_goals(go_wp2_with fail)
 all_goals(
  go_region_held3(λw'=>w'.cell? (Φ jb)=some (Az d)/\w'.cell? (Δ jb 3)=some (.int .u64 (stamp.toNat:Int)))
   (first| exact⟨j0,j3⟩| exact HK.out _ Ot.touch)
   ((first| (go_at_call 95;refine(HP.out _ (((Dr.drew w).trans (Dr.drew _)).below _)).mono ?_;rintro e w5⟨rfl,F5,hS5,Yw⟩;have Ot:AP F F5 w w5:=(AP.of_below (((Dr.drew w).trans (Dr.drew _)).below _)).trans Yw))))
 all_goals(
  have WV:Ix w5 x d p L {s with ws:=FN s.ws 8 stamp} F5:=HX.out.move hS5 Ot;have pq:=HJ.out.box.touch Ot.touch HJ.out.out;have c6:=pq.cell 6;have f6:=pq.frozen 6;unfold DN at c6;simp only [Am,AA]at c6;have uQ:=Aa WV;have Jz:=Aa pq;have RH:=Aa Ot;clear WV pq Ot Yw hS5 HP HK j0 j3 j4 j5 j6
  go_wp2_with fail
  go_ret2)
 all_goals(
  have hnf:¬F5 jb:=RH.out.out HJ.out.box.lt HJ.out.out;have ht7:Touch (λk=>k=jb) w5 (w5.setCell (Δ jb 6) (.bool true)):=(Touch.refl (λk=>k=jb) w5).setCell (p:=Δ jb 6) (.inl rfl) _;refine⟨rfl,F5,⟨uQ.out.sys.keep ht7 (λb hb e=>hnf (e▸hb)) HG.out.1 HG.out.2,uQ.out.box.touch ht7 HNX.out,uQ.out.out⟩,⟨by
   have:=Jz.out.AZ 6 (.bool true);unfold DN at this⊢;simpa only [List.set_cons_zero,List.set_cons_succ]using this,hnf⟩,?_⟩
  exact⟨(RH.out.touch.mono (λ_ hb=> .inl hb)).trans (ht7.mono (λ_ e=> .inr e)) (λ_ e=> .inl e),λb hb=>by
   rcases hb with hb| hb
   ·exact(RH.out.own b hb).imp .inl id
   ·exact .inl (.inr hb)⟩)
def Tryz.Aku:JS prog 185 189 (.agg #[.int .u64 0,.int .u64 0]) 2 16:=⟨underlying185,by kernel_rfl,rfl⟩
end
def Aaq(q:UInt64×UInt64):List Value:=[.int .u64 (q.1.toNat:Int),.int .u64 (q.2.toNat:Int)]
def WW(l:List (UInt64×UInt64)):List Value:=(l.map Aaq).flatten
def y9(l:List (UInt64×UInt64))(a:UInt64×UInt64):WW (l++[a])=WW l++Aaq a:=by simp [WW]
structure Fz(m:DY)(w:World)(base jb x d p L:Nat)(s:St)(stamp:UInt64)(vs:Value)(l:List Wr)(ps:List (UInt64×UInt64))(over:Bool)(en:Int)(F:Nat->Prop)(v:Value):Prop where
 ix:Jd m w x d p L s F
 box:CS w jb 187 (DN x d p stamp vs v over en)
 row:w.ownsRow base 189 2 v ps.length (WW ps)
 set:I4 w (λb=>F b\/b=jb\/v.ownBlock=some b) vs l
 fj:¬F jb
 bj:base<=jb
 bx:x<base
 bt:0<base/\1<base
 mj:v.ownBlock≠some jb
 mF:∀b,v.ownBlock=some b->¬F b
abbrev Adb:=Fz (.up M0)
def JG(F:Nat->Prop)(jb:Nat)(v:Value)(b:Nat):Prop:=F b\/b=jb\/v.ownBlock=some b
section
variable{m0:DY}{w w':World}{base jb x d p L:Nat}{s:St}{stamp:UInt64}{vs:Value}{l:List Wr}{ps:List (UInt64×UInt64)}{over:Bool}{en:Int}{F:Nat->Prop}{v:Value}
def Fz.xj(h:Fz m0 w base jb x d p L s stamp vs l ps over en F v):x≠jb:=Ψ h.bj h.bx
def Fz.gj(h:Fz m0 w base jb x d p L s stamp vs l ps over en F v):0≠jb/\1≠jb:=Ψ h.bj h.bt
def Fz.mlt(h:Fz m0 w base jb x d p L s stamp vs l ps over en F v):∀b,v.ownBlock=some b->base<=b/\b<w.heap.size:=by
 intro b hb;rcases h.row.2 with⟨h1,_⟩| ⟨g,cap,cur,h1,h2,h3,_⟩
 ·subst h1;simp [Bd]at hb
 ·subst h1;simp only [Bd,Option.some.injEq]at hb;subst hb;exact⟨h2,(Array.getElem?_eq_some_iff.1 h3).1⟩
def Fz.mx(h:Fz m0 w base jb x d p L s stamp vs l ps over en F v):v.ownBlock≠some x:=λe=>Ψ ((h.mlt x e).1) h.bx
def Fz.below(h:Fz m0 w base jb x d p L s stamp vs l ps over en F v)(k:η w w'):Fz m0 w' base jb x d p L s stamp vs l ps over en F v:=
 ⟨h.ix.below k,h.box.ξ k,EU h.row (Kept.of_below (r:=some jb) k) (.inl (λe=>h.mj e.symm)),h.set.below k,h.fj,h.bj,h.bx,h.bt,h.mj,h.mF⟩
def Fz.b(h:Fz m0 w base jb x d p L s stamp vs l ps over en F v):Nl w jb x d p stamp vs v over en F:=⟨h.box,h.fj⟩
def Fz.move(h:Fz m0 w base jb x d p L s stamp vs l ps over en F v){m1:DY}{s':St}{F':Nat->Prop}(hs:Jd m1 w' x d p L s' F')(m:AP F F' w w'):Fz m1 w' base jb x d p L s' stamp vs l ps over en F' v/\AP (JG F jb v) (JG F' jb v) w w':=by
 have hjl:=h.box.lt;have hM:AP (JG F jb v) (JG F' jb v) w w':=⟨m.touch.mono (λb hb=> .inl hb),λb hb=>by
  rcases hb with h1| h1
  ·exact(m.own b h1).imp .inl id
  ·exact .inl (.inr h1)⟩
 exact⟨⟨hs,h.box.touch m.touch h.fj,Ie h.row m.touch h.mF,h.set.moved hM,λh'=>(m.own _ h').elim h.fj (λh''=>O),h.bj,h.bx,h.bt,h.mj,λb hb h'=>(m.own _ h').elim (h.mF b hb) (λh''=>Ω ((h.mlt b hb).2))⟩,hM⟩
def Fz.app(h:Fz m0 w base jb x d p L s stamp vs l ps over en F v)(q:UInt64×UInt64){g c:Nat}{w1:World}
 (hown:w1.ownsRow base 189 2 (.slice (some (Φ g)) (ps.length+1) c) (ps.length+1) (WW ps++Aaq q))(hb:Below base w w1)(hk:Kept w w1 v.ownBlock)(hg:v.ownBlock=some g\/w.heap.size<=g):
 Fz m0 (w1.setCell (Δ jb 5) (.slice (some (Φ g)) (ps.length+1) c)) base jb x d p L s stamp vs l (ps++[q]) over en F (.slice (some (Φ g)) (ps.length+1) c)/\
  AP (JG F jb v) (JG F jb (.slice (some (Φ g)) (ps.length+1) c)) w (w1.setCell (Δ jb 5) (.slice (some (Φ g)) (ps.length+1) c)):=by
 have hjl:=h.box.lt;have hgj:g≠jb:=by
  rintro rfl;rcases hg with e| e
  ·exact h.mj e
  ·omega
 have hgF:¬F g:=by
  intro hf;rcases hg with e| e
  ·exact h.mF g e hf
  ·have:=h.ix.sys.lt g hf;omega
 have t1:Touch (λb=>v.ownBlock=some b) w w1:=⟨hb.os,hb.tape,hb.output,hk.1,λb hb' hn=>hk.2 b hb' (λe=>hn e.symm)⟩;have t2:Touch (λb=>b=jb\/v.ownBlock=some b) w (w1.setCell (Δ jb 5) (.slice (some (Φ g)) (ps.length+1) c)):=(t1.mono (λb=> .inr)).setCell (p:=Δ jb 5) (.inl (.inl rfl)) _;have htb:∀{b:Nat},b<base->¬(b=jb\/v.ownBlock=some b):=by
  intro b hb' e;rcases e with rfl| e
  ·have:=h.bj;omega
  ·have:=(h.mlt b e).1;omega
 have hM:AP (JG F jb v) (JG F jb (.slice (some (Φ g)) (ps.length+1) c)) w (w1.setCell (Δ jb 5) (.slice (some (Φ g)) (ps.length+1) c)):=⟨t2.mono (λb hb'=> .inr hb'),λb hb'=>by
  rcases hb' with h1| h1| h1
  ·exact .inl (.inl h1)
  ·exact .inl (.inr (.inl h1))
  ·simp only [Bd,Option.some.injEq]at h1;rcases hg with e| e
   ·exact .inl (.inr (.inr (h1▸e)))
   ·exact .inr (h1▸e)⟩
 have hs:Ew m0 (w1.setCell (Δ jb 5) (.slice (some (Φ g)) (ps.length+1) c)) d p L s F:=h.ix.sys.keep t2 (λb hb' hn=>hn.elim (λe=>h.fj (e▸hb')) (λe=>h.mF b e hb')) (htb h.bt.1) (htb h.bt.2);have hB1:CS w1 jb 187 (DN x d p stamp vs v over en):=(hk.2 jb hjl (λe=>h.mj e.symm)).trans h.box;refine⟨⟨⟨hs,h.ix.box.touch t2 (λe=>e.elim h.xj h.mx),h.ix.out⟩,hB1.AZ 5 _,?_,h.set.moved hM,h.fj,h.bj,h.bx,h.bt,by simp [Bd,hgj],?_⟩,hM⟩
 ·have:=EU hown (Kept.AZ w1 jb 5 (.slice (some (Φ g)) (ps.length+1) c)) (.inl (by simp [Bd,Ne.symm hgj]));rw [y9];simpa using this
 ·intro b hb';simp only [Bd,Option.some.injEq]at hb';exact hb'▸hgF
def qV{m1:DY}(h:Fz m0 w base jb x d p L s stamp vs l ps false en F v)(hlt:ps.length<l.length)(Akv:l.length<=100000){s2:St}{pv pl:UInt64}
 (hwr:∀W',η w W'->Calls prog 93 #[Az jb,U1 l[ps.length]] W' λe w''=>e= .returned (.tuple #[.agg #[.int .u64 (pv.toNat:Int),.int .u64 (pl.toNat:Int)],.int .i64 0])/\
  ∃F',Jd m1 w'' x d p L s2 F'/\Nl w'' jb x d p stamp vs v false en F'/\AP F F' W' w''):
 Calls prog 47 #[Az jb] w λe w'=>e= .returned (.tuple #[.bool false,.int .i64 0])/\
  ∃F' v',Fz m1 w' base jb x d p L s2 stamp vs l (ps++[(pv,pl)]) false en F' v'/\AP (JG F jb v) (JG F' jb v') w w':=by
 have HN:=Aa (kZ jb _ h.box);have j6:=h.box.cell 6;have j5:=h.box.cell 5;have j4:=h.box.cell 4;have HH:=Aa h;obtain⟨A5,c5,hv5,hc5,_⟩:=DL h.row;obtain⟨y,hy⟩:∃y,y=l[ps.length]:=⟨_,rfl⟩;obtain⟨b2,off,c2,hv2,hc2,hbw,hnG,q0,q1,q2⟩:=h.set.at ps.length hlt;rw [<-hy]at q0 q1 q2 hwr;obtain⟨k,hk⟩:∃k,k=ps.length:=⟨_,rfl⟩;obtain⟨n,hn⟩:∃n,n=l.length:=⟨_,rfl⟩;rw [<-hn]at hv2 Akv hlt;rw [<-hk]at hv5 q0 q1 q2 hlt hc5;unfold DN at j4 j5 j6;simp only [Am,AA]at j4 j5 j6;rw [hv2]at j4;rw [hv5]at j5;obtain⟨hx1,hx2,hx5⟩:=Yg hlt;have QX:Hid (∀W',η w W'->W'.cell? (Δ jb 4)=some (.slice (some (Δ b2 off)) n c2)/\W'.cell? (Δ jb 5)=some (.slice A5 k c5)/\W'.cell? (Δ b2 (off+k*3))=some (.string y.key)/\W'.cell? (Δ b2 (off+k*3+1))=some (.string y.text)/\W'.cell? (Δ b2 (off+k*3+2))=some (.bool y.gone)):=Aa (λW' kk=>
  ⟨by rw [(h.box.ξ kk).cell 4,<-hv2];rfl,by rw [(h.box.ξ kk).cell 5,<-hv5];rfl,(BA (w:=w) (kk.block _ hbw)).trans q0,(BA (w:=w) (kk.block _ hbw)).trans q1,(BA (w:=w) (kk.block _ hbw)).trans q2⟩)
 have HWr:=Aa hwr;unfold U1 at HWr;have hjlt:=h.box.lt;have HFn:Hid (¬F w.heap.size):=Aa (λhf=>absurd (h.ix.sys.lt _ hf) O);have qE:Hid (0≠w.heap.size/\1≠w.heap.size):=Aa (Ω h.ix.sys.tabs.lt);have HXl:Hid (x≠w.heap.size):=Aa (Ω h.ix.box.lt);have HK:=Aa hk;clear h hwr hc2 hnG hk hn hy hv2 hv5;go_enter func47,ntmps47
 go_wp2_with fail
 refine HN.out.mono ?_;rintro e w1⟨rfl,rfl⟩
 go_wp2_with fail
 go_region
 all_goals(go_wp2_with fail)
 all_goals(
  go_region_with(go_at_call 93;refine(HWr.out _ (by first| exact((Dr.drew w).trans (Dr.drew _)).below _| exact(((Dr.drew w).trans (Dr.drew _)).below _).alloc (Ad _) _| exact((((Dr.drew w).below _).alloc (Ad _) _).drew))).mono ?_;rintro e w5⟨rfl,F5,WV,hJ5,Ot⟩;try(have zb:CS w5 w.heap.size 189 [.int .u64 0,.int .u64 0]:=(Ot.touch.block w.heap.size Θ HFn.out).trans (heap_alloc_new _ _);have z0:=zb.cell 0;have z1:=zb.cell 1;have Yt:=zb.frozen 0;have Yu:=zb.frozen 1;simp only [Am,AA]at z0 z1)))
 all_goals(
  first
  | (have hwb:η w _:=((Dr.drew w).trans (Dr.drew _)).below w.heap.size
     have hM0:AP F F5 w w5:=(AP.of_below hwb).trans Ot;obtain⟨W6,QY⟩:∃W6,W6=w5.alloc (.cells #[.int .u64 (pv.toNat:Int),.int .u64 (pl.toNat:Int)] 189):=⟨_,rfl⟩;rw [<-QY];have hb6:η w5 W6:=QY▸(Below.refl _ _).alloc (Ad _) _;have P6:CS W6 w5.heap.size 189 [.int .u64 (pv.toNat:Int),.int .u64 (pl.toNat:Int)]:=QY▸heap_alloc_new _ _;have X6:=WV.below hb6;have M6:AP F F5 w W6:=hM0.below hb6;obtain⟨g,hg⟩:∃g,g=w5.heap.size:=⟨_,rfl⟩;rw [<-hg]at P6⊢;clear hwb hM0 QY hb6 hg WV hJ5 Ot)
  | (have hwb:η w _:=(((Below.refl w.heap.size w).alloc (Ad _) (.cells #[.int .u64 0,.int .u64 0] 189)).drew).drew
     have hM0:AP F F5 w w5:=(AP.of_below hwb).trans Ot;obtain⟨W6,QY⟩:∃W6,W6=(w5.setCell (Φ w.heap.size) (.int .u64 (pv.toNat:Int))).setCell (Δ w.heap.size 1) (.int .u64 (pl.toNat:Int)):=⟨_,rfl⟩;rw [<-QY];have t6:Touch (λk=>k=w.heap.size) w5 W6:=QY▸((Touch.refl (λk=>k=w.heap.size) w5).setCell (p:=Φ w.heap.size) (.inl rfl) _).setCell (p:=Δ w.heap.size 1) (.inl rfl) _;have P6:CS W6 w.heap.size 189 [.int .u64 (pv.toNat:Int),.int .u64 (pl.toNat:Int)]:=by rw [QY];exact(zb.AZ 0 (.int .u64 (pv.toNat:Int))).AZ 1 (.int .u64 (pl.toNat:Int))
     have hnf:¬F5 w.heap.size:=λh6=>(Ot.own _ h6).elim HFn.out (λhs=>absurd hs Θ)
     have X6:Jd m1 W6 x d p L s2 F5:=⟨WV.sys.keep t6 (λb hb e=>hnf (e▸hb)) qE.out.1 qE.out.2,WV.box.touch t6 HXl.out,WV.out⟩;have M6:AP F F5 w W6:=by rw [QY];exact(hM0.set (p:=Φ w.heap.size) (.inr (Ad _)) _).set (p:=Δ w.heap.size 1) (.inr (Ad _)) _
     obtain⟨g,hg⟩:∃g,g=w.heap.size:=⟨_,rfl⟩;rw [<-hg]at P6⊢;clear hwb hM0 QY t6 hnf hg WV hJ5 Ot zb z0 z1 Yt Yu))
 all_goals(
  obtain⟨lh,hMJ⟩:=HH.out.move X6 M6;have p0:=P6.cell 0;have p1:=P6.cell 1;have l5:=lh.box.cell 5;have k5:=lh.box.frozen 5;have Qw:v.ownBlock≠some jb:=lh.mj;obtain⟨A6,c6,hv6,_,_⟩:=DL lh.row;have hrow:=lh.row;have hbb:base<=W6.heap.size:=Nat.le_of_lt (Nat.lt_of_le_of_lt lh.bj lh.box.lt);unfold DN at l5;simp only [Am,AA]at p0 p1 l5;rw [<-HK.out]at hv6 hrow;rw [hv6]at l5;have HC6:=Aa lh;have HMJ:=Aa hMJ;have kz:=Aa hrow;have HV6:=Aa hv6;have hjl:=lh.box.lt;have hgl:=P6.lt;have Me:=Aa lh.box;clear X6 M6 P6 j4 j5 j6 q0 q1 q2 HWr QX HN HFn lh hMJ hrow hv6
  go_wp2_with fail)
 all_goals(
  go_region_law(refine N9 rfl (.tmp 53) (.tmp 55) 185 rfl Tryz.Aku W6 base v k (WW ps) [.int .u64 (pv.toNat:Int),.int .u64 (pl.toNat:Int)] HV6.out.symm kz.out rfl rfl rfl rfl W6.heap.size 1 rfl rfl rfl U (by intro u hu;simp at hu;rcases hu with rfl| rfl<;>rfl) O U hbb ?_;intro g9 c9 w9 hO9 hB9 hK9 hg9;have Aof:CS w9 jb 187 (DN x d p stamp vs v false en):=(hK9.2 jb hjl (λe=>Qw e.symm)).trans Me.out;have n5:=Aof.cell 5;have m5:=Aof.frozen 5;unfold DN at n5;simp only [Am,AA]at n5))
 all_goals(
  have HO9:=Aa hO9;have xB:=Aa hB9;have HK9:=Aa hK9;have HG9:=Aa hg9;clear p0 p1 l5 k5 hO9 hB9 hK9 hg9 Aof
  go_wp2_with fail
  go_ret2;have hkk:=HK.out;subst hkk;obtain⟨hC9,hM9⟩:=HC6.out.app (pv,pl) HO9.out xB.out HK9.out HG9.out;exact⟨rfl,F5,_,hC9,HMJ.out.trans hM9⟩)
def aQ(h:Adb w base jb x d p L s stamp vs l ps false en F v)(hlen:ps.length=l.length):
 Calls prog 47 #[Az jb] w λe w'=>e= .returned (.tuple #[.bool true,.int .i64 0])/\
  ∃F',Ix w' x d p L {s with ws:=FN s.ws 8 stamp} F'/\(∃A n c B c2,Nl w' jb x d p stamp (.slice A n c) (.slice B n c2) true en F')/\AP (JG F jb v) (JG F' jb v) w w':=by
 obtain⟨A,c,hvs⟩:=h.set.slice;obtain⟨B,c2,hv,_,_⟩:=DL h.row;have hj:=h.b;rw [hvs,hv,hlen]at hj;refine(Aoe h.ix hj h.xj h.gj).mono ?_;rintro e w'⟨rfl,F',hx,hj',m⟩;refine⟨rfl,F',hx,⟨A,l.length,c,B,c2,hj'⟩,m.touch.mono (λb hb=>hb.imp id .inl),λb hb=> ?_⟩;rcases hb with h1| h1| h1
 ·exact(m.own b (.inl h1)).imp (λh2=>h2.imp id .inl) id
 ·exact .inl (.inr (.inl h1))
 ·exact .inl (.inr (.inr h1))
end
def WX:List Wr->Bool
 | []=>true
 | [_]=>true
 | a::b::t=>Op.bytesLess a.key.toList b.key.toList&&WX (b::t)
def aS(l:List Wr)(k:Nat):Prop:=∀j(h:j+1<l.length),j+1<k->Op.bytesLess (l[j]' O).key.toList l[j+1].key.toList=true
def WY:∀(l:List Wr),aS l l.length<->WX l=true
 | []=>⟨λ_=>rfl,λ_ j h=>by simp at h⟩
 | [a]=>⟨λ_=>rfl,λ_ j h=>by simp at h⟩
 | a::b::t=>by
   have ih:=WY (b::t);simp only [WX,Bool.and_eq_true];rw [<-ih];constructor
   ·intro h;exact⟨h 0 Θ Θ,λj hj hk=>h (j+1) (by simp at hj⊢;omega) (by simp at hk⊢;omega)⟩
   ·rintro⟨h1,h2⟩j hj hk;cases j with
    | zero=>exact h1
    | succ j=>exact h2 j (by simp at hj⊢;omega) (by simp at hk⊢;omega)
def Ahd{l:List Wr}{m:Nat}(hm:m+1<l.length)(h:Op.bytesLess (l[m]' O).key.toList l[m+1].key.toList=false):WX l=false:=by
 cases hb:WX l
 ·rfl
 ·have:=(WY l).2 hb m hm O;rw [h]at this;cases this
