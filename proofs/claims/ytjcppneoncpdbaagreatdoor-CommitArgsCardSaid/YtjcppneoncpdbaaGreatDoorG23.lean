import Derived.Test.YtjcppneoncpdbaaGreatDoorG04
import Derived.Test.YtjcppneoncpdbaaGreatDoorG22
namespace Go.Proofs.YtjcppneoncpdbaaGreatDoor
open Go.RowKit
def pastC(q:UInt64×UInt64):List Value:=[.int .u64 (q.1.toNat:Int),.int .u64 (q.2.toNat:Int)]
def pastCs(l:List (UInt64×UInt64)):List Value:=(l.map pastC).flatten
theorem pastCs_app(l:List (UInt64×UInt64))(a:UInt64×UInt64):pastCs (l++[a])=pastCs l++pastC a:=by simp [pastCs]
structure CJob(w:World)(base jb x d p L:Nat)(s:St)(stamp:UInt64)(vs:Value)(l:List Wr)(ps:List (UInt64×UInt64))(over:Bool)(en:Int)(F:Nat→Prop)(v:Value):Prop where
 ix:Ix w x d p L s F
 box:Blk w jb 113 (jobCells x d p stamp vs v over en)
 row:w.ownsRow base 115 2 v ps.length (pastCs ps)
 set:SetR w (fun b=>F b∨b=jb∨v.ownBlock=some b) vs l
 fj:¬F jb
 bj:base≤jb
 bx:x<base
 bt:0<base∧1<base
 mj:v.ownBlock≠some jb
 mF:∀b,v.ownBlock=some b→¬F b
def JG(F:Nat→Prop)(jb:Nat)(v:Value)(b:Nat):Prop:=F b∨b=jb∨v.ownBlock=some b
section
variable{w w':World}{base jb x d p L:Nat}{s:St}{stamp:UInt64}{vs:Value}{l:List Wr}{ps:List (UInt64×UInt64)}{over:Bool}{en:Int}{F:Nat→Prop}{v:Value}
theorem CJob.xj(h:CJob w base jb x d p L s stamp vs l ps over en F v):x≠jb:=by have:=h.bj;have:=h.bx;omega
theorem CJob.gj(h:CJob w base jb x d p L s stamp vs l ps over en F v):0≠jb∧1≠jb:=by have:=h.bj;have:=h.bt;omega
theorem CJob.mlt(h:CJob w base jb x d p L s stamp vs l ps over en F v):∀b,v.ownBlock=some b→base≤b∧b<w.heap.size:=by
 intro b hb
 rcases h.row.2 with⟨h1,_⟩| ⟨g,cap,cur,h1,h2,h3,_⟩
 ·subst h1;simp [Value.ownBlock]at hb
 ·subst h1
  simp only [Value.ownBlock,Option.some.injEq]at hb
  subst hb
  exact⟨h2,(Array.getElem?_eq_some_iff.1 h3).1⟩
theorem CJob.mx(h:CJob w base jb x d p L s stamp vs l ps over en F v):v.ownBlock≠some x:=fun e=>by have:=(h.mlt x e).1;have:=h.bx;omega
theorem CJob.below(h:CJob w base jb x d p L s stamp vs l ps over en F v)(k:Below w.heap.size w w'):CJob w' base jb x d p L s stamp vs l ps over en F v:=
 ⟨h.ix.below k,h.box.below k h.box.lt,own_stay h.row (Kept.of_below (r:=some jb) k) (.inl (fun e=>h.mj e.symm)),h.set.below k,h.fj,h.bj,h.bx,h.bt,h.mj,h.mF⟩
theorem CJob.b(h:CJob w base jb x d p L s stamp vs l ps over en F v):JobB w jb x d p stamp vs v over en F:=⟨h.box,h.fj⟩
theorem CJob.move(h:CJob w base jb x d p L s stamp vs l ps over en F v){s':St}{F':Nat→Prop}(hs:Ix w' x d p L s' F')(m:Moved F F' w w'):CJob w' base jb x d p L s' stamp vs l ps over en F' v∧Moved (JG F jb v) (JG F' jb v) w w':=by
 have hjl:=h.box.lt
 have hM:Moved (JG F jb v) (JG F' jb v) w w':=⟨m.touch.mono (fun b hb=> .inl hb),fun b hb=>by
  rcases hb with h1| h1
  ·exact(m.own b h1).imp .inl id
  ·exact .inl (.inr h1)⟩
 exact⟨⟨hs,h.box.touch m.touch h.fj,own_touch h.row m.touch h.mF,h.set.moved hM,fun h'=>(m.own _ h').elim h.fj (fun h''=>by omega),h.bj,h.bx,h.bt,h.mj,fun b hb h'=>(m.own _ h').elim (h.mF b hb) (fun h''=>by have:=(h.mlt b hb).2;omega)⟩,hM⟩
theorem CJob.app(h:CJob w base jb x d p L s stamp vs l ps over en F v)(q:UInt64×UInt64){g c:Nat}{w1:World}
 (hown:w1.ownsRow base 115 2 (.slice (some ⟨g,0,none⟩) (ps.length+1) c) (ps.length+1) (pastCs ps++pastC q))(hb:Below base w w1)(hk:Kept w w1 v.ownBlock)(hg:v.ownBlock=some g∨w.heap.size≤g):
 CJob (w1.setCell ⟨jb,5,none⟩ (.slice (some ⟨g,0,none⟩) (ps.length+1) c)) base jb x d p L s stamp vs l (ps++[q]) over en F (.slice (some ⟨g,0,none⟩) (ps.length+1) c)∧
  Moved (JG F jb v) (JG F jb (.slice (some ⟨g,0,none⟩) (ps.length+1) c)) w (w1.setCell ⟨jb,5,none⟩ (.slice (some ⟨g,0,none⟩) (ps.length+1) c)):=by
 have hjl:=h.box.lt
 have hgj:g≠jb:=by
  rintro rfl
  rcases hg with e| e
  ·exact h.mj e
  ·omega
 have hgF:¬F g:=by
  intro hf
  rcases hg with e| e
  ·exact h.mF g e hf
  ·have:=h.ix.sys.lt g hf;omega
 have t1:Touch (fun b=>v.ownBlock=some b) w w1:=⟨hb.os,hb.tape,hb.output,hk.1,fun b hb' hn=>hk.2 b hb' (fun e=>hn e.symm)⟩
 have t2:Touch (fun b=>b=jb∨v.ownBlock=some b) w (w1.setCell ⟨jb,5,none⟩ (.slice (some ⟨g,0,none⟩) (ps.length+1) c)):=(t1.mono (fun b=> .inr)).setCell (p:=⟨jb,5,none⟩) (.inl (.inl rfl)) _
 have htb:∀{b:Nat},b<base→¬(b=jb∨v.ownBlock=some b):=by
  intro b hb' e
  rcases e with rfl| e
  ·have:=h.bj;omega
  ·have:=(h.mlt b e).1;omega
 have hM:Moved (JG F jb v) (JG F jb (.slice (some ⟨g,0,none⟩) (ps.length+1) c)) w (w1.setCell ⟨jb,5,none⟩ (.slice (some ⟨g,0,none⟩) (ps.length+1) c)):=⟨t2.mono (fun b hb'=> .inr hb'),fun b hb'=>by
  rcases hb' with h1| h1| h1
  ·exact .inl (.inl h1)
  ·exact .inl (.inr (.inl h1))
  ·simp only [Value.ownBlock,Option.some.injEq]at h1
   rcases hg with e| e
   ·exact .inl (.inr (.inr (h1▸e)))
   ·exact .inr (h1▸e)⟩
 have hs:Sys (w1.setCell ⟨jb,5,none⟩ (.slice (some ⟨g,0,none⟩) (ps.length+1) c)) d p L s F:=h.ix.sys.keep t2 (fun b hb' hn=>hn.elim (fun e=>h.fj (e▸hb')) (fun e=>h.mF b e hb')) (htb h.bt.1) (htb h.bt.2)
 have hB1:Blk w1 jb 113 (jobCells x d p stamp vs v over en):=(hk.2 jb hjl (fun e=>h.mj e.symm)).trans h.box
 refine⟨⟨⟨hs,h.ix.box.touch t2 (fun e=>e.elim h.xj h.mx),h.ix.out⟩,hB1.set_ 5 _,?_,h.set.moved hM,h.fj,h.bj,h.bx,h.bt,by simp [Value.ownBlock,hgj],?_⟩,hM⟩
 ·have:=own_stay hown (Kept.set_ w1 jb 5 (.slice (some ⟨g,0,none⟩) (ps.length+1) c)) (.inl (by simp [Value.ownBlock,Ne.symm hgj]))
  rw [pastCs_app]
  simpa using this
 ·intro b hb'
  simp only [Value.ownBlock,Option.some.injEq]at hb'
  exact hb'▸hgF
set_option maxHeartbeats 8000000 in
set_option maxRecDepth 100000 in
theorem jobStepW(h:CJob w base jb x d p L s stamp vs l ps false en F v)(hlt:ps.length<l.length)(hl16:l.length≤100000){s2:St}{pv pl:UInt64}
 (hwr:∀W',Below w.heap.size w W'→Calls Tryz.prog 48 #[.pointer (some ⟨jb,0,none⟩),wrV l[ps.length]] W' fun e w''=>e= .returned (.tuple #[.agg #[.int .u64 (pv.toNat:Int),.int .u64 (pl.toNat:Int)],.int .i64 0])∧
  ∃F',Ix w'' x d p L s2 F'∧JobB w'' jb x d p stamp vs v false en F'∧Moved F F' W' w''):
 Calls Tryz.prog 17 #[.pointer (some ⟨jb,0,none⟩)] w fun e w'=>e= .returned (.tuple #[.bool false,.int .i64 0])∧
  ∃F' v',CJob w' base jb x d p L s2 stamp vs l (ps++[(pv,pl)]) false en F' v'∧Moved (JG F jb v) (JG F' jb v') w w':=by
 have HN:=Lib.hid (jobNone jb _ h.box)
 have j6:=h.box.cell 6
 have j5:=h.box.cell 5
 have j4:=h.box.cell 4
 have HH:=Lib.hid h
 obtain⟨A5,c5,hv5,hc5,_⟩:=own_rowk h.row
 obtain⟨y,hy⟩:∃y,y=l[ps.length]:=⟨_,rfl⟩
 obtain⟨b2,off,c2,hv2,hc2,hbw,hnG,q0,q1,q2⟩:=h.set.at ps.length hlt
 rw [←hy]at q0 q1 q2 hwr
 obtain⟨k,hk⟩:∃k,k=ps.length:=⟨_,rfl⟩
 obtain⟨n,hn⟩:∃n,n=l.length:=⟨_,rfl⟩
 rw [←hn]at hv2 hl16 hlt
 rw [←hk]at hv5 q0 q1 q2 hlt hc5
 unfold jobCells at j4 j5 j6
 simp only [List.getElem?_cons_zero,List.getElem?_cons_succ]at j4 j5 j6
 rw [hv2]at j4
 rw [hv5]at j5
 have hx1:(k:Int)<(n:Int):=by omega
 have hx2:decide ((k:Int)<(n:Int))=true:=decide_eq_true hx1
 have hx5:decide (k<n)=true:=decide_eq_true hlt
 have HCl:Hid (∀W',Below w.heap.size w W'→W'.cell? ⟨jb,4,none⟩=some (.slice (some ⟨b2,off,none⟩) n c2)∧W'.cell? ⟨jb,5,none⟩=some (.slice A5 k c5)∧W'.cell? ⟨b2,off+k*3,none⟩=some (.string y.key)∧W'.cell? ⟨b2,off+k*3+1,none⟩=some (.string y.text)∧W'.cell? ⟨b2,off+k*3+2,none⟩=some (.bool y.gone)):=Lib.hid (fun W' kk=>
  ⟨by rw [(h.box.below kk h.box.lt).cell 4,←hv2];rfl,by rw [(h.box.below kk h.box.lt).cell 5,←hv5];rfl,(World.cell?_of_block (w:=w) (kk.block _ hbw)).trans q0,(World.cell?_of_block (w:=w) (kk.block _ hbw)).trans q1,(World.cell?_of_block (w:=w) (kk.block _ hbw)).trans q2⟩)
 have HWr:=Lib.hid hwr
 unfold wrV at HWr
 have hjlt:=h.box.lt
 have HFn:Hid (¬F w.heap.size):=Lib.hid (fun hf=>absurd (h.ix.sys.lt _ hf) (by omega))
 have HGl:Hid (0≠w.heap.size∧1≠w.heap.size):=Lib.hid (by have:=h.ix.sys.tabs.lt;omega)
 have HXl:Hid (x≠w.heap.size):=Lib.hid (by have:=h.ix.box.lt;omega)
 have HK:=Lib.hid hk
 clear h hwr hc2 hnG hk hn hy hv2 hv5
 go_enter Tryz.func17,Tryz.ntmps17
 go_wp2_with fail
 refine HN.out.mono ?_
 rintro e w1⟨rfl,rfl⟩
 go_wp2_with fail
 go_region
 all_goals(go_wp2_with fail)
 all_goals(
  go_region_with(go_at_call 48;refine(HWr.out _ (by first| exact((Dr.drew w).trans (Dr.drew _)).below _| exact(((Dr.drew w).trans (Dr.drew _)).below _).alloc (Nat.le_refl _) _| exact((((Dr.drew w).below _).alloc (Nat.le_refl _) _).drew))).mono ?_;rintro e w5⟨rfl,F5,hX5,hJ5,hM5⟩;try(have zb:Blk w5 w.heap.size 115 [.int .u64 0,.int .u64 0]:=(hM5.touch.block w.heap.size (by simp) HFn.out).trans (heap_alloc_new _ _);have z0:=zb.cell 0;have z1:=zb.cell 1;have zf0:=zb.frozen 0;have zf1:=zb.frozen 1;simp only [List.getElem?_cons_zero,List.getElem?_cons_succ]at z0 z1)))
 all_goals(
  first
  | (have hwb:Below w.heap.size w _:=((Dr.drew w).trans (Dr.drew _)).below w.heap.size
     have hM0:Moved F F5 w w5:=(Moved.of_below hwb).trans hM5
     obtain⟨W6,hW6⟩:∃W6,W6=w5.alloc (.cells #[.int .u64 (pv.toNat:Int),.int .u64 (pl.toNat:Int)] 115):=⟨_,rfl⟩
     rw [←hW6]
     have hb6:Below w5.heap.size w5 W6:=hW6▸(Below.refl _ _).alloc (Nat.le_refl _) _
     have P6:Blk W6 w5.heap.size 115 [.int .u64 (pv.toNat:Int),.int .u64 (pl.toNat:Int)]:=hW6▸heap_alloc_new _ _
     have X6:=hX5.below hb6
     have M6:Moved F F5 w W6:=hM0.below hb6
     obtain⟨g,hg⟩:∃g,g=w5.heap.size:=⟨_,rfl⟩
     rw [←hg]at P6⊢
     clear hwb hM0 hW6 hb6 hg hX5 hJ5 hM5)
  | (have hwb:Below w.heap.size w _:=(((Below.refl w.heap.size w).alloc (Nat.le_refl _) (.cells #[.int .u64 0,.int .u64 0] 115)).drew).drew
     have hM0:Moved F F5 w w5:=(Moved.of_below hwb).trans hM5
     obtain⟨W6,hW6⟩:∃W6,W6=(w5.setCell ⟨w.heap.size,0,none⟩ (.int .u64 (pv.toNat:Int))).setCell ⟨w.heap.size,1,none⟩ (.int .u64 (pl.toNat:Int)):=⟨_,rfl⟩
     rw [←hW6]
     have t6:Touch (fun k=>k=w.heap.size) w5 W6:=hW6▸((Touch.refl (fun k=>k=w.heap.size) w5).setCell (p:=⟨w.heap.size,0,none⟩) (.inl rfl) _).setCell (p:=⟨w.heap.size,1,none⟩) (.inl rfl) _
     have P6:Blk W6 w.heap.size 115 [.int .u64 (pv.toNat:Int),.int .u64 (pl.toNat:Int)]:=by rw [hW6];exact(zb.set_ 0 (.int .u64 (pv.toNat:Int))).set_ 1 (.int .u64 (pl.toNat:Int))
     have hnf:¬F5 w.heap.size:=fun h6=>(hM5.own _ h6).elim HFn.out (fun hs=>absurd hs (by simp))
     have X6:Ix W6 x d p L s2 F5:=⟨hX5.sys.keep t6 (fun b hb e=>hnf (e▸hb)) HGl.out.1 HGl.out.2,hX5.box.touch t6 HXl.out,hX5.out⟩
     have M6:Moved F F5 w W6:=by rw [hW6];exact(hM0.set (p:=⟨w.heap.size,0,none⟩) (.inr (Nat.le_refl _)) _).set (p:=⟨w.heap.size,1,none⟩) (.inr (Nat.le_refl _)) _
     obtain⟨g,hg⟩:∃g,g=w.heap.size:=⟨_,rfl⟩
     rw [←hg]at P6⊢
     clear hwb hM0 hW6 t6 hnf hg hX5 hJ5 hM5 zb z0 z1 zf0 zf1))
 all_goals(
  obtain⟨hC6,hMJ⟩:=HH.out.move X6 M6
  have p0:=P6.cell 0
  have p1:=P6.cell 1
  have l5:=hC6.box.cell 5
  have k5:=hC6.box.frozen 5
  have hm5:v.ownBlock≠some jb:=hC6.mj
  obtain⟨A6,c6,hv6,_,_⟩:=own_rowk hC6.row
  have hrow:=hC6.row
  have hbb:base≤W6.heap.size:=Nat.le_of_lt (Nat.lt_of_le_of_lt hC6.bj hC6.box.lt)
  unfold jobCells at l5
  simp only [List.getElem?_cons_zero,List.getElem?_cons_succ]at p0 p1 l5
  rw [←HK.out]at hv6 hrow
  rw [hv6]at l5
  have HC6:=Lib.hid hC6
  have HMJ:=Lib.hid hMJ
  have HRow:=Lib.hid hrow
  have HV6:=Lib.hid hv6
  have hjl:=hC6.box.lt
  have hgl:=P6.lt
  have HB6:=Lib.hid hC6.box
  clear X6 M6 P6 j4 j5 j6 q0 q1 q2 HWr HCl HN HFn hC6 hMJ hrow hv6
  go_wp2_with fail)
 all_goals(
  go_region_law(refine step_app_one rfl (.tmp 53) (.tmp 55) 111 rfl Tryz.pastTyK W6 base v k (pastCs ps) [.int .u64 (pv.toNat:Int),.int .u64 (pl.toNat:Int)] HV6.out.symm HRow.out rfl rfl rfl rfl W6.heap.size 1 rfl rfl rfl (by decide) (by intro u hu;simp at hu;rcases hu with rfl| rfl<;>rfl) (by omega) (by decide) hbb ?_;intro g9 c9 w9 hO9 hB9 hK9 hg9;have hB9j:Blk w9 jb 113 (jobCells x d p stamp vs v false en):=(hK9.2 jb hjl (fun e=>hm5 e.symm)).trans HB6.out;have n5:=hB9j.cell 5;have m5:=hB9j.frozen 5;unfold jobCells at n5;simp only [List.getElem?_cons_zero,List.getElem?_cons_succ]at n5))
 all_goals(
  have HO9:=Lib.hid hO9
  have HB9:=Lib.hid hB9
  have HK9:=Lib.hid hK9
  have HG9:=Lib.hid hg9
  clear p0 p1 l5 k5 hO9 hB9 hK9 hg9 hB9j
  go_wp2_with fail
  go_ret2
  have hkk:=HK.out
  subst hkk
  obtain⟨hC9,hM9⟩:=HC6.out.app (pv,pl) HO9.out HB9.out HK9.out HG9.out
  exact⟨rfl,F5,_,hC9,HMJ.out.trans hM9⟩)
set_option maxHeartbeats 2000000 in
theorem jobStepEnd(h:CJob w base jb x d p L s stamp vs l ps false en F v)(hlen:ps.length=l.length):
 Calls Tryz.prog 17 #[.pointer (some ⟨jb,0,none⟩)] w fun e w'=>e= .returned (.tuple #[.bool true,.int .i64 0])∧
  ∃F',Ix w' x d p L {s with ws:=put1 s.ws 8 stamp} F'∧(∃A n c B c2,JobB w' jb x d p stamp (.slice A n c) (.slice B n c2) true en F')∧Moved (JG F jb v) (JG F' jb v) w w':=by
 obtain⟨A,c,hvs⟩:=h.set.slice
 obtain⟨B,c2,hv,_,_⟩:=own_rowk h.row
 have hj:=h.b
 rw [hvs,hv,hlen]at hj
 refine(jobEnd h.ix hj h.xj h.gj).mono ?_
 rintro e w'⟨rfl,F',hx,hj',m⟩
 refine⟨rfl,F',hx,⟨A,l.length,c,B,c2,hj'⟩,m.touch.mono (fun b hb=>hb.imp id .inl),fun b hb=> ?_⟩
 rcases hb with h1| h1| h1
 ·exact(m.own b (.inl h1)).imp (fun h2=>h2.imp id .inl) id
 ·exact .inl (.inr (.inl h1))
 ·exact .inl (.inr (.inr h1))
end
end Go.Proofs.YtjcppneoncpdbaaGreatDoor
