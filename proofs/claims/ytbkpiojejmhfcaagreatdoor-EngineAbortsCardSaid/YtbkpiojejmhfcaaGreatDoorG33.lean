import Derived.Test.YtbkpiojejmhfcaaGreatDoorG08
import Derived.Test.YtbkpiojejmhfcaaGreatDoorG16
import Derived.Test.YtbkpiojejmhfcaaGreatDoorG23
import Derived.Test.YtbkpiojejmhfcaaGreatDoorG29
import Derived.Test.YtbkpiojejmhfcaaGreatDoorG32
namespace Go.Proofs.YtbkpiojejmhfcaaGreatDoor
open Go.RowKit
structure Apart(X F:Nat→Prop)(g x:Nat):Prop where
 ng:¬X g
 nx:¬X x
 nf:∀q,F q→¬X q
 c1:¬X 0
 c2:¬X 1
section
variable{w w':World}{g d p x tt bk L:Nat}{s s2:St}{b:Bk}{t:Tb}{F F2 J X X':Nat→Prop}{slot:UInt64}{jv:Value}{id:Int}{sv:Value}{st:UInt64}{jb:Nat}
theorem EngAt.congrJ(h:EngAt w g d p x tt bk L s b t F J slot jv id sv st){J':Nat→Prop}(e:∀q,J q↔J' q):EngAt w g d p x tt bk L s b t F J' slot jv id sv st:=by
 have:J=J':=funext fun q=>propext (e q)
 exact this▸h
theorem Apart.more(h:Apart X F g x)(he:EngAt w g d p x tt bk L s b t F J slot jv id sv st)(hX:∀q,X' q→X q∨(w.heap.size≤q∧q<w'.heap.size)):Apart X' F g x:=by
 have l1:=he.box.lt
 have l2:=he.ix.box.lt
 have l3:=he.ix.sys.lt
 have l4:=he.ix.sys.tabs.lt
 exact⟨fun hx=>(hX _ hx).elim h.ng (fun e=>by omega),fun hx=>(hX _ hx).elim h.nx (fun e=>by omega),fun q hq hx=>(hX _ hx).elim (h.nf q hq) (fun e=>by have:=l3 q hq;omega),fun hx=>(hX _ hx).elim h.c1 (fun e=>by omega),fun hx=>(hX _ hx).elim h.c2 (fun e=>by omega)⟩
theorem EngAt.frame(h:EngAt w g d p x tt bk L s b t F (fun q=>J q∨X q) slot jv id sv st)(a:Apart X F g x)(k:Touch X w w')(hX:∀q,X' q→X q∨(w.heap.size≤q∧q<w'.heap.size)):EngAt w' g d p x tt bk L s b t F (fun q=>J q∨X' q) slot jv id sv st:=by
 have hm:Moved (fun q=>F q∨(J q∨X q)) (fun q=>F q∨(J q∨X' q)) w w':=⟨k.mono (fun q hq=> .inr (.inr hq)),fun q hq=>by
  rcases hq with hq| hq| hq
  ·exact .inl (.inl hq)
  ·exact .inl (.inr (.inl hq))
  ·exact(hX q hq).imp (fun h=> .inr (.inr h)) (fun h=>h.1)⟩
 refine⟨⟨h.ix.sys.keep k (fun c hc=>a.nf c hc) a.c1 a.c2,h.ix.box.touch k a.nx,h.ix.out⟩,h.tb.moved hm,?_,fun q hq=> ?_,h.box.touch k a.ng,h.fg,h.g1,h.g2,h.g3,h.g4,h.x1,h.x2,h.c1,h.c2,h.c3⟩
 ·rcases h.jg with hj| hj
  ·exact .inl hj
  ·exact absurd hj a.ng
 ·rcases hq with hq| hq
  ·exact Nat.lt_of_lt_of_le (h.jl q (.inl hq)) k.size
  ·rcases hX q hq with h1| h1
   ·exact Nat.lt_of_lt_of_le (h.jl q (.inr h1)) k.size
   ·exact h1.2
end
def EgI(g d p x tt bk L:Nat)(s:St)(t:Tb)(slot:UInt64)(m:Nat)(P:Bk→Prop)(W:World)(X:Nat→Prop):Prop:=
 ∃(b:Bk)(J F:Nat→Prop),EngAt W g d p x tt bk L s b t F (fun q=>J q∨X q) slot .nilIface 0 (.slice none 0 0) 0∧b.many=m∧P b∧Apart X F g x
def EgJ(g d p x tt bk L:Nat)(s:St)(t:Tb)(slot:UInt64)(m i:Nat)(y:Wr)(n:Nat)(W:World)(X:Nat→Prop):Prop:=
 ∃(b:Bk)(J F:Nat→Prop)(jb:Nat)(A:Option Addr)(c:Nat)(vd sv:Value),EngAt W g d p x tt bk L s b t F (fun q=>J q∨X q) slot (.iface 41 (.pointer (some ⟨jb,0,none⟩))) (i:Int) sv (slot+1)∧b.many=m∧J jb∧jb≠g∧x≠jb∧(0≠jb∧1≠jb)∧¬X jb∧
  JobB W jb x d p (slot+1) (.slice A 1 c) vd false 0 F∧(n=0∧vd= .slice none 0 0∨n=1∧∃B c2,vd= .slice B 1 c2)∧
  SetR W (EF F (fun q=>J q∨X q) bk b.nt jb) (.slice A 1 c) [y]∧SetR W (EF F (fun q=>J q∨X q) bk b.nt jb) sv [y]∧Apart X F g x
section
variable{g d p x tt bk L:Nat}{s s2:St}{t:Tb}{slot:UInt64}{m i:Nat}{P:Bk→Prop}{y:Wr}
theorem EgI.frames:Frames (EgI g d p x tt bk L s t slot m P):=by
 rintro W W' X X'⟨b,J,F,h,hm,hp,a⟩k hX
 exact⟨b,J,F,h.frame a k hX,hm,hp,a.more h hX⟩
theorem EgJ.frames{n:Nat}:Frames (EgJ g d p x tt bk L s t slot m i y n):=by
 rintro W W' X X'⟨b,J,F,jb,A,c,vd,sv,h,hm,h1,h2,h3,h4,h5,hj,hv,hs1,hs2,a⟩k hX
 have hjl:=hj.box.lt
 have mv:Moved (EF F (fun q=>J q∨X q) bk b.nt jb) (EF F (fun q=>J q∨X' q) bk b.nt jb) W W':=⟨k.mono (fun q hq=> .inr (.inl (.inr hq))),fun q hq=>by
  rcases hq with hq| (hq| hq)| hq
  ·exact .inl (.inl hq)
  ·exact .inl (.inr (.inl (.inl hq)))
  ·exact(hX q hq).imp (fun h=> .inr (.inl (.inr h))) (fun h=>h.1)
  ·exact .inl (.inr (.inr hq))⟩
 exact⟨b,J,F,jb,A,c,vd,sv,h.frame a k hX,hm,h1,h2,h3,h4,fun hx=>(hX _ hx).elim h5 (fun e=>by omega),⟨hj.box.touch k h5,hj.out⟩,hv,hs1.moved mv,hs2.moved mv,a.more h hX⟩
theorem EngAt.apart{W:World}{b:Bk}{F J X:Nat→Prop}{jv sv:Value}{id:Int}{st:UInt64}(h:EngAt W g d p x tt bk L s b t F (fun q=>J q∨X q) slot jv id sv st):¬X bk∧¬X b.nt∧¬X tt:=
 ⟨fun hx=>h.tb.fb (.inr (.inr hx)),fun hx=>h.tb.fn (.inr (.inr hx)),fun hx=>h.tb.ft (.inr (.inr hx))⟩
theorem Ix.noTab{W:World}{F:Nat→Prop}(h:Ix W x d p L s F):¬F 0∧¬F 1:=by
 obtain⟨tb,hb,n,cT,cH,own,hr,hF⟩:=h.sys
 exact⟨fun hf=>hr.g1 ((hF _).1 hf),fun hf=>hr.g2 ((hF _).1 hf)⟩
theorem outs_of{X:Nat→Prop}{q:Nat}(h1:¬X q)(h2:q≠0)(h3:q≠1):Outs X q:=fun h=>h.elim h1 (fun h=>h.elim h2 h3)
theorem sBegin(ho:openW t.wt=some i)(hm16:m<16):Steps (EgI g d p x tt bk L s t slot m P) (EgI g d p x tt bk L s (beginT t i slot) slot (m+1) (fun b=>b.st i= .slice none 0 0)) 19 #[.pointer (some ⟨g,0,none⟩)] (.tuple #[.int .i64 (i:Int),.int .i64 0]):=by
 rintro W X⟨b,J,F,h,hm,hp,a⟩
 refine(egBegin h ho (by rw [hm];exact hm16)).mono ?_
 rintro e w'⟨rfl,b',h1,h2,h3,h4,h5⟩
 exact⟨rfl,⟨b',J,F,h4,by rw [h1,hm],h3,a⟩,h5.mono (fun q e=>e▸outs_of h.apart.1 h.c1.1 h.c1.2)⟩
theorem sPut(hi:i<8)(ho:t.wt.ops i=true)(ky tx:ByteArray)(hy:rightWr ⟨ky,tx,false⟩=true):Steps (EgI g d p x tt bk L s t slot m (fun b=>b.st i= .slice none 0 0)) (EgI g d p x tt bk L s (writeT t i [⟨ky,tx,false⟩]) slot m (fun _=>True)) 25 #[.pointer (some ⟨g,0,none⟩),.int .i64 (i:Int),.string ky,.string tx] (.int .i64 0):=by
 rintro W X⟨b,J,F,h,hm,hp,a⟩
 refine(egPut h hi ho hp ky tx hy).mono ?_
 rintro e w'⟨rfl,b',h1,h2,h4,h5⟩
 exact⟨rfl,⟨b',J,F,h4,by rw [h1,hm],trivial,a⟩,h5.mono (fun q e=>e▸outs_of h.apart.1 h.c1.1 h.c1.2)⟩
theorem sCommit(hi:i<8)(ho:t.wt.ops i=true)(hs:t.sets i=[y])(hy:rightWr y=true)(hcl:clashS t.noted [y] (t.wt.ats i)=false)(h1:slot.toNat<60000)(h8:(s.ws 8).toNat≤slot.toNat):
 Steps (EgI g d p x tt bk L s t slot m P) (EgJ g d p x tt bk L s t slot m i y 0) 27 #[.pointer (some ⟨g,0,none⟩),.int .i64 (i:Int)] (.int .i64 0):=by
 rintro W X⟨b,J,F,h,hm,hp,a⟩
 have hgl:=h.box.lt
 have hxl:=h.ix.box.lt
 have htl:=h.ix.sys.tabs.lt
 refine(egCommit h hi ho hs hy hcl h1 h8).mono ?_
 rintro e w'⟨rfl,jb,vs,sv,hjs,hE,hJ,hV,hS,hT⟩
 obtain⟨A,c,rfl⟩:=hV.slice
 have hE':EngAt w' g d p x tt bk L s b t F (fun q=>(J q∨q=jb)∨X q) slot (.iface 41 (.pointer (some ⟨jb,0,none⟩))) (i:Int) sv (slot+1):=hE.congrJ (fun q=>by constructor<;>(intro h;rcases h with(h| h)| h<;>simp [h]))
 have hmo:∀{v:Value},SetR w' (EF F (fun q=>J q∨X q) bk b.nt jb) v [y]→SetR w' (EF F (fun q=>(J q∨q=jb)∨X q) bk b.nt jb) v [y]:=fun hv=>hv.mono (fun q _ hq=>by
  rcases hq with hq| ((hq| hq)| hq)| hq
  ·exact .inl hq
  ·exact .inr (.inl (.inl hq))
  ·exact .inr (.inr (.inr (.inr hq)))
  ·exact .inr (.inl (.inr hq))
  ·exact .inr (.inr hq))
 have hX:¬X jb:=fun hx=>by have:=h.jl jb (.inr hx);omega
 exact⟨rfl,⟨b,_,F,jb,A,c,_,sv,hE',hm,.inr rfl,by omega,by omega,⟨by omega,by omega⟩,hX,hJ,.inl ⟨rfl,rfl⟩,hmo hV,hmo hS,a⟩,hT.mono (fun q e=>e▸outs_of a.ng h.c3.1 h.c3.2)⟩
theorem sWork1(hk:y.key.size≤16)(htx:y.text.size≤40)(hge:getP s y.key.data.toList=(0,7))(hgo:y.gone=false)
 (hTk:∀off s1,reserveP s 1=some (off,s1)→(takeP {s1 with ws:=putWs s1.ws (off/8) (encRc ⟨slot+1,0,y.gone,y.text⟩)} off).2=0)
 {s1:St}{place:UInt64}(ha:addP s ⟨slot+1,0,y.gone,y.text⟩=(s1,place,0))(hp:putK s1 y.key.data.toList place=(s2,0)):
 Steps (EgJ g d p x tt bk L s t slot m i y 0) (EgJ g d p x tt bk L s2 t slot m i y 1) 22 #[.pointer (some ⟨g,0,none⟩)] (.tuple #[.int .i64 (i:Int),.bool false,.int .i64 0]):=by
 rintro W X⟨b,J,F,jb,A,c,vd,sv,h,hm,h1,h2,h3,h4,h5,hj,hv,hs1,hs2,a⟩
 obtain rfl:vd= .slice none 0 0:=by
  rcases hv with hv| hv
  ·exact hv.2
  ·exact absurd hv.1 (by decide)
 refine(egStep h (fun w'=>(∃F' B c2,EngAt w' g d p x tt bk L s2 b t F' (fun q=>J q∨X q) slot (.iface 41 (.pointer (some ⟨jb,0,none⟩))) (i:Int) sv (slot+1)∧JobB w' jb x d p (slot+1) (.slice A 1 c) (.slice B 1 c2) false 0 F'∧Moved (fun b=>F b∨b=jb) (fun b=>F' b∨b=jb) W w')) (G:=fun q=>F q∨q=jb) (fun q hq=>hq.elim (h.ix.sys.lt q) (fun e=>by rw [e];exact hj.box.lt)) (fun W1 hb=> ?_) (by obtain⟨B,c2,e⟩:=hs2.slice;exact⟨B,_,c2,e⟩)).mono ?_
 ·have hsr:SetR W1 (fun b=>F b∨b=jb) (.slice A 1 c) [y]:=(hs1.below hb).mono (fun q _ hq=>hq.imp id (fun e=> .inr (.inr (.inr e))))
  refine(jobStep (h.ix.below hb) ⟨hj.box.below hb hj.box.lt,hj.out⟩ h3 h4 y hsr hk htx hge hgo hTk ha hp).mono ?_
  rintro e w'⟨rfl,F',B,c2,hx,hj',mv⟩
  exact⟨rfl,⟨F',B,c2,(h.below hb).job (.inl h1) h2 hx mv,hj',(Moved.of_below hb).trans mv⟩,mv.touch⟩
 ·rintro e w'⟨rfl,F',B,c2,hE,hj',mv⟩
  have hmv:Moved (EF F (fun q=>J q∨X q) bk b.nt jb) (EF F' (fun q=>J q∨X q) bk b.nt jb) W w':=⟨mv.touch.mono (fun q hq=>hq.imp id (fun e=> .inr (.inr (.inr e)))),fun q hq=>by
   rcases hq with hq| hq
   ·exact(mv.own q (.inl hq)).imp (fun h=>h.imp id (fun e=> .inr (.inr (.inr e)))) id
   ·exact .inl (.inr hq)⟩
  have hX:∀q,X q→q<W.heap.size:=fun q hq=>h.jl q (.inr hq)
  exact⟨rfl,⟨b,J,F',jb,A,c,_,sv,hE,hm,h1,h2,h3,h4,h5,hj',.inr ⟨rfl,B,c2,rfl⟩,hs1.moved hmv,hs2.moved hmv,
   ⟨a.ng,a.nx,fun q hq hx=>(mv.own q (.inl hq)).elim (fun h=>h.elim (fun hf=>a.nf q hf hx) (fun e=>h5 (e▸hx))) (fun hle=>by have:=hX q hx;omega),a.c1,a.c2⟩⟩,
   mv.touch.mono (fun q hq=>hq.elim (fun hf=>outs_of (a.nf q hf) (fun e=>h.ix.noTab.1 (e▸hf)) (fun e=>h.ix.noTab.2 (e▸hf))) (fun e=>e▸outs_of h5 (fun e=>h4.1 e.symm) (fun e=>h4.2 e.symm)))⟩
theorem sWork2(hi:i<8)(ho:t.wt.ops i=true):
 Steps (EgJ g d p x tt bk L s t slot m i y 1) (EgI g d p x tt bk L {s with ws:=put1 s.ws 8 (slot+1)} (noteT (endT t i) [y] (slot+1)) (slot+1) m (fun _=>True)) 22 #[.pointer (some ⟨g,0,none⟩)] (.tuple #[.int .i64 (i:Int),.bool true,.int .i64 0]):=by
 rintro W X⟨b,J,F,jb,A,c,vd,sv,h,hm,h1,h2,h3,h4,h5,hj,hv,hs1,hs2,a⟩
 obtain⟨B,c2,rfl⟩:∃B c2,vd= .slice B 1 c2:=by
  rcases hv with hv| hv
  ·exact absurd hv.1 (by decide)
  ·exact hv.2
 obtain⟨B2,c3,rfl⟩:=hs2.slice
 refine(egStepEnd (s2:={s with ws:=put1 s.ws 8 (slot+1)}) h (.inl h1) h2 hi ho hs2 (by simp) (fun W1 hb=> ?_)).mono ?_
 ·refine(jobEnd (h.ix.below hb) ⟨hj.box.below hb hj.box.lt,hj.out⟩ h3 h4).mono ?_
  rintro e w'⟨rfl,F',hx,hj',mv⟩
  exact⟨rfl,F',hx,mv⟩
 ·rintro e w'⟨rfl,b',F',hm',hn',hE,mv⟩
  have hX:∀q,X q→q<W.heap.size:=fun q hq=>h.jl q (.inr hq)
  exact⟨rfl,⟨b',J,F',hE,by rw [hm',hm],trivial,⟨a.ng,a.nx,fun q hq hx=>(mv.own q (.inl hq)).elim (fun h9=>by
   rcases h9 with h9| h9| h9| h9| h9
   ·exact a.nf q h9 hx
   ·exact h5 (h9▸hx)
   ·exact a.ng (h9▸hx)
   ·exact h.apart.1 (h9▸hx)
   ·exact h.apart.2.1 (h9▸hx)) (fun hle=>by have:=hX q hx;omega),a.c1,a.c2⟩⟩,mv.touch.mono (fun q hq=>by
   rcases hq with h9| h9| h9| h9| h9
   ·exact outs_of (a.nf q h9) (fun e=>h.ix.noTab.1 (e▸h9)) (fun e=>h.ix.noTab.2 (e▸h9))
   ·exact h9▸outs_of h5 (fun e=>h4.1 e.symm) (fun e=>h4.2 e.symm)
   ·exact h9▸outs_of a.ng h.c3.1 h.c3.2
   ·exact h9▸outs_of h.apart.1 h.c1.1 h.c1.2
   ·exact h9▸outs_of h.apart.2.1 h.c2.1 h.c2.2)⟩
end
def sh100':Sh:={lines:=100,slabs:=6,table:=128,data:=192}
theorem shape100':shapeOf 100=some sh100':=by decide+kernel
def oneS(g d p x tt bk L:Nat)(sh:Sh)(ky tx:ByteArray):Nat→World→(Nat→Prop)→Prop
 | 0=>EgI g d p x tt bk L (st0 sh) tb0 0 0 (fun _=>True)
 | 1=>EgI g d p x tt bk L (st0 sh) (beginT tb0 0 0) 0 1 (fun b=>b.st 0= .slice none 0 0)
 | 2=>EgI g d p x tt bk L (st0 sh) (writeT (beginT tb0 0 0) 0 [⟨ky,tx,false⟩]) 0 1 (fun _=>True)
 | 3=>EgJ g d p x tt bk L (st0 sh) (writeT (beginT tb0 0 0) 0 [⟨ky,tx,false⟩]) 0 1 0 ⟨ky,tx,false⟩ 0
 | 4=>EgJ g d p x tt bk L (one2 sh ky tx) (writeT (beginT tb0 0 0) 0 [⟨ky,tx,false⟩]) 0 1 0 ⟨ky,tx,false⟩ 1
 | _=>EgI g d p x tt bk L (one3 sh ky tx) (noteT (endT (writeT (beginT tb0 0 0) 0 [⟨ky,tx,false⟩]) 0) [⟨ky,tx,false⟩] 1) 1 1 (fun _=>True)
theorem EngAt.begun{w:World}{g d p x tt bk nt L B:Nat}{s:St}{F X:Nat→Prop}{slot:UInt64}(h:EngAt w g d p x tt bk L s (bk0 nt) tb0 F (fun k=>k=g) slot .nilIface 0 (.slice none 0 0) 0)(f:Fresh B g x tt bk nt F)(hX:∀q,X q→q<B∧q≠0∧q≠1):
 EgI g d p x tt bk L s tb0 slot 0 (fun _=>True) w X:=by
 have hn:∀q,B≤q→¬X q:=fun q hq hx=>by have:=(hX q hx).1;omega
 have hB:B≤w.heap.size:=by have:=h.box.lt;have:=f.g;omega
 refine⟨bk0 nt,fun k=>k=g,F,⟨h.ix,?_,.inl rfl,fun q hq=>hq.elim (fun e=>by rw [e];exact h.box.lt) (fun hx=>by have:=(hX q hx).1;omega),h.box,h.fg,h.g1,h.g2,h.g3,h.g4,h.x1,h.x2,h.c1,h.c2,h.c3⟩,rfl,trivial,⟨hn g f.g,hn x f.x,fun q hq=>hn q (f.f q hq),fun hx=>(hX _ hx).2.1 rfl,fun hx=>(hX _ hx).2.2 rfl⟩⟩
 refine⟨h.tb.box,h.tb.book,h.tb.map,h.tb.wt,fun _ _=>SetR.nil,h.tb.pile,?_,?_,?_,h.tb.ne1,h.tb.ne2,h.tb.ne3⟩
 ·exact fun hf=>hf.elim (fun h1=>h.tb.fb (.inl h1)) (fun h1=>h1.elim (fun h2=>h.tb.fb (.inr h2)) (hn bk f.bk))
 ·exact fun hf=>hf.elim (fun h1=>h.tb.fn (.inl h1)) (fun h1=>h1.elim (fun h2=>h.tb.fn (.inr h2)) (hn nt f.nt))
 ·exact fun hf=>hf.elim (fun h1=>h.tb.ft (.inl h1)) (fun h1=>h1.elim (fun h2=>h.tb.ft (.inr h2)) (hn tt f.tt))
section
variable{g d p x tt bk L:Nat}{sh:Sh}{ky tx:ByteArray}
theorem oneS.frames(k:Nat):Frames (oneS g d p x tt bk L sh ky tx k):=by
 match k with
 | 0=>exact EgI.frames
 | 1=>exact EgI.frames
 | 2=>exact EgI.frames
 | 3=>exact EgJ.frames
 | 4=>exact EgJ.frames
 | _+5=>exact EgI.frames
theorem one_s0:Steps (oneS g d p x tt bk L sh ky tx 0) (oneS g d p x tt bk L sh ky tx 1) 19 #[.pointer (some ⟨g,0,none⟩)] (.tuple #[.int .i64 0,.int .i64 0]):=
 sBegin (i:=0) (slot:=0) (t:=tb0) (by decide) (by decide)
theorem one_s1(hk:ky.size≤16)(ht:tx.size≤40):Steps (oneS g d p x tt bk L sh ky tx 1) (oneS g d p x tt bk L sh ky tx 2) 25 #[.pointer (some ⟨g,0,none⟩),.int .i64 0,.string ky,.string tx] (.int .i64 0):=
 sPut (i:=0) (by decide) rfl ky tx (by simp [rightWr,hk,ht])
theorem one_s2(hk:ky.size≤16)(ht:tx.size≤40):Steps (oneS g d p x tt bk L sh ky tx 2) (oneS g d p x tt bk L sh ky tx 3) 27 #[.pointer (some ⟨g,0,none⟩),.int .i64 0] (.int .i64 0):=
 sCommit (i:=0) (by decide) rfl rfl (by simp [rightWr,hk,ht]) rfl (by decide) (by rw [show(st0 sh).ws 8=0 from format_above sh 8 (by decide)];decide)
theorem one_s3(hk:ky.size≤16)(ht:tx.size≤40)(h:oneB sh ky tx=true):Steps (oneS g d p x tt bk L sh ky tx 3) (oneS g d p x tt bk L sh ky tx 4) 22 #[.pointer (some ⟨g,0,none⟩)] (.tuple #[.int .i64 0,.bool false,.int .i64 0]):=
 sWork1 (i:=0) (slot:=0) hk ht (one_get sh ky hk) rfl (one_take h) (one_add h) (one_put h)
theorem one_s4:Steps (oneS g d p x tt bk L sh ky tx 4) (oneS g d p x tt bk L sh ky tx 5) 22 #[.pointer (some ⟨g,0,none⟩)] (.tuple #[.int .i64 0,.bool true,.int .i64 0]):=
 sWork2 (i:=0) (slot:=0) (by decide) rfl
def oneL(ky tx:ByteArray):List Sp:=[⟨0,0,⟨#[]⟩,⟨#[]⟩⟩,⟨1,0,ky,tx⟩,⟨5,0,⟨#[]⟩,⟨#[]⟩⟩,⟨6,0,⟨#[]⟩,⟨#[]⟩⟩,⟨6,0,⟨#[]⟩,⟨#[]⟩⟩]
end
theorem one20:oneB sh100' ⟨#[97]⟩ ⟨#[120]⟩=true:=by decide+kernel
theorem chk20:chkOne (one3 sh100' ⟨#[97]⟩ ⟨#[120]⟩) ⟨#[97]⟩ ⟨#[120]⟩=true:=by decide+kernel
set_option maxHeartbeats 8000000 in
set_option maxRecDepth 100000 in
theorem alive20{w:World}(hT:Tabs w):Calls Tryz.prog 18 #[] w fun e w'=>e= .returned (.bool true)∧Below w.heap.size w w':=by
 have htl:=hT.lt
 have HBg:=egBegun (L:=100) (sh:=sh100') (by decide) (by decide) shape100' hT
 rw [show((100:Nat):Int)=100 from rfl]at HBg
 have HBg:=Lib.hid HBg
 obtain⟨v,m,k,hsv,hgt,hls,hst,hgo,htx,hne,hal⟩:=chkOne_out chk20
 have HSv:=Lib.hid hsv
 have HGt:=Lib.hid hgt
 have HLs:=Lib.hid hls
 have HSt:=Lib.hid hst
 have HGo:=Lib.hid hgo
 have HTx:=Lib.hid htx
 have HNe:=Lib.hid hne
 have HAl:=Lib.hid hal
 clear hT hsv hgt hls hst hgo htx hne hal
 go_enter Tryz.func18,Tryz.ntmps18
 go_wp2_with fail
 refine HBg.out.mono ?_
 rintro e w1⟨d,g,p,x,tt,bk,nt,F,rfl,hE,hb1,hf⟩
 have HS:=Lib.hid (one_s0 (ky:=⟨#[97]⟩) (tx:=⟨#[120]⟩) _ _ (hE.begun hf (X:=fun q=>q<w.heap.size∧q≠0∧q≠1) (fun q hq=>hq)))
 have HB1:=Lib.hid hb1
 clear HBg hE hb1 hf
 go_wp2_with fail
 refine HS.out.mono ?_
 rintro e w2⟨rfl,hS,ht⟩
 have HT:=Lib.hid ht
 have HS2:=Lib.hid (one_s1 (by decide) (by decide) _ _ hS)
 clear HS hS ht
 go_wp2_with fail
 refine HS2.out.mono ?_
 rintro e w3⟨rfl,hS,ht⟩
 have HT3:=Lib.hid (HT.out.trans ht (fun _ h=> .inl h))
 have HS3:=Lib.hid (one_s2 (by decide) (by decide) _ _ hS)
 clear HS2 hS ht HT
 go_wp2_with fail
 refine HS3.out.mono ?_
 rintro e w4⟨rfl,hS,ht⟩
 have HT4:=Lib.hid (HT3.out.trans ht (fun _ h=> .inl h))
 have HS4:=Lib.hid (one_s3 (by decide) (by decide) one20 _ _ hS)
 clear HS3 hS ht HT3
 go_wp2_with fail
 refine HS4.out.mono ?_
 rintro e w5⟨rfl,hS,ht⟩
 have HT5:=Lib.hid (HT4.out.trans ht (fun _ h=> .inl h))
 have HS5:=Lib.hid (one_s4 _ _ hS)
 clear HS4 hS ht HT4
 go_wp2_with fail
 refine HS5.out.mono ?_
 rintro e w6⟨rfl,hS,ht⟩
 have HT6:=Lib.hid (HT5.out.trans ht (fun _ h=> .inl h))
 have hS6:EgI g d p x tt bk 100 (one3 sh100' ⟨#[97]⟩ ⟨#[120]⟩) (noteT (endT (writeT (beginT tb0 0 0) 0 [⟨⟨#[97]⟩,⟨#[120]⟩,false⟩]) 0) [⟨⟨#[97]⟩,⟨#[120]⟩,false⟩] 1) 1 1 (fun _=>True) w6 _:=hS
 have HS6:=Lib.hid (sBegin (i:=0) rfl (by decide) _ _ hS6)
 clear HS5 hS hS6 ht HT5
 go_wp2_with fail
 refine HS6.out.mono ?_
 rintro e w7⟨rfl,⟨b,J,F7,hE7,hm7,hp7,ha7⟩,ht⟩
 have HT7:=Lib.hid (HT6.out.trans ht (fun _ h=> .inl h))
 have hE7:EngAt w7 g d p x tt bk 100 (one3 sh100' ⟨#[97]⟩ ⟨#[120]⟩) b (tb20 ⟨⟨#[97]⟩,⟨#[120]⟩,false⟩) F7 _ 1 .nilIface 0 (.slice none 0 0) 0:=hE7
 have hG:=egGet hE7 (i:=0) (by decide) rfl rfl ⟨#[97]⟩ (by decide) HGt.out HLs.out (by simp) (tx:=⟨#[120]⟩) (by rw [show(tb20 ⟨⟨#[97]⟩,⟨#[120]⟩,false⟩).wt.ats 0=1 from rfl];rw [←HTx.out];exact see_one HSt.out HGo.out)
 rw [show((0:Nat):Int)=0 from rfl]at hG
 have HG:=Lib.hid hG
 have HE7:=Lib.hid hE7
 have HNd:Hid (NeedP (one3 sh100' ⟨#[97]⟩ ⟨#[120]⟩) (leastW (tb20 ⟨⟨#[97]⟩,⟨#[120]⟩,false⟩).wt 1).toNat [((⟨#[97]⟩:ByteArray).data.toList,v)]):=Lib.hid (fun j hj=>by
  obtain rfl:j=0:=by simpa using hj
  exact⟨[k],HLs.out,by simp,by simp,by rw [tb20_least];exact need_one HSt.out HGo.out⟩)
 clear HS6 hE7 hp7 hG ht HT6
 go_wp2_with fail
 refine HG.out.mono ?_
 rintro e w8⟨rfl,hb8⟩
 have HE8:=Lib.hid (HE7.out.below hb8)
 have HT8:=Lib.hid (HT7.out.trans (Touch.of_below hb8) (fun _ h=> .inl h))
 have HVc:=Lib.hid (egVacuum HE8.out HSv.out HNd.out)
 clear HG hb8 HT7
 go_wp2_with fail
 refine HVc.out.mono ?_
 rintro e w9⟨rfl,b9,hm9,hn9,hE9,ht9⟩
 have HE9:=Lib.hid hE9
 have hbk:=hE9.apart
 have HRc:=Lib.hid (egReach hE9 (fun W kb=>mendReach (hE9.ix.below kb) HSv.out (offs_one HLs.out) (by simp) (once2 HNe.out)))
 clear HVc hE9
 go_wp2_with fail
 refine HRc.out.mono ?_
 rintro e w10⟨vr,rfl,hO,hb10⟩
 rw [show [m,k.off].length=2 from rfl]at hO
 obtain⟨Ar,cr,rfl,_,_⟩:=own_rowk hO
 have hT9:=HT8.out.trans ht9 (fun q h=> .inl (h▸outs_of hbk.1 HE9.out.c1.1 HE9.out.c1.2))
 have hbE:Below w.heap.size w w9:=HB1.out.trans (hT9.below HB1.out.size (fun q h=>by
  by_cases hq:w.heap.size≤q
  ·exact hq
  ·exact absurd (show _ from by
   by_cases h1:q=0
   ·exact .inr (.inl h1)
   ·by_cases h2:q=1
    ·exact .inr (.inr h2)
    ·exact .inl ⟨by omega,h1,h2⟩) h))
 have HBE:=Lib.hid hbE
 have HB10:=Lib.hid hb10
 have HBl:=Lib.hid (egBlocks (HE9.out.below hb10))
 rw [HAl.out]at HBl
 have HSl:=Lib.hid (fun W(kb:Below w9.heap.size w9 W)=>egSlot (HE9.out.below kb))
 rw [show(((1:UInt64).toNat:Nat):Int)=1 from rfl]at HSl
 clear HRc hO hb10 ht9 hT9 hbE hbk hm9 hn9
 go_wp2_with fail
 refine HBl.out.mono ?_
 rintro e w11⟨vb,rfl,hO11,hb11⟩
 obtain⟨Ab,cb,rfl,_,_⟩:=own_rowk hO11
 have HB11:=Lib.hid (HB10.out.trans (hb11.mono HB10.out.size))
 clear hO11 hb11 HBl
 go_wp2_with fail
 refine(HSl.out _ HB11.out).mono ?_
 rintro e w12⟨rfl,rfl⟩
 go_wp2_with fail
 go_ret
 exact⟨rfl,HBE.out.trans (HB11.out.mono HBE.out.size)⟩
set_option maxHeartbeats 8000000 in
set_option maxRecDepth 100000 in
theorem engineNobody_any(id:Int)(key text:ByteArray)(w:World)(hT:Tabs w):Calls Tryz.prog 4 #[.int .i64 id,.string key,.string text] w fun e w'=>e= .returned (.bool true)∧Below w.heap.size w w':=by
 have htl:=hT.lt
 have HA:=Lib.hid (alive20 hT)
 have HT:=Lib.hid hT
 clear hT
 obtain⟨q1,hq1⟩:∃q,decide ((60:Int)<(key.size:Int))=q:=⟨_,rfl⟩
 obtain⟨q2,hq2⟩:∃q,decide ((60:Int)<(text.size:Int))=q:=⟨_,rfl⟩
 go_enter Tryz.func4,Tryz.ntmps4
 go_wp2_with fail
 refine HA.out.mono ?_
 rintro e w1⟨rfl,hb1⟩
 have HB1:=Lib.hid hb1
 clear hb1 HA
 cases q1 with
 | true=>
   go_wp2_with fail
   go_ret
   exact⟨rfl,HB1.out⟩
 | false=>
   cases q2 with
   | true=>
     go_wp2_with fail
     go_ret
     exact⟨rfl,HB1.out⟩
   | false=>
     obtain⟨W2,hW2⟩:∃W2,W2=(w1.alloc (.cells #[.pointer none,.pointer none,.pointer none,.pointer none,.int .u64 0,.nilIface,.int .i64 0,.slice none 0 0,.int .u64 0] 58)).alloc (.cells #[.pointer none,.pointer (some ⟨w1.heap.size,0,none⟩)] 51):=⟨_,rfl⟩
     have hb2:Below w1.heap.size w1 W2:=hW2▸((Below.refl _ _).alloc (Nat.le_refl _) _).alloc (by simp) _
     have hB:Blk W2 (w1.heap.size+1) 51 [.pointer none,.pointer (some ⟨w1.heap.size,0,none⟩)]:=by
      rw [hW2,show w1.heap.size+1=(w1.alloc (.cells #[.pointer none,.pointer none,.pointer none,.pointer none,.int .u64 0,.nilIface,.int .i64 0,.slice none 0 0,.int .u64 0] 58)).heap.size by simp]
      exact heap_alloc_new _ _
     have hE:Blk W2 w1.heap.size 58 [.pointer none,.pointer none,.pointer none,.pointer none,.int .u64 0,.nilIface,.int .i64 0,.slice none 0 0,.int .u64 0]:=by
      rw [hW2]
      exact Blk.below (B:=w1.heap.size+1) (heap_alloc_new _ _) ((Below.refl _ _).alloc (by simp) _) (by omega)
     have hN:∀k,k<2→∃gv,W2.cell? ⟨w1.heap.size+1,k,none⟩=some gv∧NoEng W2 gv:=fun k hk=>by
      rcases(show k=0∨k=1 by omega)with rfl| rfl
      ·exact⟨_,hB.cell 0,.inl rfl⟩
      ·exact⟨_,hB.cell 1,.inr ⟨_,rfl,hE.cell 0,hE.lt⟩⟩
     have HN:=Lib.hid hN
     have HBl:=Lib.hid hB
     have HB2:=Lib.hid (HB1.out.trans (hb2.mono HB1.out.size))
     have HW2:=Lib.hid hW2
     clear hW2 hb2 hB hE hN
     go_wp2_with fail
     rw [←HW2.out]
     go_loopw [40](fun i wr=>∃k:Nat,k≤2∧i= .int .i64 (k:Nat)∧Below W2.heap.size W2 wr)(fun i _=>2- (intOf i).toNat)
     case atStart=>exact⟨0,Nat.zero_le _,rfl,Below.refl _ _⟩
     case round=>
      obtain⟨k,hk,rfl,hb⟩:=hrel
      have HBr:=Lib.hid hb
      clear hb
      by_cases hlt:k<2
      ·obtain⟨gv,hgv,hng⟩:=HN.out k hlt
       have hc:_=some gv:=(HBr.out.cell (p:=⟨w1.heap.size+1,k,none⟩) HBl.out.lt).trans hgv
       have hn:=hng.below HBr.out
       have HNg:=Lib.hid hn
       have hx1:decide ((k:Int)<2)=true:=decide_eq_true (by omega)
       have hx5:decide (k<2)=true:=decide_eq_true hlt
       have hwk:IntKind.i64.wrap ((k:Int)+1)=(k:Int)+1:=IntWalk.i64_in _ (by omega)
       clear hgv hng hn
       go_wp2_with(first
        | (go_at_call 19;refine(nnBegin HNg.out).mono ?_;rintro e w5⟨rfl,rfl⟩)
        | (go_at_call 20;refine(nnGet HNg.out id key).mono ?_;rintro e w5⟨rfl,rfl⟩)
        | (go_at_call 21;refine(nnScan HNg.out id key text).mono ?_;rintro e w5⟨rfl,rfl⟩)
        | (go_at_call 22;refine(nnStep HNg.out).mono ?_;rintro e w5⟨rfl,rfl⟩)
        | (go_at_call 23;refine(nnVacuum HNg.out).mono ?_;rintro e w5⟨rfl,rfl⟩)
        | (go_at_call 24;refine(nnReach HNg.out).mono ?_;rintro e w5⟨rfl,rfl⟩)
        | (go_at_call 25;refine(nnPut HNg.out id key text).mono ?_;rintro e w6⟨rfl,hb6⟩)
        | (go_at_call 26;refine(nnDel (HNg.out.below hb6) id key).mono ?_;rintro e w7⟨rfl,hb7⟩)
        | (go_at_call 27;refine(nnCommit ((HNg.out.below hb6).below hb7) id).mono ?_;rintro e w8⟨rfl,rfl⟩)
        | (go_at_call 28;refine(nnAbort ((HNg.out.below hb6).below hb7) id).mono ?_;rintro e w8⟨rfl,rfl⟩)
        | (go_at_call 29;refine(nnSlot ((HNg.out.below hb6).below hb7)).mono ?_;rintro e w8⟨rfl,rfl⟩)
        | (go_at_call 30;refine(nnBlocks ((HNg.out.below hb6).below hb7)).mono ?_;rintro e w8⟨rfl,rfl⟩))
       go_roundw
       case rel=>
        have hb8:=HBr.out.trans (hb6.mono HBr.out.size)
        exact⟨k+1,by omega,by go_num,hb8.trans (hb7.mono hb8.size)⟩
       case measure=>simp [intOf];omega
      ·have hx2:decide ((k:Int)<2)=false:=decide_eq_false (by omega)
       have hx5:decide (k<2)=false:=decide_eq_false hlt
       have HNw:=new_dev 40 wr (by decide) (by decide)
       rw [show((40:Nat):Int)=40 from rfl]at HNw
       have HNw:=Lib.hid HNw
       go_wp2_with fail
       refine HNw.out.mono ?_
       rintro e w5⟨d,g0,rfl,hr,_,_,hb5⟩
       have hbr:=HB2.out.trans (HBr.out.mono HB2.out.size)
       have hb05:=hbr.trans (hb5.mono hbr.size)
       have HOp:=Lib.hid (engOpenNew (own:=devOwn d 40 g0 (fun _=>none)) ⟨g0,_,hr,fun _=>Iff.rfl⟩ (HT.out.below hb05))
       have HB5:=Lib.hid hb05
       clear hr hb5 hbr hb05 HNw
       go_wp2_with fail
       refine HOp.out.mono ?_
       rintro e w6⟨rfl,hb6⟩
       have HB6:=Lib.hid (HB5.out.trans (hb6.mono HB5.out.size))
       clear hb6 HOp
       go_wp2_with fail
       refine(engOpenNil w6).mono ?_
       rintro e w7⟨rfl,hb7⟩
       go_wp2_with fail
       go_ret
       exact⟨rfl,HB6.out.trans (hb7.mono HB6.out.size)⟩
end Go.Proofs.YtbkpiojejmhfcaaGreatDoor
