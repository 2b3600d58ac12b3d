import Derived.Test.YtdjfbnoolfpcnaaGreatDoorG08
import Derived.Test.YtdjfbnoolfpcnaaGreatDoorG14
namespace Go.Proofs.YtdjfbnoolfpcnaaGreatDoor
def openS(ws:Nat→UInt64)(sh:Sh):St:={sh:=sh,ws:=ws,tk:=wordsAt ws (sh.table/8) sh.slabs,hd:=List.replicate sh.slabs 0}
def NearH(s:St)(ws':Nat→UInt64):Prop:=∀j,(∀o c,HeldAt s o c→¬inBlk o c j)→ws' j=s.ws j
def Fnd(X:Nat→Prop)(L:Nat)(s0:St)(items:List Kv)(ws':Nat→UInt64):Prop:=∃Y:Nat→Prop,(∀o,X o→Y o)∧IxX Y L (openS ws' s0.sh) items∧KeepX X s0 (openS ws' s0.sh)
section
variable{X:Nat→Prop}{L:Nat}{s0 sF s:St}{items its:List Kv}{ws':Nat→UInt64}
theorem open_hd(ws:Nat→UInt64)(sh:Sh)(i:Nat):hdN (openS ws sh) i=0:=by
 unfold hdN openS;simp only [List.getD_eq_getElem?_getD,List.getElem?_replicate];split<;>rfl
theorem open_nh(ws:Nat→UInt64)(sh:Sh)(o d:Nat):¬HeldAt (openS ws sh) o d:=by
 rintro⟨i,a,_,ha,_⟩;rw [open_hd,has_zero]at ha;cases ha
theorem NearH.low(ok:PoolOk L s)(h:NearH s ws'):∀j,j<16+s.sh.slabs→ws' j=s.ws j:=fun j hj=>h j (fun o c hh hi=>by
 have:=ok.table_words (hh.bounds ok).1 hi;omega)
theorem open_tk(ok:PoolOk L s)(h:NearH s ws'):wordsAt ws' (s.sh.table/8) s.sh.slabs=s.tk:=by
 apply List.ext_getElem
 ·simp [wordsAt,ok.ntk]
 ·intro i h1 h2;have hi:i<s.sh.slabs:=by rw [←ok.ntk];exact h2
  rw [wordsAt_get,ok.sh.table,show 128/8+i=16+i by omega,h.low ok (16+i) (by omega),ok.tab i hi,List.getD_eq_getElem?_getD,List.getElem?_eq_getElem h2];rfl
theorem open_near(ok:PoolOk L s)(h:NearH s ws'):PoolOk L (openS ws' s.sh)∧(∀o d,TakenAt (openS ws' s.sh) o d↔TakenAt s o d)∧KeepT s (openS ws' s.sh) (fun _=>True):=by
 have htk:∀i,tkN (openS ws' s.sh) i=tkN s i:=fun i=>by
  unfold tkN;rw [show(openS ws' s.sh).tk=s.tk from open_tk ok h]
 have ht:∀o d,TakenAt (openS ws' s.sh) o d↔TakenAt s o d:=fun o d=>by
  unfold TakenAt;simp only [htk];exact Iff.rfl
 refine⟨⟨ok.sh,ok.L1,by rw [show(openS ws' s.sh).tk=s.tk from open_tk ok h];exact ok.ntk,by simp [openS],fun i hi=>by rw [htk];exact ok.tk i hi,fun i _=> .inl (open_hd _ _ i),fun i _=> .inr (.inl (open_hd _ _ i)),fun i a _ _=>by rw [open_hd,has_zero],fun i hi=> ?_⟩,ht,fun o d _ hd=>⟨(ht o d).2 hd,fun j hj=>h j (fun o' c hh hi=> ?_)⟩⟩
 ·show ws' (16+i)=(openS ws' s.sh).tk.getD i 0;rw [show(openS ws' s.sh).tk=s.tk from open_tk ok h,h.low ok (16+i) (by have:i<s.sh.slabs:=hi;omega)];exact ok.tab i hi
 ·obtain⟨_,hap⟩:=held_apart ok hh hd;exact apart_words hap (hh.bounds ok).2.2 (hd.bounds ok).2.2 hi hj
theorem IxX.again{s':St}(h:IxX X L s items)(ok':PoolOk L s')(nh':∀o d,¬HeldAt s' o d)(hk:KeepT s s' (fun _=>True))(h9:s'.ws 9=s.ws 9):IxX (fun o=>(∃d,TakenAt s' o d)∧((∃d,TakenAt s o d)→X o)) L s' items:=by
 have hto:∀o,(∃d,TakenAt s o d)→∃d,TakenAt s' o d:=fun o⟨d,hd⟩=>⟨d,(hk o d trivial hd).1⟩
 refine⟨ok',nh',?_,h.even⟩;rcases h.tree with⟨h1,h2,h3⟩| ⟨blocks,h1,T,hnd,hX,h3⟩
 ·exact .inl ⟨h9.trans h1,h2,fun o=>⟨fun ht=>⟨ht,fun hs=>(h3 o).1 hs⟩,fun h=>h.1⟩⟩
 ·refine .inr ⟨blocks,by rw [h9];exact h1,by rw [h9];exact T.keep h.ok ok' hk (fun _ _=>trivial),hnd,fun o ho hZ=>hX o ho (hZ.2 ((h3 o).2 (.inl ho))),fun o=> ?_⟩;constructor
  ·intro ht;by_cases hb:o∈blocks
   ·exact .inl hb
   ·exact .inr ⟨ht,fun hs=>((h3 o).1 hs).resolve_left hb⟩
  ·rintro(ho| hZ)
   ·exact hto o ((h3 o).2 (.inl ho))
   ·exact hZ.1
theorem IxX.taken(h:IxX X L s items){o:Nat}(ho:X o):∃d,TakenAt s o d:=by
 rcases h.tree with⟨_,_,h3⟩| ⟨_,_,_,_,_,h3⟩
 ·exact(h3 o).2 ho
 ·exact(h3 o).2 (.inr ho)
theorem found(hF:IxX X L sF its)(kX:KeepX X s0 sF)(ok:PoolOk L s)(sh:s.sh=sF.sh)(hk:KeepT sF s (fun _=>True))(low:∀j,j<16→s.ws j=sF.ws j)(hn:NearH s ws'):Fnd X L s0 its ws':=by
 obtain⟨ok',ht,k'⟩:=open_near ok hn;have e0:s.sh=s0.sh:=sh.trans kX.sh;rw [e0]at ok' ht k';have hk2:KeepT sF (openS ws' s0.sh) (fun _=>True):=hk.trans k';have hlow:∀j,j<16→(openS ws' s0.sh).ws j=sF.ws j:=fun j hj=>(hn.low ok j (by omega)).trans (low j hj)
 refine⟨_,fun o ho=> ?_,hF.again ok' (open_nh _ _) hk2 (hlow 9 (by decide)),⟨rfl,fun j hj h9=>(hlow j hj).trans (kX.low j hj h9),kX.keep.trans (hk2.mono fun _ _=>trivial)⟩⟩;obtain⟨d,hd⟩:=hF.taken ho;exact⟨⟨d,(hk2 o d trivial hd).1⟩,fun _=>ho⟩
theorem near_self(s:St):NearH s s.ws:=fun _ _=>rfl
end
def Dn(Good:(Nat→UInt64)→Prop)(q:Ms):Prop:=∃P,q.pw= .down P∧∀ws',P ws'→Good ws'
def SimS(Good:(Nat→UInt64)→Prop)(r:Ms×Int)(r0:St×Int):Prop:=(∃lf,r=(⟨.up lf,r0.1⟩,r0.2))∨Dn Good r.1
def jmU(lf:Int)(j:Jb):Jm:=⟨⟨.up lf,j.s⟩,j.made⟩
def SimJ(Good:(Nat→UInt64)→Prop)(r:Jm×UInt64×Int)(r0:Jb×UInt64×Int):Prop:=(∃lf,r=(jmU lf r0.1,r0.2))∨Dn Good r.1.s
section
variable{Good Good2:(Nat→UInt64)→Prop}{q:Ms}{s:St}{lf:Int}
theorem Dn.mono(h:Dn Good q)(k:∀ws',Good ws'→Good2 ws'):Dn Good2 q:=by
 obtain⟨P,e,h⟩:=h;exact⟨P,e,fun ws' hp=>k _ (h ws' hp)⟩
theorem wrM_dn(h:Dn Good q)(N:Nat)(ws2:Nat→UInt64):Dn Good (wrM q N ws2).1:=by
 obtain⟨P,e,h⟩:=h;refine⟨P,?_,h⟩;unfold wrM;rw [e]
theorem putPM_dn(h:Dn Good q)(i:Nat)(x:UInt64):Dn Good (putPM q i x).1:=by
 have h1:=wrM_dn h 3 (put1 q.s.ws (q.s.sh.table/8+i) x);unfold putPM;split;rename_i r e he;rw [he]at h1;split
 ·exact h1
 ·exact h1
theorem takeM_dn(h:Dn Good q)(off:Int):Dn Good (takeM q off).1:=by
 unfold takeM;split
 ·exact h
 ·rename_i i a _;split
  ·have h1:=putPM_dn h i (UInt64.ofNat (takeW (tkN q.s i) (classW (hdN q.s i)) a).1);split;rename_i r e he;rw [he]at h1;split<;>exact h1
  ·exact h
theorem dropM_dn(h:Dn Good q)(off:Int):Dn Good (dropM q off).1:=by
 unfold dropM;split
 ·exact h
 ·split
  ·exact h
  ·split
   ·exact putPM_dn h _ _
   ·exact h
theorem dropsM_dn:∀(l:List Int){q:Ms},Dn Good q→Dn Good (dropsM q l)
 | [],_,h=>h
 | off::l,q,h=>dropsM_dn l (q:=(dropM q off).1) (dropM_dn h off)
theorem dropsEM_dn:∀(l:List Int){q:Ms}(e:Int),Dn Good q→Dn Good (dropsEM q l e).1
 | [],_,_,h=>h
 | off::l,q,_,h=>dropsEM_dn l (q:=(dropM q off).1) _ (dropM_dn h off)
theorem buildM_dn{j:Jm}(h:Dn Good j.s)(n:Nd):Dn Good (buildM j n).1.s:=by
 unfold buildM;split
 ·exact h
 ·split
  ·exact h
  ·rename_i off s1 _;have h1:=wrM_dn (q:=⟨j.s.pw,s1⟩) (Good:=Good) (by obtain⟨P,e,h⟩:=h;exact⟨P,e,h⟩) (stepsN (off/8) (encW n).length) (putWs s1.ws (off/8) (encW n));split;rename_i r c he;rw [he]at h1;split
   ·have h2:=takeM_dn h1 (off:Int);split;rename_i s2 e he2;rw [he2]at h2;split<;>exact h2
   ·exact h1
theorem aboveM_dn{j:Jm}(h:Dn Good j.s)(n:Nd)(label:UInt8)(kid:UInt64)(e:Int):Dn Good (aboveM j n label kid e).1.s:=by
 unfold aboveM;split
 ·exact h
 ·split
  ·exact buildM_dn h _
  ·exact h
theorem leafM_dn:∀(f:Nat){j:Jm},Dn Good j.s→∀(l:List UInt8)(value:UInt64),Dn Good (leafM f j l value).1.s
 | 0,_,h,_,_=>h
 | f+1,j,h,l,value=>by
   unfold leafM;split
   ·exact buildM_dn h _
   ·have h1:=leafM_dn f h (l.drop 16) value;split;rename_i j1 kid e he;rw [he]at h1;exact aboveM_dn h1 _ _ _ _
theorem finishM_dn{j:Jm}(h:Dn Good j.s)(e word:Int)(name:UInt64)(old:List Int):Dn Good (finishM j e word name old).1:=by
 unfold finishM;split
 ·exact dropsM_dn _ h
 ·have h1:=wrM_dn h 3 (put1 j.s.s.ws (word.toNat/8) name);split;rename_i r c he;rw [he]at h1;split
  ·exact dropsEM_dn _ _ h1
  ·exact dropsM_dn _ h1
theorem half_put1{ws ws':Nat→UInt64}{j:Nat}{x:UInt64}(h:Half ws (put1 ws j x) ws'):ws'=ws∨ws'=put1 ws j x:=by
 have ho:∀i,i≠j→ws' i=ws i:=fun i hi=>by
  rcases h i with e| e
  ·exact e
  ·rw [e];unfold put1;rw [if_neg hi]
 rcases h j with e| e
 ·refine .inl (funext fun i=> ?_);by_cases hi:i=j
  ·rw [hi];exact e
  ·exact ho i hi
 ·refine .inr (funext fun i=> ?_);by_cases hi:i=j
  ·rw [hi];exact e
  ·rw [ho i hi];unfold put1;rw [if_neg hi]
theorem wrM_up(N:Nat)(ws2:Nat→UInt64)(hH:∀ws',Half s.ws ws2 ws'→Good ws'):SimS Good (wrM ⟨.up lf,s⟩ N ws2) ({s with ws:=ws2},0):=by
 unfold wrM;simp only;split
 ·by_cases hz:lfN lf N=0
  ·exact .inr ⟨_,by rw [if_pos hz],fun ws' e=>hH ws' (by rw [e];exact fun _=> .inr rfl)⟩
  ·exact .inl ⟨lfN lf N,by rw [if_neg hz]⟩
 ·exact .inr ⟨_,rfl,hH⟩
theorem wrM_up1(j:Nat)(x:UInt64)(h1:Good s.ws)(h2:Good (put1 s.ws j x)):SimS Good (wrM ⟨.up lf,s⟩ 3 (put1 s.ws j x)) ({s with ws:=put1 s.ws j x},0):=
 wrM_up 3 _ (fun _ h=>(half_put1 h).elim (fun e=>e▸h1) (fun e=>e▸h2))
theorem putPM_up(i:Nat)(x:UInt64)(h1:Good s.ws)(h2:Good (putP s i x).ws):SimS Good (putPM ⟨.up lf,s⟩ i x) (putP s i x,0):=by
 have h:=wrM_up1 (lf:=lf) (s.sh.table/8+i) x h1 h2;unfold putPM;rcases h with⟨lf',h⟩| h
 ·simp only [h,if_true];exact .inl ⟨lf',rfl⟩
 ·right;generalize wrM ⟨.up lf,s⟩ 3 (put1 s.ws (s.sh.table/8+i) x)=R at h⊢;obtain⟨r,e⟩:=R;simp only at h⊢;split<;>exact h
theorem takeM_up(off:Int)(h1:Good s.ws)(h2:Good (takeP s off).1.ws):SimS Good (takeM ⟨.up lf,s⟩ off) (takeP s off):=by
 unfold takeM takeP at*;simp only;cases hf:findP s off with
 | none=>exact .inl ⟨lf,rfl⟩
 | some ia=>
   obtain⟨i,a⟩:=ia;rw [hf]at h2;simp only at h2⊢;cases hh:hasW (hdN s i) a
   ·exact .inl ⟨lf,rfl⟩
   ·rw [hh]at h2;simp only [if_true]at h2⊢;rcases putPM_up (lf:=lf) i (UInt64.ofNat (takeW (tkN s i) (classW (hdN s i)) a).1) h1 h2 with⟨lf',h⟩| h
    ·rw [h];exact .inl ⟨lf',rfl⟩
    ·right;generalize putPM ⟨.up lf,s⟩ i (UInt64.ofNat (takeW (tkN s i) (classW (hdN s i)) a).1)=R at h⊢;obtain⟨r,e⟩:=R;simp only at h⊢;split<;>exact h
theorem dropM_up(off:Int)(h1:Good s.ws)(h2:Good (dropP s off).1.ws):SimS Good (dropM ⟨.up lf,s⟩ off) (dropP s off):=by
 unfold dropM dropP at*;simp only;cases hf:findP s off with
 | none=>exact .inl ⟨lf,rfl⟩
 | some ia=>
   obtain⟨i,a⟩:=ia;rw [hf]at h2;simp only at h2⊢;cases hb:(dropW (hdN s i) a).2
   ·rw [hb]at h2;simp only [Bool.false_eq_true,if_false]at h2⊢;cases hc:(dropW (tkN s i) a).2
    ·exact .inl ⟨lf,rfl⟩
    ·rw [hc]at h2;exact putPM_up i _ h1 h2
   ·exact .inl ⟨lf,rfl⟩
theorem dropsM_up:∀(l:List Int){s:St}{lf:Int},(∀k,Good (dropsP s (l.take k)).ws)→(∃lf',dropsM ⟨.up lf,s⟩ l=⟨.up lf',dropsP s l⟩)∨Dn Good (dropsM ⟨.up lf,s⟩ l)
 | [],s,lf,_=> .inl ⟨lf,rfl⟩
 | off::l,s,lf,h=>by
   show(∃lf',dropsM (dropM ⟨.up lf,s⟩ off).1 l=⟨.up lf',dropsP (dropP s off).1 l⟩)∨Dn Good (dropsM (dropM ⟨.up lf,s⟩ off).1 l);rcases dropM_up (s:=s) (lf:=lf) off (h 0) (h 1)with⟨lf',e⟩| e
   ·rw [e];exact dropsM_up l (fun k=>h (k+1))
   ·exact .inr (dropsM_dn l e)
theorem dropsEM_up:∀(l:List Int){s:St}{lf:Int}(e:Int),(∀k,Good (dropsP s (l.take k)).ws)→SimS Good (dropsEM ⟨.up lf,s⟩ l e) (dropsE s l e)
 | [],s,lf,e,_=> .inl ⟨lf,rfl⟩
 | off::l,s,lf,e,h=>by
   unfold dropsEM dropsE;rcases dropM_up (s:=s) (lf:=lf) off (h 0) (h 1)with⟨lf',e⟩| e
   ·rw [e];exact dropsEM_up l _ (fun k=>h (k+1))
   ·exact .inr (dropsEM_dn l _ e)
end
theorem dropsE_fst:∀(l:List Int)(s:St)(e:Int),(dropsE s l e).1=dropsP s l
 | [],_,_=>rfl
 | off::l,s,e=>by
   unfold dropsE;exact dropsE_fst l _ _
theorem dropP_code(s:St)(off:Int):(dropP s off).2=0∨(dropP s off).2=7:=by
 unfold dropP;split
 ·exact .inr rfl
 ·split
  ·exact .inl rfl
  ·split
   ·exact .inl rfl
   ·exact .inr rfl
theorem dropsE_code:∀(l:List Int)(s:St)(e:Int),e=0∨e=7→(dropsE s l e).2=0∨(dropsE s l e).2=7
 | [],_,_,h=>h
 | off::l,s,e,h=>by
   unfold dropsE;refine dropsE_code l _ _ ?_;split
   ·exact dropP_code s off
   ·exact h
section
variable{X:Nat→Prop}{L:Nat}{s0 s:St}{items:List Kv}{j:Jb}{B:List Nat}
theorem dropW_no{w a:Nat}(h:hasW w a=false):(dropW w a).2=false:=by unfold dropW;rw [h];rfl
theorem drop_back(ok:PoolOk L s)(nh:∀o d,¬HeldAt s o d)(off:Int):PoolOk L (dropP s off).1∧(∀o d,¬HeldAt (dropP s off).1 o d)∧(dropP s off).1.sh=s.sh∧(∀j,j<16→(dropP s off).1.ws j=s.ws j)∧KeepT (dropP s off).1 s (fun _=>True):=by
 have triv:∀e:Int,PoolOk L (s,e).1∧(∀o d,¬HeldAt (s,e).1 o d)∧(s,e).1.sh=s.sh∧(∀j,j<16→(s,e).1.ws j=s.ws j)∧KeepT (s,e).1 s (fun _=>True):=fun e=>⟨ok,nh,rfl,fun _ _=>rfl,KeepT.refl _ _⟩
 cases hf:findP s off with
 | none=>
   rw [show dropP s off=(s,7)by unfold dropP;rw [hf]];exact triv 7
 | some ia=>
   obtain⟨i,a⟩:=ia;obtain⟨hi,hc,ha,ho⟩:=find_inv ok hf;have hno:hasW (hdN s i) a=false:=by
    cases hh:hasW (hdN s i) a with
    | false=>rfl
    | true=>exact absurd ⟨i,a,hi,hh,rfl,rfl⟩ (nh _ _)
   cases ht:hasW (tkN s i) a with
   | false=>
     rw [show dropP s off=(s,7)by unfold dropP;rw [hf];simp only [dropW_no hno,dropW_no ht,Bool.false_eq_true,if_false]];exact triv 7
   | true=>
     obtain⟨c,hsw,hcb,hab⟩:=ok.tk_cls hi ht;have htk:TakenAt s (placeN s.sh i c a) c:=⟨i,a,hi,ht,hsw.class,rfl⟩;rw [ho,hcb];obtain⟨s1,e1,ok1,sh1,hd1,ws1,tk1⟩:=drop_ok ok htk;rw [e1];refine⟨ok1,fun o d hh=>nh o d ((held_same hd1 sh1 o d).1 hh),sh1,fun j hj=>ws1 j (.inl hj),fun o d _ hd=>⟨((tk1 o d).1 hd).1,fun j hj=> ?_⟩⟩;have h1:=((tk1 o d).1 hd).1;exact(ws1 j (.inr (ok.table_words (h1.bounds ok).1 hj))).symm
theorem drops_back:∀(l:List Int){s:St},PoolOk L s→(∀o d,¬HeldAt s o d)→PoolOk L (dropsP s l)∧(∀o d,¬HeldAt (dropsP s l) o d)∧(dropsP s l).sh=s.sh∧(∀j,j<16→(dropsP s l).ws j=s.ws j)∧KeepT (dropsP s l) s (fun _=>True)
 | [],s,ok,nh=>⟨ok,nh,rfl,fun _ _=>rfl,KeepT.refl _ _⟩
 | off::l,s,ok,nh=>by
   obtain⟨a1,a2,a3,a4,a5⟩:=drop_back ok nh off;obtain⟨b1,b2,b3,b4,b5⟩:=drops_back l a1 a2;exact⟨b1,b2,b3.trans a3,fun j hj=>(b4 j hj).trans (a4 j hj),b5.trans a5⟩
theorem drops_part(l:List Int)(k:Nat)(ok:PoolOk L s)(nh:∀o d,¬HeldAt s o d):PoolOk L (dropsP s (l.take k))∧(dropsP s (l.take k)).sh=(dropsP s l).sh∧(∀j,j<16→(dropsP s (l.take k)).ws j=(dropsP s l).ws j)∧KeepT (dropsP s l) (dropsP s (l.take k)) (fun _=>True):=by
 obtain⟨a1,a2,a3,a4,a5⟩:=drops_back (l.take k) ok nh;obtain⟨b1,b2,b3,b4,b5⟩:=drops_back (l.drop k) a1 a2;have e:dropsP s l=dropsP (dropsP s (l.take k)) (l.drop k):=by
  unfold dropsP;rw [←List.foldl_append,List.take_append_drop]
 rw [e];exact⟨a1,b3.symm,fun j hj=>(b4 j hj).symm,b5⟩
theorem build_grown(g:Grown L s0 j B)(n:Nd):∃B',Grown L s0 (buildP j n).1 B':=by
 cases hr:rightB n with
 | false=>exact⟨B,by rw [show buildP j n=(j,0,5)by unfold buildP;rw [hr];rfl];exact g⟩
 | true=>
   rcases build_ok g hr with e| ⟨j',name,o,e,_,g',_⟩
   ·exact⟨B,by rw [e];exact g⟩
   ·exact⟨_,by rw [e];exact g'⟩
theorem above_grown(g:Grown L s0 j B)(n:Nd)(label:UInt8)(kid:UInt64)(e:Int):∃B',Grown L s0 (aboveP j n label kid e).1 B':=by
 unfold aboveP;split
 ·exact⟨B,g⟩
 ·split
  ·exact build_grown g _
  ·exact⟨B,g⟩
theorem leaf_grown:∀(f:Nat){j:Jb}{B:List Nat},Grown L s0 j B→∀(l:List UInt8)(value:UInt64),∃B',Grown L s0 (leafP f j l value).1 B'
 | 0,j,B,g,_,_=>⟨B,g⟩
 | f+1,j,B,g,l,value=>by
   unfold leafP;split
   ·exact build_grown g _
   ·obtain⟨B1,g1⟩:=leaf_grown f g (l.drop 16) value;split;rename_i j1 kid e he;rw [he]at g1;exact above_grown g1 _ _ _ _
theorem grown_found(h:IxX X L s0 items)(g:Grown L s0 j B):Fnd X L s0 items j.s.ws:=found h (KeepX.refl _ _) g.ok g.sh g.keep g.low (near_self _)
theorem build_sim(h:IxX X L s0 items)(g:Grown L s0 j B)(lf:Int)(n:Nd):SimJ (Fnd X L s0 items) (buildM (jmU lf j) n) (buildP j n):=by
 cases hr:rightB n with
 | false=>
   exact .inl ⟨lf,by rw [show buildP j n=(j,0,5)by unfold buildP;rw [hr];rfl,show buildM (jmU lf j) n=(jmU lf j,0,5)by unfold buildM;rw [hr];rfl]⟩
 | true=>
   cases hres:reserveP j.s (classN n)with
   | none=>exact .inl ⟨lf,by rw [show buildP j n=(j,0,6)by unfold buildP;rw [hr,hres];rfl,show buildM (jmU lf j) n=(jmU lf j,0,6)by unfold buildM;rw [hr];simp only [jmU,hres];rfl]⟩
   | some os=>
     obtain⟨off,s1⟩:=os;obtain⟨ok1,hw1,sh1,_,hh1,_,_,ht1⟩:=reserve_ok g.ok (classN_12 n) hres;have hlen:=encW_lines' n;have hgood:∀ws',(∀i,¬inBlk off (classN n) i→ws' i=s1.ws i)→Fnd X L s0 items ws':=fun ws' hn=>by
      refine found h (KeepX.refl _ _) ok1 (sh1.trans g.sh) (fun o d _ ht=> ?_) (fun i hi=>by rw [hw1];exact g.low i hi) (fun i hi=>hn i (hi _ _ hh1));obtain⟨k1,k2⟩:=g.keep o d trivial ht;exact⟨(ht1 o d).2 k1,fun i hi=>by rw [hw1];exact k2 i hi⟩
     have hput:∀i,¬inBlk off (classN n) i→putWs s1.ws (off/8) (encW n) i=s1.ws i:=fun i hi=>by
      unfold putWs;rw [if_neg];rintro⟨h1,h2⟩;exact hi ⟨h1,by rw [hlen]at h2;exact h2⟩
     have hP:buildP j n=(match takeP {s1 with ws:=putWs s1.ws (off/8) (encW n)} off with
      | (s2,e)=>if e=0 then(⟨s2,j.made++[(off:Int)]⟩,UInt64.ofNat off,0)else(⟨s2,j.made++[(off:Int)]⟩,0,e)):=by unfold buildP;rw [hr,hres];rfl
     have hM:buildM (jmU lf j) n=(match wrM ⟨.up lf,s1⟩ (stepsN (off/8) (encW n).length) (putWs s1.ws (off/8) (encW n))with
      | (r,c)=>if c=0 then
          match takeM r off with
          | (s2,e)=>if e=0 then(⟨s2,j.made++[(off:Int)]⟩,UInt64.ofNat off,0)else(⟨s2,j.made++[(off:Int)]⟩,0,e)
        else(⟨r,j.made++[(off:Int)]⟩,0,c)):=by unfold buildM;rw [hr];simp only [jmU,hres];rfl
     have hT:(buildP j n).1.s=(takeP {s1 with ws:=putWs s1.ws (off/8) (encW n)} off).1:=by
      rw [hP];generalize takeP {s1 with ws:=putWs s1.ws (off/8) (encW n)} off=R;obtain⟨s2,e⟩:=R;simp only;split<;>rfl
     obtain⟨B',g'⟩:=build_grown g n;have hgT:=grown_found h g';rw [hT]at hgT;rw [hM,hP];rcases wrM_up (Good:=Fnd X L s0 items) (lf:=lf) (stepsN (off/8) (encW n).length) (putWs s1.ws (off/8) (encW n)) (fun ws' hH=>hgood ws' (fun i hi=>by
      rcases hH i with e| e
      ·exact e
      ·rw [e];exact hput i hi))with⟨lf1,e1⟩| e1
     ·rw [e1];simp only [if_true];rcases takeM_up (lf:=lf1) (off:Int) (hgood _ (fun i hi=>hput i hi)) hgT with⟨lf2,e2⟩| e2
      ·rw [e2];left;refine⟨lf2,?_⟩;simp only;split<;>rfl
      ·right;generalize takeM _ (off:Int)=R at e2⊢;obtain⟨s2,e⟩:=R;simp only at e2⊢;split<;>exact e2
     ·right;generalize wrM _ _ _=R at e1⊢;obtain⟨r,c⟩:=R;simp only at e1⊢;split
      ·have e3:=takeM_dn e1 (off:Int);generalize takeM r (off:Int)=R at e3⊢;obtain⟨s2,e⟩:=R;simp only at e3⊢;split<;>exact e3
      ·exact e1
theorem above_sim(h:IxX X L s0 items)(g:Grown L s0 j B)(lf:Int)(n:Nd)(label:UInt8)(kid:UInt64)(e:Int):SimJ (Fnd X L s0 items) (aboveM (jmU lf j) n label kid e) (aboveP j n label kid e):=by
 unfold aboveM aboveP;split
 ·exact .inl ⟨lf,rfl⟩
 ·split
  ·exact build_sim h g lf _
  ·exact .inl ⟨lf,rfl⟩
theorem leaf_sim(h:IxX X L s0 items):∀(f:Nat){j:Jb}{B:List Nat},Grown L s0 j B→∀(lf:Int)(l:List UInt8)(value:UInt64),SimJ (Fnd X L s0 items) (leafM f (jmU lf j) l value) (leafP f j l value)
 | 0,j,B,g,lf,_,_=> .inl ⟨lf,rfl⟩
 | f+1,j,B,g,lf,l,value=>by
   unfold leafM leafP;split
   ·exact build_sim h g lf _
   ·obtain⟨B1,g1⟩:=leaf_grown f g (l.drop 16) value;rcases leaf_sim h f g lf (l.drop 16) value with⟨lf1,e1⟩| e1
    ·rw [e1];exact above_sim h g1 lf1 _ _ _ _
    ·right;split;rename_i j1 kid e he;rw [he]at e1;exact aboveM_dn e1 _ _ _ _
theorem grow_grown(g:Grown L s0 j B)(x:Nd)(rest:List UInt8)(value:UInt64):∃B',Grown L s0 (growP j x rest value).1 B':=by
 unfold growP;split
 ·obtain⟨B1,g1⟩:=leaf_grown (rest.length+1) g (rest.drop (common x.pre rest+1)) value;split;rename_i j1 kid e he;rw [he]at g1;exact above_grown g1 _ _ _ _
 ·obtain⟨B1,g1⟩:=build_grown g {x with pre:=x.pre.drop (common x.pre rest+1)};split;rename_i j1 kid e he;rw [he]at g1;split
  ·exact above_grown g1 _ _ _ _
  ·split
   ·exact⟨B1,g1⟩
   ·split
    ·obtain⟨B2,g2⟩:=leaf_grown (rest.length+1) g1 (rest.drop (common x.pre rest+1)) value;split;rename_i j2 kid2 e2 he2;rw [he2]at g2;exact above_grown g2 _ _ _ _
    ·exact⟨B1,g1⟩
theorem grow_sim(h:IxX X L s0 items)(g:Grown L s0 j B)(lf:Int)(x:Nd)(rest:List UInt8)(value:UInt64):SimJ (Fnd X L s0 items) (growM (jmU lf j) x rest value) (growP j x rest value):=by
 unfold growM growP;split
 ·obtain⟨B1,g1⟩:=leaf_grown (rest.length+1) g (rest.drop (common x.pre rest+1)) value;rcases leaf_sim h (rest.length+1) g lf (rest.drop (common x.pre rest+1)) value with⟨lf1,e1⟩| e1
  ·rw [e1];exact above_sim h g1 lf1 _ _ _ _
  ·right;split;rename_i j1 kid e he;rw [he]at e1;exact aboveM_dn e1 _ _ _ _
 ·obtain⟨B1,g1⟩:=build_grown g {x with pre:=x.pre.drop (common x.pre rest+1)};rcases build_sim h g lf {x with pre:=x.pre.drop (common x.pre rest+1)}with⟨lf1,e1⟩| e1
  ·rw [e1];generalize buildP j {x with pre:=x.pre.drop (common x.pre rest+1)}=r at*;obtain⟨j1,kid,e⟩:=r;simp only at g1⊢;split
   ·exact above_sim h g1 lf1 _ _ _ _
   ·split
    ·exact .inl ⟨lf1,rfl⟩
    ·split
     ·obtain⟨B2,g2⟩:=leaf_grown (rest.length+1) g1 (rest.drop (common x.pre rest+1)) value;rcases leaf_sim h (rest.length+1) g1 lf1 (rest.drop (common x.pre rest+1)) value with⟨lf2,e2⟩| e2
      ·rw [e2];exact above_sim h g2 lf2 _ _ _ _
      ·exact .inr (aboveM_dn e2 _ _ _ _)
     ·exact .inl ⟨lf1,rfl⟩
  ·right;split;rename_i j1 kid e he;rw [he]at e1;split
   ·exact aboveM_dn e1 _ _ _ _
   ·split
    ·exact e1
    ·split
     ·have e2:=leafM_dn (rest.length+1) e1 (rest.drop (common x.pre rest+1)) value;split;rename_i j2 kid2 e3 he2;rw [he2]at e2;exact aboveM_dn e2 _ _ _ _
     ·exact e1
end
def Gd(X:Nat→Prop)(L:Nat)(s0:St)(items:List Kv)(New:List Kv→Prop)(ws':Nat→UInt64):Prop:=∃its,(its=items∨New its)∧Fnd X L s0 its ws'
section
variable{X:Nat→Prop}{L:Nat}{s0 s:St}{items:List Kv}{j:Jb}{B:List Nat}{New:List Kv→Prop}
theorem finish_sim{Good:(Nat→UInt64)→Prop}(lf:Int)(e word:Int)(name:UInt64)(old:List Int)(hOld:Good j.s.ws)(hbad:e≠0→∀k,Good (dropsP j.s (j.made.take k)).ws)
 (hgood:e=0→∀k,Good (dropsP {j.s with ws:=put1 j.s.ws (word.toNat/8) name} (old.take k)).ws):SimS Good (finishM (jmU lf j) e word name old) (finishP j e word name old):=by
 unfold finishM finishP;by_cases he:e=0
 ·subst he;simp only [ne_eq,not_true_eq_false,if_false];rcases wrM_up1 (s:=j.s) (lf:=lf) (word.toNat/8) name hOld (hgood rfl 0)with⟨lf1,e1⟩| e1
  ·rw [show(jmU lf j).s=⟨.up lf,j.s⟩from rfl,e1];simp only [if_true];exact dropsEM_up _ _ (hgood rfl)
  ·right;rw [show(jmU lf j).s=⟨.up lf,j.s⟩from rfl];generalize wrM _ _ _=R at e1⊢;obtain⟨r,c⟩:=R;simp only at e1⊢;split
   ·exact dropsEM_dn _ _ e1
   ·exact dropsM_dn _ e1
 ·rw [if_pos he,if_pos he];rcases dropsM_up j.made (s:=j.s) (lf:=lf) (hbad he)with⟨lf1,e1⟩| e1
  ·exact .inl ⟨lf1,by rw [show(jmU lf j).s=⟨.up lf,j.s⟩from rfl,show(jmU lf j).made=j.made from rfl,e1]⟩
  ·exact .inr e1
theorem bad_found(h:IxX X L s0 items)(g:Grown L s0 j B)(k:Nat):Fnd X L s0 items (dropsP j.s (j.made.take k)).ws:=by
 obtain⟨s2,e2,ok2,nh2,tk2,kp2,lo2,sh2⟩:=undo_ok h.ok g;obtain⟨okk,shk,lok,kpk⟩:=drops_part j.made k g.ok g.nh;rw [e2]at shk lok kpk;exact found h (KeepX.refl _ _) okk (shk.trans sh2) (kp2.trans kpk) (fun i hi=>(lok i hi).trans (lo2 i hi)) (near_self _)
theorem good_found(g:Grown L s0 j B){jw:Nat}(hjw:jw<16∨16+s0.sh.slabs≤jw){name:UInt64}{old:List Int}{its:List Kv}(hF:IxX X L (dropsP {j.s with ws:=put1 j.s.ws jw name} old) its)(kX:KeepX X s0 (dropsP {j.s with ws:=put1 j.s.ws jw name} old))(k:Nat):
 Fnd X L s0 its (dropsP {j.s with ws:=put1 j.s.ws jw name} (old.take k)).ws:=by
 have ok1:PoolOk L {j.s with ws:=put1 j.s.ws jw name}:=g.ok.words (fun i hi=>by
  unfold put1;rw [if_neg];rw [g.sh]at hi;omega)
 obtain⟨okk,shk,lok,kpk⟩:=drops_part old k ok1 (fun o d hh=>g.nh o d hh);exact found hF kX okk shk kpk lok (near_self _)
theorem made_sim{R:Jm×UInt64×Int}{r:Jb×UInt64×Int}(hs:SimJ (Fnd X L s0 items) R r)(h:IxX X L s0 items)(g:Grown L s0 r.1 B)(word:Int)(old:List Int)(hw:word.toNat/8<16∨16+s0.sh.slabs≤word.toNat/8)
 (hF:r.2.2=0→∃its,(its=items∨New its)∧IxX X L (finishP r.1 r.2.2 word r.2.1 old).1 its∧KeepX X s0 (finishP r.1 r.2.2 word r.2.1 old).1):
 SimS (Gd X L s0 items New) (finishM R.1 R.2.2 word R.2.1 old) (finishP r.1 r.2.2 word r.2.1 old):=by
 rcases hs with⟨lf,rfl⟩| hs
 ·refine finish_sim lf r.2.2 word r.2.1 old ⟨items,.inl rfl,grown_found h g⟩ (fun _ k=>⟨items,.inl rfl,bad_found h g k⟩) (fun he k=> ?_);obtain⟨its,h1,h2,h3⟩:=hF he;have e:(finishP r.1 r.2.2 word r.2.1 old).1=dropsP {r.1.s with ws:=put1 r.1.s.ws (word.toNat/8) r.2.1} old:=by
   unfold finishP;rw [if_neg (by rw [he];simp),dropsE_fst]
  rw [e]at h2 h3;exact⟨its,h1,good_found g hw h2 h3 k⟩
 ·exact .inr (finishM_dn (hs.mono fun ws' h=>⟨items,.inl rfl,h⟩) _ _ _ _)
theorem now_found(h:IxX X L s0 items):Gd X L s0 items New s0.ws:=⟨items,.inl rfl,found h (KeepX.refl _ _) h.ok rfl (KeepT.refl _ _) (fun _ _=>rfl) (near_self _)⟩
theorem path_word(h:IxX X L s items){key:List UInt8}(hk:key.length≤16){way:List Pl}{rest:List UInt8}(hp:pathP s key=some (way,rest)){last:Pl}(hgl:way.getLast? =some last):last.word.toNat/8<16∨16+s.sh.slabs≤last.word.toNat/8:=by
 by_cases h0:s.ws 9=0
 ·unfold pathP at hp;rw [h0,pathGo,if_pos rfl]at hp;injection hp with hp
  injection hp with hp _
  rw [←hp]at hgl;cases hgl
 ·rcases h.tree with⟨h1,_⟩| ⟨blocks,h1,T,hnd,hX,htk⟩
  ·exact absurd h1 h0
  ·obtain⟨way',last',rest',q,rl,nl,parts,A,B,b1,b2,o,hp',a⟩:=around h.ok h1 T hnd key hk;rw [hp']at hp;injection hp with hp
   injection hp with hp _
   rw [←hp]at hgl;simp only [List.getLast?_append,List.getLast?_singleton,Option.some_or,Option.some.injEq]at hgl;subst hgl;obtain⟨jw,e,_,h3,_⟩:=a.word h.ok;rw [e,Int.toNat_natCast,Nat.mul_div_cancel_left _ (by decide)];exact h3
theorem path_wordUp(h:IxX X L s items){key:List UInt8}(hk:key.length≤16){way:List Pl}{rest:List UInt8}(hp:pathP s key=some (way,rest)){m:Nat}{up:Pl}(hm:m+1<way.length)(hup:way[m]? =some up):up.word.toNat/8<16∨16+s.sh.slabs≤up.word.toNat/8:=by
 by_cases h0:s.ws 9=0
 ·unfold pathP at hp;rw [h0,pathGo,if_pos rfl]at hp;injection hp with hp
  injection hp with hp _
  rw [←hp]at hm;simp at hm
 ·rcases h.tree with⟨h1,_⟩| ⟨blocks,h1,T,hnd,hX,htk⟩
  ·exact absurd h1 h0
  ·have hnl:=nibs_length key;obtain⟨up',ru,q',rl',nl',parts',A',B',b1',b2',i,f',w',g1,S',_⟩:=path_at h.ok m (2*key.length+1) 32 (s.ws 9) items blocks (nibs key) 0 72 T hnd (by omega) (by omega) h1 way rest hp hm;rw [hup]at g1;injection g1 with g1
   subst g1;obtain⟨o,a⟩:=around0 h.ok hnd S';obtain⟨jw,e,_,h3,_⟩:=a.word h.ok;rw [e,Int.toNat_natCast,Nat.mul_div_cancel_left _ (by decide)];exact h3
theorem put_crash(h:IxX X L s items)(key:List UInt8)(hk:key.length≤16)(value:UInt64)(hv:value≠0)(lf:Int):
 SimS (Gd X L s items (fun its=>PutIs items its (nibs key) value)) (putM ⟨.up lf,s⟩ key value) (putK s key value):=by
 have hP:=put_ok h key hk value hv;have hfin:∃its,(its=items∨PutIs items its (nibs key) value)∧IxX X L (putK s key value).1 its∧KeepX X s (putK s key value).1:=by
  obtain⟨kX,⟨_,h1,_⟩| ⟨_,its,h1,h2⟩⟩:=hP
  ·exact⟨items,.inl rfl,h1,kX⟩
  ·exact⟨its,.inr h2,h1,kX⟩
 clear hP;unfold putM;unfold putK at hfin⊢;simp only [if_neg (show¬16<key.length by omega),if_neg hv]at hfin⊢;cases hpa:pathP s key with
 | none=>exact .inl ⟨lf,rfl⟩
 | some wr=>
   obtain⟨way,rest⟩:=wr;rw [hpa]at hfin;simp only at hfin⊢;cases hst:standsP way rest with
   | some last=>
     rw [hst]at hfin;simp only at hfin⊢;obtain⟨its,h1,h2,h3⟩:=hfin;exact wrM_up1 _ _ (now_found h) ⟨its,h1,found h2 h3 h2.ok rfl (KeepT.refl _ _) (fun _ _=>rfl) (near_self _)⟩
   | none=>
     rw [hst]at hfin;simp only at hfin⊢;have g0:=Grown.start h.ok h.nh;cases hgl:way.getLast? with
     | none=>
       rw [hgl]at hfin;simp only at hfin⊢;obtain⟨B',g⟩:=leaf_grown (rest.length+1) g0 rest value;exact made_sim (leaf_sim h (rest.length+1) g0 lf rest value) h g 72 [] (.inl (by decide)) (fun _=>hfin)
     | some last=>
       rw [hgl]at hfin;simp only at hfin⊢;obtain⟨B',g⟩:=grow_grown g0 last.nd rest value;exact made_sim (grow_sim h g0 lf last.nd rest value) h g last.word [last.off] (path_word h hk hpa hgl) (fun _=>hfin)
theorem prune_sim(h:IxX X L s items){key:List UInt8}(hk:key.length≤16){way:List Pl}{rest:List UInt8}(hp:pathP s key=some (way,rest))(lf:Int)
 (hF:(pruneP ⟨s,[]⟩ way).2≠6→∃its,(its=items∨New its)∧IxX X L (pruneP ⟨s,[]⟩ way).1 its∧KeepX X s (pruneP ⟨s,[]⟩ way).1):
 SimS (Gd X L s items New) (pruneM ⟨⟨.up lf,s⟩,[]⟩ way) (pruneP ⟨s,[]⟩ way)∧((pruneP ⟨s,[]⟩ way).2=6→Gd X L s items New (pruneP ⟨s,[]⟩ way).1.ws):=by
 have g0:=Grown.start h.ok h.nh;have h7:∀(j:Jb)(word:Int)(name:UInt64)(old:List Int),(finishP j 0 word name old).2≠6:=fun j word name old=>by
  unfold finishP;rw [if_neg (by simp)];rcases dropsE_code old {j.s with ws:=put1 j.s.ws (word.toNat/8) name} 0 (.inl rfl)with e| e<;>rw [e]<;>decide
 have triv:∀e:Int,SimS (Gd X L s items New) (⟨.up lf,s⟩,e) (s,e)∧((s,e).2=(6:Int)→Gd X L s items New (s,e).1.ws):=fun e=>⟨.inl ⟨lf,rfl⟩,fun _=>now_found h⟩
 unfold pruneM;unfold pruneP at hF⊢;cases hg:pruneGo way (way.length-1) [(way.getLast?.map (·.off)).getD 0]with
 | mk a old=>
   rw [hg]at hF;cases a with
   | zero=>
     simp only at hF⊢;exact⟨made_sim (R:=(jmU lf ⟨s,[]⟩,0,0)) (r:=(⟨s,[]⟩,0,0)) (.inl ⟨lf,rfl⟩) h g0 72 old (.inl (by decide)) (fun _=>hF (h7 _ _ _ _)),fun e=>absurd e (h7 _ _ _ _)⟩
   | succ a=>
     simp only at hF⊢;cases h1:way[a]? with
     | none=>exact triv 5
     | some up=>
       cases h2:way[a+1]? with
       | none=>exact triv 5
       | some at_=>
         rw [h1,h2]at hF;simp only at hF⊢;cases h3:findLb up.nd.labels at_.label with
         | none=>exact triv 5
         | some i=>
           rw [h3]at hF;simp only at hF⊢;cases h4:rightB up.nd with
           | false=>exact triv 5
           | true=>
             rw [h4]at hF;simp only [if_true]at hF⊢;have hlt:a+1<way.length:=(List.getElem?_eq_some_iff.1 h2).1;obtain⟨B',g⟩:=build_grown g0 (outP up.nd i);refine⟨made_sim (build_sim h g0 lf (outP up.nd i)) h g up.word (old++[up.off]) (path_wordUp h hk hp hlt h1) (fun he=>hF ?_),fun e6=> ?_⟩
             ·rw [he];exact h7 _ _ _ _
             ·by_cases he:(buildP ⟨s,[]⟩ (outP up.nd i)).2.2=0
              ·rw [he]at e6;exact absurd e6 (h7 _ _ _ _)
              ·have:=bad_found h g (buildP ⟨s,[]⟩ (outP up.nd i)).1.made.length;rw [List.take_length]at this;unfold finishP;rw [if_pos he];exact⟨items,.inl rfl,this⟩
theorem cut_crash(h:IxX X L s items)(key:List UInt8)(hk:key.length≤16)(lf:Int):
 (∃lf',cutM ⟨.up lf,s⟩ key=(⟨.up lf',(cutK s key).1⟩,(cutK s key).2))∨Dn (Gd X L s items (fun its=>CutIs items its (nibs key))) (cutM ⟨.up lf,s⟩ key).1:=by
 have hC:=cut_ok h key hk;have hfin:∃its,(its=items∨CutIs items its (nibs key))∧IxX X L (cutK s key).1 its∧KeepX X s (cutK s key).1:=by
  rcases hC with⟨e,_⟩| ⟨kX,_,_,its,h1,h2⟩
  ·rw [e];exact⟨items,.inl rfl,h,KeepX.refl _ _⟩
  ·exact⟨its,.inr h2,h1,kX⟩
 clear hC;unfold cutM;unfold cutK at hfin⊢;simp only [if_neg (show¬16<key.length by omega)]at hfin⊢;cases hpa:pathP s key with
 | none=>exact .inl ⟨lf,rfl⟩
 | some wr=>
   obtain⟨way,rest⟩:=wr;rw [hpa]at hfin;simp only at hfin⊢;cases hst:standsP way rest with
   | none=>exact .inl ⟨lf,rfl⟩
   | some last=>
     rw [hst]at hfin;simp only at hfin⊢;by_cases hv:last.nd.val=0
     ·rw [if_pos hv,if_pos hv];exact .inl ⟨lf,rfl⟩
     ·rw [if_neg hv]at hfin;rw [if_neg hv,if_neg hv];by_cases hk0:last.nd.kids.length=0
      ·rw [if_pos hk0]at hfin;rw [if_pos hk0,if_pos hk0];obtain⟨hs,h6⟩:=prune_sim (New:=fun its=>CutIs items its (nibs key)) h hk hpa lf (fun h6=>by
        generalize pruneP ⟨s,[]⟩ way=R at hfin h6⊢;obtain⟨s1,e⟩:=R;simp only at hfin h6⊢;rw [if_neg h6]at hfin;split at hfin<;>exact hfin)
       generalize pruneP ⟨s,[]⟩ way=R at hfin hs h6⊢;obtain⟨s1,e⟩:=R;simp only at hfin h6⊢;rcases hs with⟨lf1,e1⟩| e1
       ·rw [e1];simp only;by_cases he:e=6
        ·rw [if_pos he]at hfin;rw [if_pos he,if_pos he];obtain⟨its,g1,g2,g3⟩:=hfin;rcases wrM_up1 (s:=s1) (lf:=lf1) (last.off.toNat/8+2) 0 (h6 he) (⟨its,g1,found g2 g3 g2.ok rfl (KeepT.refl _ _) (fun _ _=>rfl) (near_self _)⟩:Gd X L s items (fun its=>CutIs items its (nibs key)) _)with⟨lf2,e2⟩| e2
         ·left;refine⟨lf2,?_⟩;show(match wrM ⟨.up lf1,s1⟩ 3 (put1 s1.ws (last.off.toNat/8+2) 0)with| (q2,c)=>if c=0 then(q2,last.nd.val,0)else(q2,0,c))=_;rw [e2];rfl
         ·right;show Dn _ (match wrM ⟨.up lf1,s1⟩ 3 (put1 s1.ws (last.off.toNat/8+2) 0)with| (q2,c)=>if c=0 then(q2,last.nd.val,(0:Int))else(q2,0,c)).1;generalize wrM _ _ _=R at e2⊢;obtain⟨q2,c⟩:=R;simp only at e2⊢;split<;>exact e2
        ·rw [if_neg he,if_neg he];split<;>exact .inl ⟨lf1,rfl⟩
       ·right;generalize pruneM ⟨⟨.up lf,s⟩,[]⟩ way=R at e1⊢;obtain⟨q1,e'⟩:=R;simp only at e1⊢;split
        ·have e2:Dn _ (valueM q1 last 0).1:=wrM_dn e1 3 _;generalize valueM q1 last 0=R at e2⊢;obtain⟨q2,c⟩:=R;simp only at e2⊢;split<;>exact e2
        ·split<;>exact e1
      ·rw [if_neg hk0]at hfin;rw [if_neg hk0,if_neg hk0];simp only [if_true]at hfin⊢;obtain⟨its,g1,g2,g3⟩:=hfin;rcases wrM_up1 (s:=s) (lf:=lf) (last.off.toNat/8+2) 0 (now_found h) (⟨its,g1,found g2 g3 g2.ok rfl (KeepT.refl _ _) (fun _ _=>rfl) (near_self _)⟩:Gd X L s items (fun its=>CutIs items its (nibs key)) _)with⟨lf2,e2⟩| e2
       ·left;refine⟨lf2,?_⟩;show(match wrM ⟨.up lf,s⟩ 3 (put1 s.ws (last.off.toNat/8+2) 0)with| (q2,c)=>if c=0 then(q2,last.nd.val,0)else(q2,0,c))=_;rw [e2];rfl
       ·right;show Dn _ (match wrM ⟨.up lf,s⟩ 3 (put1 s.ws (last.off.toNat/8+2) 0)with| (q2,c)=>if c=0 then(q2,last.nd.val,(0:Int))else(q2,0,c)).1;generalize wrM _ _ _=R at e2⊢;obtain⟨q2,c⟩:=R;simp only at e2⊢;split<;>exact e2
end
end Go.Proofs.YtdjfbnoolfpcnaaGreatDoor
