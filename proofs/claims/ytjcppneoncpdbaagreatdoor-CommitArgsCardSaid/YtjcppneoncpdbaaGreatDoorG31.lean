import Derived.Test.YtjcppneoncpdbaaGreatDoorG01
import Derived.Test.YtjcppneoncpdbaaGreatDoorG08
import Derived.Test.YtjcppneoncpdbaaGreatDoorG11
import Derived.Test.YtjcppneoncpdbaaGreatDoorG26
import Derived.Test.YtjcppneoncpdbaaGreatDoorG30
namespace Go.Proofs.YtjcppneoncpdbaaGreatDoor
section
variable{X:Nat→Prop}{L:Nat}{s:St}{items:List Kv}
theorem IxX.up(h:IxX X L s items):UpK items:=by
 rcases h.tree with⟨_,h2,_⟩| ⟨_,_,T,_⟩
 ·rw [h2];exact List.Pairwise.nil
 ·exact T.up h.ok
def kvIt(kv:Kv):It:=toIt (pairs kv.1,kv.2)
theorem all_ok(h:IxX X L s items):allK s=some (items.map kvIt):=by
 obtain⟨met,h1,_⟩:=survey_x h
 unfold allK
 rw [h1]
 simp only [Option.map_some,List.map_map]
 rfl
theorem st0_ok{sh:Sh}(hL:L≤1024)(hs:shapeOf L=some sh):IxOk L (st0 sh) []:=by
 have hok:=shape_ok hs
 have htk:∀i,tkN (st0 sh) i=0:=fun i=>by
  unfold tkN st0
  simp only [List.getD_eq_getElem?_getD,List.getElem?_replicate]
  split<;>rfl
 have hhd:∀i,hdN (st0 sh) i=0:=fun i=>by
  unfold hdN st0
  simp only [List.getD_eq_getElem?_getD,List.getElem?_replicate]
  split<;>rfl
 have hws:∀i,8≤i→(st0 sh).ws i=0:=fun i hi=>by
  show putWs (fun _=>0) 0 (wordsOf sh) i=0
  unfold putWs
  rw [if_neg]
  simp [wordsOf,headW]
  omega
 have hnt:∀o d,¬TakenAt (st0 sh) o d:=fun o d=>by
  rintro⟨i,a,_,ha,_⟩
  rw [htk,has_zero]at ha
  cases ha
 refine⟨⟨hok,hL,by simp [st0],by simp [st0],fun i _=> .inl (htk i),fun i _=> .inl (hhd i),fun i _=> .inl (htk i),fun i a _ ha=> ?_,fun i _=> ?_⟩,fun o d=> ?_,.inl ⟨hws 9 (by decide),rfl,fun o=>⟨fun⟨d,hd⟩=>hnt o d hd,fun h=>h.elim⟩⟩,fun _ h=>by cases h⟩
 ·rw [htk,has_zero]at ha;cases ha
 ·rw [hws _ (by omega)]
  show _=(List.replicate sh.slabs (0:UInt64)).getD i 0
  simp only [List.getD_eq_getElem?_getD,List.getElem?_replicate]
  split<;>rfl
 ·rintro⟨i,a,_,ha,_⟩
  rw [hhd,has_zero]at ha
  cases ha
end
inductive ChainAt(s:St):UInt64→List Lk→Prop
 | nil:ChainAt s 0 []
 | cons(o:Nat)(r:Rc)(l:List Lk):TakenAt s o 1→rightRc r=true→wordsAt s.ws (o/8) 8=encRc r→ChainAt s r.next l→(∀k∈l,k.rc.stamp.toNat<r.stamp.toNat)→ChainAt s (UInt64.ofNat o) (⟨o,r⟩::l)
def offs(l:List Lk):List Nat:=l.map (·.off.toNat)
section
variable{L:Nat}{s s':St}
theorem ChainAt.keep{v:UInt64}{l:List Lk}(h:ChainAt s v l){B:Nat→Prop}(k:KeepT s s' B)(hb:∀o∈offs l,B o):ChainAt s' v l:=by
 induction h with
 | nil=>exact .nil
 | cons o r l ht hr hw _ hs ih=>
   obtain⟨h1,h2⟩:=k o 1 (hb o (List.mem_cons_self ..)) ht
   refine .cons o r l h1 hr ?_ (ih (fun p hp=>hb p (List.mem_cons_of_mem _ hp))) hs
   have:=words_same (o:=o) (c:=1) h2
   rw [show 8*linesN 1=8 from rfl]at this
   rw [this,hw]
theorem ChainAt.list(ok:PoolOk L s){v:UInt64}{l:List Lk}(h:ChainAt s v l):∀(f:Nat)(acc:List Lk),l.length<f→(∀k∈l,k.rc.stamp.toNat<lastStamp acc)→listGo s f v acc=some (acc++l):=by
 induction h with
 | nil=>
   intro f acc hf _
   cases f with
   | zero=>exact absurd hf (Nat.not_lt_zero _)
   | succ f=>unfold listGo;rw [if_pos (by decide),List.append_nil]
 | cons o r l ht hr hw _ hs ih=>
   intro f acc hf hst
   have hb:=ht.bounds ok
   have h1:=ok.sh.tfits
   have h2:=ok.L1
   cases f with
   | zero=>exact absurd hf (Nat.not_lt_zero _)
   | succ f=>
     unfold listGo
     rw [if_neg (by rw [ofNat_toNat_lt (by omega)];omega),offOf_ofNat (by omega),ht.class ok,if_neg (by simp),Int.toNat_natCast,hw,dec_encRc r hr]
     simp only
     have h3:r.stamp.toNat<lastStamp acc:=hst _ (List.mem_cons_self ..)
     have e:=ih f (acc++([⟨(o:Int),r⟩]:List Lk)) (by simpa using hf) (fun k hk=>by
      have:=hs k hk
      unfold lastStamp
      rw [List.getLast?_append,List.getLast?_singleton,Option.some_or]
      exact this)
     rw [if_neg (by omega),e,List.append_assoc]
     rfl
end
section
variable{X:Nat→Prop}{L:Nat}{s:St}{items:List Kv}
theorem IxX.congr{Y:Nat→Prop}(h:IxX X L s items)(e:∀o,X o↔Y o):IxX Y L s items:=by
 have:X=Y:=funext fun o=>propext (e o)
 exact this▸h
theorem add_ok(h:IxX X L s items)(r:Rc)(hr:rightRc r=true):
 addP s r=(s,0,6)∨∃s1 o,addP s r=(s1,UInt64.ofNat o,0)∧(∀off t,reserveP s 1=some (off,t)→(takeP {t with ws:=putWs t.ws (off/8) (encRc r)} off).2=0)∧¬(∃d,TakenAt s o d)∧¬X o∧o≤65536∧0<o∧TakenAt s1 o 1∧wordsAt s1.ws (o/8) 8=encRc r∧
  IxX (fun p=>X p∨p=o) L s1 items∧KeepT s s1 (fun _=>True)∧s1.sh=s.sh∧∀j,j<16→s1.ws j=s.ws j:=by
 unfold addP
 rw [if_neg (by rw [hr];simp)]
 cases hres:reserveP s 1 with
 | none=>exact .inl rfl
 | some p=>
   obtain⟨off,t⟩:=p
   right
   obtain⟨ok1,hw1,hsh1,htk1,hh1,_,hh2,ht1⟩:=reserve_ok h.ok (.inl rfl) hres
   have hb1:=hh1.bounds ok1
   have htf:=ok1.sh.tfits
   have hL1:=h.ok.L1
   have hlen:=encRc_length r
   have hl1:linesN 1=1:=rfl
   have hput:∀i,¬inBlk off 1 i→putWs t.ws (off/8) (encRc r) i=t.ws i:=fun i hi=>by
    unfold putWs
    rw [if_neg]
    intro h
    exact hi ⟨h.1,by rw [hlen]at h;omega⟩
   have hnot:∀i,i<16+t.sh.slabs→¬inBlk off 1 i:=fun i hi h=>by
    unfold inBlk at h;omega
   obtain⟨t',ht'⟩:∃t',t'=({t with ws:=putWs t.ws (off/8) (encRc r)}:St):=⟨_,rfl⟩
   have ok1':PoolOk L t':=ht'▸ok1.words (fun i hi=>hput _ (hnot _ (by omega)))
   have hh1':HeldAt t' off 1:=by rw [ht'];exact hh1
   obtain⟨s2,e2,ok2,hsh2,hw2,ht2,hh2'⟩:=take_ok ok1' hh1'
   have hsh1':t'.sh=t.sh:=by rw [ht']
   have ht1':∀o d,TakenAt t' o d↔TakenAt s o d:=fun o d=>by rw [ht'];exact ht1 o d
   have hkeep:KeepT s s2 (fun _=>True):=fun o c _ ht=>by
    have ht1'':=(ht1' o c).2 ht
    obtain⟨hne,hap⟩:=held_apart ok1' hh1' ht1''
    have hbo:=ht1''.bounds ok1'
    refine⟨(ht2 o c).2 (.inl ht1''),fun i hi=> ?_⟩
    rw [hw2 i (.inr (ok1'.table_words hbo.1 hi)),ht']
    show putWs t.ws (off/8) (encRc r) i=_
    rw [hput i (fun h=>apart_words hap hb1.2.2 hbo.2.2 h hi),hw1]
   have hnew:¬∃d,TakenAt s off d:=fun⟨d,hd⟩=>(held_apart ok1' hh1' ((ht1' off d).2 hd)).1 rfl
   have hlow:∀j,j<16→s2.ws j=s.ws j:=fun j hj=>by
    rw [hw2 j (.inl hj),ht']
    show putWs t.ws (off/8) (encRc r) j=_
    rw [hput j (hnot j (by omega)),hw1]
   have htk:∀o,(∃d,TakenAt s2 o d)↔(∃d,TakenAt s o d)∨o=off:=fun o=>by
    constructor
    ·rintro⟨d,hd⟩
     rcases(ht2 o d).1 hd with h1| ⟨h1,_⟩
     ·exact .inl ⟨d,(ht1' o d).1 h1⟩
     ·exact .inr h1
    ·rintro(⟨d,hd⟩| rfl)
     ·exact⟨d,(ht2 o d).2 (.inl ((ht1' o d).2 hd))⟩
     ·exact⟨1,(ht2 _ _).2 (.inr ⟨rfl,rfl⟩)⟩
   have hXt:∀o,X o→∃d,TakenAt s o d:=fun o ho=>by
    rcases h.tree with⟨_,_,h3⟩| ⟨_,_,_,_,_,h3⟩
    ·exact(h3 o).2 ho
    ·exact(h3 o).2 (.inr ho)
   rw [ht']at e2
   refine⟨s2,off,by simp only [e2,if_true],fun off' t2 e=> ?_,hnew,fun hx=>hnew (hXt off hx),by omega,by omega,(ht2 _ _).2 (.inr ⟨rfl,rfl⟩),?_,⟨ok2,fun o d hh=> ?_,?_,h.even⟩,hkeep,by rw [hsh2,hsh1',hsh1],hlow⟩
   ·injection e with e
    injection e with e3 e4
    subst e3
    subst e4
    rw [e2]
   ·refine List.ext_getElem (by simp [wordsAt,hlen]) fun i h1 h2=> ?_
    have hil:i<8:=by simpa [wordsAt]using h1
    rw [wordsAt_get,hw2 _ (.inr (ok1'.table_words (by rw [hsh1'];exact hb1.1) (c:=1) ⟨by omega,by omega⟩)),ht']
    show putWs t.ws (off/8) (encRc r) (off/8+i)=_
    unfold putWs
    rw [if_pos ⟨by omega,by omega⟩,Nat.add_sub_cancel_left,List.getD_eq_getElem?_getD,List.getElem?_eq_getElem h2]
    rfl
   ·obtain⟨h1,h2⟩:=(hh2' o d).1 hh
    rw [ht']at h1
    rcases hh2 o d h1 with h3| h3
    ·exact h.nh o d h3
    ·exact h2 h3
   ·rcases h.tree with⟨h1,h2,h3⟩| ⟨bl,h1,h2,h3,hX,h4⟩
    ·exact .inl ⟨by rw [hlow 9 (by decide),h1],h2,fun o=>by rw [htk o,h3 o]⟩
    ·refine .inr ⟨bl,by rw [hlow 9 (by decide)];exact h1,by rw [hlow 9 (by decide)];exact h2.keep h.ok ok2 hkeep (fun _ _=>trivial),h3,fun o ho hx=> ?_,fun o=>by rw [htk o,h4 o,or_assoc]⟩
     rcases hx with hx| rfl
     ·exact hX o ho hx
     ·exact hnew ((h4 _).2 (.inl ho))
theorem drop_x(h:IxX X L s items){o:Nat}(ho:X o):∃s1,dropP s o=(s1,0)∧IxX (fun p=>X p∧p≠o) L s1 items∧KeepT s s1 (fun p=>p≠o)∧s1.sh=s.sh∧∀j,j<16→s1.ws j=s.ws j:=by
 have hXt:∃d,TakenAt s o d:=by
  rcases h.tree with⟨_,_,h3⟩| ⟨_,_,_,_,_,h3⟩
  ·exact(h3 o).2 ho
  ·exact(h3 o).2 (.inr ho)
 obtain⟨c,ht⟩:=hXt
 obtain⟨s1,e1,ok1,sh1,hd1,ws1,tk1⟩:=drop_ok h.ok ht
 have hkeep:KeepT s s1 (fun p=>p≠o):=fun p d hp hpt=>⟨(tk1 p d).2 ⟨hpt,hp⟩,fun j hj=>ws1 j (.inr (h.ok.table_words (hpt.bounds h.ok).1 hj))⟩
 have htk:∀p,(∃d,TakenAt s1 p d)↔(∃d,TakenAt s p d)∧p≠o:=fun p=>by
  constructor
  ·rintro⟨d,hd⟩
   obtain⟨h1,h2⟩:=(tk1 p d).1 hd
   exact⟨⟨d,h1⟩,h2⟩
  ·rintro⟨⟨d,hd⟩,h2⟩
   exact⟨d,(tk1 p d).2 ⟨hd,h2⟩⟩
 refine⟨s1,e1,⟨ok1,fun p d hh=>h.nh p d ((held_same hd1 sh1 p d).1 hh),?_,h.even⟩,hkeep,sh1,fun j hj=>ws1 j (.inl hj)⟩
 rcases h.tree with⟨h1,h2,h3⟩| ⟨bl,h1,h2,h3,hX,h4⟩
 ·exact .inl ⟨by rw [ws1 9 (.inl (by decide)),h1],h2,fun p=>by rw [htk p,h3 p]⟩
 ·have hno:∀p∈bl,p≠o:=fun p hp e=>hX p hp (e▸ho)
  refine .inr ⟨bl,by rw [ws1 9 (.inl (by decide))];exact h1,by rw [ws1 9 (.inl (by decide))];exact h2.keep h.ok ok1 hkeep hno,h3,fun p hp hx=>hX p hp hx.1,fun p=> ?_⟩
  rw [htk p,h4 p]
  constructor
  ·rintro⟨h5| h5,h6⟩
   ·exact .inl h5
   ·exact .inr ⟨h5,h6⟩
  ·rintro(h5| ⟨h5,h6⟩)
   ·exact⟨.inl h5,hno p h5⟩
   ·exact⟨.inr h5,h6⟩
end
theorem rise_ext{α:Type}{r:α→α→Prop}(hi:∀x,¬r x x)(hs:∀x y,r x y→¬r y x):∀(a b:List α),a.Pairwise r→b.Pairwise r→(∀x,x∈a↔x∈b)→a=b
 | [],[],_,_,_=>rfl
 | [],y::b,_,_,h=>absurd ((h y).2 (List.mem_cons_self ..)) (fun h=>nomatch h)
 | x::a,[],_,_,h=>absurd ((h x).1 (List.mem_cons_self ..)) (fun h=>nomatch h)
 | x::a,y::b,ha,hb,h=>by
   obtain⟨ha1,ha2⟩:=List.pairwise_cons.1 ha
   obtain⟨hb1,hb2⟩:=List.pairwise_cons.1 hb
   have e:x=y:=by
    rcases List.mem_cons.1 ((h x).1 (List.mem_cons_self ..))with e| h1
    ·exact e
    ·rcases List.mem_cons.1 ((h y).2 (List.mem_cons_self ..))with e| h2
     ·exact e.symm
     ·exact absurd (ha1 y h2) (hs y x (hb1 x h1))
   subst e
   refine congrArg (List.cons x) (rise_ext hi hs a b ha2 hb2 fun z=> ?_)
   constructor
   ·intro hz
    rcases List.mem_cons.1 ((h z).1 (List.mem_cons_of_mem _ hz))with e| h1
    ·subst e;exact absurd (ha1 z hz) (hi z)
    ·exact h1
   ·intro hz
    rcases List.mem_cons.1 ((h z).2 (List.mem_cons_of_mem _ hz))with e| h1
    ·subst e;exact absurd (hb1 z hz) (hi z)
    ·exact h1
section
variable{l:List It}{key:ByteArray}
end
section
variable{L:Nat}{s:St}{items items':List Kv}
end
theorem upK_ext{a b:List Kv}(ha:UpK a)(hb:UpK b)(h:∀x,x∈a↔x∈b):a=b:=
 rise_ext (r:=fun a b:Kv=>Op.bytesLess a.1 b.1=true) (fun x h=>by rw [bless_irrefl]at h;cases h) (fun x y h k=>by
  have:=bless_trans _ _ _ h k
  rw [bless_irrefl]at this
  cases this) a b ha hb h
section
variable{X:Nat→Prop}{L:Nat}{s:St}{items:List Kv}
theorem get_ok (h : IxX X L s items) (key : List UInt8) (hk : key.length ≤ 16) : (∃ v, getP s key = (v, 0) ∧ (nibs key, v) ∈ items ∧ v ≠ 0) ∨ (getP s key = (0, 7) ∧ ∀ kv ∈ items, kv.1 ≠ nibs key) := by
  by_cases h0 : s.ws 9 = 0
  · have hi : items = [] := by
      rcases h.tree with ⟨_, h2, _⟩ | ⟨_, h1, _⟩
      · exact h2
      · exact absurd h0 h1
    subst hi
    refine .inr ⟨?_, fun _ h => nomatch h⟩
    unfold getP pathP
    rw [if_neg (by omega), h0, pathGo, if_pos rfl]
    rfl
  · rcases h.tree with ⟨h1, _⟩ | ⟨blocks, h1, T, hnd, hX, htk⟩
    · exact absurd h1 h0
    · obtain ⟨way, last, rest', q, rl, nl, parts, A, B, b1, b2, o, hp, a⟩ := around h.ok h1 T hnd key hk
      have S := a.spot
      have hgl : (way ++ [last]).getLast? = some last := by simp
      have hmem : ∀ kv ∈ items, kv ∈ A ∨ kv ∈ B ∨ ∃ k, (k, kv.2) ∈ ownItems last.nd ++ kidItems last.nd.pre last.nd.labels parts ∧ kv.1 = q ++ k := fun kv hkv => by
        rw [S.its, List.append_assoc] at hkv
        rcases List.mem_append.1 hkv with g | g
        · exact .inl g
        · rcases List.mem_append.1 g with g | g
          · exact .inr (.inr (mapQ_mem.1 g))
          · exact .inr (.inl g)
      unfold getP
      rw [if_neg (by omega), hp]
      simp only
      by_cases hpr : last.nd.pre = rest'
      · have hst : standsP (way ++ [last]) rest' = some last := by unfold standsP; rw [hgl]; simp only; rw [if_pos hpr]
        rw [hst]
        simp only
        have hkey : nibs key = q ++ last.nd.pre := by rw [hpr]; exact S.cut
        by_cases hv : last.nd.val = 0
        · rw [if_pos hv]
          refine .inr ⟨rfl, fun kv hkv e => ?_⟩
          rcases hmem kv hkv with g | g | ⟨k, g1, g2⟩
          · exact a.other kv (.inl g) e
          · exact a.other kv (.inr g) e
          · rcases List.mem_append.1 g1 with g1 | g1
            · exact (ownItems_mem g1).2 hv
            · obtain ⟨i, i1, i2, kv', _, e2⟩ := kidItems_mem g1
              rw [g2, hkey] at e
              have e3 := List.append_cancel_left e
              have e4 : k = last.nd.pre ++ last.nd.labels[i] :: kv'.1 := congrArg Prod.fst e2
              rw [e4] at e3
              have := congrArg List.length e3
              simp at this
        · rw [if_neg hv]
          refine .inl ⟨_, rfl, ?_, hv⟩
          rw [S.its, List.append_assoc]
          refine List.mem_append_right _ (List.mem_append_left _ (mapQ_mem.2 ⟨last.nd.pre, List.mem_append_left _ ?_, hkey⟩))
          unfold ownItems
          rw [if_pos hv]
          exact List.mem_singleton.2 rfl
      · have hst : standsP (way ++ [last]) rest' = none := by unfold standsP; rw [hgl]; simp only; rw [if_neg hpr]
        rw [hst]
        refine .inr ⟨rfl, fun kv hkv e => ?_⟩
        rcases hmem kv hkv with g | g | ⟨k, g1, g2⟩
        · exact a.other kv (.inl g) e
        · exact a.other kv (.inr g) e
        · rw [g2, S.cut] at e
          exact a.below hpr _ g1 (List.append_cancel_left e)
end
structure StoreOk(L:Nat)(s:St)(items:List Kv)(ch:List UInt8→List Lk):Prop where
 ix:IxX (fun o=>∃kv∈items,o∈offs (ch kv.1)) L s items
 chain:∀kv∈items,ChainAt s kv.2 (ch kv.1)∧kv.2≠0
 none:∀k,(∀kv∈items,kv.1≠k)→ch k=[]
 dis:∀kv∈items,∀kv'∈items,kv.1≠kv'.1→∀o∈offs (ch kv.1),o∉offs (ch kv'.1)
def chPut(ch:List UInt8→List Lk)(k:List UInt8)(x:Lk):List UInt8→List Lk:=fun k'=>if k'=k then x::ch k' else ch k'
def writeP(s:St)(stamp:UInt64)(y:Wr):St×UInt64×UInt64×Int:=
 if(getP s y.key.data.toList).2≠0∧(getP s y.key.data.toList).2≠7 then(s,0,0,(getP s y.key.data.toList).2)else
 if y.gone=true∧(getP s y.key.data.toList).1=0 then(s,0,0,0)else
 if(addP s ⟨stamp,(getP s y.key.data.toList).1,y.gone,y.text⟩).2.2≠0 then((addP s ⟨stamp,(getP s y.key.data.toList).1,y.gone,y.text⟩).1,0,0,(addP s ⟨stamp,(getP s y.key.data.toList).1,y.gone,y.text⟩).2.2)else
 if(putK (addP s ⟨stamp,(getP s y.key.data.toList).1,y.gone,y.text⟩).1 y.key.data.toList (addP s ⟨stamp,(getP s y.key.data.toList).1,y.gone,y.text⟩).2.1).2≠0 then
  ((dropP (putK (addP s ⟨stamp,(getP s y.key.data.toList).1,y.gone,y.text⟩).1 y.key.data.toList (addP s ⟨stamp,(getP s y.key.data.toList).1,y.gone,y.text⟩).2.1).1 (offOf (addP s ⟨stamp,(getP s y.key.data.toList).1,y.gone,y.text⟩).2.1)).1,0,0,
    (putK (addP s ⟨stamp,(getP s y.key.data.toList).1,y.gone,y.text⟩).1 y.key.data.toList (addP s ⟨stamp,(getP s y.key.data.toList).1,y.gone,y.text⟩).2.1).2)else
 ((putK (addP s ⟨stamp,(getP s y.key.data.toList).1,y.gone,y.text⟩).1 y.key.data.toList (addP s ⟨stamp,(getP s y.key.data.toList).1,y.gone,y.text⟩).2.1).1,(getP s y.key.data.toList).1,(addP s ⟨stamp,(getP s y.key.data.toList).1,y.gone,y.text⟩).2.1,0)
def LowX(s s':St):Prop:=s'.sh=s.sh∧∀j,j<16→j≠9→s'.ws j=s.ws j
theorem LowX.refl(s:St):LowX s s:=⟨rfl,fun _ _ _=>rfl⟩
theorem LowX.trans{s s' s'':St}(h:LowX s s')(k:LowX s' s''):LowX s s'':=⟨k.1.trans h.1,fun j h1 h2=>(k.2 j h1 h2).trans (h.2 j h1 h2)⟩
theorem KeepX.lowX{X:Nat→Prop}{s s':St}(h:KeepX X s s'):LowX s s':=⟨h.sh,h.low⟩
section
variable{L:Nat}{s:St}{items:List Kv}{ch:List UInt8→List Lk}
theorem store_put (h : StoreOk L s items ch) {k : List UInt8} {lk : Lk} {s1 s2 : St} {o : Nat} (ho : lk.off = o) (hr : rightRc lk.rc = true) (ho6 : o ≤ 65536) (h0 : 0 < o) (hnx : ¬ ∃ kv ∈ items, o ∈ offs (ch kv.1)) (hv : ChainAt s lk.rc.next (ch k)) (hst : ∀ x ∈ ch k, x.rc.stamp.toNat < lk.rc.stamp.toNat)
    (k1 : KeepT s s1 (fun _ => True)) (ht : TakenAt s1 o 1) (hw : wordsAt s1.ws (o / 8) 8 = encRc lk.rc) {items' : List Kv} (k2 : KeepT s1 s2 (fun p => (∃ kv ∈ items, p ∈ offs (ch kv.1)) ∨ p = o)) (ix : IxX (fun p => (∃ kv ∈ items, p ∈ offs (ch kv.1)) ∨ p = o) L s2 items') (hp : PutIs items items' k (UInt64.ofNat o)) :
    StoreOk L s2 items' (chPut ch k lk) := by
  have hkey : ∀ kv ∈ items', (kv = (k, UInt64.ofNat o)) ∨ (kv ∈ items ∧ kv.1 ≠ k) := fun kv hkv => (hp kv).1 hkv
  have hin : (k, UInt64.ofNat o) ∈ items' := (hp _).2 (.inl rfl)
  have hother : ∀ kv ∈ items, kv.1 ≠ k → chPut ch k lk kv.1 = ch kv.1 := fun kv _ hne => by unfold chPut; rw [if_neg hne]
  have hself : chPut ch k lk k = lk :: ch k := by unfold chPut; rw [if_pos rfl]
  have hlo : offs (lk :: ch k) = o :: offs (ch k) := by unfold offs; rw [List.map_cons, ho, Int.toNat_natCast]
  have hold : ∀ p ∈ offs (ch k), ∃ kv ∈ items, p ∈ offs (ch kv.1) := fun p hpm => by
    by_cases hh : ∀ kv ∈ items, kv.1 ≠ k
    · rw [h.none k hh] at hpm; cases hpm
    · obtain ⟨kv, h1⟩ := Classical.not_forall.1 hh
      obtain ⟨h2, h3⟩ := Classical.not_imp.1 h1
      exact ⟨kv, h2, by rw [Classical.not_not.1 h3]; exact hpm⟩
  have hcon : ∀ kv ∈ items, kv.1 = k → ∀ p ∈ offs (ch kv.1), p ∈ offs (ch k) := fun kv _ e p hp => by rw [← e]; exact hp
  refine ⟨ix.congr fun p => ?_, fun kv hkv => ?_, fun k' hk' => ?_, fun a ha b hb hab p hpa hpb => ?_⟩
  · constructor
    · rintro (⟨kv, h1, h2⟩ | rfl)
      · by_cases e : kv.1 = k
        · exact ⟨_, hin, by rw [hself, hlo]; exact List.mem_cons_of_mem _ (hcon kv h1 e p h2)⟩
        · exact ⟨kv, (hp kv).2 (.inr ⟨h1, e⟩), by rw [hother kv h1 e]; exact h2⟩
      · exact ⟨_, hin, by rw [hself, hlo]; exact List.mem_cons_self ..⟩
    · rintro ⟨kv, h1, h2⟩
      rcases hkey kv h1 with rfl | ⟨h3, h4⟩
      · rw [hself, hlo] at h2
        rcases List.mem_cons.1 h2 with h2 | h2
        · exact .inr h2
        · exact .inl (hold p h2)
      · rw [hother kv h3 h4] at h2
        exact .inl ⟨kv, h3, h2⟩
  · rcases hkey kv hkv with rfl | ⟨h3, h4⟩
    · rw [hself]
      refine ⟨?_, fun e => ?_⟩
      · obtain ⟨t1, t2⟩ := k2 o 1 (.inr rfl) ht
        have hw2 := words_same (o := o) (c := 1) t2
        rw [show 8 * linesN 1 = 8 from rfl, hw] at hw2
        have hc := (hv.keep k1 (fun _ _ => trivial)).keep k2 (fun p hp => .inl (hold p hp))
        have := ChainAt.cons o lk.rc (ch k) t1 hr hw2 hc hst
        rw [← ho] at this
        exact this
      · have := congrArg UInt64.toNat e
        rw [ofNat_toNat_lt (by omega)] at this
        simp at this
        omega
    · rw [hother kv h3 h4]
      exact ⟨((h.chain kv h3).1.keep k1 (fun _ _ => trivial)).keep k2 (fun p hp => .inl ⟨kv, h3, hp⟩), (h.chain kv h3).2⟩
  · have hne : k' ≠ k := fun e => hk' _ hin e.symm
    unfold chPut
    rw [if_neg hne]
    refine h.none k' (fun kv hkv e => ?_)
    exact hk' kv ((hp kv).2 (.inr ⟨hkv, by rw [e]; exact hne⟩)) e
  · have key : ∀ c : Kv, c ∈ items → c.1 ≠ k → ∀ p, p ∈ offs (ch c.1) → p ∈ o :: offs (ch k) → False := fun c hc hck p h1 h2 => by
      rcases List.mem_cons.1 h2 with rfl | h2
      · exact hnx ⟨c, hc, h1⟩
      · obtain ⟨kv, g1, g2⟩ := hold p h2
        by_cases hh : ∀ kv ∈ items, kv.1 ≠ k
        · rw [h.none k hh] at h2; cases h2
        · obtain ⟨kv, h1'⟩ := Classical.not_forall.1 hh
          obtain ⟨h3, h4⟩ := Classical.not_imp.1 h1'
          have h4 := Classical.not_not.1 h4
          exact h.dis c hc kv h3 (by rw [h4]; exact hck) p h1 (by rw [h4]; exact h2)
    rcases hkey a ha with rfl | ⟨a1, a2⟩
    · rcases hkey b hb with rfl | ⟨b1, b2⟩
      · exact hab rfl
      · rw [hself, hlo] at hpa
        rw [hother b b1 b2] at hpb
        exact key b b1 b2 p hpb hpa
    · rw [hother a a1 a2] at hpa
      rcases hkey b hb with rfl | ⟨b1, b2⟩
      · rw [hself, hlo] at hpb
        exact key a a1 a2 p hpa hpb
      · rw [hother b b1 b2] at hpb
        exact h.dis a a1 b b1 hab p hpa hpb
theorem StoreOk.keep(h:StoreOk L s items ch){s':St}(k:KeepT s s' (fun p=>∃kv∈items,p∈offs (ch kv.1)))(ix:IxX (fun p=>∃kv∈items,p∈offs (ch kv.1)) L s' items):StoreOk L s' items ch:=
 ⟨ix,fun kv hkv=>⟨(h.chain kv hkv).1.keep k (fun _ hp=>⟨kv,hkv,hp⟩),(h.chain kv hkv).2⟩,h.none,h.dis⟩
def WriteOk(L:Nat)(s:St)(items:List Kv)(ch:List UInt8→List Lk)(stamp:UInt64)(y:Wr)(r:St×UInt64×UInt64×Int):Prop:=
 LowX s r.1∧((r.2=(0,0,6)∧StoreOk L r.1 items ch)∨
  (r=(s,0,0,0)∧y.gone=true∧∀kv∈items,kv.1≠nibs y.key.data.toList)∨
  (∃o v items',r.2=(v,UInt64.ofNat o,0)∧0<o∧o≤65536∧((v=0∧y.gone=false∧∀kv∈items,kv.1≠nibs y.key.data.toList)∨(v≠0∧(nibs y.key.data.toList,v)∈items))∧
   StoreOk L r.1 items' (chPut ch (nibs y.key.data.toList) ⟨o,⟨stamp,v,y.gone,y.text⟩⟩)∧PutIs items items' (nibs y.key.data.toList) (UInt64.ofNat o)))
theorem write_ok(h:StoreOk L s items ch)(stamp:UInt64)(y:Wr)(hy:rightWr y=true)(hs0:stamp.toNat≠0)(hst:∀x∈ch (nibs y.key.data.toList),x.rc.stamp.toNat<stamp.toNat):WriteOk L s items ch stamp y (writeP s stamp y):=by
 have hyk:y.key.data.toList.length≤16∧y.text.size≤40∧(y.gone=true→y.text.size=0):=by
  unfold rightWr at hy
  simp only [Bool.and_eq_true,decide_eq_true_eq,Bool.or_eq_true,Bool.not_eq_true']at hy
  exact⟨hy.1.1,hy.1.2,fun hg=>hy.2.resolve_left (by rw [hg];simp)⟩
 have hget:∃v e,getP s y.key.data.toList=(v,e)∧¬(e≠0∧e≠7)∧((v=0∧∀kv∈items,kv.1≠nibs y.key.data.toList)∨(v≠0∧(nibs y.key.data.toList,v)∈items))∧ChainAt s v (ch (nibs y.key.data.toList)):=by
  rcases get_ok h.ix y.key.data.toList hyk.1 with⟨v,e,hm,hv⟩| ⟨e,hn⟩
  ·exact⟨v,0,e,by simp,.inr ⟨hv,hm⟩,(h.chain _ hm).1⟩
  ·exact⟨0,7,e,by simp,.inl ⟨rfl,hn⟩,by rw [h.none _ hn];exact .nil⟩
 obtain⟨v,e,hg,he,hcase,hch⟩:=hget
 unfold writeP
 rw [hg]
 simp only
 rw [if_neg he]
 by_cases hgv:y.gone=true∧v=0
 ·rw [if_pos hgv]
  exact⟨LowX.refl s,.inr (.inl ⟨rfl,hgv.1,(hcase.resolve_right (fun h=>h.1 hgv.2)).2⟩)⟩
 ·rw [if_neg hgv]
  have hr:rightRc ⟨stamp,v,y.gone,y.text⟩=true:=(rightRc_iff _).2 ⟨hs0,hyk.2.1,hyk.2.2⟩
  rcases add_ok h.ix ⟨stamp,v,y.gone,y.text⟩ hr with ea| ⟨s1,o,ea,_,hnt,hnX,ho6,ho0,ht1,hw1,ix1,k1,sh1,low1⟩
  ·rw [ea]
   simp only
   rw [if_pos (by decide)]
   exact⟨LowX.refl s,.inl ⟨rfl,h⟩⟩
  ·rw [ea]
   simp only
   rw [if_neg (by simp)]
   have hone:UInt64.ofNat o≠0:=fun e=>by
    have:=congrArg UInt64.toNat e
    rw [ofNat_toNat_lt (by omega)]at this
    simp at this
    omega
   have hL1:LowX s s1:=⟨sh1,fun j hj _=>low1 j hj⟩
   obtain⟨kx,hput⟩:=put_ok ix1 y.key.data.toList hyk.1 (UInt64.ofNat o) hone
   generalize putK s1 y.key.data.toList (UInt64.ofNat o)=rp at kx hput
   obtain⟨s2,e2⟩:=rp
   simp only at kx hput⊢
   rcases hput with⟨rfl,ix2,_⟩| ⟨rfl,items',ix2,hp⟩
   ·rw [if_pos (by decide)]
    obtain⟨s3,e3,ix3,k3,sh3,low3⟩:=drop_x ix2 (o:=o) (.inr rfl)
    have hof:offOf (UInt64.ofNat o)=o:=offOf_ofNat (by omega)
    rw [hof,e3]
    refine⟨(hL1.trans kx.lowX).trans ⟨sh3,fun j hj _=>low3 j hj⟩,.inl ⟨rfl,?_⟩⟩
    have kk:KeepT s s3 (fun p=>∃kv∈items,p∈offs (ch kv.1)):=fun p c hp ht=>by
     obtain⟨u1,u2⟩:=k1 p c trivial ht
     obtain⟨u3,u4⟩:=kx.keep p c (.inl hp) u1
     obtain⟨u5,u6⟩:=k3 p c (fun e=>hnX (e▸hp)) u3
     exact⟨u5,fun j hj=>((u6 j hj).trans (u4 j hj)).trans (u2 j hj)⟩
    refine h.keep kk (ix3.congr fun p=> ?_)
    constructor
    ·rintro⟨h1| h1,h2⟩
     ·exact h1
     ·exact absurd h1 h2
    ·exact fun h1=>⟨.inl h1,fun e=>hnX (e▸h1)⟩
   ·rw [if_neg (by simp)]
    refine⟨hL1.trans kx.lowX,.inr (.inr ⟨o,v,items',rfl,ho0,ho6,?_,?_,hp⟩)⟩
    ·rcases hcase with⟨h1,h2⟩| ⟨h1,h2⟩
     ·exact .inl ⟨h1,by cases hgn:y.gone with
      | false=>rfl
      | true=>exact absurd ⟨hgn,h1⟩ hgv,h2⟩
     ·exact .inr ⟨h1,h2⟩
    ·exact store_put h (k:=nibs y.key.data.toList) (lk:=⟨o,⟨stamp,v,y.gone,y.text⟩⟩) rfl hr ho6 ho0 hnX hch hst k1 ht1 hw1 kx.keep ix2 hp
end
section
variable{L:Nat}{s:St}{items items':List Kv}{ch:List UInt8→List Lk}
end
theorem ChainAt.len{s:St}{v:UInt64}{l:List Lk}(h:ChainAt s v l):∀b:Nat,(∀k∈l,k.rc.stamp.toNat<b)→l.length≤b:=by
 induction h with
 | nil=>intro b _;exact Nat.zero_le _
 | cons o r l _ _ _ _ hs ih=>
   intro b hb
   have h1:=ih r.stamp.toNat hs
   have h2:r.stamp.toNat<b:=hb _ (List.mem_cons_self ..)
   rw [List.length_cons];omega
theorem ChainAt.listed{L:Nat}{s:St}(ok:PoolOk L s){v:UInt64}{l:List Lk}(h:ChainAt s v l):listP s v=some l:=by
 have:=h.list ok 18446744073709551618 [] (Nat.lt_of_le_of_lt (h.len 18446744073709551616 (fun k _=>UInt64.toNat_lt _)) (by decide)) (fun k _=>UInt64.toNat_lt _)
 rw [List.nil_append]at this
 exact this
section
variable{L:Nat}{s:St}{items:List Kv}{ch:List UInt8→List Lk}
theorem StoreOk.slot(h:StoreOk L s items ch)(v:UInt64):StoreOk L {s with ws:=put1 s.ws 8 v} items ch:=by
 have hw:∀j,16≤j→put1 s.ws 8 v j=s.ws j:=fun j hj=>by unfold put1;rw [if_neg (by omega)]
 have ok':PoolOk L {s with ws:=put1 s.ws 8 v}:=h.ix.ok.words (fun i _=>hw _ (by omega))
 have kt:KeepT s {s with ws:=put1 s.ws 8 v} (fun _=>True):=fun o c _ ht=>⟨ht,fun j hj=>hw j (by have:=h.ix.ok.table_words (ht.bounds h.ix.ok).1 hj;omega)⟩
 exact h.keep (kt.mono (fun _ _=>trivial)) (h.ix.same ok' h.ix.nh (fun _=>Iff.rfl) kt (by show put1 s.ws 8 v 9=_;unfold put1;rw [if_neg (by decide)]))
end
theorem store0{L:Nat}{sh:Sh}(hL:L≤1024)(hs:shapeOf L=some sh):StoreOk L (st0 sh) [] (fun _=>[]):=
 ⟨(st0_ok hL hs).congr (fun _=>⟨fun h=>h.elim,fun⟨_,h,_⟩=>(nomatch h)⟩),(fun _ h=>(nomatch h)),(fun _ _=>rfl),(fun _ h=>(nomatch h))⟩
def sh18:Sh:={lines:=100,slabs:=6,table:=128,data:=192}
theorem shape18:shapeOf 100=some sh18:=by decide+kernel
def ka18:ByteArray:=⟨#[97]⟩
def tx18:ByteArray:=⟨#[120]⟩
def kb18:ByteArray:=⟨#[98]⟩
theorem one18:oneB sh18 ka18 tx18=true:=by decide+kernel
def wa18:Wr:=⟨ka18,tx18,false⟩
def wb18:Wr:=⟨kb18,⟨#[]⟩,true⟩
theorem write18:writeP (st0 sh18) 1 wa18=(one2 sh18 ka18 tx18,0,onePl sh18 tx18,0):=by
 have hg:getP (st0 sh18) wa18.key.data.toList=(0,7):=one_get sh18 ka18 (by decide)
 have ha:addP (st0 sh18) ⟨1,0,wa18.gone,wa18.text⟩=(one1 sh18 tx18,onePl sh18 tx18,0):=one_add one18
 have hp:putK (one1 sh18 tx18) wa18.key.data.toList (onePl sh18 tx18)=(one2 sh18 ka18 tx18,0):=one_put one18
 unfold writeP
 rw [hg]
 simp only
 rw [if_neg (by simp),if_neg (by simp [wa18]),ha]
 simp only
 rw [if_neg (by simp),hp]
 simp
theorem behind18:∃o,onePl sh18 tx18=UInt64.ofNat o∧StoreOk 100 (one2 sh18 ka18 tx18) [(nibs ka18.data.toList,UInt64.ofNat o)] (chPut (fun _=>[]) (nibs ka18.data.toList) ⟨o,⟨1,0,false,tx18⟩⟩)∧(one2 sh18 ka18 tx18).ws 8=0:=by
 have h:=write_ok (store0 (L:=100) (by decide) shape18) 1 wa18 (by decide+kernel) (by decide) (fun x hx=>(nomatch hx))
 rw [write18]at h
 obtain⟨hl,h1⟩:=h
 have h80:(one2 sh18 ka18 tx18).ws 8=0:=(hl.2 8 (by decide) (by decide)).trans (format_above sh18 8 (by decide))
 rcases h1 with⟨h1,_⟩| ⟨_,h1,_⟩| ⟨o,v,items',h1,_,_,hv,hs,hp⟩
 ·exact absurd (congrArg (fun r=>r.2.2) h1) (by decide)
 ·cases h1
 ·simp only [Prod.mk.injEq]at h1
  obtain⟨rfl,h1,_⟩:=h1
  refine⟨o,h1,?_,h80⟩
  have hi:items'=[(nibs ka18.data.toList,UInt64.ofNat o)]:=upK_ext hs.ix.up (List.pairwise_singleton _ _) (fun x=>by
   rw [hp x]
   simp only [List.not_mem_nil,false_and,or_false,List.mem_singleton]
   exact Iff.rfl)
  rw [hi]at hs
  exact hs
theorem getb18:getP (one2 sh18 ka18 tx18) kb18.data.toList=(0,7):=by
 obtain⟨o,_,hs,_⟩:=behind18
 rcases get_ok hs.ix kb18.data.toList (by decide)with⟨v,_,hm,_⟩| ⟨h,_⟩
 ·rw [List.mem_singleton]at hm
  exact absurd (congrArg Prod.fst hm) (show¬nibs kb18.data.toList=nibs ka18.data.toList by decide+kernel)
 ·exact h
theorem end18:∃o,allK {one2 sh18 ka18 tx18 with ws:=put1 (one2 sh18 ka18 tx18).ws 8 1}=some [⟨ka18,UInt64.ofNat o⟩]∧listP {one2 sh18 ka18 tx18 with ws:=put1 (one2 sh18 ka18 tx18).ws 8 1} (UInt64.ofNat o)=some [⟨o,⟨1,0,false,tx18⟩⟩]:=by
 obtain⟨o,_,hs,_⟩:=behind18
 have hs2:=hs.slot 1
 refine⟨o,?_,?_⟩
 ·rw [all_ok hs2.ix]
  rfl
 ·have hc:=(hs2.chain _ (List.mem_singleton.2 rfl)).1.listed hs2.ix.ok
  simp only [chPut,if_true]at hc
  exact hc
end Go.Proofs.YtjcppneoncpdbaaGreatDoor
