import Derived.Test.YtfhagbcfbbggeaaGreatDoorG12
namespace Go.Proofs.YtfhagbcfbbggeaaGreatDoor
theorem ndVal_enc(x:Nd)(v:UInt64):encW {x with val:=v}=(encW x).set 2 v:=by
 have hl:(encW {x with val:=v}).length=(encW x).length:=by rw [encW_length,encW_length]
 refine List.ext_getElem? fun i=> ?_
 rw [List.getElem?_set]
 by_cases h:2=i
 ·subst h
  rw [encW_at2,if_pos rfl,if_pos]
  rw [encW_length];split<;>omega
 ·rw [if_neg h,encW_val x v i (fun e=>h e.symm)]
section
variable{L:Nat}{s:St}
structure Around0(L:Nat)(s:St)(items:List Kv)(blocks:List Nat)(key:List UInt8)(last:Pl)(rest' q:List UInt8)(rl:Nat)(nl:UInt64)(parts:List Part)(A B:List Kv)(b1 b2:List Nat)(o:Nat):Prop where
 spot:Spot0 L s 32 (s.ws 9) items blocks 72 (nibs key) last rest' q rl nl parts A B b1 b2
 off:last.off=o
 tk:TakenAt s o (classN last.nd)
 right:rightB last.nd=true
 words:wordsAt s.ws (o/8) (8*linesN (classN last.nd))=encW last.nd
 n1:o∉b1
 n2:o∉b2
 n3:o∉kidBlocks parts
 d1:∀p∈b1,p∉kidBlocks parts
 d2:∀p∈b2,p∉kidBlocks parts
 d3:∀p∈b1,p∉b2
 m1:b1.Nodup
 m2:b2.Nodup
 m3:(kidBlocks parts).Nodup
 bls:blocks=b1++(o::kidBlocks parts)++b2
structure Around(L:Nat)(s:St)(items:List Kv)(blocks:List Nat)(key:List UInt8)(last:Pl)(rest' q:List UInt8)(rl:Nat)(nl:UInt64)(parts:List Part)(A B:List Kv)(b1 b2:List Nat)(o:Nat):Prop extends Around0 L s items blocks key last rest' q rl nl parts A B b1 b2 o where
 stop:common last.nd.pre rest'<last.nd.pre.length∨common last.nd.pre rest'=rest'.length∨kidP last.nd (rest'.getD (common last.nd.pre rest') 0)=none
theorem around0(h:PoolOk L s){items:List Kv}{blocks:List Nat}{key rest' q:List UInt8}{last:Pl}{rl:Nat}{nl:UInt64}{parts:List Part}{A B:List Kv}{b1 b2:List Nat}(hnd:blocks.Nodup)(S:Spot0 L s 32 (s.ws 9) items blocks 72 (nibs key) last rest' q rl nl parts A B b1 b2):
 ∃o,Around0 L s items blocks key last rest' q rl nl parts A B b1 b2 o:=by
 obtain⟨o,ho,ht,hr,hw⟩:=read_some h S.rd
 have hoff:last.off=o:=S.off.symm.trans ho
 have hb:=S.bls
 rw [hoff,Int.toNat_natCast]at hb
 have hnd':=hnd
 rw [hb]at hnd'
 obtain⟨x1,x2,x3⟩:=List.nodup_append.1 hnd'
 obtain⟨y1,y2,y3⟩:=List.nodup_append.1 x1
 obtain⟨z1,z2⟩:=List.nodup_cons.1 y2
 exact⟨o,⟨S,hoff,ht,hr,hw,fun h=>y3 _ h _ (List.mem_cons_self ..) rfl,fun h=>x3 _ (by simp) _ h rfl,z1,fun p hp hk=>y3 _ hp _ (List.mem_cons_of_mem _ hk) rfl,fun p hp hk=>x3 _ (by simp [hk]) _ hp rfl,fun p hp hk=>x3 _ (by simp [hp]) _ hk rfl,y1,x2,z2,hb⟩⟩
theorem around(h:PoolOk L s){items:List Kv}{blocks:List Nat}(hn0:s.ws 9≠0)(T:TreeAt s 32 (s.ws 9) items blocks)(hnd:blocks.Nodup)(key:List UInt8)(hk:key.length≤16):
 ∃way last rest' q rl nl parts A B b1 b2 o,pathP s key=some (way++[last],rest')∧Around L s items blocks key last rest' q rl nl parts A B b1 b2 o:=by
 have hlen:=nibs_length key
 obtain⟨last,rest',q,rl,nl,parts,A,B,b1,b2,way0,hp,S⟩:=path_spot h (2*key.length+1) 32 (s.ws 9) items blocks (nibs key) 0 72 [] T hnd (by omega) (by omega) hn0
 obtain⟨o,a⟩:=around0 h hnd S.toSpot0
 exact⟨way0,last,rest',q,rl,nl,parts,A,B,b1,b2,o,by unfold pathP;rw [hp];simp,⟨a,S.stop⟩⟩
variable{items:List Kv}{blocks:List Nat}{key:List UInt8}{last:Pl}{rest' q:List UInt8}{rl:Nat}{nl:UInt64}{parts:List Part}{A B:List Kv}{b1 b2:List Nat}{o:Nat}
theorem Around0.word(ok:PoolOk L s)(a:Around0 L s items blocks key last rest' q rl nl parts A B b1 b2 o):∃jw:Nat,last.word=((8*jw:Nat):Int)∧s.ws jw=nl∧(jw<16∨16+s.sh.slabs≤jw)∧((q=[]∧jw=9)∨(q≠[]∧∃p c,p∈b1∧TakenAt s p c∧inBlk p c jw)):=by
 rcases a.spot.wd with⟨h1,h2,h3⟩| ⟨h1,p,c,j,h2,h3,h4,h5,h6⟩
 ·exact⟨9,by rw [h2];rfl,h3.symm,.inl (by decide),.inl ⟨h1,rfl⟩⟩
 ·exact⟨j,h5,h6,.inr (ok.table_words (h3.bounds ok).1 h4),.inr ⟨h1,p,c,h2,h3,h4⟩⟩
theorem Around0.other(a:Around0 L s items blocks key last rest' q rl nl parts A B b1 b2 o)(kv:Kv)(h:kv∈A∨kv∈B):kv.1≠nibs key:=by
 rw [a.spot.cut]
 rcases h with h| h
 ·exact bless_ne (a.spot.lo kv h rest')
 ·exact fun e=>bless_ne (a.spot.hi kv h rest') e.symm
theorem value_ok{items:List Kv}{blocks:List Nat}(h:IxOk L s items)(hn0:s.ws 9≠0)(htk:∀o,(∃d,TakenAt s o d)↔o∈blocks)(hnd:blocks.Nodup)(a:Around0 L s items blocks key last rest' q rl nl parts A B b1 b2 o)(hp:last.nd.pre=rest')(value:UInt64):
 IxOk L (valueP s last value) (A++mapQ q (ownItems {last.nd with val:=value}++kidItems last.nd.pre last.nd.labels parts)++B):=by
 have ok:=h.ok
 obtain⟨jw,hj1,hj2,hj3,hj4⟩:=a.word ok
 have hbo:=a.tk.bounds ok
 have S:=a.spot
 obtain⟨s',hs'⟩:∃s',s'=valueP s last value:=⟨_,rfl⟩
 have hw:∀i,s'.ws i=if i=o/8+2 then value else s.ws i:=fun i=>by
  rw [hs']
  show put1 s.ws (last.off.toNat/8+2) value i=_
  rw [a.off,Int.toNat_natCast];rfl
 have hin:inBlk o (classN last.nd) (o/8+2):=⟨by omega,by
  have:=(lines_blocks (classN_12 last.nd)).2.1
  omega⟩
 have hout:=ok.table_words hbo.1 hin
 have ok':PoolOk L s':=by
  rw [hs']
  exact ok.words (fun i hi=>by
   show put1 s.ws (last.off.toNat/8+2) value (16+i)=_
   rw [a.off,Int.toNat_natCast]
   unfold put1
   rw [if_neg (by omega)])
 have htk':∀p d,TakenAt s' p d↔TakenAt s p d:=fun p d=>by rw [hs'];exact Iff.rfl
 have hkeep:KeepT s s' (fun p=>p≠o):=fun p c hp ht=>⟨(htk' p c).2 ht,fun j hj=>by
  rw [hw,if_neg (inBlk_ne ok ht a.tk hp hj hin)]⟩
 have hrd:readP s' nl=some {last.nd with val:=value}:=by
  refine read_of ok' (S.off.trans a.off) ((htk' _ _).2 a.tk) (by rw [rightB_val];exact a.right) ?_
  rw [show classN {last.nd with val:=value}=classN last.nd from rfl,ndVal_enc]
  refine List.ext_getElem (by simp [wordsAt,encW_lines']) fun t g1 g2=> ?_
  have htl:t<8*linesN (classN last.nd):=by simpa [wordsAt]using g1
  have hold:s.ws (o/8+t)=(encW last.nd)[t]'(by rw [encW_lines'];exact htl):=by
   have:(wordsAt s.ws (o/8) (8*linesN (classN last.nd)))[t]? =(encW last.nd)[t]? :=by rw [a.words]
   unfold wordsAt at this
   rw [List.getElem?_map,List.getElem?_range htl,List.getElem?_eq_getElem (by rw [encW_lines'];exact htl)]at this
   simpa using this
  rw [wordsAt_get,hw,List.getElem_set]
  by_cases e:t=2
  ·rw [if_pos (by omega),if_pos e.symm]
  ·rw [if_neg (by omega),if_neg (fun h=>e h.symm)]
   exact hold
 have T:=TreeAt.mk (s:=s') rl nl {last.nd with val:=value} parts hrd S.pre S.kid S.len (fun i h1 h2=>(S.sub i h1 h2).keep ok ok' hkeep (fun p hp e=>a.n3 (e▸kidBlocks_mem h2 hp)))
 rw [S.off,a.off,Int.toNat_natCast]at T
 have T2:=S.swap s' nl _ _ ok' (fun e=>by
  rcases hj4 with⟨h1,h2⟩| ⟨h1,h2⟩
  ·rw [h2]at hj2;exact hn0 (hj2.trans e)
  ·have:=S.rd
   rw [e]at this
   obtain⟨o',ho',ht',_⟩:=read_some ok this
   have:=(ht'.bounds ok).1
   have hz:offOf 0=0:=by decide
   rw [hz]at ho'
   have:=ok.sh.tfits
   omega) T (fun p c hp ht=>by
  have hpo:p≠o:=fun e=>by subst e;exact hp.elim a.n1 a.n2
  obtain⟨u1,u2⟩:=hkeep p c hpo ht
  refine⟨u1,fun j hj=> ?_⟩
  rw [u2 j hj]
  split
  ·rename_i e
   rw [hj1]at e
   rw [←hj2]
   congr 1
   omega
  ·rfl)
 have h9:s'.ws 9=s.ws 9:=by rw [hw,if_neg (by omega)]
 have hname:(if q=[]then nl else s.ws 9)=s.ws 9:=by
  split
  ·rename_i e
   rcases hj4 with⟨_,h2⟩| ⟨h1,_⟩
   ·rw [←hj2,h2]
   ·exact absurd e h1
  ·rfl
 rw [hname]at T2
 have hkey:nibs key=q++last.nd.pre:=by rw [hp];exact S.cut
 refine⟨by rw [←hs'];exact ok',fun p d hh=>h.nh p d ((held_same (by rfl) (by rfl) p d).1 hh),.inr ⟨blocks,by rw [←hs',h9];exact hn0,?_,hnd,fun p=> ?_⟩,?_⟩
 ·rw [←hs',h9,a.bls]
  exact T2
 ·rw [←hs',show(∃d,TakenAt s' p d)↔∃d,TakenAt s p d from exists_congr (htk' p)]
  exact htk p
 ·intro kv hkv
  rw [List.append_assoc]at hkv
  rcases List.mem_append.1 hkv with h1| h1
  ·exact h.even kv (by rw [S.its];simp [h1])
  ·rcases List.mem_append.1 h1 with h1| h1
   ·obtain⟨k,h2,h3⟩:=mapQ_mem.1 h1
    rcases List.mem_append.1 h2 with h4| h4
    ·obtain⟨e,_⟩:=ownItems_mem h4
     rw [h3]
     have e1:k=last.nd.pre:=congrArg Prod.fst e
     rw [e1,←hkey]
     exact keyOk_nib key
    ·refine h.even kv ?_
     rw [S.its,List.append_assoc]
     exact List.mem_append_right _ (List.mem_append_left _ (mapQ_mem.2 ⟨k,List.mem_append_right _ h4,h3⟩))
   ·exact h.even kv (by rw [S.its];simp [h1])
theorem put_there{items:List Kv}{blocks:List Nat}(h:IxOk L s items)(hn0:s.ws 9≠0)(htk:∀o,(∃d,TakenAt s o d)↔o∈blocks)(hnd:blocks.Nodup)(a:Around L s items blocks key last rest' q rl nl parts A B b1 b2 o)(hp:last.nd.pre=rest')(value:UInt64)(hv:value≠0):
 PutOk L items (nibs key) value (valueP s last value,0):=by
 have S:=a.spot
 have hkey:nibs key=q++last.nd.pre:=by rw [hp];exact S.cut
 right
 refine⟨rfl,_,value_ok h hn0 htk hnd a.toAround0 hp value,?_⟩
 intro kv
 have hkid:∀k,(k,kv.2)∈kidItems last.nd.pre last.nd.labels parts→q++k≠nibs key:=fun k hk e=>by
  obtain⟨i,h1,h2,kv',_,e2⟩:=kidItems_mem hk
  rw [hkey]at e
  have:=List.append_cancel_left e
  have e3:k=last.nd.pre++last.nd.labels[i]::kv'.1:=congrArg Prod.fst e2
  rw [e3]at this
  have:=congrArg List.length this
  simp at this
 constructor
 ·intro hkv
  rw [List.append_assoc]at hkv
  rcases List.mem_append.1 hkv with h1| h1
  ·exact .inr ⟨by rw [S.its];simp [h1],a.other kv (.inl h1)⟩
  ·rcases List.mem_append.1 h1 with h1| h1
   ·obtain⟨k,h2,h3⟩:=mapQ_mem.1 h1
    rcases List.mem_append.1 h2 with h4| h4
    ·obtain⟨e,_⟩:=ownItems_mem h4
     left
     have e1:k=last.nd.pre:=congrArg Prod.fst e
     have e2:kv.2=value:=congrArg Prod.snd e
     refine Prod.ext ?_ e2
     rw [h3,e1,hkey]
    ·refine .inr ⟨?_,by rw [h3];exact hkid k h4⟩
     rw [S.its,List.append_assoc]
     exact List.mem_append_right _ (List.mem_append_left _ (mapQ_mem.2 ⟨k,List.mem_append_right _ h4,h3⟩))
   ·exact .inr ⟨by rw [S.its];simp [h1],a.other kv (.inr h1)⟩
 ·rintro(rfl| ⟨h1,h2⟩)
  ·rw [List.append_assoc]
   refine List.mem_append_right _ (List.mem_append_left _ (mapQ_mem.2 ⟨last.nd.pre,List.mem_append_left _ ?_,hkey⟩))
   unfold ownItems
   rw [if_pos hv]
   exact List.mem_singleton.2 rfl
  ·rw [S.its,List.append_assoc]at h1
   rw [List.append_assoc]
   rcases List.mem_append.1 h1 with h3| h3
   ·exact List.mem_append_left _ h3
   ·rcases List.mem_append.1 h3 with h3| h3
    ·obtain⟨k,h4,h5⟩:=mapQ_mem.1 h3
     rcases List.mem_append.1 h4 with h6| h6
     ·obtain⟨e,_⟩:=ownItems_mem h6
      have e1:k=last.nd.pre:=congrArg Prod.fst e
      exact absurd (by rw [h5,e1,hkey]) h2
     ·exact List.mem_append_right _ (List.mem_append_left _ (mapQ_mem.2 ⟨k,List.mem_append_right _ h6,h5⟩))
    ·exact List.mem_append_right _ (List.mem_append_right _ h3)
end
section
variable{L:Nat}{s:St}{items:List Kv}{blocks:List Nat}{key:List UInt8}{last:Pl}{rest' q:List UInt8}{rl:Nat}{nl:UInt64}{parts:List Part}{A B:List Kv}{b1 b2:List Nat}{o:Nat}
theorem finish_ok (h : IxOk L s items) (hn0 : s.ws 9 ≠ 0) (htk : ∀ o, (∃ d, TakenAt s o d) ↔ o ∈ blocks) (a : Around0 L s items blocks key last rest' q rl nl parts A B b1 b2 o) {j : Jb} {C : List Nat} (g : Grown L s j C) {name : UInt64} (hn : name ≠ 0) {il' : List Kv} {bl' : List Nat}
    (T : TreeAt j.s rl name il' bl') {K D dl : List Nat} (hperm : (kidBlocks parts).Perm (K ++ D)) (hpm : bl'.Perm (C ++ K)) (hdl : dl.Perm (D ++ [o])) (hev : ∀ kv ∈ il', keyOk (q ++ kv.1) = true) :
    ∃ s2, finishP j 0 last.word name (dl.map Int.ofNat) = (s2, 0) ∧ IxOk L s2 (A ++ mapQ q il' ++ B) := by
  have ok := h.ok
  obtain ⟨jw, hj1, hj2, hj3, hj4⟩ := a.word ok
  have S := a.spot
  obtain ⟨s1, hs1⟩ : ∃ s1, s1 = ({ j.s with ws := put1 j.s.ws (last.word.toNat / 8) name } : St) := ⟨_, rfl⟩
  have hjw : last.word.toNat / 8 = jw := by rw [hj1, Int.toNat_natCast]; omega
  have hw1 : ∀ i, s1.ws i = if i = jw then name else j.s.ws i := fun i => by rw [hs1, ← hjw]; rfl
  have hshj := g.sh
  have ok1 : PoolOk L s1 := by
    rw [hs1]
    refine g.ok.words (fun i hi => ?_)
    show put1 j.s.ws (last.word.toNat / 8) name (16 + i) = _
    rw [hjw]
    unfold put1
    rw [if_neg]
    rw [hshj] at hi
    omega
  have htk1 : ∀ p d, TakenAt s1 p d ↔ TakenAt j.s p d := fun p d => by rw [hs1]; exact Iff.rfl
  have hCs : ∀ p ∈ C, ∀ d, ¬ TakenAt s p d := g.new
  have hbt : ∀ p ∈ blocks, ∃ d, TakenAt s p d := fun p hp => (htk p).2 hp
  have hoC : o ∉ C := fun hc => hCs o hc _ a.tk
  have hKD := hperm.nodup_iff.1 a.m3
  obtain ⟨mK, mD, mKD⟩ := List.nodup_append.1 hKD
  have hDk : ∀ p ∈ D, p ∈ kidBlocks parts := fun p hp => hperm.mem_iff.2 (List.mem_append_right _ hp)
  have hKk : ∀ p ∈ K, p ∈ kidBlocks parts := fun p hp => hperm.mem_iff.2 (List.mem_append_left _ hp)
  have hkb : ∀ p ∈ kidBlocks parts, p ∈ blocks := fun p hp => by rw [a.bls]; simp [hp]
  have hmd : ∀ p, p ∈ dl ↔ p ∈ D ∨ p = o := fun p => by rw [hdl.mem_iff]; simp
  have hdn : dl.Nodup := hdl.nodup_iff.2 (List.nodup_append.2 ⟨mD, by simp, fun x hx y hy e => by rw [List.mem_singleton] at hy; exact a.n3 (hy ▸ e ▸ hDk x hx)⟩)
  have hdt : ∀ p ∈ dl, ∃ d, TakenAt s1 p d := fun p hp => by
    have hs : ∃ d, TakenAt s p d := ((hmd p).1 hp).elim (fun hd => hbt p (hkb p (hDk p hd))) (fun e => ⟨_, e ▸ a.tk⟩)
    obtain ⟨d, hd⟩ := hs
    exact ⟨d, (htk1 p d).2 (g.keep p d trivial hd).1⟩
  obtain ⟨s2, ed, ok2, sh2, hd2, ws2, tk2⟩ := drops_ok dl ok1 hdn hdt
  have ee := drops_eq dl ok1 hdn hdt
  rw [ed] at ee
  have hsh1 : s1.sh = s.sh := by rw [hs1]; exact hshj
  refine ⟨s2, by unfold finishP; rw [if_neg (by simp), ← hs1]; exact ee, ?_⟩
  have hw2 : ∀ i, (i < 16 ∨ 16 + s.sh.slabs ≤ i) → s2.ws i = if i = jw then name else j.s.ws i := fun i hi => by
    rw [ws2 i (by rw [hsh1]; exact hi), hw1]
  have hbd : ∀ p ∈ bl', p ∉ dl := fun p hb hd => by
    rcases (hmd p).1 hd with h1 | h1
    · rcases List.mem_append.1 (hpm.mem_iff.1 hb) with h2 | h2
      · obtain ⟨d, hd⟩ := hbt p (hkb p (hDk p h1))
        exact hCs p h2 d hd
      · exact mKD p h2 p h1 rfl
    · subst h1
      rcases List.mem_append.1 (hpm.mem_iff.1 hb) with h2 | h2
      · exact hoC h2
      · exact a.n3 (hKk _ h2)
  have hbx : ∀ p, p ∈ b1 ∨ p ∈ b2 → p ∉ dl := fun p hp hd => by
    rcases (hmd p).1 hd with h1 | h1
    · exact hp.elim (fun h => a.d1 p h (hDk p h1)) (fun h => a.d2 p h (hDk p h1))
    · subst h1; exact hp.elim a.n1 a.n2
  -- the new tree stands behind the word and the Drops
  have hkeep2 : ∀ p c, p ∈ bl' → TakenAt j.s p c → TakenAt s2 p c ∧ ∀ i, inBlk p c i → s2.ws i = j.s.ws i := fun p c hp ht => by
    refine ⟨(tk2 p c).2 ⟨(htk1 p c).2 ht, hbd p hp⟩, fun i hi => ?_⟩
    have hi16 := g.ok.table_words (ht.bounds g.ok).1 hi
    rw [hshj] at hi16
    rw [hw2 i (.inr hi16), if_neg]
    intro e
    subst e
    rcases hj4 with ⟨_, h2⟩ | ⟨_, pp, cc, h2, h3, h4⟩
    · omega
    · obtain ⟨h3', _⟩ := g.keep pp cc trivial h3
      refine inBlk_ne g.ok ht h3' (fun e => ?_) hi h4 rfl
      subst e
      rcases List.mem_append.1 (hpm.mem_iff.1 hp) with h5 | h5
      · exact hCs p h5 cc h3
      · exact a.d1 p h2 (hKk p h5)
  have T2 : TreeAt s2 rl name il' bl' := T.keep g.ok ok2 (B := fun p => p ∈ bl') hkeep2 (fun _ h => h)
  have T3 := S.swap s2 name il' bl' ok2 hn T2 (fun p c hp ht => by
    obtain ⟨u1, u2⟩ := g.keep p c trivial ht
    refine ⟨(tk2 p c).2 ⟨(htk1 p c).2 u1, hbx p hp⟩, fun i hi => ?_⟩
    have hi16 := ok.table_words (ht.bounds ok).1 hi
    rw [hw2 i (.inr hi16), hj1]
    by_cases e : i = jw
    · rw [if_pos e, if_pos (by omega)]
    · rw [if_neg e, if_neg (by omega), u2 i hi])
  have h9 : s2.ws 9 = if q = [] then name else s.ws 9 := by
    rw [hw2 9 (.inl (by decide))]
    rcases hj4 with ⟨h1, h2⟩ | ⟨h1, pp, cc, h2, h3, h4⟩
    · rw [if_pos h2.symm, if_pos h1]
    · have := ok.table_words (h3.bounds ok).1 h4
      rw [if_neg (by omega), if_neg h1, g.low 9 (by decide)]
  rw [← h9] at T3
  have h90 : s2.ws 9 ≠ 0 := by
    rw [h9]
    split
    · exact hn
    · exact hn0
  refine ⟨ok2, fun p d hh => g.nh p d ((held_same (by rw [hd2, hs1]) (by rw [sh2, hs1]) p d).1 hh), .inr ⟨b1 ++ bl' ++ b2, h90, T3, ?_, fun p => ?_⟩, ?_⟩
  · have hp2 : (b1 ++ bl' ++ b2).Perm (b1 ++ (C ++ K) ++ b2) := List.Perm.append_right _ (List.Perm.append_left _ hpm)
    rw [hp2.nodup_iff]
    have hC1 : ∀ p ∈ C, p ∉ blocks := fun p hp hb => by
      obtain ⟨d, hd⟩ := hbt p hb
      exact hCs p hp d hd
    rw [a.bls] at hC1
    refine List.nodup_append.2 ⟨List.nodup_append.2 ⟨a.m1, List.nodup_append.2 ⟨g.nod, mK, fun x hx y hy e => ?_⟩, fun x hx y hy e => ?_⟩, a.m2, fun x hx y hy e => ?_⟩
    · subst e
      exact hC1 x hx (by simp [hKk x hy])
    · subst e
      rcases List.mem_append.1 hy with h1 | h1
      · exact hC1 x h1 (by simp [hx])
      · exact a.d1 x hx (hKk x h1)
    · subst e
      rcases List.mem_append.1 hx with h1 | h1
      · exact a.d3 x h1 hy
      · rcases List.mem_append.1 h1 with h1 | h1
        · exact hC1 x h1 (by simp [hy])
        · exact a.d2 x hy (hKk x h1)
  · have h1 : (∃ d, TakenAt s2 p d) ↔ (∃ d, TakenAt j.s p d) ∧ p ∉ dl := by
      constructor
      · rintro ⟨d, hd⟩
        obtain ⟨h1, h2⟩ := (tk2 p d).1 hd
        exact ⟨⟨d, (htk1 p d).1 h1⟩, h2⟩
      · rintro ⟨⟨d, hd⟩, h2⟩
        exact ⟨d, (tk2 p d).2 ⟨(htk1 p d).2 hd, h2⟩⟩
    rw [h1, g.tk p, htk p, hmd p, a.bls]
    simp only [List.mem_append, List.mem_cons, hpm.mem_iff, hperm.mem_iff]
    constructor
    · rintro ⟨h1 | h1, h2⟩
      · rcases h1 with (h1 | h1 | h1 | h1) | h1
        · exact .inl (.inl h1)
        · exact absurd (.inr h1) h2
        · exact .inl (.inr (.inr h1))
        · exact absurd (.inl h1) h2
        · exact .inr h1
      · exact .inl (.inr (.inl h1))
    · have hno : ∀ p, p ∈ b1 ∨ p ∈ b2 ∨ p ∈ C ∨ p ∈ K → ¬ (p ∈ D ∨ p = o) := fun p hp hd => by
        have hd' := (hmd p).2 hd
        rcases hp with h | h | h | h
        · exact hbx p (.inl h) hd'
        · exact hbx p (.inr h) hd'
        · exact hbd p (hpm.mem_iff.2 (List.mem_append_left _ h)) hd'
        · exact hbd p (hpm.mem_iff.2 (List.mem_append_right _ h)) hd'
      rintro ((h1 | h1 | h1) | h1)
      · exact ⟨.inl (.inl (.inl h1)), hno p (.inl h1)⟩
      · exact ⟨.inr h1, hno p (.inr (.inr (.inl h1)))⟩
      · exact ⟨.inl (.inl (.inr (.inr (.inl h1)))), hno p (.inr (.inr (.inr h1)))⟩
      · exact ⟨.inl (.inr h1), hno p (.inr (.inl h1))⟩
  · intro kv hkv
    rw [List.append_assoc] at hkv
    rcases List.mem_append.1 hkv with h1 | h1
    · exact h.even kv (by rw [S.its]; simp [h1])
    · rcases List.mem_append.1 h1 with h1 | h1
      · obtain ⟨k, h2, h3⟩ := mapQ_mem.1 h1
        rw [h3]
        exact hev _ h2
      · exact h.even kv (by rw [S.its]; simp [h1])
theorem Around.below(a:Around L s items blocks key last rest' q rl nl parts A B b1 b2 o)(hp:last.nd.pre≠rest'):∀kv,kv∈ownItems last.nd++kidItems last.nd.pre last.nd.labels parts→kv.1≠rest':=fun kv hkv e=>by
 rcases List.mem_append.1 hkv with h1| h1
 ·obtain⟨rfl,_⟩:=ownItems_mem h1
  exact hp e
 ·obtain⟨i,i1,i2,kv',_,rfl⟩:=kidItems_mem h1
  simp only at e
  have hc:common last.nd.pre rest'=last.nd.pre.length:=by rw [←e,common_append]
  have:hasLb last.nd.labels (rest'.getD (common last.nd.pre rest') 0)=false:=by
   rcases a.stop with h1| h1| h1
   ·omega
   ·exact absurd (common_full _ _ hc h1) hp
   ·exact kidP_none a.right h1
  rw [hc,←e,List.getD_eq_getElem?_getD,List.getElem?_append_right (Nat.le_refl _),Nat.sub_self]at this
  exact hasLb_false_at _ _ this i i1 rfl
theorem put_new(h:IxOk L s items)(hn0:s.ws 9≠0)(htk:∀o,(∃d,TakenAt s o d)↔o∈blocks)(_:blocks.Nodup)(hk16:key.length≤16)(a:Around L s items blocks key last rest' q rl nl parts A B b1 b2 o)(hp:last.nd.pre≠rest')(value:UInt64)(hv:value≠0):
 PutOk L items (nibs key) value (match growP ⟨s,[]⟩ last.nd rest' value with| (j,name,e)=>finishP j e last.word name [last.off]):=by
 have ok:=h.ok
 have S:=a.spot
 have hlen:=nibs_length key
 have hcutl:q.length+rest'.length=(nibs key).length:=by rw [S.cut,List.length_append]
 have hnib:rest'.all isNib=true:=by
  have:=nibs_nib key
  rw [S.cut,List.all_append,Bool.and_eq_true]at this
  exact this.2
 have hno:common last.nd.pre rest'=last.nd.pre.length→hasLb last.nd.labels (rest'.getD (common last.nd.pre rest') 0)=false:=fun hc=>by
  rcases a.stop with h1| h1| h1
  ·omega
  ·exfalso
   refine hp ?_
   exact common_full _ _ hc h1
  ·exact kidP_none a.right h1
 have hG:=grow_ok ok h.nh a.right S.len S.pre S.kid S.sub (by have:=S.lens;omega) hnib hv hp hno
 generalize growP ⟨s,[]⟩ last.nd rest' value=res at hG
 obtain⟨j,name,e⟩:=res
 simp only
 rcases hG with⟨e1,B',g⟩| ⟨e1,C,il',bl',g,hn,T,hpm,hmem⟩
 ·simp only at e1 g
  subst e1
  simp only [finishP]
  rw [if_pos (by decide)]
  obtain⟨s2,e2,ok2,nh2,tk2,kp2,lo2⟩:=undo_ok ok g
  rw [e2]
  exact .inl ⟨rfl,h.same ok2 nh2 tk2 kp2 (lo2 9 (by decide))⟩
 ·simp only at e1 g hn T
  subst e1
  have hkey:nibs key=q++rest':=S.cut
  have hin:∀k v,(k,v)∈ownItems last.nd++kidItems last.nd.pre last.nd.labels parts→(q++k,v)∈items:=fun k v h4=>by
   rw [S.its,List.append_assoc]
   exact List.mem_append_right _ (List.mem_append_left _ (mapQ_mem.2 ⟨k,h4,rfl⟩))
  obtain⟨s2,e2,ix2⟩:=finish_ok h hn0 htk a.toAround0 g hn T (K:=kidBlocks parts) (D:=[]) (dl:=[o]) (by simp) hpm (by simp) (fun kv hkv=>by
   obtain⟨k,v⟩:=kv
   rcases(hmem _).1 hkv with h4| h4
   ·exact h.even _ (hin k v h4)
   ·have e1:k=rest':=congrArg Prod.fst h4
    show keyOk (q++k)=true
    rw [e1,←hkey]
    exact keyOk_nib key)
  rw [a.off,show [(o:Int)]=[o].map Int.ofNat from rfl,e2]
  right
  refine⟨rfl,_,ix2,?_⟩
  intro kv
  constructor
  ·intro hkv
   rw [List.append_assoc]at hkv
   rcases List.mem_append.1 hkv with h1| h1
   ·exact .inr ⟨by rw [S.its];simp [h1],a.other kv (.inl h1)⟩
   ·rcases List.mem_append.1 h1 with h1| h1
    ·obtain⟨k,h2,h3⟩:=mapQ_mem.1 h1
     rcases(hmem _).1 h2 with h4| h4
     ·refine .inr ⟨?_,?_⟩
      ·have:=hin k kv.2 h4
       rwa [←h3]at this
      ·rw [h3,hkey]
       intro e
       exact a.below hp _ h4 (List.append_cancel_left e)
     ·left
      have e1:k=rest':=congrArg Prod.fst h4
      have e2:kv.2=value:=congrArg Prod.snd h4
      exact Prod.ext (by rw [h3,e1,hkey]) e2
    ·exact .inr ⟨by rw [S.its];simp [h1],a.other kv (.inr h1)⟩
  ·rintro(rfl| ⟨h1,h2⟩)
   ·rw [List.append_assoc]
    exact List.mem_append_right _ (List.mem_append_left _ (mapQ_mem.2 ⟨rest',(hmem _).2 (.inr rfl),hkey⟩))
   ·rw [S.its,List.append_assoc]at h1
    rw [List.append_assoc]
    rcases List.mem_append.1 h1 with h3| h3
    ·exact List.mem_append_left _ h3
    ·rcases List.mem_append.1 h3 with h3| h3
     ·obtain⟨k,h4,h5⟩:=mapQ_mem.1 h3
      exact List.mem_append_right _ (List.mem_append_left _ (mapQ_mem.2 ⟨k,(hmem _).2 (.inl h4),h5⟩))
     ·exact List.mem_append_right _ (List.mem_append_right _ h3)
theorem put_ok(h:IxOk L s items)(key:List UInt8)(hk:key.length≤16)(value:UInt64)(hv:value≠0):PutOk L items (nibs key) value (putK s key value):=by
 by_cases h0:s.ws 9=0
 ·exact put_empty h h0 key hk value hv
 ·rcases h.tree with⟨h1,_⟩| ⟨blocks,h1,T,hnd,htk⟩
  ·exact absurd h1 h0
  ·obtain⟨way,last,rest',q,rl,nl,parts,A,B,b1,b2,o,hp,a⟩:=around h.ok h1 T hnd key hk
   unfold putK
   rw [if_neg (by omega),if_neg hv,hp]
   have hgl:(way++[last]).getLast? =some last:=by simp
   simp only [standsP,hgl]
   by_cases hpr:last.nd.pre=rest'
   ·rw [if_pos hpr]
    exact put_there h h1 htk hnd a hpr value hv
   ·rw [if_neg hpr]
    exact put_new h h1 htk hnd hk a hpr value hv
end
section
variable{L:Nat}{s:St}
end
section
variable{L:Nat}{s:St}{items:List Kv}{blocks:List Nat}{key:List UInt8}
end
end Go.Proofs.YtfhagbcfbbggeaaGreatDoor
