import Derived.Test.YtdjfbnoolfpcnaaGreatDoorG12
namespace Go.Proofs.YtdjfbnoolfpcnaaGreatDoor
theorem ndVal_enc(x:Nd)(v:UInt64):encW {x with val:=v}=(encW x).set 2 v:=by
 have hl:(encW {x with val:=v}).length=(encW x).length:=by rw [encW_length,encW_length]
 refine List.ext_getElem? fun i=> ?_
 rw [List.getElem?_set];by_cases h:2=i
 ·subst h;rw [encW_at2,if_pos rfl,if_pos];rw [encW_length];split<;>omega
 ·rw [if_neg h,encW_val x v i (fun e=>h e.symm)]
section
variable{X:Nat→Prop}{L:Nat}{s:St}
structure Around0(L:Nat)(s:St)(items:List Kv)(blocks:List Nat)(key:List UInt8)(last:Pl)(rest' q:List UInt8)(rl:Nat)(nl:UInt64)(parts:List Part)(A B:List Kv)(b1 b2:List Nat)(o:Nat):Prop where
 spot:Spot0 L s 32 (s.ws 9) items blocks 72 (nibs key) last rest' q rl nl parts A B b1 b2
 off:last.off=o
 tk:TakenAt s o (classN last.nd)
 right:rightB last.nd=true
 words:wordsAt s.ws (o/8) (8*linesN (classN last.nd))=encW last.nd
 n1:o∉b1
 n2:o∉b2
 n3:o∉kidBlocks parts
 d1:∀p∈b1,p∉kidBlocks parts
 d2:∀p∈b2,p∉kidBlocks parts
 d3:∀p∈b1,p∉b2
 m1:b1.Nodup
 m2:b2.Nodup
 m3:(kidBlocks parts).Nodup
 bls:blocks=b1++(o::kidBlocks parts)++b2
structure Around(L:Nat)(s:St)(items:List Kv)(blocks:List Nat)(key:List UInt8)(last:Pl)(rest' q:List UInt8)(rl:Nat)(nl:UInt64)(parts:List Part)(A B:List Kv)(b1 b2:List Nat)(o:Nat):Prop extends Around0 L s items blocks key last rest' q rl nl parts A B b1 b2 o where
 stop:common last.nd.pre rest'<last.nd.pre.length∨common last.nd.pre rest'=rest'.length∨kidP last.nd (rest'.getD (common last.nd.pre rest') 0)=none
theorem around0(h:PoolOk L s){items:List Kv}{blocks:List Nat}{key rest' q:List UInt8}{last:Pl}{rl:Nat}{nl:UInt64}{parts:List Part}{A B:List Kv}{b1 b2:List Nat}(hnd:blocks.Nodup)(S:Spot0 L s 32 (s.ws 9) items blocks 72 (nibs key) last rest' q rl nl parts A B b1 b2):
 ∃o,Around0 L s items blocks key last rest' q rl nl parts A B b1 b2 o:=by
 obtain⟨o,ho,ht,hr,hw⟩:=read_some h S.rd;have hoff:last.off=o:=S.off.symm.trans ho;have hb:=S.bls;rw [hoff,Int.toNat_natCast]at hb;have hnd':=hnd;rw [hb]at hnd';obtain⟨x1,x2,x3⟩:=List.nodup_append.1 hnd';obtain⟨y1,y2,y3⟩:=List.nodup_append.1 x1;obtain⟨z1,z2⟩:=List.nodup_cons.1 y2;exact⟨o,⟨S,hoff,ht,hr,hw,fun h=>y3 _ h _ (List.mem_cons_self ..) rfl,fun h=>x3 _ (by simp) _ h rfl,z1,fun p hp hk=>y3 _ hp _ (List.mem_cons_of_mem _ hk) rfl,fun p hp hk=>x3 _ (by simp [hk]) _ hp rfl,fun p hp hk=>x3 _ (by simp [hp]) _ hk rfl,y1,x2,z2,hb⟩⟩
theorem around(h:PoolOk L s){items:List Kv}{blocks:List Nat}(hn0:s.ws 9≠0)(T:TreeAt s 32 (s.ws 9) items blocks)(hnd:blocks.Nodup)(key:List UInt8)(hk:key.length≤16):
 ∃way last rest' q rl nl parts A B b1 b2 o,pathP s key=some (way++[last],rest')∧Around L s items blocks key last rest' q rl nl parts A B b1 b2 o:=by
 have hlen:=nibs_length key;obtain⟨last,rest',q,rl,nl,parts,A,B,b1,b2,way0,hp,S⟩:=path_spot h (2*key.length+1) 32 (s.ws 9) items blocks (nibs key) 0 72 [] T hnd (by omega) (by omega) hn0;obtain⟨o,a⟩:=around0 h hnd S.toSpot0;exact⟨way0,last,rest',q,rl,nl,parts,A,B,b1,b2,o,by unfold pathP;rw [hp];simp,⟨a,S.stop⟩⟩
variable{items:List Kv}{blocks:List Nat}{key:List UInt8}{last:Pl}{rest' q:List UInt8}{rl:Nat}{nl:UInt64}{parts:List Part}{A B:List Kv}{b1 b2:List Nat}{o:Nat}
theorem Around0.word(ok:PoolOk L s)(a:Around0 L s items blocks key last rest' q rl nl parts A B b1 b2 o):∃jw:Nat,last.word=((8*jw:Nat):Int)∧s.ws jw=nl∧(jw<16∨16+s.sh.slabs≤jw)∧((q=[]∧jw=9)∨(q≠[]∧∃p c,p∈b1∧TakenAt s p c∧inBlk p c jw)):=by
 rcases a.spot.wd with⟨h1,h2,h3⟩| ⟨h1,p,c,j,h2,h3,h4,h5,h6⟩
 ·exact⟨9,by rw [h2];rfl,h3.symm,.inl (by decide),.inl ⟨h1,rfl⟩⟩
 ·exact⟨j,h5,h6,.inr (ok.table_words (h3.bounds ok).1 h4),.inr ⟨h1,p,c,h2,h3,h4⟩⟩
theorem Around0.other(a:Around0 L s items blocks key last rest' q rl nl parts A B b1 b2 o)(kv:Kv)(h:kv∈A∨kv∈B):kv.1≠nibs key:=by
 rw [a.spot.cut];rcases h with h| h
 ·exact bless_ne (a.spot.lo kv h rest')
 ·exact fun e=>bless_ne (a.spot.hi kv h rest') e.symm
theorem value_ok{items:List Kv}{blocks:List Nat}(h:IxX X L s items)(hn0:s.ws 9≠0)(htk:∀o,(∃d,TakenAt s o d)↔o∈blocks∨X o)(hX:∀o∈blocks,¬X o)(hnd:blocks.Nodup)(a:Around0 L s items blocks key last rest' q rl nl parts A B b1 b2 o)(hp:last.nd.pre=rest')(value:UInt64):
 KeepX X s (valueP s last value)∧IxX X L (valueP s last value) (A++mapQ q (ownItems {last.nd with val:=value}++kidItems last.nd.pre last.nd.labels parts)++B):=by
 have ok:=h.ok;obtain⟨jw,hj1,hj2,hj3,hj4⟩:=a.word ok;have hbo:=a.tk.bounds ok;have S:=a.spot;obtain⟨s',hs'⟩:∃s',s'=valueP s last value:=⟨_,rfl⟩;have hw:∀i,s'.ws i=if i=o/8+2 then value else s.ws i:=fun i=>by
  rw [hs'];show put1 s.ws (last.off.toNat/8+2) value i=_;rw [a.off,Int.toNat_natCast];rfl
 have hin:inBlk o (classN last.nd) (o/8+2):=⟨by omega,by
  have:=(lines_blocks (classN_12 last.nd)).2.1;omega⟩
 have hout:=ok.table_words hbo.1 hin;have ok':PoolOk L s':=by
  rw [hs'];exact ok.words (fun i hi=>by
   show put1 s.ws (last.off.toNat/8+2) value (16+i)=_;rw [a.off,Int.toNat_natCast];unfold put1;rw [if_neg (by omega)])
 have htk':∀p d,TakenAt s' p d↔TakenAt s p d:=fun p d=>by rw [hs'];exact Iff.rfl
 have hkeep:KeepT s s' (fun p=>p≠o):=fun p c hp ht=>⟨(htk' p c).2 ht,fun j hj=>by
  rw [hw,if_neg (inBlk_ne ok ht a.tk hp hj hin)]⟩
 have hrd:readP s' nl=some {last.nd with val:=value}:=by
  refine read_of ok' (S.off.trans a.off) ((htk' _ _).2 a.tk) (by rw [rightB_val];exact a.right) ?_;rw [show classN {last.nd with val:=value}=classN last.nd from rfl,ndVal_enc];refine List.ext_getElem (by simp [wordsAt,encW_lines']) fun t g1 g2=> ?_
  have htl:t<8*linesN (classN last.nd):=by simpa [wordsAt]using g1
  have hold:s.ws (o/8+t)=(encW last.nd)[t]'(by rw [encW_lines'];exact htl):=by
   have:(wordsAt s.ws (o/8) (8*linesN (classN last.nd)))[t]? =(encW last.nd)[t]? :=by rw [a.words]
   unfold wordsAt at this;rw [List.getElem?_map,List.getElem?_range htl,List.getElem?_eq_getElem (by rw [encW_lines'];exact htl)]at this;simpa using this
  rw [wordsAt_get,hw,List.getElem_set];by_cases e:t=2
  ·rw [if_pos (by omega),if_pos e.symm]
  ·rw [if_neg (by omega),if_neg (fun h=>e h.symm)];exact hold
 have T:=TreeAt.mk (s:=s') rl nl {last.nd with val:=value} parts hrd S.pre S.kid S.len (fun i h1 h2=>(S.sub i h1 h2).keep ok ok' hkeep (fun p hp e=>a.n3 (e▸kidBlocks_mem h2 hp)));rw [S.off,a.off,Int.toNat_natCast]at T;have T2:=S.swap s' nl _ _ ok' (fun e=>by
  rcases hj4 with⟨h1,h2⟩| ⟨h1,h2⟩
  ·rw [h2]at hj2;exact hn0 (hj2.trans e)
  ·have:=S.rd;rw [e]at this;obtain⟨o',ho',ht',_⟩:=read_some ok this;have:=(ht'.bounds ok).1;have hz:offOf 0=0:=by decide
   rw [hz]at ho';have:=ok.sh.tfits;omega) T (fun p c hp ht=>by
  have hpo:p≠o:=fun e=>by subst e;exact hp.elim a.n1 a.n2
  obtain⟨u1,u2⟩:=hkeep p c hpo ht;refine⟨u1,fun j hj=> ?_⟩;rw [u2 j hj];split
  ·rename_i e;rw [hj1]at e;rw [←hj2];congr 1;omega
  ·rfl)
 have h9:s'.ws 9=s.ws 9:=by rw [hw,if_neg (by omega)]
 have hname:(if q=[]then nl else s.ws 9)=s.ws 9:=by
  split
  ·rename_i e;rcases hj4 with⟨_,h2⟩| ⟨h1,_⟩
   ·rw [←hj2,h2]
   ·exact absurd e h1
  ·rfl
 rw [hname]at T2;have hkey:nibs key=q++last.nd.pre:=by rw [hp];exact S.cut
 refine⟨⟨by rfl,fun j hj _=>by rw [←hs',hw,if_neg (by omega)],fun p c hp ht=>by rw [←hs'];exact hkeep p c (fun e=>hX o (by rw [a.bls];simp) (e▸hp)) ht⟩,?_⟩;refine⟨by rw [←hs'];exact ok',fun p d hh=>h.nh p d ((held_same (by rfl) (by rfl) p d).1 hh),.inr ⟨blocks,by rw [←hs',h9];exact hn0,?_,hnd,hX,fun p=> ?_⟩,?_⟩
 ·rw [←hs',h9,a.bls];exact T2
 ·rw [←hs',show(∃d,TakenAt s' p d)↔∃d,TakenAt s p d from exists_congr (htk' p)];exact htk p
 ·intro kv hkv;rw [List.append_assoc]at hkv;rcases List.mem_append.1 hkv with h1| h1
  ·exact h.even kv (by rw [S.its];simp [h1])
  ·rcases List.mem_append.1 h1 with h1| h1
   ·obtain⟨k,h2,h3⟩:=mapQ_mem.1 h1;rcases List.mem_append.1 h2 with h4| h4
    ·obtain⟨e,_⟩:=ownItems_mem h4;rw [h3];have e1:k=last.nd.pre:=congrArg Prod.fst e;rw [e1,←hkey];exact keyOk_nib key
    ·refine h.even kv ?_;rw [S.its,List.append_assoc];exact List.mem_append_right _ (List.mem_append_left _ (mapQ_mem.2 ⟨k,List.mem_append_right _ h4,h3⟩))
   ·exact h.even kv (by rw [S.its];simp [h1])
theorem put_there{items:List Kv}{blocks:List Nat}(h:IxX X L s items)(hn0:s.ws 9≠0)(htk:∀o,(∃d,TakenAt s o d)↔o∈blocks∨X o)(hX:∀o∈blocks,¬X o)(hnd:blocks.Nodup)(a:Around L s items blocks key last rest' q rl nl parts A B b1 b2 o)(hp:last.nd.pre=rest')(value:UInt64)(hv:value≠0):
 PutOk X L s items (nibs key) value (valueP s last value,0):=by
 have S:=a.spot;have hkey:nibs key=q++last.nd.pre:=by rw [hp];exact S.cut
 obtain⟨hK,hV⟩:=value_ok h hn0 htk hX hnd a.toAround0 hp value;refine⟨hK,?_⟩;right;refine⟨rfl,_,hV,?_⟩;intro kv;have hkid:∀k,(k,kv.2)∈kidItems last.nd.pre last.nd.labels parts→q++k≠nibs key:=fun k hk e=>by
  obtain⟨i,h1,h2,kv',_,e2⟩:=kidItems_mem hk;rw [hkey]at e;have:=List.append_cancel_left e;have e3:k=last.nd.pre++last.nd.labels[i]::kv'.1:=congrArg Prod.fst e2;rw [e3]at this;have:=congrArg List.length this;simp at this
 constructor
 ·intro hkv;rw [List.append_assoc]at hkv;rcases List.mem_append.1 hkv with h1| h1
  ·exact .inr ⟨by rw [S.its];simp [h1],a.other kv (.inl h1)⟩
  ·rcases List.mem_append.1 h1 with h1| h1
   ·obtain⟨k,h2,h3⟩:=mapQ_mem.1 h1;rcases List.mem_append.1 h2 with h4| h4
    ·obtain⟨e,_⟩:=ownItems_mem h4;left;have e1:k=last.nd.pre:=congrArg Prod.fst e;have e2:kv.2=value:=congrArg Prod.snd e;refine Prod.ext ?_ e2;rw [h3,e1,hkey]
    ·refine .inr ⟨?_,by rw [h3];exact hkid k h4⟩;rw [S.its,List.append_assoc];exact List.mem_append_right _ (List.mem_append_left _ (mapQ_mem.2 ⟨k,List.mem_append_right _ h4,h3⟩))
   ·exact .inr ⟨by rw [S.its];simp [h1],a.other kv (.inr h1)⟩
 ·rintro(rfl| ⟨h1,h2⟩)
  ·rw [List.append_assoc];refine List.mem_append_right _ (List.mem_append_left _ (mapQ_mem.2 ⟨last.nd.pre,List.mem_append_left _ ?_,hkey⟩));unfold ownItems;rw [if_pos hv];exact List.mem_singleton.2 rfl
  ·rw [S.its,List.append_assoc]at h1;rw [List.append_assoc];rcases List.mem_append.1 h1 with h3| h3
   ·exact List.mem_append_left _ h3
   ·rcases List.mem_append.1 h3 with h3| h3
    ·obtain⟨k,h4,h5⟩:=mapQ_mem.1 h3;rcases List.mem_append.1 h4 with h6| h6
     ·obtain⟨e,_⟩:=ownItems_mem h6;have e1:k=last.nd.pre:=congrArg Prod.fst e;exact absurd (by rw [h5,e1,hkey]) h2
     ·exact List.mem_append_right _ (List.mem_append_left _ (mapQ_mem.2 ⟨k,List.mem_append_right _ h6,h5⟩))
    ·exact List.mem_append_right _ (List.mem_append_right _ h3)
end
section
variable{X:Nat→Prop}{L:Nat}{s:St}{items:List Kv}{blocks:List Nat}{key:List UInt8}{last:Pl}{rest' q:List UInt8}{rl:Nat}{nl:UInt64}{parts:List Part}{A B:List Kv}{b1 b2:List Nat}{o:Nat}
theorem finish_ok (h : IxX X L s items) (hn0 : s.ws 9 ≠ 0) (htk : ∀ o, (∃ d, TakenAt s o d) ↔ o ∈ blocks ∨ X o) (hX : ∀ o ∈ blocks, ¬ X o) (a : Around0 L s items blocks key last rest' q rl nl parts A B b1 b2 o) {j : Jb} {C : List Nat} (g : Grown L s j C) {name : UInt64} (hn : name ≠ 0) {il' : List Kv} {bl' : List Nat}
    (T : TreeAt j.s rl name il' bl') {K D dl : List Nat} (hperm : (kidBlocks parts).Perm (K ++ D)) (hpm : bl'.Perm (C ++ K)) (hdl : dl.Perm (D ++ [o])) (hev : ∀ kv ∈ il', keyOk (q ++ kv.1) = true) :
    ∃ s2, finishP j 0 last.word name (dl.map Int.ofNat) = (s2, 0) ∧ KeepX X s s2 ∧ IxX X L s2 (A ++ mapQ q il' ++ B) := by
  have ok := h.ok
  obtain ⟨jw, hj1, hj2, hj3, hj4⟩ := a.word ok
  have S := a.spot
  obtain ⟨s1, hs1⟩ : ∃ s1, s1 = ({ j.s with ws := put1 j.s.ws (last.word.toNat / 8) name } : St) := ⟨_, rfl⟩
  have hjw : last.word.toNat / 8 = jw := by rw [hj1, Int.toNat_natCast]; omega
  have hw1 : ∀ i, s1.ws i = if i = jw then name else j.s.ws i := fun i => by rw [hs1, ← hjw]; rfl
  have hshj := g.sh
  have ok1 : PoolOk L s1 := by
    rw [hs1]
    refine g.ok.words (fun i hi => ?_)
    show put1 j.s.ws (last.word.toNat / 8) name (16 + i) = _
    rw [hjw]
    unfold put1
    rw [if_neg]
    rw [hshj] at hi
    omega
  have htk1 : ∀ p d, TakenAt s1 p d ↔ TakenAt j.s p d := fun p d => by rw [hs1]; exact Iff.rfl
  have hCs : ∀ p ∈ C, ∀ d, ¬ TakenAt s p d := g.new
  have hbt : ∀ p ∈ blocks, ∃ d, TakenAt s p d := fun p hp => (htk p).2 (.inl hp)
  have hoC : o ∉ C := fun hc => hCs o hc _ a.tk
  have hKD := hperm.nodup_iff.1 a.m3
  obtain ⟨mK, mD, mKD⟩ := List.nodup_append.1 hKD
  have hDk : ∀ p ∈ D, p ∈ kidBlocks parts := fun p hp => hperm.mem_iff.2 (List.mem_append_right _ hp)
  have hKk : ∀ p ∈ K, p ∈ kidBlocks parts := fun p hp => hperm.mem_iff.2 (List.mem_append_left _ hp)
  have hkb : ∀ p ∈ kidBlocks parts, p ∈ blocks := fun p hp => by rw [a.bls]; simp [hp]
  have hmd : ∀ p, p ∈ dl ↔ p ∈ D ∨ p = o := fun p => by rw [hdl.mem_iff]; simp
  have hdn : dl.Nodup := hdl.nodup_iff.2 (List.nodup_append.2 ⟨mD, by simp, fun x hx y hy e => by rw [List.mem_singleton] at hy; exact a.n3 (hy ▸ e ▸ hDk x hx)⟩)
  have hdt : ∀ p ∈ dl, ∃ d, TakenAt s1 p d := fun p hp => by
    have hs : ∃ d, TakenAt s p d := ((hmd p).1 hp).elim (fun hd => hbt p (hkb p (hDk p hd))) (fun e => ⟨_, e ▸ a.tk⟩)
    obtain ⟨d, hd⟩ := hs
    exact ⟨d, (htk1 p d).2 (g.keep p d trivial hd).1⟩
  obtain ⟨s2, ed, ok2, sh2, hd2, ws2, tk2⟩ := drops_ok dl ok1 hdn hdt
  have ee := drops_eq dl ok1 hdn hdt
  rw [ed] at ee
  have hsh1 : s1.sh = s.sh := by rw [hs1]; exact hshj
  refine ⟨s2, by unfold finishP; rw [if_neg (by simp), ← hs1]; exact ee, ?_⟩
  have hw2 : ∀ i, (i < 16 ∨ 16 + s.sh.slabs ≤ i) → s2.ws i = if i = jw then name else j.s.ws i := fun i hi => by
    rw [ws2 i (by rw [hsh1]; exact hi), hw1]
  have hbd : ∀ p ∈ bl', p ∉ dl := fun p hb hd => by
    rcases (hmd p).1 hd with h1 | h1
    · rcases List.mem_append.1 (hpm.mem_iff.1 hb) with h2 | h2
      · obtain ⟨d, hd⟩ := hbt p (hkb p (hDk p h1))
        exact hCs p h2 d hd
      · exact mKD p h2 p h1 rfl
    · subst h1
      rcases List.mem_append.1 (hpm.mem_iff.1 hb) with h2 | h2
      · exact hoC h2
      · exact a.n3 (hKk _ h2)
  have hbx : ∀ p, p ∈ b1 ∨ p ∈ b2 → p ∉ dl := fun p hp hd => by
    rcases (hmd p).1 hd with h1 | h1
    · exact hp.elim (fun h => a.d1 p h (hDk p h1)) (fun h => a.d2 p h (hDk p h1))
    · subst h1; exact hp.elim a.n1 a.n2
  -- the new tree stands behind the word and the Drops
  have hkeep2 : ∀ p c, p ∈ bl' → TakenAt j.s p c → TakenAt s2 p c ∧ ∀ i, inBlk p c i → s2.ws i = j.s.ws i := fun p c hp ht => by
    refine ⟨(tk2 p c).2 ⟨(htk1 p c).2 ht, hbd p hp⟩, fun i hi => ?_⟩
    have hi16 := g.ok.table_words (ht.bounds g.ok).1 hi
    rw [hshj] at hi16
    rw [hw2 i (.inr hi16), if_neg]
    intro e
    subst e
    rcases hj4 with ⟨_, h2⟩ | ⟨_, pp, cc, h2, h3, h4⟩
    · omega
    · obtain ⟨h3', _⟩ := g.keep pp cc trivial h3
      refine inBlk_ne g.ok ht h3' (fun e => ?_) hi h4 rfl
      subst e
      rcases List.mem_append.1 (hpm.mem_iff.1 hp) with h5 | h5
      · exact hCs p h5 cc h3
      · exact a.d1 p h2 (hKk p h5)
  have T2 : TreeAt s2 rl name il' bl' := T.keep g.ok ok2 (B := fun p => p ∈ bl') hkeep2 (fun _ h => h)
  have T3 := S.swap s2 name il' bl' ok2 hn T2 (fun p c hp ht => by
    obtain ⟨u1, u2⟩ := g.keep p c trivial ht
    refine ⟨(tk2 p c).2 ⟨(htk1 p c).2 u1, hbx p hp⟩, fun i hi => ?_⟩
    have hi16 := ok.table_words (ht.bounds ok).1 hi
    rw [hw2 i (.inr hi16), hj1]
    by_cases e : i = jw
    · rw [if_pos e, if_pos (by omega)]
    · rw [if_neg e, if_neg (by omega), u2 i hi])
  have h9 : s2.ws 9 = if q = [] then name else s.ws 9 := by
    rw [hw2 9 (.inl (by decide))]
    rcases hj4 with ⟨h1, h2⟩ | ⟨h1, pp, cc, h2, h3, h4⟩
    · rw [if_pos h2.symm, if_pos h1]
    · have := ok.table_words (h3.bounds ok).1 h4
      rw [if_neg (by omega), if_neg h1, g.low 9 (by decide)]
  rw [← h9] at T3
  have h90 : s2.ws 9 ≠ 0 := by
    rw [h9]
    split
    · exact hn
    · exact hn0
  have hdb : ∀ p ∈ dl, p ∈ blocks := fun p hp => ((hmd p).1 hp).elim (fun h => hkb p (hDk p h)) (fun e => by rw [e, a.bls]; simp)
  have hXk : KeepX X s s2 := ⟨sh2.trans hsh1, fun i hi hi9 => by
      rw [hw2 i (.inl hi), if_neg, g.low i hi]
      rcases hj4 with ⟨_, h2⟩ | ⟨_, pp, cc, h2, h3, h4⟩
      · omega
      · have := ok.table_words (h3.bounds ok).1 h4
        omega, fun p c hp ht => by
      obtain ⟨u1, u2⟩ := g.keep p c trivial ht
      refine ⟨(tk2 p c).2 ⟨(htk1 p c).2 u1, fun hd => hX p (hdb p hd) hp⟩, fun i hi => ?_⟩
      have hi16 := ok.table_words (ht.bounds ok).1 hi
      rw [hw2 i (.inr hi16), if_neg, u2 i hi]
      intro e
      subst e
      rcases hj4 with ⟨_, h2⟩ | ⟨_, pp, cc, h2, h3, h4⟩
      · omega
      · refine inBlk_ne ok ht h3 (fun e => ?_) hi h4 rfl
        subst e
        exact hX p (by rw [a.bls]; simp [h2]) hp⟩
  refine ⟨hXk, ok2, fun p d hh => g.nh p d ((held_same (by rw [hd2, hs1]) (by rw [sh2, hs1]) p d).1 hh), .inr ⟨b1 ++ bl' ++ b2, h90, T3, ?_, fun p hp hpX => ?_, fun p => ?_⟩, ?_⟩
  · have hp2 : (b1 ++ bl' ++ b2).Perm (b1 ++ (C ++ K) ++ b2) := List.Perm.append_right _ (List.Perm.append_left _ hpm)
    rw [hp2.nodup_iff]
    have hC1 : ∀ p ∈ C, p ∉ blocks := fun p hp hb => by
      obtain ⟨d, hd⟩ := hbt p hb
      exact hCs p hp d hd
    rw [a.bls] at hC1
    refine List.nodup_append.2 ⟨List.nodup_append.2 ⟨a.m1, List.nodup_append.2 ⟨g.nod, mK, fun x hx y hy e => ?_⟩, fun x hx y hy e => ?_⟩, a.m2, fun x hx y hy e => ?_⟩
    · subst e
      exact hC1 x hx (by simp [hKk x hy])
    · subst e
      rcases List.mem_append.1 hy with h1 | h1
      · exact hC1 x h1 (by simp [hx])
      · exact a.d1 x hx (hKk x h1)
    · subst e
      rcases List.mem_append.1 hx with h1 | h1
      · exact a.d3 x h1 hy
      · rcases List.mem_append.1 h1 with h1 | h1
        · exact hC1 x h1 (by simp [hy])
        · exact a.d2 x hy (hKk x h1)
  · rcases List.mem_append.1 hp with h1 | h1
    · rcases List.mem_append.1 h1 with h1 | h1
      · exact hX p (by rw [a.bls]; simp [h1]) hpX
      · rcases List.mem_append.1 (hpm.mem_iff.1 h1) with h2 | h2
        · obtain ⟨d, hd⟩ := (htk p).2 (.inr hpX)
          exact hCs p h2 d hd
        · exact hX p (hkb p (hKk p h2)) hpX
    · exact hX p (by rw [a.bls]; simp [h1]) hpX
  · have h1 : (∃ d, TakenAt s2 p d) ↔ (∃ d, TakenAt j.s p d) ∧ p ∉ dl := by
      constructor
      · rintro ⟨d, hd⟩
        obtain ⟨h1, h2⟩ := (tk2 p d).1 hd
        exact ⟨⟨d, (htk1 p d).1 h1⟩, h2⟩
      · rintro ⟨⟨d, hd⟩, h2⟩
        exact ⟨d, (tk2 p d).2 ⟨(htk1 p d).2 hd, h2⟩⟩
    rw [h1, g.tk p, htk p, hmd p, a.bls]
    simp only [List.mem_append, List.mem_cons, hpm.mem_iff, hperm.mem_iff]
    constructor
    · rintro ⟨h1 | h1, h2⟩
      · rcases h1 with ((h1 | h1 | h1 | h1) | h1) | h1
        · exact .inl (.inl (.inl h1))
        · exact absurd (.inr h1) h2
        · exact .inl (.inl (.inr (.inr h1)))
        · exact absurd (.inl h1) h2
        · exact .inl (.inr h1)
        · exact .inr h1
      · exact .inl (.inl (.inr (.inl h1)))
    · have hno : ∀ p, p ∈ b1 ∨ p ∈ b2 ∨ p ∈ C ∨ p ∈ K → ¬ (p ∈ D ∨ p = o) := fun p hp hd => by
        have hd' := (hmd p).2 hd
        rcases hp with h | h | h | h
        · exact hbx p (.inl h) hd'
        · exact hbx p (.inr h) hd'
        · exact hbd p (hpm.mem_iff.2 (List.mem_append_left _ h)) hd'
        · exact hbd p (hpm.mem_iff.2 (List.mem_append_right _ h)) hd'
      rintro (((h1 | h1 | h1) | h1) | h1)
      · exact ⟨.inl (.inl (.inl (.inl h1))), hno p (.inl h1)⟩
      · exact ⟨.inr h1, hno p (.inr (.inr (.inl h1)))⟩
      · exact ⟨.inl (.inl (.inl (.inr (.inr (.inl h1))))), hno p (.inr (.inr (.inr h1)))⟩
      · exact ⟨.inl (.inl (.inr h1)), hno p (.inr (.inl h1))⟩
      · exact ⟨.inl (.inr h1), fun hd => hX p (hdb p ((hmd p).2 hd)) h1⟩
  · intro kv hkv
    rw [List.append_assoc] at hkv
    rcases List.mem_append.1 hkv with h1 | h1
    · exact h.even kv (by rw [S.its]; simp [h1])
    · rcases List.mem_append.1 h1 with h1 | h1
      · obtain ⟨k, h2, h3⟩ := mapQ_mem.1 h1
        rw [h3]
        exact hev _ h2
      · exact h.even kv (by rw [S.its]; simp [h1])
theorem Around.below(a:Around L s items blocks key last rest' q rl nl parts A B b1 b2 o)(hp:last.nd.pre≠rest'):∀kv,kv∈ownItems last.nd++kidItems last.nd.pre last.nd.labels parts→kv.1≠rest':=fun kv hkv e=>by
 rcases List.mem_append.1 hkv with h1| h1
 ·obtain⟨rfl,_⟩:=ownItems_mem h1;exact hp e
 ·obtain⟨i,i1,i2,kv',_,rfl⟩:=kidItems_mem h1;simp only at e;have hc:common last.nd.pre rest'=last.nd.pre.length:=by rw [←e,common_append]
  have:hasLb last.nd.labels (rest'.getD (common last.nd.pre rest') 0)=false:=by
   rcases a.stop with h1| h1| h1
   ·omega
   ·exact absurd (common_full _ _ hc h1) hp
   ·exact kidP_none a.right h1
  rw [hc,←e,List.getD_eq_getElem?_getD,List.getElem?_append_right (Nat.le_refl _),Nat.sub_self]at this;exact hasLb_false_at _ _ this i i1 rfl
theorem put_new(h:IxX X L s items)(hn0:s.ws 9≠0)(htk:∀o,(∃d,TakenAt s o d)↔o∈blocks∨X o)(hX:∀o∈blocks,¬X o)(_:blocks.Nodup)(hk16:key.length≤16)(a:Around L s items blocks key last rest' q rl nl parts A B b1 b2 o)(hp:last.nd.pre≠rest')(value:UInt64)(hv:value≠0):
 PutOk X L s items (nibs key) value (match growP ⟨s,[]⟩ last.nd rest' value with| (j,name,e)=>finishP j e last.word name [last.off]):=by
 have ok:=h.ok;have S:=a.spot;have hlen:=nibs_length key;have hcutl:q.length+rest'.length=(nibs key).length:=by rw [S.cut,List.length_append]
 have hnib:rest'.all isNib=true:=by
  have:=nibs_nib key;rw [S.cut,List.all_append,Bool.and_eq_true]at this;exact this.2
 have hno:common last.nd.pre rest'=last.nd.pre.length→hasLb last.nd.labels (rest'.getD (common last.nd.pre rest') 0)=false:=fun hc=>by
  rcases a.stop with h1| h1| h1
  ·omega
  ·exfalso;refine hp ?_;exact common_full _ _ hc h1
  ·exact kidP_none a.right h1
 have hG:=grow_ok ok h.nh a.right S.len S.pre S.kid S.sub (by have:=S.lens;omega) hnib hv hp hno;generalize growP ⟨s,[]⟩ last.nd rest' value=res at hG;obtain⟨j,name,e⟩:=res;simp only;rcases hG with⟨e1,B',g⟩| ⟨e1,C,il',bl',g,hn,T,hpm,hmem⟩
 ·simp only at e1 g;subst e1;simp only [finishP];rw [if_pos (by decide)];obtain⟨s2,e2,ok2,nh2,tk2,kp2,lo2,sh2⟩:=undo_ok ok g;rw [e2];refine⟨⟨sh2,fun j hj _=>lo2 j hj,fun o c _ ht=>kp2 o c trivial ht⟩,?_⟩;refine .inl ⟨rfl,h.same ok2 nh2 tk2 kp2 (lo2 9 (by decide)),fun kv hkv e=> ?_⟩;rw [S.its,List.append_assoc]at hkv;rcases List.mem_append.1 hkv with g1| g1
  ·exact a.other kv (.inl g1) e
  ·rcases List.mem_append.1 g1 with g1| g1
   ·obtain⟨k,g2,g3⟩:=mapQ_mem.1 g1;rw [g3,S.cut]at e;exact a.below hp _ g2 (List.append_cancel_left e)
   ·exact a.other kv (.inr g1) e
 ·simp only at e1 g hn T;subst e1;have hkey:nibs key=q++rest':=S.cut;have hin:∀k v,(k,v)∈ownItems last.nd++kidItems last.nd.pre last.nd.labels parts→(q++k,v)∈items:=fun k v h4=>by
   rw [S.its,List.append_assoc];exact List.mem_append_right _ (List.mem_append_left _ (mapQ_mem.2 ⟨k,h4,rfl⟩))
  obtain⟨s2,e2,kx2,ix2⟩:=finish_ok h hn0 htk hX a.toAround0 g hn T (K:=kidBlocks parts) (D:=[]) (dl:=[o]) (by simp) hpm (by simp) (fun kv hkv=>by
   obtain⟨k,v⟩:=kv;rcases(hmem _).1 hkv with h4| h4
   ·exact h.even _ (hin k v h4)
   ·have e1:k=rest':=congrArg Prod.fst h4;show keyOk (q++k)=true;rw [e1,←hkey];exact keyOk_nib key)
  rw [a.off,show [(o:Int)]=[o].map Int.ofNat from rfl,e2];refine⟨kx2,?_⟩;right;refine⟨rfl,_,ix2,?_⟩;intro kv;constructor
  ·intro hkv;rw [List.append_assoc]at hkv;rcases List.mem_append.1 hkv with h1| h1
   ·exact .inr ⟨by rw [S.its];simp [h1],a.other kv (.inl h1)⟩
   ·rcases List.mem_append.1 h1 with h1| h1
    ·obtain⟨k,h2,h3⟩:=mapQ_mem.1 h1;rcases(hmem _).1 h2 with h4| h4
     ·refine .inr ⟨?_,?_⟩
      ·have:=hin k kv.2 h4
       rwa [←h3]at this
      ·rw [h3,hkey];intro e;exact a.below hp _ h4 (List.append_cancel_left e)
     ·left;have e1:k=rest':=congrArg Prod.fst h4;have e2:kv.2=value:=congrArg Prod.snd h4;exact Prod.ext (by rw [h3,e1,hkey]) e2
    ·exact .inr ⟨by rw [S.its];simp [h1],a.other kv (.inr h1)⟩
  ·rintro(rfl| ⟨h1,h2⟩)
   ·rw [List.append_assoc];exact List.mem_append_right _ (List.mem_append_left _ (mapQ_mem.2 ⟨rest',(hmem _).2 (.inr rfl),hkey⟩))
   ·rw [S.its,List.append_assoc]at h1;rw [List.append_assoc];rcases List.mem_append.1 h1 with h3| h3
    ·exact List.mem_append_left _ h3
    ·rcases List.mem_append.1 h3 with h3| h3
     ·obtain⟨k,h4,h5⟩:=mapQ_mem.1 h3;exact List.mem_append_right _ (List.mem_append_left _ (mapQ_mem.2 ⟨k,(hmem _).2 (.inl h4),h5⟩))
     ·exact List.mem_append_right _ (List.mem_append_right _ h3)
theorem put_ok(h:IxX X L s items)(key:List UInt8)(hk:key.length≤16)(value:UInt64)(hv:value≠0):PutOk X L s items (nibs key) value (putK s key value):=by
 by_cases h0:s.ws 9=0
 ·exact put_empty h h0 key hk value hv
 ·rcases h.tree with⟨h1,_⟩| ⟨blocks,h1,T,hnd,hX,htk⟩
  ·exact absurd h1 h0
  ·obtain⟨way,last,rest',q,rl,nl,parts,A,B,b1,b2,o,hp,a⟩:=around h.ok h1 T hnd key hk;unfold putK;rw [if_neg (by omega),if_neg hv,hp];have hgl:(way++[last]).getLast? =some last:=by simp
   simp only [standsP,hgl];by_cases hpr:last.nd.pre=rest'
   ·rw [if_pos hpr];exact put_there h h1 htk hX hnd a hpr value hv
   ·rw [if_neg hpr];exact put_new h h1 htk hX hnd hk a hpr value hv
theorem survey_x(h:IxX X L s items):∃met:List Nat,surveyP s=some (items.map (fun kv=>(pairs kv.1,kv.2)),met.map Int.ofNat)∧met.Nodup∧(∀o∈met,¬X o)∧∀o,(∃d,TakenAt s o d)↔o∈met∨X o:=by
 rcases h.tree with⟨h1,h2,h3⟩| ⟨blocks,h1,T,hnd,hX,htk⟩
 ·refine⟨[],?_,List.nodup_nil,(fun _ h=>nomatch h),fun o=>by simp [h3 o]⟩;unfold surveyP;rw [if_pos h1,h2];rfl
 ·refine⟨blocks,?_,hnd,hX,htk⟩;unfold surveyP;rw [if_neg h1];have:=T.survey h.ok 34 [] [] [] (by decide) (by decide) hnd (fun _ _ h=>by cases h) (fun kv hkv=>h.even kv hkv);simpa using this
end
section
variable{L:Nat}{s:St}
theorem pathGo_acc:∀(f:Nat)(name:UInt64)(rest:List UInt8)(label:UInt8)(word:Int)(way:List Pl),pathGo s f name rest label word way=(pathGo s f name rest label word []).map fun p=>(way++p.1,p.2)
 | 0,_,_,_,_,way=>by simp [pathGo]
 | f+1,name,rest,label,word,way=>by
   rw [pathGo,pathGo];split
   ·simp
   ·split
    ·rfl
    ·rename_i x _;split
     ·simp
     ·split
      ·simp
      ·rename_i kid number _;rw [pathGo_acc f kid _ _ _ (way++_),pathGo_acc f kid _ _ _ ([]++_)];cases pathGo s f kid (rest.drop (common x.pre rest+1)) (rest.getD (common x.pre rest) 0) (offOf name+8*number) []<;>simp
theorem path_head{f:Nat}{name:UInt64}{rest:List UInt8}{label:UInt8}{word:Int}{W:List Pl}{rf:List UInt8}(h:pathGo s (f+1) name rest label word []=some (W,rf))(hn:name≠0):∃x W',W=x::W'∧x.label=label∧x.word=word:=by
 rw [pathGo,if_neg hn]at h;split at h
 ·cases h
 ·rename_i x _;split at h
  ·injection h with h;injection h with h1 h2
   exact⟨_,_,h1.symm,rfl,rfl⟩
  ·split at h
   ·injection h with h;injection h with h1 h2
    exact⟨_,_,h1.symm,rfl,rfl⟩
   ·rw [pathGo_acc]at h;obtain⟨p,_,h2⟩:=Option.map_eq_some_iff.1 h;injection h2 with h3 h4
    exact⟨_,_,h3.symm,rfl,rfl⟩
theorem path_at(ok:PoolOk L s):∀(m f r:Nat)(name:UInt64)(items:List Kv)(blocks:List Nat)(rest:List UInt8)(label:UInt8)(word:Int),TreeAt s r name items blocks→blocks.Nodup→rest.length<f→rest.length≤r→name≠0→
 ∀(W:List Pl)(rf:List UInt8),pathGo s f name rest label word []=some (W,rf)→m+1<W.length→
 ∃up rest' q rl nl parts A B b1 b2 i f' w',W[m]? =some up∧Spot0 L s r name items blocks word rest up rest' q rl nl parts A B b1 b2∧∃(h1:i<up.nd.kids.length)(h2:i<up.nd.labels.length),
  up.nd.pre++up.nd.labels[i]::rest'.drop (up.nd.pre.length+1)=rest'∧(rest'.drop (up.nd.pre.length+1)).length<f'∧up.nd.kids[i]≠0∧pathGo s f' up.nd.kids[i] (rest'.drop (up.nd.pre.length+1)) up.nd.labels[i] w' []=some (W.drop (m+1),rf)
 | m,0,_,_,_,_,_,_,_,_,_,h,_,_,_,_,_,_=>absurd h (by omega)
 | m,f+1,r,name,items,blocks,rest,label,word,ht,hnd,hf,hrl,hn0,W,rf,hW,hm=>by
   cases ht with
   | mk _ _ nd parts hrd hpre hkid hlen hk=>
     obtain⟨o,ho,htk,hr,hw⟩:=read_some ok hrd;rw [pathGo,if_neg hn0,hrd]at hW
     dsimp only at hW
     by_cases h1:common nd.pre rest<nd.pre.length∨common nd.pre rest=rest.length
     ·rw [if_pos h1]at hW;injection hW with hW;injection hW with hW _
      rw [←hW]at hm;simp at hm
     ·rw [if_neg h1]at hW;cases hkp:kidP nd (rest.getD (common nd.pre rest) 0)with
      | none=>
        rw [hkp]at hW;injection hW with hW;injection hW with hW _
        rw [←hW]at hm;simp at hm
      | some kn=>
        obtain⟨kid,number⟩:=kn;obtain⟨hc,hlt,i,hi1,hi2,rfl,rfl,hlab,hcut⟩:=path_down hr h1 hkp;rw [hkp]at hW;simp only at hW;rw [hc,←hlab,pathGo_acc]at hW;obtain⟨p,hp,h2⟩:=Option.map_eq_some_iff.1 hW;obtain⟨W2,r2⟩:=p;injection h2 with h3 h4
        simp only at h3 h4;subst h4;subst h3;have hi3:i<parts.length:=by omega
        have hkr:=hkid (fun e=>by rw [e]at hi1;simp at hi1);have hk0:nd.kids[i]≠0:=fun e=>((rightB_iff nd).1 hr).2.2.2.2.2 i hi1 (by rw [e];rfl)
        have hnd2:=(List.nodup_cons.1 hnd).2;rw [kidBlocks_at parts i hi3]at hnd2;have n4:=(List.nodup_append.1 (List.nodup_append.1 hnd2).2.1).1
        match m,hm with
        | 0,hm=>exact⟨⟨nd,offOf name,label,word⟩,rest,[],r,name,parts,[],[],[],[],i,f,_,by simp,spot_here hrd hpre hkid hlen hk,hi1,hi2,hcut,by rw [List.length_drop];show rest.length- (nd.pre.length+1)<f;omega,hk0,by simpa using hp⟩
        | m+1,hm=>
          obtain⟨up,rest',q,rl,nl,parts0,A,B,b1,b2,i',f',w',e1,S,g1,g2,g3,g4,g5,g6⟩:=path_at ok m f (r-nd.pre.length-1) nd.kids[i] parts[i].items parts[i].blocks (rest.drop (nd.pre.length+1)) nd.labels[i] (offOf name+8*(posN nd i:Nat)) (hk i hi1 hi3) n4 (by rw [List.length_drop];omega) (by rw [List.length_drop];omega) hk0 W2 r2 hp (by simpa using hm);exact⟨up,rest',_,rl,nl,parts0,_,_,_,_,i',f',w',by simpa using e1,spot_lift ok ho htk hr hw hpre hlen hk hnd hi1 hi2 hi3 hkr hcut S,g1,g2,g3,g4,g5,by simpa using g6⟩
theorem chain_one (ok : PoolOk L s) : ∀ (f r : Nat) (name : UInt64) (items : List Kv) (blocks : List Nat) (rest : List UInt8) (label : UInt8) (word : Int), TreeAt s r name items blocks → rest.length < f → name ≠ 0 →
    ∀ (W : List Pl) (rf : List UInt8) (last : Pl), pathGo s f name rest label word [] = some (W, rf) → standsP W rf = some last → last.nd.kids.length = 0 → last.nd.val ≠ 0 →
    (∀ i up, i + 1 < W.length → W[i]? = some up → up.nd.val = 0 ∧ up.nd.kids.length = 1) → items = [(rest, last.nd.val)] ∧ blocks.map Int.ofNat = W.map (·.off)
  | 0, _, _, _, _, _, _, _, _, h, _, _, _, _, _, _, _, _, _ => absurd h (by omega)
  | f + 1, r, name, items, blocks, rest, label, word, ht, hf, hn0, W, rf, last, hW, hst, hk0, hv0, hup => by
    cases ht with
    | mk _ _ nd parts hrd hpre hkid hlen hk =>
      obtain ⟨o, ho, htk, hr, hw⟩ := read_some ok hrd
      rw [pathGo, if_neg hn0, hrd] at hW
      dsimp only at hW
      have hoff : Int.ofNat (offOf name).toNat = offOf name := by rw [ho, Int.toNat_natCast]; rfl
      have one : [(⟨nd, offOf name, label, word⟩ : Pl)] = W → rest = rf → ownItems nd ++ kidItems nd.pre nd.labels parts = [(rest, last.nd.val)] ∧ ((offOf name).toNat :: kidBlocks parts).map Int.ofNat = W.map (·.off) := fun e1 e2 => by
        subst e1
        subst e2
        unfold standsP at hst
        simp only [List.getLast?_singleton] at hst
        split at hst
        · rename_i hpr
          injection hst with hst
          subst hst
          simp only at hk0 hv0 hpr ⊢
          have hp0 : parts = [] := List.length_eq_zero_iff.1 (by omega)
          subst hp0
          unfold ownItems
          rw [if_pos hv0, hpr]
          have : kidItems rest nd.labels [] = [] := by cases nd.labels <;> rfl
          rw [this]
          exact ⟨rfl, by rw [List.map_cons, hoff]; rfl⟩
        · cases hst
      by_cases h1 : common nd.pre rest < nd.pre.length ∨ common nd.pre rest = rest.length
      · rw [if_pos h1] at hW
        injection hW with hW; injection hW with e1 e2
        exact one (by simpa using e1) e2
      · rw [if_neg h1] at hW
        cases hkp : kidP nd (rest.getD (common nd.pre rest) 0) with
        | none =>
          rw [hkp] at hW
          injection hW with hW; injection hW with e1 e2
          exact one (by simpa using e1) e2
        | some kn =>
          obtain ⟨kid, number⟩ := kn
          obtain ⟨hc, hlt, i, hi1, hi2, rfl, rfl, hlab, hcut⟩ := path_down hr h1 hkp
          rw [hkp] at hW
          simp only at hW
          rw [hc, ← hlab, pathGo_acc] at hW
          obtain ⟨p, hp, h2⟩ := Option.map_eq_some_iff.1 hW
          obtain ⟨W2, r2⟩ := p
          injection h2 with h3 h4
          simp only at h3 h4
          subst h4
          subst h3
          have hk1 : nd.kids[i] ≠ 0 := fun e => ((rightB_iff nd).1 hr).2.2.2.2.2 i hi1 (by rw [e]; rfl)
          obtain ⟨f', rfl⟩ : ∃ f', f = f' + 1 := ⟨f - 1, by omega⟩
          obtain ⟨x, W3, rfl, _, _⟩ := path_head hp hk1
          obtain ⟨hv, hl1⟩ := hup 0 ⟨nd, offOf name, label, word⟩ (by simp) (by simp)
          simp only at hv hl1
          obtain rfl : i = 0 := by omega
          have hll : nd.labels.length = 1 := by have := ((rightB_iff nd).1 hr).2.2.1; omega
          obtain ⟨p, hp0⟩ : ∃ p, parts = [p] := List.length_eq_one_iff.1 (by omega)
          subst hp0
          obtain ⟨lb, hlb⟩ : ∃ lb, nd.labels = [lb] := List.length_eq_one_iff.1 hll
          have hst2 : standsP (x :: W3) r2 = some last := by
            unfold standsP at hst ⊢
            simpa using hst
          have ih := chain_one ok (f' + 1) (r - nd.pre.length - 1) nd.kids[0] p.items p.blocks (rest.drop (nd.pre.length + 1)) nd.labels[0] _ (hk 0 hi1 (by simp)) (by rw [List.length_drop]; omega) hk1 (x :: W3) r2 last hp hst2 hk0 hv0 (fun t up ht hup' => hup (t + 1) up (by simpa using ht) (by simpa using hup'))
          refine ⟨?_, ?_⟩
          · have hcut' : nd.pre ++ lb :: rest.drop (nd.pre.length + 1) = rest := by
              have : nd.labels[0] = lb := by simp [hlb]
              rw [this] at hcut; exact hcut
            rw [hlb]
            unfold ownItems
            rw [if_neg (by simp [hv])]
            simp only [kidItems, List.nil_append, List.append_nil, ih.1, underI, List.map_cons, List.map_nil]
            rw [hcut']
          · simp only [kidBlocks, List.map_cons, List.map_nil, List.flatten_cons, List.flatten_nil, List.append_nil]
            rw [ih.2, hoff]
            rfl
theorem pruneGo_is(W:List Pl):∀(m:Nat)(_:m<W.length)(old:List Int),∃a,a≤m∧pruneGo W m old=(a,old++(((W.drop a).take (m-a)).map (·.off)).reverse)∧∀i up,a≤i→i<m→W[i]? =some up→up.nd.val=0∧up.nd.kids.length=1
 | 0,_,old=>⟨0,Nat.le_refl _,by simp [pruneGo],fun i up h1 h2=>absurd h2 (by omega)⟩
 | m+1,h,old=>by
   have hm:m<W.length:=by omega
   rw [pruneGo,List.getElem?_eq_getElem hm,List.getElem?_eq_getElem h]
   dsimp only
   split
   ·rename_i hu;obtain⟨a,h1,h2,h3⟩:=pruneGo_is W m hm (old++[W[m].off]);refine⟨a,by omega,?_,fun i up g1 g2 g3=> ?_⟩
    ·rw [h2,show m+1-a=(m-a)+1 by omega,List.take_succ_eq_append_getElem (by rw [List.length_drop];omega),List.map_append,List.reverse_append];have:(W.drop a)[m-a]'(by rw [List.length_drop];omega)=W[m]:=by rw [List.getElem_drop];congr 1;omega
     simp [this]
    ·by_cases e:i=m
     ·subst e;rw [List.getElem?_eq_getElem hm]at g3;injection g3 with g3
      exact g3▸hu
     ·exact h3 i up g1 (by omega) g3
   ·exact⟨m+1,Nat.le_refl _,by simp,fun i up g1 g2=>absurd g2 (by omega)⟩
end
theorem delP_get{α:Type}(xs:List α)(i t:Nat)(h:i≤xs.length):(delP xs i)[t]? =if t<i then xs[t]? else xs[t+1]? :=by
 unfold delP;have hl:(xs.take i).length=i:=by simp;omega
 split
 ·rename_i ht;rw [List.getElem?_append_left (by omega),List.getElem?_take,if_pos ht]
 ·rw [List.getElem?_append_right (by omega),hl,List.getElem?_drop];congr 1;omega
theorem delP_len{α:Type}(xs:List α)(i:Nat)(h:i<xs.length):(delP xs i).length+1=xs.length:=by unfold delP;simp;omega
theorem delP_at{α:Type}(xs:List α)(i t:Nat)(h:i<xs.length)(ht:t<(delP xs i).length):∃(h2:(if t<i then t else t+1)<xs.length),(delP xs i)[t]=xs[if t<i then t else t+1]:=by
 have hl:=delP_len xs i h;have h2:(if t<i then t else t+1)<xs.length:=by split<;>omega
 refine⟨h2,?_⟩;have:=delP_get xs i t (by omega);rw [List.getElem?_eq_getElem ht]at this;have e:(if t<i then xs[t]? else xs[t+1]?)=xs[if t<i then t else t+1]? :=by split<;>rfl
 rw [e,List.getElem?_eq_getElem h2]at this;exact Option.some.inj this
theorem delP_mem{α:Type}{xs:List α}{i:Nat}{x:α}(h:x∈delP xs i):x∈xs:=by
 unfold delP at h;rcases List.mem_append.1 h with h| h
 ·exact List.mem_of_mem_take h
 ·exact List.mem_of_mem_drop h
theorem out_right{x:Nd}(h:rightB x=true){i:Nat}(hi:i<x.kids.length):rightB (outP x i)=true:=by
 obtain⟨h1,h2,h3,h4,h5,h6⟩:=(rightB_iff x).1 h;have hil:i<x.labels.length:=by omega
 have e1:=delP_len x.labels i hil;have e2:=delP_len x.kids i hi;refine(rightB_iff _).2 ⟨h1,h2,by show(delP x.labels i).length=(delP x.kids i).length;omega,?_,?_,fun t ht=> ?_⟩
 ·rw [List.all_eq_true]at h4⊢;exact fun y hy=>h4 y (delP_mem hy)
 ·show risingB (delP x.labels i)=true;rw [rising_iff];intro t ht;obtain⟨g1,g2⟩:=delP_at x.labels i t hil (by omega);obtain⟨g3,g4⟩:=delP_at x.labels i (t+1) hil ht;rw [g2,g4];exact rising_lt' _ h5 _ _ (by split<;>split<;>omega) g3
 ·obtain⟨g1,g2⟩:=delP_at x.kids i t hi ht;show(delP x.kids i)[t].toNat≠0;rw [g2];exact h6 _ g1
theorem find_at{l:List UInt8}(hr:risingB l=true){i:Nat}(hi:i<l.length):findLb l l[i]=some i:=by
 unfold findLb;rw [List.findIdx?_eq_some_iff_getElem];refine⟨hi,by simp,fun j hj=> ?_⟩;have:=rising_lt' _ hr j i hj hi;simp;intro e;rw [e]at this;omega
def CutIs(items items':List Kv)(k:List UInt8):Prop:=∀kv,kv∈items'↔kv∈items∧kv.1≠k
def CutOk(X:Nat→Prop)(L:Nat)(s:St)(items:List Kv)(k:List UInt8)(r:St×UInt64×Int):Prop:=
 (r=(s,0,7)∧∀kv∈items,kv.1≠k)∨(KeepX X s r.1∧r.2.2=0∧(k,r.2.1)∈items∧∃items',IxX X L r.1 items'∧CutIs items items' k)
section
variable{X:Nat→Prop}{L:Nat}{s:St}{items:List Kv}{blocks:List Nat}{key:List UInt8}
theorem cut_up(h:IxX X L s items)(hn0:s.ws 9≠0)(htk:∀o,(∃d,TakenAt s o d)↔o∈blocks∨X o)(hX:∀o∈blocks,¬X o)(hnd:blocks.Nodup){up:Pl}{ru q:List UInt8}{rl:Nat}{nl:UInt64}{parts:List Part}{A B:List Kv}{b1 b2:List Nat}
 (S:Spot0 L s 32 (s.ws 9) items blocks 72 (nibs key) up ru q rl nl parts A B b1 b2){i:Nat}(h1:i<up.nd.kids.length)(h2:i<up.nd.labels.length)(h3:i<parts.length){r2:List UInt8}(hcut:up.nd.pre++up.nd.labels[i]::r2=ru){v:UInt64}(hpi:parts[i].items=[(r2,v)]):
 (nibs key,v)∈items∧∃s1 er,(match buildP ⟨s,[]⟩ (outP up.nd i)with| (j1,name,e)=>finishP j1 e up.word name ((parts[i].blocks.map Int.ofNat).reverse++[up.off]))=(s1,er)∧
  ((er=6∧s1=s)∨(er=0∧KeepX X s s1∧∃items',IxX X L s1 items'∧CutIs items items' (nibs key))):=by
 obtain⟨o,a⟩:=around0 h.ok hnd S;have hr':=(rightB_iff up.nd).1 a.right;have hkey:nibs key=q++ru:=S.cut;have hki:=kidItems_at up.nd.pre up.nd.labels parts i h2 h3 (by have:=S.len;omega);rw [hpi]at hki;have hun:underI up.nd.pre up.nd.labels[i] [(r2,v)]=[(ru,v)]:=by unfold underI;simp [hcut]
 have hkd:kidItems up.nd.pre (delP up.nd.labels i) (delP parts i)=kidItems up.nd.pre (up.nd.labels.take i) (parts.take i)++kidItems up.nd.pre (up.nd.labels.drop (i+1)) (parts.drop (i+1)):=by
  unfold delP;exact kidItems_app _ _ _ _ _ (by simp;omega)
 have hbd:kidBlocks (delP parts i)=kidBlocks (parts.take i)++kidBlocks (parts.drop (i+1)):=by
  unfold delP;exact kidBlocks_app _ _
 have hmem:∀k x,(k,x)∈ownItems up.nd++kidItems up.nd.pre up.nd.labels parts↔(k,x)∈ownItems up.nd++kidItems up.nd.pre (delP up.nd.labels i) (delP parts i)∨(k,x)=(ru,v):=fun k x=>by
  rw [hki,hkd,hun];simp only [List.mem_append,List.mem_singleton];constructor
  ·rintro(g| g| g| g)
   ·exact .inl (.inl g)
   ·exact .inl (.inr (.inl g))
   ·exact .inr g
   ·exact .inl (.inr (.inr g))
  ·rintro((g| g| g)| g)
   ·exact .inl g
   ·exact .inr (.inl g)
   ·exact .inr (.inr (.inr g))
   ·exact .inr (.inr (.inl g))
 have hne:∀k x,(k,x)∈ownItems up.nd++kidItems up.nd.pre (delP up.nd.labels i) (delP parts i)→k≠ru:=fun k x hk e=>by
  have hlab:∀t(g:t<up.nd.labels.length),t≠i→up.nd.labels[t]≠up.nd.labels[i]:=fun t g hti e=>by
   rcases Nat.lt_or_gt_of_ne hti with g2| g2
   ·have:=rising_lt' _ hr'.2.2.2.2.1 t i g2 h2;rw [e]at this;omega
   ·have:=rising_lt' _ hr'.2.2.2.2.1 i t g2 g;rw [e]at this;omega
  rcases List.mem_append.1 hk with g| g
  ·obtain⟨g,_⟩:=ownItems_mem g;injection g with g _
   rw [g,←hcut]at e;have:=congrArg List.length e;simp at this
  ·obtain⟨t,t1,t2,kv',_,g⟩:=kidItems_mem g;injection g with g _
   rw [g,←hcut]at e;have e2:=List.append_cancel_left e;injection e2 with e2 _
   obtain⟨g1,g2⟩:=delP_at up.nd.labels i t h2 t1;rw [g2]at e2;exact hlab _ g1 (by split<;>omega) e2
 have hin:∀k x,(k,x)∈ownItems up.nd++kidItems up.nd.pre up.nd.labels parts→(q++k,x)∈items:=fun k x h4=>by
  rw [S.its,List.append_assoc];exact List.mem_append_right _ (List.mem_append_left _ (mapQ_mem.2 ⟨k,h4,rfl⟩))
 refine⟨by rw [hkey];exact hin ru v ((hmem ru v).2 (.inr rfl)),?_⟩;rcases build_ok (Grown.start h.ok h.nh) (out_right a.right h1)with e| ⟨j',name,o',e,_,g,ho',hn,hrd,_⟩
 ·rw [e];exact⟨s,6,rfl,.inl ⟨rfl,rfl⟩⟩
 ·rw [e];simp only;have T:=TreeAt.mk (s:=j'.s) rl name (outP up.nd i) (delP parts i) hrd S.pre (fun _=>S.kid (fun e=>by rw [e]at h1;exact absurd h1 (by simp))) (by
   have:=delP_len parts i h3;have:=delP_len up.nd.kids i h1;show(delP parts i).length=(delP up.nd.kids i).length;have:=S.len;omega) (fun t g1 g2=>by
   obtain⟨u1,u2⟩:=delP_at up.nd.kids i t h1 g1;obtain⟨u3,u4⟩:=delP_at parts i t h3 g2;have e1:(outP up.nd i).kids[t]=up.nd.kids[if t<i then t else t+1]:=u2;rw [e1,u4];exact(S.sub _ u1 u3).keep h.ok g.ok g.keep (fun _ _=>trivial))
  rw [ho',Int.toNat_natCast]at T;have hown:ownItems (outP up.nd i)=ownItems up.nd:=rfl;rw [hown]at T;obtain⟨s2,e2,kx2,ix2⟩:=finish_ok h hn0 htk hX a g hn T (K:=kidBlocks (delP parts i)) (D:=parts[i].blocks) (dl:=parts[i].blocks.reverse++[o])
   (by
    rw [kidBlocks_at parts i h3,hbd];have:(kidBlocks (parts.take i)++(parts[i].blocks++kidBlocks (parts.drop (i+1)))).Perm (kidBlocks (parts.take i)++(kidBlocks (parts.drop (i+1))++parts[i].blocks)):=List.Perm.append_left _ List.perm_append_comm;simpa [List.append_assoc]using this)
   (by simp) (List.Perm.append_right _ (List.reverse_perm _)) (fun kv hkv=>by
    obtain⟨k,x⟩:=kv;exact h.even _ (hin k x ((hmem k x).2 (.inl hkv))))
  refine⟨s2,0,?_,.inr ⟨rfl,kx2,_,ix2,fun kv=> ?_⟩⟩
  ·rw [a.off,←e2,List.map_append,List.map_reverse];rfl
  ·constructor
   ·intro hkv;rw [List.append_assoc]at hkv;rcases List.mem_append.1 hkv with g1| g1
    ·exact⟨by rw [S.its];simp [g1],a.other kv (.inl g1)⟩
    ·rcases List.mem_append.1 g1 with g1| g1
     ·obtain⟨k,g2,g3⟩:=mapQ_mem.1 g1;have:=hin k kv.2 ((hmem k kv.2).2 (.inl g2));refine⟨by rw [←g3]at this;exact this,fun e=> ?_⟩;rw [g3,hkey]at e;exact hne k kv.2 g2 (List.append_cancel_left e)
     ·exact⟨by rw [S.its];simp [g1],a.other kv (.inr g1)⟩
   ·rintro⟨g1,g2⟩;rw [S.its,List.append_assoc]at g1;rw [List.append_assoc];rcases List.mem_append.1 g1 with g3| g3
    ·exact List.mem_append_left _ g3
    ·rcases List.mem_append.1 g3 with g3| g3
     ·obtain⟨k,g4,g5⟩:=mapQ_mem.1 g3;rcases(hmem k kv.2).1 g4 with g6| g6
      ·exact List.mem_append_right _ (List.mem_append_left _ (mapQ_mem.2 ⟨k,g6,g5⟩))
      ·injection g6 with g6 _
       exact absurd (by rw [g5,g6,hkey]) g2
     ·exact List.mem_append_right _ (List.mem_append_right _ g3)
theorem cut_there(h:IxX X L s items)(hn0:s.ws 9≠0)(htk:∀o,(∃d,TakenAt s o d)↔o∈blocks∨X o)(hX:∀o∈blocks,¬X o)(hnd:blocks.Nodup){last:Pl}{rest' q:List UInt8}{rl:Nat}{nl:UInt64}{parts:List Part}{A B:List Kv}{b1 b2:List Nat}{o:Nat}
 (a:Around L s items blocks key last rest' q rl nl parts A B b1 b2 o)(hp:last.nd.pre=rest'):KeepX X s (valueP s last 0)∧∃items',IxX X L (valueP s last 0) items'∧CutIs items items' (nibs key):=by
 obtain⟨hK,hV⟩:=value_ok h hn0 htk hX hnd a.toAround0 hp 0;refine⟨hK,_,hV,fun kv=> ?_⟩;have S:=a.spot;have hkey:nibs key=q++last.nd.pre:=by rw [hp];exact S.cut
 have hz:ownItems {last.nd with val:=0}=[]:=rfl;have hkid:∀k,(k,kv.2)∈kidItems last.nd.pre last.nd.labels parts→q++k≠nibs key:=fun k hk e=>by
  obtain⟨i,g1,g2,kv',_,e2⟩:=kidItems_mem hk;rw [hkey]at e;have:=List.append_cancel_left e;have e3:k=last.nd.pre++last.nd.labels[i]::kv'.1:=congrArg Prod.fst e2;rw [e3]at this;have:=congrArg List.length this;simp at this
 rw [hz,List.nil_append,S.its];simp only [List.mem_append,mapQ_mem];constructor
 ·rintro((g| ⟨k,g1,g2⟩)| g)
  ·exact⟨.inl (.inl g),a.other kv (.inl g)⟩
  ·exact⟨.inl (.inr ⟨k,.inr g1,g2⟩),by rw [g2];exact hkid k g1⟩
  ·exact⟨.inr g,a.other kv (.inr g)⟩
 ·rintro⟨(g| ⟨k,g1,g2⟩)| g,hne⟩
  ·exact .inl (.inl g)
  ·rcases g1 with g1| g1
   ·obtain⟨e,_⟩:=ownItems_mem g1;injection e with e _
    exact absurd (by rw [g2,e,hkey]) hne
   ·exact .inl (.inr ⟨k,g1,g2⟩)
  ·exact .inr g
theorem cut_ok (h : IxX X L s items) (key : List UInt8) (hk : key.length ≤ 16) : CutOk X L s items (nibs key) (cutK s key) := by
  by_cases h0 : s.ws 9 = 0
  · have hi : items = [] := by
      rcases h.tree with ⟨_, h2, _⟩ | ⟨_, h1, _⟩
      · exact h2
      · exact absurd h0 h1
    subst hi
    refine .inl ⟨?_, fun _ h => nomatch h⟩
    unfold cutK pathP
    rw [if_neg (by omega), h0, pathGo, if_pos rfl]
    rfl
  · rcases h.tree with ⟨h1, _⟩ | ⟨blocks, h1, T, hnd, hX, htk⟩
    · exact absurd h1 h0
    · obtain ⟨way, last, rest', q, rl, nl, parts, A, B, b1, b2, o, hp, a⟩ := around h.ok h1 T hnd key hk
      have S := a.spot
      have hgl : (way ++ [last]).getLast? = some last := by simp
      have hmem : ∀ kv ∈ items, kv ∈ A ∨ kv ∈ B ∨ ∃ k, (k, kv.2) ∈ ownItems last.nd ++ kidItems last.nd.pre last.nd.labels parts ∧ kv.1 = q ++ k := fun kv hkv => by
        rw [S.its, List.append_assoc] at hkv
        rcases List.mem_append.1 hkv with g | g
        · exact .inl g
        · rcases List.mem_append.1 g with g | g
          · exact .inr (.inr (mapQ_mem.1 g))
          · exact .inr (.inl g)
      unfold cutK
      rw [if_neg (by omega), hp]
      simp only
      by_cases hpr : last.nd.pre = rest'
      · have hst : standsP (way ++ [last]) rest' = some last := by unfold standsP; rw [hgl]; simp only; rw [if_pos hpr]
        rw [hst]
        simp only
        have hkey : nibs key = q ++ last.nd.pre := by rw [hpr]; exact S.cut
        by_cases hv : last.nd.val = 0
        · rw [if_pos hv]
          refine .inl ⟨rfl, fun kv hkv e => ?_⟩
          rcases hmem kv hkv with g | g | ⟨k, g1, g2⟩
          · exact a.other kv (.inl g) e
          · exact a.other kv (.inr g) e
          · rcases List.mem_append.1 g1 with g1 | g1
            · exact (ownItems_mem g1).2 hv
            · obtain ⟨i, i1, i2, kv', _, e2⟩ := kidItems_mem g1
              rw [g2, hkey] at e
              have e3 := List.append_cancel_left e
              have e4 : k = last.nd.pre ++ last.nd.labels[i] :: kv'.1 := congrArg Prod.fst e2
              rw [e4] at e3
              have := congrArg List.length e3
              simp at this
        · rw [if_neg hv]
          right
          have hthere : (nibs key, last.nd.val) ∈ items := by
            rw [S.its, List.append_assoc]
            refine List.mem_append_right _ (List.mem_append_left _ (mapQ_mem.2 ⟨last.nd.pre, List.mem_append_left _ ?_, hkey⟩))
            unfold ownItems
            rw [if_pos hv]
            exact List.mem_singleton.2 rfl
          have hct := cut_there h h1 htk hX hnd a hpr
          by_cases hk0 : last.nd.kids.length = 0
          · rw [if_pos hk0]
            have hlen : (way ++ [last]).length - 1 = way.length := by simp
            obtain ⟨m, ha, e, hu⟩ := pruneGo_is (way ++ [last]) way.length (by simp) [last.off]
            have hpg : pathGo s (2 * key.length + 1) (s.ws 9) (nibs key) 0 72 [] = some (way ++ [last], rest') := hp
            have hnl := nibs_length key
            have hW : ∀ i, i ≤ way.length → [last.off] ++ (((( way ++ [last]).drop i).take (way.length - i)).map (·.off)).reverse = (((way ++ [last]).drop i).map (·.off)).reverse := fun i hi => by
              rw [List.drop_append_of_le_length hi, List.take_append_of_le_length (by simp), List.take_of_length_le (by simp)]
              simp
            rw [hW m ha] at e
            unfold pruneP
            rw [hlen, hgl]
            simp only [Option.map_some, Option.getD_some]
            rw [e]
            cases m with
            | zero =>
              simp only [List.drop_zero]
              obtain ⟨e1, e2⟩ := chain_one h.ok (2 * key.length + 1) 32 (s.ws 9) items blocks (nibs key) 0 72 T (by omega) h1 (way ++ [last]) rest' last hpg hst hk0 hv (fun i up g1 g2 => hu i up (Nat.zero_le _) (by simp at g1; omega) g2)
              have e3 : ((way ++ [last]).map (·.off)).reverse = blocks.reverse.map Int.ofNat := by rw [← e2, List.map_reverse]
              obtain ⟨s1, hs1⟩ : ∃ s1, s1 = ({ s with ws := put1 s.ws 9 0 } : St) := ⟨_, rfl⟩
              have ok1 : PoolOk L s1 := by
                rw [hs1]
                exact h.ok.words (fun i hi => by unfold put1; rw [if_neg (by omega)])
              have htk1 : ∀ p d, TakenAt s1 p d ↔ TakenAt s p d := fun p d => by rw [hs1]; exact Iff.rfl
              have hdn : blocks.reverse.Nodup := (List.reverse_perm _).nodup_iff.2 hnd
              have hdt : ∀ p ∈ blocks.reverse, ∃ d, TakenAt s1 p d := fun p hp => by
                obtain ⟨d, hd⟩ := (htk p).2 (.inl (List.mem_reverse.1 hp))
                exact ⟨d, (htk1 p d).2 hd⟩
              obtain ⟨s2, ed, ok2, sh2, hd2, ws2, tk2⟩ := drops_ok blocks.reverse ok1 hdn hdt
              have ee := drops_eq blocks.reverse ok1 hdn hdt
              rw [ed] at ee
              have hfin : finishP ⟨s, []⟩ 0 72 0 ((way ++ [last]).map (·.off)).reverse = (s2, 0) := by
                unfold finishP
                rw [if_neg (by simp), e3, ← ee, hs1]
                rfl
              rw [hfin]
              simp only
              rw [if_neg (by decide)]
              simp only [if_true]
              have hXk : KeepX X s s2 := ⟨sh2.trans (by rw [hs1]), fun j hj hj9 => by
                  rw [ws2 j (.inl hj), hs1]
                  show put1 s.ws 9 0 j = _
                  unfold put1
                  rw [if_neg hj9], fun p c hp ht => ⟨(tk2 p c).2 ⟨(htk1 p c).2 ht, fun hm => hX p (List.mem_reverse.1 hm) hp⟩, fun j hj => by
                  have hj16 := h.ok.table_words (ht.bounds h.ok).1 hj
                  rw [ws2 j (.inr (by rw [hs1]; exact hj16)), hs1]
                  show put1 s.ws 9 0 j = _
                  unfold put1
                  rw [if_neg (by omega)]⟩⟩
              refine ⟨hXk, trivial, hthere, [], ⟨ok2, fun p d hh => h.nh p d ((held_same (by rw [hd2, hs1]) (by rw [sh2, hs1]) p d).1 hh), .inl ⟨?_, rfl, fun p => ?_⟩, fun _ h => nomatch h⟩, fun kv => ?_⟩
              · rw [ws2 9 (.inl (by decide)), hs1]; rfl
              · constructor
                · rintro ⟨d, hd⟩
                  obtain ⟨g1, g2⟩ := (tk2 p d).1 hd
                  exact ((htk p).1 ⟨d, (htk1 p d).1 g1⟩).resolve_left (fun hb => g2 (List.mem_reverse.2 hb))
                · intro hx
                  obtain ⟨d, hd⟩ := (htk p).2 (.inr hx)
                  exact ⟨d, (tk2 p d).2 ⟨(htk1 p d).2 hd, fun hm => hX p (List.mem_reverse.1 hm) hx⟩⟩
              · rw [e1]
                exact ⟨fun h => (nomatch h), fun ⟨g, hne⟩ => absurd (by rw [List.mem_singleton.1 g]) hne⟩
            | succ m =>
              simp only
              have hml : m + 1 < (way ++ [last]).length := by simp; omega
              obtain ⟨up, ru, q', rl', nl', parts', A', B', b1', b2', i, f', w', g1, S', g2, g3, g4, g5, g6, g7⟩ := path_at h.ok m (2 * key.length + 1) 32 (s.ws 9) items blocks (nibs key) 0 72 T hnd (by omega) (by omega) h1 (way ++ [last]) rest' hpg hml
              have hi3 : i < parts'.length := by have := S'.len; omega
              have hupr : rightB up.nd = true := by
                obtain ⟨_, _, _, hr, _⟩ := read_some h.ok S'.rd
                exact hr
              have hst2 : standsP ((way ++ [last]).drop (m + 1)) rest' = some last := by
                unfold standsP
                rw [List.drop_append_of_le_length (by omega)]
                simp only [List.getLast?_append, List.getLast?_singleton, Option.some_or]
                rw [if_pos hpr]
              obtain ⟨e1, e2⟩ := chain_one h.ok f' _ _ _ _ _ _ _ (S'.sub i g2 hi3) g5 g6 _ rest' last g7 hst2 hk0 hv (fun t u t1 t2 => hu (m + 1 + t) u (by omega) (by simp at t1; omega) (by rw [List.getElem?_drop] at t2; exact t2))
              obtain ⟨f'', rfl⟩ : ∃ f'', f' = f'' + 1 := ⟨f' - 1, by omega⟩
              obtain ⟨x, W', hx, hxl, _⟩ := path_head g7 g6
              have hx1 : (way ++ [last])[m + 1]? = some x := by
                have := congrArg (fun l => l[0]?) hx
                simpa [List.getElem?_drop] using this
              rw [g1, hx1]
              simp only
              rw [hxl, find_at ((rightB_iff up.nd).1 hupr).2.2.2.2.1 g3]
              simp only
              rw [if_pos hupr]
              obtain ⟨_, s1, er, hfin, hcase⟩ := cut_up h h1 htk hX hnd S' g2 g3 hi3 g4 e1
              simp only at hfin
              rw [← e2, hfin]
              simp only
              rcases hcase with ⟨rfl, rfl⟩ | ⟨rfl, kx', items', ix', ci⟩
              · simp only [if_true]
                exact ⟨hct.1, trivial, hthere, hct.2⟩
              · rw [if_neg (by decide)]
                simp only [if_true]
                exact ⟨kx', trivial, hthere, items', ix', ci⟩
          · rw [if_neg hk0]
            simp only [if_true]
            exact ⟨hct.1, trivial, hthere, hct.2⟩
      · have hst : standsP (way ++ [last]) rest' = none := by unfold standsP; rw [hgl]; simp only; rw [if_neg hpr]
        rw [hst]
        refine .inl ⟨rfl, fun kv hkv e => ?_⟩
        rcases hmem kv hkv with g | g | ⟨k, g1, g2⟩
        · exact a.other kv (.inl g) e
        · exact a.other kv (.inr g) e
        · rw [g2, S.cut] at e
          exact a.below hpr _ g1 (List.append_cancel_left e)
end
end Go.Proofs.YtdjfbnoolfpcnaaGreatDoor
