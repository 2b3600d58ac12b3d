import Derived.Test.YtjcppneoncpdbaaGreatDoorG01
import Derived.Test.YtjcppneoncpdbaaGreatDoorG06
import Derived.Test.YtjcppneoncpdbaaGreatDoorG11
import Derived.Test.YtjcppneoncpdbaaGreatDoorG12
import Derived.Test.YtjcppneoncpdbaaGreatDoorG27
import Derived.Test.YtjcppneoncpdbaaGreatDoorG28
open List renaming mem_cons_self->Bv,pairwise_cons->NG,mem_cons->D9,mem_cons_of_mem->Bz,mem_range->DY,mem_map->BX,pairwise_map->Kz,getElem_of_mem->CG,append_assoc->AV,mem_append->AL,append_cancel_left->Ec,mem_append_left->BB,mem_singleton->BD,map_cons->Cf,reverse_append->TG,reverse_singleton->Qo,singleton_append->Ru,getElem?_eq_getElem->Ag,nodup_append->CW,mem_flatten->WY,mergeSort_perm->MO,map_map->We,map_congr_left->TE,length_map->CZ,replicate->Bq,getD_eq_getElem?_getD->Bh,ext_getElem->Ew
open UInt64 renaming ofNat->AA,toNat->TF,toNat_lt->VX
open Int renaming toNat_natCast->BQ,ofNat->CE
namespace Go.Proofs.YtjcppneoncpdbaaGreatDoor
theorem Y6{α:Type}{r:α->α->Prop}(hi:∀x,¬r x x)(hs:∀x y,r x y->¬r y x):∀(a b:List α),a.Pairwise r->b.Pairwise r->(∀x,x∈a<->x∈b)->a=b
 | [],[],_,_,_=>rfl
 | [],y::b,_,_,h=>absurd ((h y).2 (Bv ..)) (fun h=>nomatch h)
 | x::a,[],_,_,h=>absurd ((h x).1 (Bv ..)) (fun h=>nomatch h)
 | x::a,y::b,ha,hb,h=>by
   obtain⟨ha1,ha2⟩:=NG.1 ha;obtain⟨hb1,hb2⟩:=NG.1 hb;have e:x=y:=by
    rcases D9.1 ((h x).1 (Bv ..))with e| h1
    ·exact e
    ·rcases D9.1 ((h y).2 (Bv ..))with e| h2
     ·exact e.symm
     ·exact absurd (ha1 y h2) (hs y x (hb1 x h1))
   subst e;refine congrArg (List.cons x) (Y6 hi hs a b ha2 hb2 fun z=> ?_);constructor
   ·intro hz;rcases D9.1 ((h z).1 (Bz _ hz))with e| h1
    ·subst e;exact absurd (ha1 z hz) (hi z)
    ·exact h1
   ·intro hz;rcases D9.1 ((h z).2 (Bz _ hz))with e| h1
    ·subst e;exact absurd (hb1 z hz) (hi z)
    ·exact h1
section
end
section
variable{L:Nat}{s:St}{items items':List Kv}
theorem Rl{w:Nat}{a:Nat}(ok:OkW w):a∈Ox w<->EF w a=true:=by
 unfold Ox;rw [List.mem_filter,DY];refine⟨fun h=>h.2,fun h=>⟨?_,h⟩⟩;obtain⟨c,hc,ha,_⟩:=ok.QA h;rw [hc.class];exact ha
theorem kZ(ok:BG L s)(o:Nat):o∈Jo s<->∃d,Ba s o d:=by
 unfold Jo;rw [List.mem_flatMap];constructor
 ·rintro⟨i,hi,ho⟩;rw [DY,ok.Ot]at hi;obtain⟨a,ha,rfl⟩:=BX.1 ho;exact⟨_,i,a,hi,(Rl (ok.tk i hi)).1 ha,rfl,rfl⟩
 ·rintro⟨d,i,a,hi,ha,rfl,rfl⟩;exact⟨i,by rw [DY,ok.Ot];exact hi,BX.2 ⟨a,(Rl (ok.tk i hi)).2 ha,rfl⟩⟩
theorem Ab9(w:Nat):(Ox w).Pairwise (·<·):=by
 unfold Ox;exact List.Pairwise.filter _ List.pairwise_lt_range
theorem WT(ok:BG L s):(Jo s).Pairwise (·<·):=by
 unfold Jo;rw [List.flatMap_def,List.pairwise_flatten];refine⟨fun l hl=> ?_,?_⟩
 ·obtain⟨i,hi,rfl⟩:=BX.1 hl;rw [DY,ok.Ot]at hi;rw [Kz];refine(Ab9 (Hr s i)).imp_of_mem fun{a b}ha hb hab=> ?_
  obtain⟨c,hc,_,_⟩:=(ok.tk i hi).QA ((Rl (ok.tk i hi)).1 ha);have hc0:0<64*AZ (Bd (Hr s i)):=by
   rw [hc.class];have:=(EI hc.cls).2.1;omega
  unfold CS;have:=Nat.mul_lt_mul_of_pos_left hab hc0;omega
 ·rw [Kz];refine List.pairwise_lt_range.imp_of_mem fun{i j}hi hj hij x hx y hy=> ?_
  rw [DY,ok.Ot]at hi hj;obtain⟨a,ha,rfl⟩:=BX.1 hx;obtain⟨b,hb,rfl⟩:=BX.1 hy;obtain⟨c,hc,ha',_⟩:=(ok.tk i hi).QA ((Rl (ok.tk i hi)).1 ha);rw [hc.class];have:=(LM (sh:=s.sh) (i:=i) hc.cls ha').2;have h2:s.sh.data+1024*j<=CS s.sh j (Bd (Hr s j)) b:=by unfold CS;omega
  have h3:=(EI hc.cls).2.1;omega
end
theorem fK{a b:List Kv}(ha:zF a)(hb:zF b)(h:∀x,x∈a<->x∈b):a=b:=
 Y6 (r:=fun a b:Kv=>Op.bytesLess a.1 b.1=true) (fun x h=>by rw [Gw]at h;cases h) (fun x y h k=>by
  have:=LG _ _ _ h k;rw [Gw]at this;cases this) a b ha hb h
theorem Ae9{l:List Kv}(h:zF l){a b:Kv}(ha:a∈l)(hb:b∈l)(e:a.1=b.1):a=b:=by
 obtain⟨i,hi,rfl⟩:=CG ha;obtain⟨j,hj,rfl⟩:=CG hb;have hr:=List.pairwise_iff_getElem.1 h;rcases Nat.lt_trichotomy i j with h1| h1| h1
 ·have:=hr i j hi hj h1;rw [e,Gw]at this;cases this
 ·subst h1;rfl
 ·have:=hr j i hj hi h1;rw [e,Gw]at this;cases this
section
variable{X:Nat->Prop}{L:Nat}{s:St}{items:List Kv}
theorem rD (h : QL X L s items) (key : List UInt8) (hk : key.length <= 16) : (∃ v, FP s key = (v, 0) /\ (Di key, v) ∈ items /\ v ≠ 0) \/ (FP s key = (0, 7) /\ ∀ kv ∈ items, kv.1 ≠ Di key) := by
  by_cases h0 : s.ws 9 = 0
  · have hi : items = [] := by
      rcases h.tree with ⟨_, h2, _⟩ | ⟨_, h1, _⟩
      · exact h2
      · exact absurd h0 h1
    subst hi
    refine .inr ⟨?_, fun _ h => nomatch h⟩
    unfold FP Gi
    rw [if_neg (by omega), h0, Ee, if_pos rfl]
    rfl
  · rcases h.tree with ⟨h1, _⟩ | ⟨blocks, h1, T, hnd, hX, htk⟩
    · exact absurd h1 h0
    · obtain ⟨way, last, rest', q, rl, nl, parts, A, B, b1, b2, o, hp, a⟩ := around h.ok h1 T hnd key hk
      have S := a.spot
      have hgl : (way ++ [last]).getLast? = some last := by simp
      have hmem : ∀ kv ∈ items, kv ∈ A \/ kv ∈ B \/ ∃ k, (k, kv.2) ∈ BZ last.nd ++ Bj last.nd.pre last.nd.labels parts /\ kv.1 = q ++ k := fun kv hkv => by
        rw [S.its, AV] at hkv
        rcases AL.1 hkv with g | g
        · exact .inl g
        · rcases AL.1 g with g | g
          · exact .inr (.inr (Eb.1 g))
          · exact .inr (.inl g)
      unfold FP
      rw [if_neg (by omega), hp]
      simp only
      by_cases hpr : last.nd.pre = rest'
      · have hst : Dj (way ++ [last]) rest' = some last := by unfold Dj; rw [hgl]; simp only; rw [if_pos hpr]
        rw [hst]
        simp only
        have hkey : Di key = q ++ last.nd.pre := by rw [hpr]; exact S.cut
        by_cases hv : last.nd.val = 0
        · rw [if_pos hv]
          refine .inr ⟨rfl, fun kv hkv e => ?_⟩
          rcases hmem kv hkv with g | g | ⟨k, g1, g2⟩
          · exact a.other kv (.inl g) e
          · exact a.other kv (.inr g) e
          · rcases AL.1 g1 with g1 | g1
            · exact (Fe g1).2 hv
            · obtain ⟨i, i1, i2, kv', _, e2⟩ := EJ g1
              rw [g2, hkey] at e
              have e3 := Ec e
              have e4 : k = last.nd.pre ++ last.nd.labels[i] :: kv'.1 := congrArg Prod.fst e2
              rw [e4] at e3
              have := congrArg List.length e3
              simp at this
        · rw [if_neg hv]
          refine .inl ⟨_, rfl, ?_, hv⟩
          rw [S.its, AV]
          refine List.mem_append_right _ (BB _ (Eb.2 ⟨last.nd.pre, BB _ ?_, hkey⟩))
          unfold BZ
          rw [if_pos hv]
          exact BD.2 rfl
      · have hst : Dj (way ++ [last]) rest' = none := by unfold Dj; rw [hgl]; simp only; rw [if_neg hpr]
        rw [hst]
        refine .inr ⟨rfl, fun kv hkv e => ?_⟩
        rcases hmem kv hkv with g | g | ⟨k, g1, g2⟩
        · exact a.other kv (.inl g) e
        · exact a.other kv (.inr g) e
        · rw [g2, S.cut] at e
          exact a.below hpr _ g1 (Ec e)
end
structure Dc(L:Nat)(s:St)(items:List Kv)(ch:List UInt8->List Lk):Prop where
 ix:QL (fun o=>∃kv∈items,o∈Hm (ch kv.1)) L s items
 chain:∀kv∈items,EK s kv.2 (ch kv.1)/\kv.2≠0
 none:∀k,(∀kv∈items,kv.1≠k)->ch k=[]
 kL:∀kv∈items,∀kv'∈items,kv.1≠kv'.1->∀o∈Hm (ch kv.1),o∉Hm (ch kv'.1)
def Iq(ch:List UInt8->List Lk)(k:List UInt8)(x:Lk):List UInt8->List Lk:=fun k'=>if k'=k then x::ch k' else ch k'
def DV(s:St)(stamp:UInt64)(y:Wr):St×UInt64×UInt64×Int:=
 if(FP s y.key.data.toList).2≠0/\(FP s y.key.data.toList).2≠7 then(s,0,0,(FP s y.key.data.toList).2)else
 if y.gone=true/\(FP s y.key.data.toList).1=0 then(s,0,0,0)else
 if(GI s ⟨stamp,(FP s y.key.data.toList).1,y.gone,y.text⟩).2.2≠0 then((GI s ⟨stamp,(FP s y.key.data.toList).1,y.gone,y.text⟩).1,0,0,(GI s ⟨stamp,(FP s y.key.data.toList).1,y.gone,y.text⟩).2.2)else
 if(GX (GI s ⟨stamp,(FP s y.key.data.toList).1,y.gone,y.text⟩).1 y.key.data.toList (GI s ⟨stamp,(FP s y.key.data.toList).1,y.gone,y.text⟩).2.1).2≠0 then
  ((Fj (GX (GI s ⟨stamp,(FP s y.key.data.toList).1,y.gone,y.text⟩).1 y.key.data.toList (GI s ⟨stamp,(FP s y.key.data.toList).1,y.gone,y.text⟩).2.1).1 (Be (GI s ⟨stamp,(FP s y.key.data.toList).1,y.gone,y.text⟩).2.1)).1,0,0,
    (GX (GI s ⟨stamp,(FP s y.key.data.toList).1,y.gone,y.text⟩).1 y.key.data.toList (GI s ⟨stamp,(FP s y.key.data.toList).1,y.gone,y.text⟩).2.1).2)else
 ((GX (GI s ⟨stamp,(FP s y.key.data.toList).1,y.gone,y.text⟩).1 y.key.data.toList (GI s ⟨stamp,(FP s y.key.data.toList).1,y.gone,y.text⟩).2.1).1,(FP s y.key.data.toList).1,(GI s ⟨stamp,(FP s y.key.data.toList).1,y.gone,y.text⟩).2.1,0)
def OQ(s s':St):Prop:=s'.sh=s.sh/\∀j,j<16->j≠9->s'.ws j=s.ws j
theorem OQ.refl(s:St):OQ s s:=⟨rfl,fun _ _ _=>rfl⟩
theorem OQ.trans{s s' s'':St}(h:OQ s s')(k:OQ s' s''):OQ s s'':=⟨k.1.trans h.1,fun j h1 h2=>(k.2 j h1 h2).trans (h.2 j h1 h2)⟩
theorem QM.Ah6{X:Nat->Prop}{s s':St}(h:QM X s s'):OQ s s':=⟨h.sh,h.low⟩
section
variable{L:Nat}{s:St}{items:List Kv}{ch:List UInt8->List Lk}
theorem Dc.key(h:Dc L s items ch){a b:Kv}(ha:a∈items)(hb:b∈items)(e:a.1=b.1):a=b:=Ae9 h.ix.up ha hb e
theorem yw (h : Dc L s items ch) {k : List UInt8} {lk : Lk} {s1 s2 : St} {o : Nat} (ho : lk.off = o) (hr : DU lk.rc = true) (uS : o <= 65536) (h0 : 0 < o) (hnx : ¬ ∃ kv ∈ items, o ∈ Hm (ch kv.1)) (hv : EK s lk.rc.next (ch k)) (hst : ∀ x ∈ ch k, x.rc.stamp.toNat < lk.rc.stamp.toNat)
    (k1 : FH s s1 (fun _ => True)) (ht : Ba s1 o 1) (hw : wordsAt s1.ws (o / 8) 8 = CJ lk.rc) {items' : List Kv} (k2 : FH s1 s2 (fun p => (∃ kv ∈ items, p ∈ Hm (ch kv.1)) \/ p = o)) (ix : QL (fun p => (∃ kv ∈ items, p ∈ Hm (ch kv.1)) \/ p = o) L s2 items') (hp : kV items items' k (AA o)) :
    Dc L s2 items' (Iq ch k lk) := by
  have hkey : ∀ kv ∈ items', (kv = (k, AA o)) \/ (kv ∈ items /\ kv.1 ≠ k) := fun kv hkv => (hp kv).1 hkv
  have hin : (k, AA o) ∈ items' := (hp _).2 (.inl rfl)
  have hother : ∀ kv ∈ items, kv.1 ≠ k -> Iq ch k lk kv.1 = ch kv.1 := fun kv _ hne => by unfold Iq; rw [if_neg hne]
  have hself : Iq ch k lk k = lk :: ch k := by unfold Iq; rw [if_pos rfl]
  have hlo : Hm (lk :: ch k) = o :: Hm (ch k) := by unfold Hm; rw [Cf, ho, BQ]
  have hold : ∀ p ∈ Hm (ch k), ∃ kv ∈ items, p ∈ Hm (ch kv.1) := fun p hpm => by
    by_cases hh : ∀ kv ∈ items, kv.1 ≠ k
    · rw [h.none k hh] at hpm; cases hpm
    · obtain ⟨kv, h1⟩ := Classical.not_forall.1 hh
      obtain ⟨h2, h3⟩ := Classical.not_imp.1 h1
      exact ⟨kv, h2, by rw [Classical.not_not.1 h3]; exact hpm⟩
  have hcon : ∀ kv ∈ items, kv.1 = k -> ∀ p ∈ Hm (ch kv.1), p ∈ Hm (ch k) := fun kv _ e p hp => by rw [<- e]; exact hp
  refine ⟨ix.congr fun p => ?_, fun kv hkv => ?_, fun k' hk' => ?_, fun a ha b hb hab p hpa hpb => ?_⟩
  · constructor
    · rintro (⟨kv, h1, h2⟩ | rfl)
      · by_cases e : kv.1 = k
        · exact ⟨_, hin, by rw [hself, hlo]; exact Bz _ (hcon kv h1 e p h2)⟩
        · exact ⟨kv, (hp kv).2 (.inr ⟨h1, e⟩), by rw [hother kv h1 e]; exact h2⟩
      · exact ⟨_, hin, by rw [hself, hlo]; exact Bv ..⟩
    · rintro ⟨kv, h1, h2⟩
      rcases hkey kv h1 with rfl | ⟨h3, h4⟩
      · rw [hself, hlo] at h2
        rcases D9.1 h2 with h2 | h2
        · exact .inr h2
        · exact .inl (hold p h2)
      · rw [hother kv h3 h4] at h2
        exact .inl ⟨kv, h3, h2⟩
  · rcases hkey kv hkv with rfl | ⟨h3, h4⟩
    · rw [hself]
      refine ⟨?_, fun e => ?_⟩
      · obtain ⟨t1, t2⟩ := k2 o 1 (.inr rfl) ht
        have hw2 := Tf (o := o) (c := 1) t2
        rw [show 8 * AZ 1 = 8 from rfl, hw] at hw2
        have hc := (hv.keep k1 (fun _ _ => trivial)).keep k2 (fun p hp => .inl (hold p hp))
        have := EK.cons o lk.rc (ch k) t1 hr hw2 hc hst
        rw [<- ho] at this
        exact this
      · have := congrArg TF e
        rw [D8 (by omega)] at this
        simp at this
        omega
    · rw [hother kv h3 h4]
      exact ⟨((h.chain kv h3).1.keep k1 (fun _ _ => trivial)).keep k2 (fun p hp => .inl ⟨kv, h3, hp⟩), (h.chain kv h3).2⟩
  · have hne : k' ≠ k := fun e => hk' _ hin e.symm
    unfold Iq
    rw [if_neg hne]
    refine h.none k' (fun kv hkv e => ?_)
    exact hk' kv ((hp kv).2 (.inr ⟨hkv, by rw [e]; exact hne⟩)) e
  · have key : ∀ c : Kv, c ∈ items -> c.1 ≠ k -> ∀ p, p ∈ Hm (ch c.1) -> p ∈ o :: Hm (ch k) -> False := fun c hc hck p h1 h2 => by
      rcases D9.1 h2 with rfl | h2
      · exact hnx ⟨c, hc, h1⟩
      · obtain ⟨kv, g1, g2⟩ := hold p h2
        by_cases hh : ∀ kv ∈ items, kv.1 ≠ k
        · rw [h.none k hh] at h2; cases h2
        · obtain ⟨kv, h1'⟩ := Classical.not_forall.1 hh
          obtain ⟨h3, h4⟩ := Classical.not_imp.1 h1'
          have h4 := Classical.not_not.1 h4
          exact h.kL c hc kv h3 (by rw [h4]; exact hck) p h1 (by rw [h4]; exact h2)
    rcases hkey a ha with rfl | ⟨a1, a2⟩
    · rcases hkey b hb with rfl | ⟨b1, b2⟩
      · exact hab rfl
      · rw [hself, hlo] at hpa
        rw [hother b b1 b2] at hpb
        exact key b b1 b2 p hpb hpa
    · rw [hother a a1 a2] at hpa
      rcases hkey b hb with rfl | ⟨b1, b2⟩
      · rw [hself, hlo] at hpb
        exact key a a1 a2 p hpa hpb
      · rw [hother b b1 b2] at hpb
        exact h.kL a a1 b b1 hab p hpa hpb
theorem Dc.keep(h:Dc L s items ch){s':St}(k:FH s s' (fun p=>∃kv∈items,p∈Hm (ch kv.1)))(ix:QL (fun p=>∃kv∈items,p∈Hm (ch kv.1)) L s' items):Dc L s' items ch:=
 ⟨ix,fun kv hkv=>⟨(h.chain kv hkv).1.keep k (fun _ hp=>⟨kv,hkv,hp⟩),(h.chain kv hkv).2⟩,h.none,h.kL⟩
def Afa(L:Nat)(s:St)(items:List Kv)(ch:List UInt8->List Lk)(stamp:UInt64)(y:Wr)(r:St×UInt64×UInt64×Int):Prop:=
 OQ s r.1/\((r.2=(0,0,6)/\Dc L r.1 items ch)\/
  (r=(s,0,0,0)/\y.gone=true/\∀kv∈items,kv.1≠Di y.key.data.toList)\/
  (∃o v items',r.2=(v,AA o,0)/\0<o/\o<=65536/\((v=0/\y.gone=false/\∀kv∈items,kv.1≠Di y.key.data.toList)\/(v≠0/\(Di y.key.data.toList,v)∈items))/\
   Dc L r.1 items' (Iq ch (Di y.key.data.toList) ⟨o,⟨stamp,v,y.gone,y.text⟩⟩)/\kV items items' (Di y.key.data.toList) (AA o)))
theorem Uw(h:Dc L s items ch)(stamp:UInt64)(y:Wr)(hy:Dk y=true)(hs0:stamp.toNat≠0)(hst:∀x∈ch (Di y.key.data.toList),x.rc.stamp.toNat<stamp.toNat):Afa L s items ch stamp y (DV s stamp y):=by
 have hyk:y.key.data.toList.length<=16/\y.text.size<=40/\(y.gone=true->y.text.size=0):=by
  unfold Dk at hy;simp only [Bool.and_eq_true,decide_eq_true_eq,Bool.or_eq_true,Bool.not_eq_true']at hy;exact⟨hy.1.1,hy.1.2,fun hg=>hy.2.resolve_left (by rw [hg];simp)⟩
 have hget:∃v e,FP s y.key.data.toList=(v,e)/\¬(e≠0/\e≠7)/\((v=0/\∀kv∈items,kv.1≠Di y.key.data.toList)\/(v≠0/\(Di y.key.data.toList,v)∈items))/\EK s v (ch (Di y.key.data.toList)):=by
  rcases rD h.ix y.key.data.toList hyk.1 with⟨v,e,hm,hv⟩| ⟨e,hn⟩
  ·exact⟨v,0,e,by simp,.inr ⟨hv,hm⟩,(h.chain _ hm).1⟩
  ·exact⟨0,7,e,by simp,.inl ⟨rfl,hn⟩,by rw [h.none _ hn];exact .nil⟩
 obtain⟨v,e,hg,he,hcase,hch⟩:=hget;unfold DV;rw [hg];simp only;rw [if_neg he];by_cases hgv:y.gone=true/\v=0
 ·rw [if_pos hgv];exact⟨OQ.refl s,.inr (.inl ⟨rfl,hgv.1,(hcase.resolve_right (fun h=>h.1 hgv.2)).2⟩)⟩
 ·rw [if_neg hgv];have hr:DU ⟨stamp,v,y.gone,y.text⟩=true:=(JC _).2 ⟨hs0,hyk.2.1,hyk.2.2⟩;rcases Ab4 h.ix ⟨stamp,v,y.gone,y.text⟩ hr with ea| ⟨s1,o,ea,_,hnt,hnX,uS,ho0,ht1,hw1,ix1,k1,sh1,An6⟩
  ·rw [ea];simp only;rw [if_pos (by decide)];exact⟨OQ.refl s,.inl ⟨rfl,h⟩⟩
  ·rw [ea];simp only;rw [if_neg (by simp)];have hone:AA o≠0:=fun e=>by
    have:=congrArg TF e;rw [D8 (by omega)]at this;simp at this;omega
   have hL1:OQ s s1:=⟨sh1,fun j hj _=>An6 j hj⟩;obtain⟨kx,hput⟩:=qV ix1 y.key.data.toList hyk.1 (AA o) hone;generalize GX s1 y.key.data.toList (AA o)=rp at kx hput;obtain⟨s2,e2⟩:=rp;simp only at kx hput⊢;rcases hput with⟨rfl,qU,_⟩| ⟨rfl,items',qU,hp⟩
   ·rw [if_pos (by decide)];obtain⟨s3,e3,ix3,k3,sh3,An7⟩:=Ab5 qU (o:=o) (.inr rfl);have hof:Be (AA o)=o:=LP (by omega);rw [hof,e3];refine⟨(hL1.trans kx.Ah6).trans ⟨sh3,fun j hj _=>An7 j hj⟩,.inl ⟨rfl,?_⟩⟩;have kk:FH s s3 (fun p=>∃kv∈items,p∈Hm (ch kv.1)):=fun p c hp ht=>by
     obtain⟨u1,u2⟩:=k1 p c trivial ht;obtain⟨u3,u4⟩:=kx.keep p c (.inl hp) u1;obtain⟨u5,u6⟩:=k3 p c (fun e=>hnX (e▸hp)) u3;exact⟨u5,fun j hj=>((u6 j hj).trans (u4 j hj)).trans (u2 j hj)⟩
    refine h.keep kk (ix3.congr fun p=> ?_);constructor
    ·rintro⟨h1| h1,h2⟩
     ·exact h1
     ·exact absurd h1 h2
    ·exact fun h1=>⟨.inl h1,fun e=>hnX (e▸h1)⟩
   ·rw [if_neg (by simp)];refine⟨hL1.trans kx.Ah6,.inr (.inr ⟨o,v,items',rfl,ho0,uS,?_,?_,hp⟩)⟩
    ·rcases hcase with⟨h1,h2⟩| ⟨h1,h2⟩
     ·exact .inl ⟨h1,by cases hgn:y.gone with
      | false=>rfl
      | true=>exact absurd ⟨hgn,h1⟩ hgv,h2⟩
     ·exact .inr ⟨h1,h2⟩
    ·exact yw h (k:=Di y.key.data.toList) (lk:=⟨o,⟨stamp,v,y.gone,y.text⟩⟩) rfl hr uS ho0 hnX hch hst k1 ht1 hw1 kx.keep qU hp
end
section
variable{L:Nat}{s:St}{items items':List Kv}{ch:List UInt8->List Lk}
theorem rE{s:St}{L:Nat}(ok:BG L s){v:UInt64}{k:Lk}{l:List Lk}(h:EK s v (k::l)):∃o:Nat,k.off=o/\v=AA o/\Ba s o 1/\DU k.rc=true/\wordsAt s.ws (o/8) 8=CJ k.rc/\EK s k.rc.next l/\(∀x∈l,x.rc.stamp.toNat<k.rc.stamp.toNat)/\0<o/\o<=65536:=by
 cases h with
 | cons o r l ht hr hw hn hs=>
   have hb:=ht.bounds ok;have h1:=ok.sh.NR;have h2:=ok.L1;exact⟨o,rfl,rfl,ht,hr,hw,hn,hs,by omega,by omega⟩
def Jg(s:St)(key:List UInt8)(v:UInt64):St×Int:=if v=0 then((Nh s key).1,(Nh s key).2.2)else GX s key v
theorem aS {s0 : St} (h0 : Dc L s0 items ch) {key : ByteArray} (hk : key.size <= 16) {lk : Lk} {o : Nat} (ho : lk.off = o) (hp : kV items items' (Di key.data.toList) (AA o)) (h : Dc L s items' (Iq ch (Di key.data.toList) lk))
    (hcase : (lk.rc.next = 0 /\ ∀ kv ∈ items, kv.1 ≠ Di key.data.toList) \/ (lk.rc.next ≠ 0 /\ (Di key.data.toList, lk.rc.next) ∈ items)) :
    ∃ s1 s2, Jg s key.data.toList lk.rc.next = (s1, 0) /\ Fj s1 o = (s2, 0) /\ Dc L s2 items ch /\ OQ s s2 := by
  have hkl : key.data.toList.length <= 16 := hk
  obtain ⟨k, hkk⟩ : ∃ k, k = Di key.data.toList := ⟨_, rfl⟩
  rw [<- hkk] at hp h hcase
  have hin : (k, AA o) ∈ items' := (hp _).2 (.inl rfl)
  have hself : Iq ch k lk k = lk :: ch k := by unfold Iq; rw [if_pos rfl]
  have hother : ∀ k', k' ≠ k -> Iq ch k lk k' = ch k' := fun k' hne => by unfold Iq; rw [if_neg hne]
  have hlo : Hm (lk :: ch k) = o :: Hm (ch k) := by unfold Hm; rw [Cf, ho, BQ]
  have hc := (h.chain _ hin).1
  simp only [hself] at hc
  obtain ⟨o', ho', _, _, _, _, hnext, _, _, _⟩ := rE h.ix.ok hc
  have hnd := hc.nodup.1
  rw [hlo] at hnd
  obtain ⟨hn1, _⟩ := List.nodup_cons.1 hnd
  -- the places of the elder versions
  have hsub : ∀ p, (∃ kv ∈ items, p ∈ Hm (ch kv.1)) -> (∃ kv ∈ items', p ∈ Hm (Iq ch k lk kv.1)) /\ p ≠ o := fun p ⟨kv, h1, h2⟩ => by
    by_cases e : kv.1 = k
    · rw [e] at h2
      exact ⟨⟨_, hin, by rw [hself, hlo]; exact Bz _ h2⟩, fun e2 => hn1 (e2 ▸ h2)⟩
    · refine ⟨⟨kv, (hp kv).2 (.inr ⟨h1, e⟩), by rw [hother _ e]; exact h2⟩, fun e2 => ?_⟩
      subst e2
      exact h.kL _ hin kv ((hp kv).2 (.inr ⟨h1, e⟩)) (fun e3 => e e3.symm) p (by rw [hself, hlo]; exact Bv ..) (by rw [hother _ e]; exact h2)
  have hsub2 : ∀ p, (∃ kv ∈ items', p ∈ Hm (Iq ch k lk kv.1)) /\ p ≠ o -> ∃ kv ∈ items, p ∈ Hm (ch kv.1) := fun p ⟨⟨kv, h1, h2⟩, h3⟩ => by
    rcases (hp kv).1 h1 with rfl | ⟨h4, h5⟩
    · rw [hself, hlo] at h2
      have h2 := (D9.1 h2).resolve_left h3
      rcases hcase with ⟨g1, g2⟩ | ⟨g1, g2⟩
      · rw [h0.none k g2] at h2; cases h2
      · exact ⟨_, g2, h2⟩
    · rw [hother _ h5] at h2
      exact ⟨kv, h4, h2⟩
  -- the index as it was
  have hidx : ∃ s1, Jg s key.data.toList lk.rc.next = (s1, 0) /\ QM (fun p => ∃ kv ∈ items', p ∈ Hm (Iq ch k lk kv.1)) s s1 /\ QL (fun p => ∃ kv ∈ items', p ∈ Hm (Iq ch k lk kv.1)) L s1 items := by
    unfold Jg
    rcases hcase with ⟨g1, g2⟩ | ⟨g1, g2⟩
    · rw [if_pos g1]
      rcases Ah5 h.ix key.data.toList hkl with ⟨e, hno⟩ | ⟨kx, e, hm, rF, qU, hcut⟩
      · exact absurd hkk (hno _ hin)
      · refine ⟨(Nh s key.data.toList).1, by rw [e], kx, ?_⟩
        have : rF = items := fK qU.up h0.ix.up (fun x => by
          rw [hcut x, hp x, <- hkk]
          constructor
          · rintro ⟨rfl | ⟨h1, _⟩, h2⟩
            · exact absurd rfl h2
            · exact h1
          · exact fun h1 => ⟨.inr ⟨h1, g2 x h1⟩, g2 x h1⟩)
        rw [<- this]; exact qU
    · rw [if_neg g1]
      obtain ⟨kx, hput⟩ := qV h.ix key.data.toList hkl lk.rc.next g1
      generalize GX s key.data.toList lk.rc.next = rp at kx hput
      obtain ⟨s1, e⟩ := rp
      simp only at kx hput
      rcases hput with ⟨_, _, hno⟩ | ⟨rfl, rF, qU, hpp⟩
      · exact absurd hkk (hno _ hin)
      · refine ⟨s1, rfl, kx, ?_⟩
        have : rF = items := fK qU.up h0.ix.up (fun x => by
          rw [hpp x, hp x, <- hkk]
          constructor
          · rintro (rfl | ⟨rfl | ⟨h1, _⟩, h2⟩)
            · exact g2
            · exact absurd rfl h2
            · exact h1
          · intro h1
            by_cases e : x.1 = k
            · exact .inl (h0.key h1 g2 e)
            · exact .inr ⟨.inr ⟨h1, e⟩, e⟩)
        rw [<- this]; exact qU
  obtain ⟨s1, e1, kx, ix1⟩ := hidx
  obtain ⟨s2, e2, qU, k2, mZ, An8⟩ := Ab5 ix1 (o := o) ⟨_, hin, by rw [hself, hlo]; exact Bv ..⟩
  have kk : ∀ B : Nat -> Prop, (∀ p, B p -> ∃ kv ∈ items, p ∈ Hm (ch kv.1)) -> FH s s2 B := fun B hB p c hp ht => by
    obtain ⟨g1, g2⟩ := hsub p (hB p hp)
    obtain ⟨u1, u2⟩ := kx.keep p c g1 ht
    obtain ⟨u3, u4⟩ := k2 p c g2 u1
    exact ⟨u3, fun j hj => (u4 j hj).trans (u2 j hj)⟩
  refine ⟨s1, s2, e1, e2, ⟨qU.congr fun p => ⟨hsub2 p, hsub p⟩, fun kv hkv => ⟨?_, (h0.chain kv hkv).2⟩, h0.none, h0.kL⟩, kx.Ah6.trans ⟨mZ, fun j hj _ => An8 j hj⟩⟩
  refine EK.keep (s := s) ?_ (kk _ (fun _ h => h)) (fun p hp => ⟨kv, hkv, hp⟩)
  by_cases e : kv.1 = k
  · have hv : kv.2 = lk.rc.next := by
      rcases hcase with ⟨_, g2⟩ | ⟨_, g2⟩
      · exact absurd e (g2 kv hkv)
      · exact congrArg Prod.snd (h0.key hkv g2 e)
    rw [hv, e]
    exact hnext
  · have := (h.chain kv ((hp kv).2 (.inr ⟨hkv, e⟩))).1
    rw [hother _ e] at this
    exact this
abbrev Past:=ByteArray×UInt64×UInt64
def La(s:St):List Past->St
 | []=>s
 | (key,v,place)::l=>if place=0 then La s l else if(Jg s key.data.toList v).2≠0 then(Jg s key.data.toList v).1 else La (Fj (Jg s key.data.toList v).1 (Be place)).1 l
inductive Hist(L:Nat)(items:List Kv)(ch:List UInt8->List Lk):List Past->List Kv->(List UInt8->List Lk)->Prop
 | nil:Hist L items ch [] items ch
 | skip{l:List Past}{it:List Kv}{c:List UInt8->List Lk}(key:ByteArray):Hist L items ch l it c->Hist L items ch (l++[(key,0,0)]) it c
 | add{l:List Past}{it it':List Kv}{c:List UInt8->List Lk}{key:ByteArray}{lk:Lk}{o:Nat}{s0:St}:Hist L items ch l it c->Dc L s0 it c->key.size<=16->lk.off=o->0<o->o<=65536->kV it it' (Di key.data.toList) (AA o)->
  ((lk.rc.next=0/\∀kv∈it,kv.1≠Di key.data.toList)\/(lk.rc.next≠0/\(Di key.data.toList,lk.rc.next)∈it))->Hist L items ch (l++[(key,lk.rc.next,AA o)]) it' (Iq c (Di key.data.toList) lk)
theorem Afb{l:List Past}{it:List Kv}{c:List UInt8->List Lk}(h:Hist L items ch l it c):∀{s:St},Dc L s it c->Dc L (La s l.reverse) items ch/\OQ s (La s l.reverse):=by
 induction h with
 | nil=>exact fun hs=>⟨hs,OQ.refl _⟩
 | skip key _ ih=>
   intro s hs;rw [TG,Qo,Ru,La,if_pos rfl];exact ih hs
 | add _ h0 hk ho h1 h2 hp hcase ih=>
   intro s hs;rename_i o _ _;obtain⟨s1,s2,e1,e2,hs2,hl2⟩:=aS h0 hk ho hp hs hcase;have hne:AA o≠0:=fun e=>by
    have:=congrArg TF e;rw [D8 (by omega)]at this;simp at this;omega
   rw [TG,Qo,Ru,La,if_neg hne,e1];simp only;rw [if_neg (by simp),LP h2,e2];obtain⟨g1,g2⟩:=ih hs2;exact⟨g1,hl2.trans g2⟩
end
theorem EK.len{s:St}{v:UInt64}{l:List Lk}(h:EK s v l):∀b:Nat,(∀k∈l,k.rc.stamp.toNat<b)->l.length<=b:=by
 induction h with
 | nil=>intro b _;exact Nat.zero_le _
 | cons o r l _ _ _ _ hs ih=>
   intro b hb;have h1:=ih r.stamp.toNat hs;have h2:r.stamp.toNat<b:=hb _ (Bv ..);rw [List.length_cons];omega
theorem EK.listed{L:Nat}{s:St}(ok:BG L s){v:UInt64}{l:List Lk}(h:EK s v l):NM s v=some l:=by
 have:=h.list ok 18446744073709551618 [] (Nat.lt_of_le_of_lt (h.len 18446744073709551616 (fun k _=>VX _)) (by decide)) (fun k _=>VX _);rw [List.nil_append]at this;exact this
structure rG where
 s:St
 done:List Past
 over:Bool
 end_:Int
def MC(stamp:UInt64)(set:List Wr)(j:rG):rG×Bool×Int:=
 if j.over=true then(j,true,j.end_)else
 match set[j.done.length]? with
 | some y=>if(DV j.s stamp y).2.2.2≠0 then(⟨La (DV j.s stamp y).1 j.done.reverse,j.done,true,(DV j.s stamp y).2.2.2⟩,true,(DV j.s stamp y).2.2.2)else
  (⟨(DV j.s stamp y).1,j.done++[(y.key,(DV j.s stamp y).2.1,(DV j.s stamp y).2.2.1)],false,0⟩,false,0)
 | none=>(⟨{j.s with ws:=FO j.s.ws 8 stamp},j.done,true,0⟩,true,0)
section
variable{L:Nat}{s:St}{items:List Kv}{ch:List UInt8->List Lk}
theorem Dc.slot(h:Dc L s items ch)(v:UInt64):Dc L {s with ws:=FO s.ws 8 v} items ch:=by
 have hw:∀j,16<=j->FO s.ws 8 v j=s.ws j:=fun j hj=>by unfold FO;rw [if_neg (by omega)]
 have ok':BG L {s with ws:=FO s.ws 8 v}:=h.ix.ok.words (fun i _=>hw _ (by omega));have kt:FH s {s with ws:=FO s.ws 8 v} (fun _=>True):=fun o c _ ht=>⟨ht,fun j hj=>hw j (by have:=h.ix.ok.DC (ht.bounds h.ix.ok).1 hj;omega)⟩
 exact h.keep (kt.mono (fun _ _=>trivial)) (h.ix.same ok' h.ix.nh (fun _=>Iff.rfl) kt (by show FO s.ws 8 v 9=_;unfold FO;rw [if_neg (by decide)]))
theorem Aca{a b:List UInt8}(h:Di a=Di b):a=b:=by rw [<-Sr a,h,Sr]
structure aT(L:Nat)(s0:St)(items:List Kv)(ch:List UInt8->List Lk)(stamp:UInt64)(set:List Wr)(j:rG):Prop where
 it:∃it c,Hist L items ch j.done it c/\Dc L j.s it c/\(∀i,j.done.length<=i->∀y,set[i]? =some y->c (Di y.key.data.toList)=ch (Di y.key.data.toList))/\(∀k,∀x∈c k,x.rc.stamp.toNat<=stamp.toNat)
 low:OQ s0 j.s
 len:j.done.length<=set.length
 run:j.over=false/\j.end_=0
theorem yz(h:Dc L s items ch)(stamp:UInt64)(set:List Wr)(hst:∀k,∀x∈ch k,x.rc.stamp.toNat<stamp.toNat):aT L s items ch stamp set ⟨s,[],false,0⟩:=
 ⟨⟨items,ch,.nil,h,fun _ _ _ _=>rfl,fun k x hx=>Nat.le_of_lt (hst k x hx)⟩,OQ.refl s,Nat.zero_le _,rfl,rfl⟩
theorem step_ok{s0:St}{stamp:UInt64}{set:List Wr}{j:rG}(h:aT L s0 items ch stamp set j)(hr:∀y∈set,Dk y=true)(hu:XW set)(hs0:stamp.toNat≠0)(hst:∀k,∀x∈ch k,x.rc.stamp.toNat<stamp.toNat):
 (j.done.length<set.length/\(MC stamp set j).2=(false,0)/\(MC stamp set j).1.done.length=j.done.length+1/\aT L s0 items ch stamp set (MC stamp set j).1)\/
 (j.done.length<set.length/\(MC stamp set j).2=(true,6)/\(MC stamp set j).1.over=true/\Dc L (MC stamp set j).1.s items ch/\OQ s0 (MC stamp set j).1.s)\/
 (j.done.length=set.length/\(MC stamp set j).2=(true,0)/\(MC stamp set j).1.over=true/\(MC stamp set j).1.s.ws 8=stamp/\(MC stamp set j).1.s.sh=s0.sh/\(∀i,i<16->i≠8->i≠9->(MC stamp set j).1.s.ws i=s0.ws i)/\∃it c,Dc L (MC stamp set j).1.s it c/\∀k,∀x∈c k,x.rc.stamp.toNat<=stamp.toNat):=by
 obtain⟨⟨it,c,hh,hs,hc,hle⟩,hlow,hlen,hrun,hend⟩:=h;unfold MC;rw [if_neg (by rw [hrun];decide)];by_cases hlt:j.done.length<set.length
 ·rw [Ag hlt];simp only;obtain⟨y,hy⟩:∃y,y=set[j.done.length]:=⟨_,rfl⟩;rw [<-hy];have hyr:Dk y=true:=hr y (hy▸List.getElem_mem hlt);have hyk:y.key.size<=16:=by
   unfold Dk at hyr;simp only [Bool.and_eq_true,decide_eq_true_eq]at hyr;exact hyr.1.1
  have hcy:=hc j.done.length (Nat.le_refl _) y (by rw [hy];exact Ag hlt);have hother:∀i,j.done.length+1<=i->∀z,set[i]? =some z->Di z.key.data.toList≠Di y.key.data.toList:=fun i hi z hz e=>by
   obtain⟨hil,hz⟩:=List.getElem?_eq_some_iff.1 hz;have:=hu.lt hlt hil hi;rw [hz,<-hy]at this;unfold FK at this;rw [ByteArray.toList_eq,ByteArray.toList_eq,Aca e,Gw]at this;cases this
  obtain⟨lw,hw⟩:=Uw hs stamp y hyr hs0 (fun x hx=>by rw [hcy]at hx;exact hst _ x hx);rcases hw with⟨e,hs'⟩| ⟨e,hg,hno⟩| ⟨o,v,it',e,ho0,uS,hcase,hs',hp⟩
  ·right;left;have e4:(DV j.s stamp y).2.2.2=6:=by rw [e]
   rw [if_pos (by rw [e4];decide),e4];obtain⟨g1,g2⟩:=Afb hh hs';exact⟨hlt,rfl,rfl,g1,(hlow.trans lw).trans g2⟩
  ·left;rw [e];rw [if_neg (by simp)];refine⟨hlt,rfl,by simp,⟨⟨it,c,.skip y.key hh,hs,fun i hi z hz=>hc i (by simp at hi;omega) z hz,hle⟩,hlow,by simp;omega,rfl,rfl⟩⟩
  ·left;obtain⟨s',hs1⟩:∃s',s'=(DV j.s stamp y).1:=⟨_,rfl⟩;rw [<-hs1]at lw hs'⊢;rw [e];rw [if_neg (by simp)];refine⟨hlt,rfl,by simp,⟨⟨it',_,Hist.add (lk:=⟨o,⟨stamp,v,y.gone,y.text⟩⟩) hh hs hyk rfl ho0 uS hp ?_,hs',fun i hi z hz=> ?_,fun k x hx=> ?_⟩,hlow.trans lw,by simp;omega,rfl,rfl⟩⟩
   ·rcases hcase with⟨g1,_,g2⟩| g
    ·exact .inl ⟨g1,g2⟩
    ·exact .inr g
   ·have hi':j.done.length+1<=i:=by simpa using hi
    unfold Iq;rw [if_neg (hother i hi' z hz)];exact hc i (by omega) z hz
   ·unfold Iq at hx;split at hx
    ·rcases D9.1 hx with rfl| hx
     ·exact Nat.le_refl _
     ·exact hle k x hx
    ·exact hle k x hx
 ·right;right;rw [List.getElem?_eq_none (by omega)];refine⟨by omega,rfl,rfl,by show FO j.s.ws 8 stamp 8=_;unfold FO;rw [if_pos rfl],hlow.1,fun i h1 h2 h3=> ?_,it,c,hs.slot stamp,hle⟩;show FO j.s.ws 8 stamp i=_;unfold FO;rw [if_neg h2];exact hlow.2 i h1 h3
end
theorem EK.An9{s:St}{v:UInt64}{l:List Lk}(h:EK s v l):l.map (·.off)=(Hm l).map CE:=by
 induction h with
 | nil=>rfl
 | cons o r l _ _ _ _ _ ih=>
   unfold Hm at ih⊢;rw [Cf,Cf,Cf,ih];rfl
theorem lh{s:St}{ch:List UInt8->List Lk}{f:Kv->List UInt8×UInt64}(hf:∀kv,(f kv).2=kv.2):∀(l:List Kv)(acc:List Int),(∀kv∈l,NM s kv.2=some (ch kv.1))->Ht s (l.map f) acc=some (acc++(l.map fun kv=>(ch kv.1).map (·.off)).flatten)
 | [],acc,_=>by simp [Ht]
 | kv::t,acc,h=>by
   rw [Cf,Ht,hf,h kv (Bv ..)];simp only;rw [lh hf t _ (fun x hx=>h x (Bz _ hx))];simp
theorem uT:∀{l:List Int},l.Pairwise (fun x y=>x<y)->Nk l=true
 | [],_=>rfl
 | [_],_=>rfl
 | a::b::t,h=>by
   obtain⟨h1,h2⟩:=NG.1 h;have h3:=h1 b (Bv ..);unfold Nk;rw [uT h2,Bool.and_true,Bool.not_eq_true',beq_eq_false_iff_ne];omega
theorem Y7{ch:List UInt8->List Lk}:∀(l:List Kv),l.Pairwise (fun a b=>a.1≠b.1)->(∀kv∈l,(Hm (ch kv.1)).Nodup)->(∀a∈l,∀b∈l,a.1≠b.1->∀o∈Hm (ch a.1),o∉Hm (ch b.1))->((l.map fun kv=>Hm (ch kv.1)).flatten).Nodup
 | [],_,_,_=>List.nodup_nil
 | kv::t,h,hn,hd=>by
   obtain⟨h1,h2⟩:=NG.1 h;rw [Cf,List.flatten_cons];refine CW.2 ⟨hn kv (Bv ..),Y7 t h2 (fun x hx=>hn x (Bz _ hx)) (fun a ha b hb=>hd a (Bz _ ha) b (Bz _ hb)),fun x hx y hy e=> ?_⟩;subst e;obtain⟨l',hl,hxl⟩:=WY.1 hy;obtain⟨kv',hk,rfl⟩:=BX.1 hl;exact hd kv (Bv ..) kv' (Bz _ hk) (h1 kv' hk) x hx hxl
section
variable{L:Nat}{s:St}{items:List Kv}{ch:List UInt8->List Lk}
theorem rH(ok:BG L s){N:List Nat}(hn:N.Nodup)(hm:∀o,o∈N<->∃d,Ba s o d){r:List Int}(hp:r.Perm (N.map CE)):FX r=(Jo s).map CE:=by
 unfold FX;have hperm:=(MO r (fun x y=>decide (x<=y))).trans hp;have hnd:(r.mergeSort (fun x y=>decide (x<=y))).Nodup:=hperm.nodup_iff.2 (Kz.2 (hn.imp fun{a b}hab e=>hab (by injection e)));have hsort:(r.mergeSort (fun x y=>decide (x<=y))).Pairwise (fun x y=>decide (x<=y)=true):=List.pairwise_mergeSort (fun a b c h k=>by simp at h k⊢;omega) (fun a b=>by simp;omega) _;have hlt:(r.mergeSort (fun x y=>decide (x<=y))).Pairwise (fun(x y:Int)=>x<y):=(List.pairwise_and_iff.2 ⟨hsort,hnd⟩).imp (fun{a b}h=>by
  have h1:a<=b:=by simpa using h.1
  have h2:a≠b:=h.2;omega)
 refine Y6 (r:=fun(x y:Int)=>x<y) (fun x=>by omega) (fun x y h=>by omega) _ _ hlt (by rw [Kz];exact(WT ok).imp fun{a b}h=>by show(a:Int)<b;omega) fun x=> ?_
 rw [hperm.mem_iff];simp only [BX];constructor
 ·rintro⟨o,ho,rfl⟩;exact⟨o,(kZ ok o).2 ((hm o).1 ho),rfl⟩
 ·rintro⟨o,ho,rfl⟩;exact⟨o,(hm o).2 ((kZ ok o).1 ho),rfl⟩
theorem lq(h:Dc L s items ch):∃its met r,EH s=some (its,met)/\its=items.map (fun kv=>(pairs kv.1,kv.2))/\Ht s its (FX met)=some r/\r.length<=100000/\FX r=(Jo s).map CE/\Nk (FX r)=true/\
 (Jo s).length=met.length+((items.map fun kv=>ch kv.1).flatten).length:=by
 obtain⟨met,h1,h2,h3,h4⟩:=Ab0 h.ix;obtain⟨N,hN⟩:∃N,N=met++(items.map fun kv=>Hm (ch kv.1)).flatten:=⟨_,rfl⟩;have Agb:∀o,o∈(items.map fun kv=>Hm (ch kv.1)).flatten<->∃kv∈items,o∈Hm (ch kv.1):=fun o=>by
  rw [WY];constructor
  ·rintro⟨l,hl,ho⟩;obtain⟨kv,hk,rfl⟩:=BX.1 hl;exact⟨kv,hk,ho⟩
  ·rintro⟨kv,hk,ho⟩;exact⟨_,BX.2 ⟨kv,hk,rfl⟩,ho⟩
 have hm:∀o,o∈N<->∃d,Ba s o d:=fun o=>by rw [hN,AL,Agb,h4 o]
 have hn:N.Nodup:=by
  rw [hN];refine CW.2 ⟨h2,Y7 items (h.ix.up.imp fun{a b}hab e=>by rw [e,Gw]at hab;cases hab) (fun kv hkv=>(h.chain kv hkv).1.nodup.1) h.kL,fun x hx y hy e=> ?_⟩;subst e;exact h3 x hx ((Agb x).1 hy)
 have hoff:(items.map fun kv=>(ch kv.1).map (·.off)).flatten=((items.map fun kv=>Hm (ch kv.1)).flatten).map CE:=by
  rw [List.map_flatten,We];congr 1;exact TE fun kv hkv=>(h.chain kv hkv).1.An9
 have hr:=lh (s:=s) (ch:=ch) (f:=fun kv=>(pairs kv.1,kv.2)) (fun _=>rfl) items (FX (met.map CE)) (fun kv hkv=>(h.chain kv hkv).1.listed h.ix.ok);have hperm:(FX (met.map CE)++(items.map fun kv=>(ch kv.1).map (·.off)).flatten).Perm (N.map CE):=by
  rw [hN,List.map_append,hoff];exact List.Perm.append_right _ (MO _ _)
 have hs:=rH h.ix.ok hn hm hperm;have hlen:(FX (met.map CE)++(items.map fun kv=>(ch kv.1).map (·.off)).flatten).length=(Jo s).length:=by
  have:=(MO (FX (met.map CE)++(items.map fun kv=>(ch kv.1).map (·.off)).flatten) (fun x y=>decide (x<=y))).length_eq;unfold FX at hs;unfold FX at this⊢;rw [hs,CZ]at this;exact this.symm
 refine⟨_,met.map CE,_,h1,rfl,hr,?_,hs,?_,?_⟩
 ·have hb:=RZ N (List.range 65537) hn (fun o ho=>by
  obtain⟨d,hd⟩:=(hm o).1 ho;have:=(hd.bounds h.ix.ok).2.1;have:=h.ix.ok.L1;exact DY.2 (by omega))
  rw [hperm.length_eq,CZ];rw [List.length_range]at hb;omega
 ·rw [hs];refine uT ?_;rw [Kz];exact(WT h.ix.ok).imp fun{a b}h=>by show(a:Int)<b;omega
 ·rw [<-hlen,List.length_append];have e1:(FX (met.map CE)).length=(met.map CE).length:=(MO _ _).length_eq;rw [e1];congr 1;simp only [List.length_flatten,We];congr 1;exact TE fun kv _=>by simp
end
section
variable{Y:Nat->Prop}{L:Nat}{s:St}{items:List Kv}{ch:List UInt8->List Lk}
end
theorem rJ{L:Nat}{sh:Sh}(hL:L<=1024)(hs:shapeOf L=some sh):Dc L (st0 sh) [] (fun _=>[]):=
 ⟨(Ah3 hL hs).congr (fun _=>⟨fun h=>h.elim,fun⟨_,h,_⟩=>(nomatch h)⟩),(fun _ h=>(nomatch h)),(fun _ _=>rfl),(fun _ h=>(nomatch h))⟩
def ET:Sh:={lines:=100,BM:=6,table:=128,data:=192}
theorem WU:shapeOf 100=some ET:=by decide+kernel
def II:ByteArray:=⟨#[97]⟩
def Ja:ByteArray:=⟨#[120]⟩
def Ah7:ByteArray:=⟨#[98]⟩
theorem lu:qw ET II Ja=true:=by decide+kernel
def Vo:Wr:=⟨II,Ja,false⟩
theorem uU:DV (st0 ET) 1 Vo=(Ry ET II Ja,0,NW ET Ja,0):=by
 have hg:FP (st0 ET) Vo.key.data.toList=(0,7):=uw ET II (by decide);have ha:GI (st0 ET) ⟨1,0,Vo.gone,Vo.text⟩=(one1 ET Ja,NW ET Ja,0):=one_add lu;have hp:GX (one1 ET Ja) Vo.key.data.toList (NW ET Ja)=(Ry ET II Ja,0):=uu lu;unfold DV;rw [hg];simp only;rw [if_neg (by simp),if_neg (by simp [Vo]),ha];simp only;rw [if_neg (by simp),hp];simp
theorem l7:∃o,NW ET Ja=AA o/\Dc 100 (Ry ET II Ja) [(Di II.data.toList,AA o)] (Iq (fun _=>[]) (Di II.data.toList) ⟨o,⟨1,0,false,Ja⟩⟩)/\(Ry ET II Ja).ws 8=0:=by
 have h:=Uw (rJ (L:=100) (by decide) WU) 1 Vo (by decide+kernel) (by decide) (fun x hx=>(nomatch hx));rw [uU]at h;obtain⟨hl,h1⟩:=h;have h80:(Ry ET II Ja).ws 8=0:=(hl.2 8 (by decide) (by decide)).trans (H8 ET 8 (by decide));rcases h1 with⟨h1,_⟩| ⟨_,h1,_⟩| ⟨o,v,items',h1,_,_,hv,hs,hp⟩
 ·exact absurd (congrArg (fun r=>r.2.2) h1) (by decide)
 ·cases h1
 ·simp only [Prod.mk.injEq]at h1;obtain⟨rfl,h1,_⟩:=h1;refine⟨o,h1,?_,h80⟩;have hi:items'=[(Di II.data.toList,AA o)]:=fK hs.ix.up (List.pairwise_singleton _ _) (fun x=>by
   rw [hp x];simp only [List.not_mem_nil,false_and,or_false,BD];exact Iff.rfl)
  rw [hi]at hs;exact hs
section
variable{L:Nat}{s:St}{items:List Kv}{ch:List UInt8->List Lk}
def IJ(s:St)(ws:Nat->UInt64):St:={sh:=s.sh,ws:=ws,tk:=s.tk,hd:=Bq s.sh.BM 0}
theorem Rn(s:St)(ws:Nat->UInt64)(i:Nat):hdN (IJ s ws) i=0:=by
 unfold hdN IJ;simp only [Bh,List.getElem?_replicate];split<;>rfl
theorem y8(ok:BG L s){ws:Nat->UInt64}(h:∀j,j<16+s.sh.BM->ws j=s.ws j):BG L (IJ s ws):=
 ⟨ok.sh,ok.L1,ok.Ot,by simp [IJ],ok.tk,fun i _=> .inl (Rn s ws i),fun i _=> .inr (.inl (Rn s ws i)),fun i a _ _=>by rw [Rn,Fq],fun i hi=>(h (16+i) (by have:i<s.sh.BM:=hi;omega)).trans (ok.tab i hi)⟩
theorem y9(s:St)(ws:Nat->UInt64)(o d:Nat):¬Fv (IJ s ws) o d:=by
 rintro⟨i,a,_,ha,_⟩;rw [Rn,Fq]at ha;cases ha
theorem yA(ok:BG L s):wordsAt s.ws (s.sh.table/8) s.sh.BM=s.tk:=by
 apply Ew
 ·simp [wordsAt,ok.Ot]
 ·intro i h1 h2;rw [JL,ok.sh.table,show 128/8+i=16+i by omega,ok.tab i (by rw [<-ok.Ot];exact h2),Bh,Ag h2];rfl
theorem fM(ok:BG L s):∀i,i<s.sh.BM->FI (s.ws (s.sh.table/8+i)).toNat=true:=fun i hi=>by
 rw [ok.sh.table,show 128/8+i=16+i by omega,ok.tab i hi];exact(ok.tk i hi).right
theorem rM(h:Dc L s items ch){c off:Nat}{s1:St}(hc:c=1\/c=2)(hres:C9 s c=some (off,s1)){l:List UInt64}(hl:l.length<=8*AZ c){ws:Nat->UInt64}(hw:Half s1.ws (BA s1.ws (off/8) l) ws):
 Dc L (IJ s ws) items ch/\∀j,j<16+s.sh.BM->ws j=s.ws j:=by
 obtain⟨ok1,hw1,fE,Tj,hh1,_,_,ht1⟩:=PS h.ix.ok hc hres;have hb1:=hh1.bounds ok1;have hput:∀j,¬Gy off c j->ws j=s.ws j:=fun j hj=>by
  rcases hw j with e| e
  ·rw [e,hw1]
  ·rw [e];unfold BA;rw [if_neg,hw1];intro h';exact hj ⟨h'.1,by have:=h'.2;omega⟩
 have hlow:∀j,j<16+s.sh.BM->ws j=s.ws j:=fun j hj=>hput j (fun hi=>by
  have:=ok1.DC (by exact hb1.1) hi;rw [fE]at this;omega)
 have hk:FH s (IJ s ws) (fun _=>True):=fun o d _ ht=>by
  have ht1':=(ht1 o d).2 ht;obtain⟨hne,hap⟩:=N8 ok1 hh1 ht1';exact⟨ht,fun j hj=>hput j (fun hi=>Ob hap hb1.2.2 (ht1'.bounds ok1).2.2 hi hj)⟩
 exact⟨h.keep (hk.mono fun _ _=>trivial) (h.ix.same (y8 h.ix.ok hlow) (y9 s ws) (fun o=>Iff.rfl) hk (hlow 9 (by omega))),hlow⟩
end
def Afc:ByteArray:=⟨#[121]⟩
def Ah8:ByteArray:=⟨#[122]⟩
def Afd:Wr:=⟨II,Afc,false⟩
def Ah9:Wr:=⟨Ah7,Ah8,false⟩
def Gz:St:={Ry ET II Ja with ws:=FO (Ry ET II Ja).ws 8 1}
def Y8:Rc:=⟨2,NW ET Ja,false,Afc⟩
def Agc:Bool:=match C9 Gz 1 with
 | none=>false
 | some (off,s1)=>(Fh {s1 with ws:=BA s1.ws (off/8) (CJ Y8)} off).2==0
theorem Alo:Agc=true:=by decide+kernel
theorem Aia:∃off s1,C9 Gz 1=some (off,s1)/\(Fh {s1 with ws:=BA s1.ws (off/8) (CJ Y8)} off).2=0:=by
 have h:=Alo;unfold Agc at h;cases hr:C9 Gz 1 with
 | none=>rw [hr]at h;cases h
 | some q=>
   obtain⟨off,s1⟩:=q;rw [hr]at h;exact⟨off,s1,rfl,by simpa using h⟩
theorem Agd:(Jo (Ry ET II Ja)).length=2:=by decide+kernel
theorem Afe:DU Y8=true:=by decide+kernel
theorem Aib:(NW ET Ja).toNat≠0:=by decide+kernel
theorem Alp:FP Gz II.data.toList=(NW ET Ja,0):=by
 obtain⟨o,ho,hs,_⟩:=l7;rcases rD (hs.slot 1).ix II.data.toList (by decide)with⟨v,h1,hm,_⟩| ⟨_,h2⟩
 ·rw [BD]at hm;have:v=AA o:=congrArg Prod.snd hm;rw [ho,<-this];exact h1
 ·exact absurd rfl (h2 _ (BD.2 rfl))
theorem Agf:OQ (st0 ET) (Ry ET II Ja):=by
 have h:=Uw (rJ (L:=100) (by decide) WU) 1 Vo (by decide+kernel) (by decide) (fun x hx=>(nomatch hx));rw [uU]at h;exact h.1
theorem Aff : ∃ off s1, C9 Gz 1 = some (off, s1) /\ (Fh { s1 with ws := BA s1.ws (off / 8) (CJ Y8) } off).2 = 0 /\
    ∀ ws, Half s1.ws (BA s1.ws (off / 8) (CJ Y8)) ws -> ws 8 = 1 /\ wordsAt ws 0 8 = wordsOf ET /\ (∃ o, Dc 100 (IJ Gz ws) [(Di II.data.toList, AA o)] (Iq (fun _ => []) (Di II.data.toList) ⟨o, ⟨1, 0, false, Ja⟩⟩)) /\
      (∀ i, i < ET.BM -> FI (ws (ET.table / 8 + i)).toNat = true) /\ IJ Gz ws = { sh := ET, ws := ws, tk := wordsAt ws (ET.table / 8) ET.BM, hd := Bq ET.BM 0 } := by
  obtain ⟨off, s1, h1, h2⟩ := Aia
  refine ⟨off, s1, h1, h2, fun ws hw => ?_⟩
  obtain ⟨o, ho, hs, _⟩ := l7
  have hs3 : Dc 100 Gz [(Di II.data.toList, AA o)] (Iq (fun _ => []) (Di II.data.toList) ⟨o, ⟨1, 0, false, Ja⟩⟩) := hs.slot 1
  obtain ⟨hso, hlow⟩ := rM hs3 (.inl rfl) h1 (by decide +kernel) hw
  have hsh : Gz.sh = ET := Agf.1
  rw [hsh] at hlow
  have hsl : ET.BM = 6 := rfl
  have h8 : ws 8 = 1 := (hlow 8 (by omega)).trans (by show FO (Ry ET II Ja).ws 8 1 8 = 1; unfold FO; rw [if_pos rfl])
  have hlw : ∀ j, j < 8 -> ws j = MH ET j := fun j hj => (hlow j (by omega)).trans (by
    show FO (Ry ET II Ja).ws 8 1 j = _
    unfold FO
    rw [if_neg (by omega)]
    exact Agf.2 j (by omega) (by omega))
  have hok : BG 100 (IJ Gz ws) := hso.ix.ok
  have htk := yA hok
  have hrt := fM hok
  have e1 : (IJ Gz ws).sh = ET := hsh
  rw [e1] at htk hrt
  refine ⟨h8, ?_, ⟨o, hso⟩, hrt, ?_⟩
  · have h2 : wordsAt ws 0 8 = wordsAt (MH ET) 0 8 := by
      apply Ew
      · simp [wordsAt]
      · intro i h1 h2
        rw [JL, JL]
        exact hlw _ (by have := h1; simp [wordsAt] at this; omega)
    rw [h2, VG]
  · have e2 : (IJ Gz ws).tk = Gz.tk := rfl
    rw [e2] at htk
    show ({ sh := Gz.sh, ws := ws, tk := Gz.tk, hd := Bq Gz.sh.BM 0 } : St) = _
    rw [hsh, <- htk]
    rfl
end Go.Proofs.YtjcppneoncpdbaaGreatDoor
