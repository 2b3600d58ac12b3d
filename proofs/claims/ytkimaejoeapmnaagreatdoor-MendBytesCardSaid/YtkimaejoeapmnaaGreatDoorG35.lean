import Derived.Test.YtkimaejoeapmnaaGreatDoorG33
import Derived.Test.YtkimaejoeapmnaaGreatDoorG34
open List renaming mem_cons_self->Bq,pairwise_cons->GL,mem_cons->CZ,mem_cons_of_mem->BO,mem_range->Dj,mem_map->Bf,pairwise_map->IJ,range->D7,length_range->Py,getElem_of_mem->CU,append_assoc->AX,mem_append->AL,append_cancel_left->Em,mem_append_left->BD,mem_singleton->BC,map_cons->BU,nodup_append->Cj,mem_flatten->MP,mergeSort_perm->FC,pairwise_mergeSort->kK,pairwise_and_iff->rM,map_flatten->Ad2,map_map->GM,map_congr_left->FO,map_append->Dq,length_map->BH,length_append->AQ,length_flatten->yf,replicate->BB,getD_eq_getElem?_getD->Bh,ext_getElem->EH
open UInt64 renaming ofNat->AA,toNat->Ahy,toNat_lt->Xx
open Int renaming ofNat->Cc
namespace Go.Proofs.YtkimaejoeapmnaaGreatDoor
theorem Ve{α:Type}{r:α->α->Prop}(hi:∀x,¬r x x)(hs:∀x y,r x y->¬r y x):∀(a b:List α),a.Pairwise r->b.Pairwise r->(∀x,x∈a<->x∈b)->a=b
 | [],[],_,_,_=>rfl
 | [],y::b,_,_,h=>absurd ((h y).2 (Bq ..)) (fun h=>nomatch h)
 | x::a,[],_,_,h=>absurd ((h x).1 (Bq ..)) (fun h=>nomatch h)
 | x::a,y::b,ha,hb,h=>by
   obtain⟨ha1,ha2⟩:=GL.1 ha;obtain⟨hb1,hb2⟩:=GL.1 hb;have e:x=y:=by
    rcases CZ.1 ((h x).1 (Bq ..))with e| h1
    ·exact e
    ·rcases CZ.1 ((h y).2 (Bq ..))with e| h2
     ·exact e.symm
     ·exact absurd (ha1 y h2) (hs y x (hb1 x h1))
   subst e;refine congrArg (List.cons x) (Ve hi hs a b ha2 hb2 fun z=> ?_);constructor
   ·intro hz;rcases CZ.1 ((h z).1 (BO _ hz))with e| h1
    ·subst e;exact absurd (ha1 z hz) (hi z)
    ·exact h1
   ·intro hz;rcases CZ.1 ((h z).2 (BO _ hz))with e| h1
    ·subst e;exact absurd (hb1 z hz) (hi z)
    ·exact h1
section
variable{L:Nat}{s:St}{items items':List Kv}
theorem Pv{w:Nat}{a:Nat}(ok:OkW w):a∈IE w<->EK w a=true:=by
 unfold IE;rw [List.mem_filter,Dj];refine⟨fun h=>h.2,fun h=>⟨?_,h⟩⟩;obtain⟨c,hc,ha,_⟩:=ok.Rq h;rw [hc.class];exact ha
theorem Ia(ok:BA L s)(o:Nat):o∈Dx s<->∃d,AP s o d:=by
 unfold Dx;rw [List.mem_flatMap];constructor
 ·rintro⟨i,hi,ho⟩;rw [Dj,ok.NR]at hi;obtain⟨a,ha,rfl⟩:=Bf.1 ho;exact⟨_,i,a,hi,(Pv (ok.tk i hi)).1 ha,rfl,rfl⟩
 ·rintro⟨d,i,a,hi,ha,rfl,rfl⟩;exact⟨i,by rw [Dj,ok.NR];exact hi,Bf.2 ⟨a,(Pv (ok.tk i hi)).2 ha,rfl⟩⟩
theorem Agl(w:Nat):(IE w).Pairwise (·<·):=by
 unfold IE;exact List.Pairwise.filter _ List.pairwise_lt_range
theorem Oo(ok:BA L s):(Dx s).Pairwise (·<·):=by
 unfold Dx;rw [List.flatMap_def,List.pairwise_flatten];refine⟨fun l hl=> ?_,?_⟩
 ·obtain⟨i,hi,rfl⟩:=Bf.1 hl;rw [Dj,ok.NR]at hi;rw [IJ];refine(Agl (GR s i)).imp_of_mem fun{a b}ha hb hab=> ?_
  obtain⟨c,hc,_,_⟩:=(ok.tk i hi).Rq ((Pv (ok.tk i hi)).1 ha);have hc0:0<64*Be (Bd (GR s i)):=by
   rw [hc.class];have:=(Fe hc.cls).2.1;omega
  unfold CW;have:=Nat.mul_lt_mul_of_pos_left hab hc0;omega
 ·rw [IJ];refine List.pairwise_lt_range.imp_of_mem fun{i j}hi hj hij x hx y hy=> ?_
  rw [Dj,ok.NR]at hi hj;obtain⟨a,ha,rfl⟩:=Bf.1 hx;obtain⟨b,hb,rfl⟩:=Bf.1 hy;obtain⟨c,hc,ha',_⟩:=(ok.tk i hi).Rq ((Pv (ok.tk i hi)).1 ha);rw [hc.class];have:=(Mc (sh:=s.sh) (i:=i) hc.cls ha').2;have h2:s.sh.data+1024*j<=CW s.sh j (Bd (GR s j)) b:=by unfold CW;omega
  have h3:=(Fe hc.cls).2.1;omega
end
theorem zI{L:Nat}{s:St}(ok:BA L s):(Dx s).length<=65537:=by
 have hn:(Dx s).Nodup:=(Oo ok).imp (fun{a b}hab=>by omega);have hle:=EX (Dx s) (D7 65537) hn (fun o ho=>by
  obtain⟨d,hd⟩:=(Ia ok o).1 ho;have:=(hd.bounds ok).2.1;have:=ok.L1;exact Dj.2 (by omega))
 rwa [Py]at hle
theorem Ajs{a b:List Kv}(ha:pF a)(hb:pF b)(h:∀x,x∈a<->x∈b):a=b:=
 Ve (r:=fun a b:Kv=>Op.bytesLess a.1 b.1=true) (fun x h=>by rw [Fb]at h;cases h) (fun x y h k=>by
  have:=Xd _ _ _ h k;rw [Fb]at this;cases this) a b ha hb h
theorem Ajt{l:List Kv}(h:pF l){a b:Kv}(ha:a∈l)(hb:b∈l)(e:a.1=b.1):a=b:=by
 obtain⟨i,hi,rfl⟩:=CU ha;obtain⟨j,hj,rfl⟩:=CU hb;have hr:=List.pairwise_iff_getElem.1 h;rcases Nat.lt_trichotomy i j with h1| h1| h1
 ·have:=hr i j hi hj h1;rw [e,Fb]at this;cases this
 ·subst h1;rfl
 ·have:=hr j i hj hi h1;rw [e,Fb]at this;cases this
section
variable{X:Nat->Prop}{L:Nat}{s:St}{items:List Kv}
theorem Agm (h : P5 X L s items) (key : List UInt8) (hk : key.length <= 16) : (∃ v, GI s key = (v, 0) /\ (DR key, v) ∈ items /\ v ≠ 0) \/ (GI s key = (0, 7) /\ ∀ kv ∈ items, kv.1 ≠ DR key) := by
  by_cases h0 : s.ws 9 = 0
  · have hi : items = [] := by
      rcases h.tree with ⟨_, h2, _⟩ | ⟨_, h1, _⟩
      · exact h2
      · exact absurd h0 h1
    subst hi
    refine .inr ⟨?_, fun _ h => nomatch h⟩
    unfold GI FQ
    rw [if_neg (by omega), h0, Ep, if_pos rfl]
    rfl
  · rcases h.tree with ⟨h1, _⟩ | ⟨blocks, h1, T, hnd, hX, htk⟩
    · exact absurd h1 h0
    · obtain ⟨way, last, rest', q, rl, nl, parts, A, B, b1, b2, o, hp, a⟩ := around h.ok h1 T hnd key hk
      have S := a.spot
      have hgl : (way ++ [last]).getLast? = some last := by simp
      have hmem : ∀ kv ∈ items, kv ∈ A \/ kv ∈ B \/ ∃ k, (k, kv.2) ∈ BX last.nd ++ Bl last.nd.pre last.nd.labels parts /\ kv.1 = q ++ k := fun kv hkv => by
        rw [S.its, AX] at hkv
        rcases AL.1 hkv with g | g
        · exact .inl g
        · rcases AL.1 g with g | g
          · exact .inr (.inr (Ei.1 g))
          · exact .inr (.inl g)
      unfold GI
      rw [if_neg (by omega), hp]
      simp only
      by_cases hpr : last.nd.pre = rest'
      · have hst : CX (way ++ [last]) rest' = some last := by unfold CX; rw [hgl]; simp only; rw [if_pos hpr]
        rw [hst]
        simp only
        have hkey : DR key = q ++ last.nd.pre := by rw [hpr]; exact S.cut
        by_cases hv : last.nd.val = 0
        · rw [if_pos hv]
          refine .inr ⟨rfl, fun kv hkv e => ?_⟩
          rcases hmem kv hkv with g | g | ⟨k, g1, g2⟩
          · exact a.other kv (.inl g) e
          · exact a.other kv (.inr g) e
          · rcases AL.1 g1 with g1 | g1
            · exact (Ff g1).2 hv
            · obtain ⟨i, i1, i2, kv', _, e2⟩ := EG g1
              rw [g2, hkey] at e
              have e3 := Em e
              have e4 : k = last.nd.pre ++ last.nd.labels[i] :: kv'.1 := congrArg Prod.fst e2
              rw [e4] at e3
              have := congrArg List.length e3
              simp at this
        · rw [if_neg hv]
          refine .inl ⟨_, rfl, ?_, hv⟩
          rw [S.its, AX]
          refine List.mem_append_right _ (BD _ (Ei.2 ⟨last.nd.pre, BD _ ?_, hkey⟩))
          unfold BX
          rw [if_pos hv]
          exact BC.2 rfl
      · have hst : CX (way ++ [last]) rest' = none := by unfold CX; rw [hgl]; simp only; rw [if_neg hpr]
        rw [hst]
        refine .inr ⟨rfl, fun kv hkv e => ?_⟩
        rcases hmem kv hkv with g | g | ⟨k, g1, g2⟩
        · exact a.other kv (.inl g) e
        · exact a.other kv (.inr g) e
        · rw [g2, S.cut] at e
          exact a.below hpr _ g1 (Em e)
end
structure Du(L:Nat)(s:St)(items:List Kv)(ch:List UInt8->List Lk):Prop where
 ix:P5 (fun o=>∃kv∈items,o∈EU (ch kv.1)) L s items
 chain:∀kv∈items,D9 s kv.2 (ch kv.1)/\kv.2≠0
 none:∀k,(∀kv∈items,kv.1≠k)->ch k=[]
 Yd:∀kv∈items,∀kv'∈items,kv.1≠kv'.1->∀o∈EU (ch kv.1),o∉EU (ch kv'.1)
def Q9(ch:List UInt8->List Lk)(k:List UInt8)(x:Lk):List UInt8->List Lk:=fun k'=>if k'=k then x::ch k' else ch k'
def jO(s:St)(stamp:UInt64)(y:Wr):St×UInt64×UInt64×Int:=
 if(GI s y.key.data.toList).2≠0/\(GI s y.key.data.toList).2≠7 then(s,0,0,(GI s y.key.data.toList).2)else
 if y.gone=true/\(GI s y.key.data.toList).1=0 then(s,0,0,0)else
 if(IQ s ⟨stamp,(GI s y.key.data.toList).1,y.gone,y.text⟩).2.2≠0 then((IQ s ⟨stamp,(GI s y.key.data.toList).1,y.gone,y.text⟩).1,0,0,(IQ s ⟨stamp,(GI s y.key.data.toList).1,y.gone,y.text⟩).2.2)else
 if(KW (IQ s ⟨stamp,(GI s y.key.data.toList).1,y.gone,y.text⟩).1 y.key.data.toList (IQ s ⟨stamp,(GI s y.key.data.toList).1,y.gone,y.text⟩).2.1).2≠0 then
  ((J4 (KW (IQ s ⟨stamp,(GI s y.key.data.toList).1,y.gone,y.text⟩).1 y.key.data.toList (IQ s ⟨stamp,(GI s y.key.data.toList).1,y.gone,y.text⟩).2.1).1 (Bi (IQ s ⟨stamp,(GI s y.key.data.toList).1,y.gone,y.text⟩).2.1)).1,0,0,
    (KW (IQ s ⟨stamp,(GI s y.key.data.toList).1,y.gone,y.text⟩).1 y.key.data.toList (IQ s ⟨stamp,(GI s y.key.data.toList).1,y.gone,y.text⟩).2.1).2)else
 ((KW (IQ s ⟨stamp,(GI s y.key.data.toList).1,y.gone,y.text⟩).1 y.key.data.toList (IQ s ⟨stamp,(GI s y.key.data.toList).1,y.gone,y.text⟩).2.1).1,(GI s y.key.data.toList).1,(IQ s ⟨stamp,(GI s y.key.data.toList).1,y.gone,y.text⟩).2.1,0)
def RV(s s':St):Prop:=s'.sh=s.sh/\∀j,j<16->j≠9->s'.ws j=s.ws j
theorem RV.refl(s:St):RV s s:=⟨rfl,fun _ _ _=>rfl⟩
theorem RV.trans{s s' s'':St}(h:RV s s')(k:RV s' s''):RV s s'':=⟨k.1.trans h.1,fun j h1 h2=>(k.2 j h1 h2).trans (h.2 j h1 h2)⟩
theorem RN.Aju{X:Nat->Prop}{s s':St}(h:RN X s s'):RV s s':=⟨h.sh,h.low⟩
section
variable{L:Nat}{s:St}{items:List Kv}{ch:List UInt8->List Lk}
theorem Aco (h : Du L s items ch) {k : List UInt8} {lk : Lk} {s1 s2 : St} {o : Nat} (ho : lk.off = o) (hr : Eg lk.rc = true) (kW : o <= 65536) (h0 : 0 < o) (hnx : ¬ ∃ kv ∈ items, o ∈ EU (ch kv.1)) (hv : D9 s lk.rc.next (ch k)) (hst : ∀ x ∈ ch k, x.rc.stamp.toNat < lk.rc.stamp.toNat)
    (k1 : FV s s1 (fun _ => True)) (ht : AP s1 o 1) (hw : wordsAt s1.ws (o / 8) 8 = Dk lk.rc) {items' : List Kv} (k2 : FV s1 s2 (fun p => (∃ kv ∈ items, p ∈ EU (ch kv.1)) \/ p = o)) (ix : P5 (fun p => (∃ kv ∈ items, p ∈ EU (ch kv.1)) \/ p = o) L s2 items') (hp : Agb items items' k (AA o)) :
    Du L s2 items' (Q9 ch k lk) := by
  have hkey : ∀ kv ∈ items', (kv = (k, AA o)) \/ (kv ∈ items /\ kv.1 ≠ k) := fun kv hkv => (hp kv).1 hkv
  have hin : (k, AA o) ∈ items' := (hp _).2 (.inl rfl)
  have hother : ∀ kv ∈ items, kv.1 ≠ k -> Q9 ch k lk kv.1 = ch kv.1 := fun kv _ hne => by unfold Q9; rw [if_neg hne]
  have hself : Q9 ch k lk k = lk :: ch k := by unfold Q9; rw [if_pos rfl]
  have hlo : EU (lk :: ch k) = o :: EU (ch k) := by unfold EU; rw [BU, ho, Int.toNat_natCast]
  have hold : ∀ p ∈ EU (ch k), ∃ kv ∈ items, p ∈ EU (ch kv.1) := fun p hpm => by
    by_cases hh : ∀ kv ∈ items, kv.1 ≠ k
    · rw [h.none k hh] at hpm; cases hpm
    · obtain ⟨kv, h1⟩ := Classical.not_forall.1 hh
      obtain ⟨h2, h3⟩ := Classical.not_imp.1 h1
      exact ⟨kv, h2, by rw [Classical.not_not.1 h3]; exact hpm⟩
  have hcon : ∀ kv ∈ items, kv.1 = k -> ∀ p ∈ EU (ch kv.1), p ∈ EU (ch k) := fun kv _ e p hp => by rw [<- e]; exact hp
  refine ⟨ix.congr fun p => ?_, fun kv hkv => ?_, fun k' hk' => ?_, fun a ha b hb hab p hpa hpb => ?_⟩
  · constructor
    · rintro (⟨kv, h1, h2⟩ | rfl)
      · by_cases e : kv.1 = k
        · exact ⟨_, hin, by rw [hself, hlo]; exact BO _ (hcon kv h1 e p h2)⟩
        · exact ⟨kv, (hp kv).2 (.inr ⟨h1, e⟩), by rw [hother kv h1 e]; exact h2⟩
      · exact ⟨_, hin, by rw [hself, hlo]; exact Bq ..⟩
    · rintro ⟨kv, h1, h2⟩
      rcases hkey kv h1 with rfl | ⟨h3, h4⟩
      · rw [hself, hlo] at h2
        rcases CZ.1 h2 with h2 | h2
        · exact .inr h2
        · exact .inl (hold p h2)
      · rw [hother kv h3 h4] at h2
        exact .inl ⟨kv, h3, h2⟩
  · rcases hkey kv hkv with rfl | ⟨h3, h4⟩
    · rw [hself]
      refine ⟨?_, fun e => ?_⟩
      · obtain ⟨t1, t2⟩ := k2 o 1 (.inr rfl) ht
        have hw2 := Uf (o := o) (c := 1) t2
        rw [show 8 * Be 1 = 8 from rfl, hw] at hw2
        have hc := (hv.keep k1 (fun _ _ => trivial)).keep k2 (fun p hp => .inl (hold p hp))
        have := D9.cons o lk.rc (ch k) t1 hr hw2 hc hst
        rw [<- ho] at this
        exact this
      · have := congrArg Ahy e
        rw [EF (by omega)] at this
        simp at this
        omega
    · rw [hother kv h3 h4]
      exact ⟨((h.chain kv h3).1.keep k1 (fun _ _ => trivial)).keep k2 (fun p hp => .inl ⟨kv, h3, hp⟩), (h.chain kv h3).2⟩
  · have hne : k' ≠ k := fun e => hk' _ hin e.symm
    unfold Q9
    rw [if_neg hne]
    refine h.none k' (fun kv hkv e => ?_)
    exact hk' kv ((hp kv).2 (.inr ⟨hkv, by rw [e]; exact hne⟩)) e
  · have key : ∀ c : Kv, c ∈ items -> c.1 ≠ k -> ∀ p, p ∈ EU (ch c.1) -> p ∈ o :: EU (ch k) -> False := fun c hc hck p h1 h2 => by
      rcases CZ.1 h2 with rfl | h2
      · exact hnx ⟨c, hc, h1⟩
      · obtain ⟨kv, g1, g2⟩ := hold p h2
        by_cases hh : ∀ kv ∈ items, kv.1 ≠ k
        · rw [h.none k hh] at h2; cases h2
        · obtain ⟨kv, h1'⟩ := Classical.not_forall.1 hh
          obtain ⟨h3, h4⟩ := Classical.not_imp.1 h1'
          have h4 := Classical.not_not.1 h4
          exact h.Yd c hc kv h3 (by rw [h4]; exact hck) p h1 (by rw [h4]; exact h2)
    rcases hkey a ha with rfl | ⟨a1, a2⟩
    · rcases hkey b hb with rfl | ⟨b1, b2⟩
      · exact hab rfl
      · rw [hself, hlo] at hpa
        rw [hother b b1 b2] at hpb
        exact key b b1 b2 p hpb hpa
    · rw [hother a a1 a2] at hpa
      rcases hkey b hb with rfl | ⟨b1, b2⟩
      · rw [hself, hlo] at hpb
        exact key a a1 a2 p hpa hpb
      · rw [hother b b1 b2] at hpb
        exact h.Yd a a1 b b1 hab p hpa hpb
theorem Du.keep(h:Du L s items ch){s':St}(k:FV s s' (fun p=>∃kv∈items,p∈EU (ch kv.1)))(ix:P5 (fun p=>∃kv∈items,p∈EU (ch kv.1)) L s' items):Du L s' items ch:=
 ⟨ix,fun kv hkv=>⟨(h.chain kv hkv).1.keep k (fun _ hp=>⟨kv,hkv,hp⟩),(h.chain kv hkv).2⟩,h.none,h.Yd⟩
def Ajv(L:Nat)(s:St)(items:List Kv)(ch:List UInt8->List Lk)(stamp:UInt64)(y:Wr)(r:St×UInt64×UInt64×Int):Prop:=
 RV s r.1/\((r.2=(0,0,6)/\Du L r.1 items ch)\/
  (r=(s,0,0,0)/\y.gone=true/\∀kv∈items,kv.1≠DR y.key.data.toList)\/
  (∃o v items',r.2=(v,AA o,0)/\0<o/\o<=65536/\((v=0/\y.gone=false/\∀kv∈items,kv.1≠DR y.key.data.toList)\/(v≠0/\(DR y.key.data.toList,v)∈items))/\
   Du L r.1 items' (Q9 ch (DR y.key.data.toList) ⟨o,⟨stamp,v,y.gone,y.text⟩⟩)/\Agb items items' (DR y.key.data.toList) (AA o)))
theorem qg(h:Du L s items ch)(stamp:UInt64)(y:Wr)(hy:ER y=true)(hs0:stamp.toNat≠0)(hst:∀x∈ch (DR y.key.data.toList),x.rc.stamp.toNat<stamp.toNat):Ajv L s items ch stamp y (jO s stamp y):=by
 have hyk:y.key.data.toList.length<=16/\y.text.size<=40/\(y.gone=true->y.text.size=0):=by
  unfold ER at hy;simp only [Bool.and_eq_true,decide_eq_true_eq,Bool.or_eq_true,Bool.not_eq_true']at hy;exact⟨hy.1.1,hy.1.2,fun hg=>hy.2.resolve_left (by rw [hg];simp)⟩
 have hget:∃v e,GI s y.key.data.toList=(v,e)/\¬(e≠0/\e≠7)/\((v=0/\∀kv∈items,kv.1≠DR y.key.data.toList)\/(v≠0/\(DR y.key.data.toList,v)∈items))/\D9 s v (ch (DR y.key.data.toList)):=by
  rcases Agm h.ix y.key.data.toList hyk.1 with⟨v,e,hm,hv⟩| ⟨e,hn⟩
  ·exact⟨v,0,e,by simp,.inr ⟨hv,hm⟩,(h.chain _ hm).1⟩
  ·exact⟨0,7,e,by simp,.inl ⟨rfl,hn⟩,by rw [h.none _ hn];exact .nil⟩
 obtain⟨v,e,hg,he,hcase,hch⟩:=hget;unfold jO;rw [hg];simp only;rw [if_neg he];by_cases hgv:y.gone=true/\v=0
 ·rw [if_pos hgv];exact⟨RV.refl s,.inr (.inl ⟨rfl,hgv.1,(hcase.resolve_right (fun h=>h.1 hgv.2)).2⟩)⟩
 ·rw [if_neg hgv];have hr:Eg ⟨stamp,v,y.gone,y.text⟩=true:=(LQ _).2 ⟨hs0,hyk.2.1,hyk.2.2⟩;rcases Am6 h.ix ⟨stamp,v,y.gone,y.text⟩ hr with ea| ⟨s1,o,ea,_,hnt,hnX,kW,ho0,ht1,hw1,ix1,k1,sh1,Aus⟩
  ·rw [ea];simp only;rw [if_pos (by decide)];exact⟨RV.refl s,.inl ⟨rfl,h⟩⟩
  ·rw [ea];simp only;rw [if_neg (by simp)];have hone:AA o≠0:=fun e=>by
    have:=congrArg Ahy e;rw [EF (by omega)]at this;simp at this;omega
   have hL1:RV s s1:=⟨sh1,fun j hj _=>Aus j hj⟩;obtain⟨kx,hput⟩:=Agc ix1 y.key.data.toList hyk.1 (AA o) hone;generalize KW s1 y.key.data.toList (AA o)=rp at kx hput;obtain⟨s2,e2⟩:=rp;simp only at kx hput⊢;rcases hput with⟨rfl,ix2,_⟩| ⟨rfl,items',ix2,hp⟩
   ·rw [if_pos (by decide)];obtain⟨s3,e3,ix3,k3,sh3,Aut⟩:=Agh ix2 (o:=o) (.inr rfl);have hof:Bi (AA o)=o:=Rz (by omega);rw [hof,e3];refine⟨(hL1.trans kx.Aju).trans ⟨sh3,fun j hj _=>Aut j hj⟩,.inl ⟨rfl,?_⟩⟩;have kk:FV s s3 (fun p=>∃kv∈items,p∈EU (ch kv.1)):=fun p c hp ht=>by
     obtain⟨u1,u2⟩:=k1 p c trivial ht;obtain⟨u3,u4⟩:=kx.keep p c (.inl hp) u1;obtain⟨u5,u6⟩:=k3 p c (fun e=>hnX (e▸hp)) u3;exact⟨u5,fun j hj=>((u6 j hj).trans (u4 j hj)).trans (u2 j hj)⟩
    refine h.keep kk (ix3.congr fun p=> ?_);constructor
    ·rintro⟨h1| h1,h2⟩
     ·exact h1
     ·exact absurd h1 h2
    ·exact fun h1=>⟨.inl h1,fun e=>hnX (e▸h1)⟩
   ·rw [if_neg (by simp)];refine⟨hL1.trans kx.Aju,.inr (.inr ⟨o,v,items',rfl,ho0,kW,?_,?_,hp⟩)⟩
    ·rcases hcase with⟨h1,h2⟩| ⟨h1,h2⟩
     ·exact .inl ⟨h1,by cases hgn:y.gone with
      | false=>rfl
      | true=>exact absurd ⟨hgn,h1⟩ hgv,h2⟩
     ·exact .inr ⟨h1,h2⟩
    ·exact Aco h (k:=DR y.key.data.toList) (lk:=⟨o,⟨stamp,v,y.gone,y.text⟩⟩) rfl hr kW ho0 hnX hch hst k1 ht1 hw1 kx.keep ix2 hp
end
section
variable{L:Nat}{s:St}{items items':List Kv}{ch:List UInt8->List Lk}
def RX(s:St)(key:List UInt8)(v:UInt64):St×Int:=if v=0 then((U7 s key).1,(U7 s key).2.2)else KW s key v
end
theorem D9.len{s:St}{v:UInt64}{l:List Lk}(h:D9 s v l):∀b:Nat,(∀k∈l,k.rc.stamp.toNat<b)->l.length<=b:=by
 induction h with
 | nil=>intro b _;exact Nat.zero_le _
 | cons o r l _ _ _ _ hs ih=>
   intro b hb;have h1:=ih r.stamp.toNat hs;have h2:r.stamp.toNat<b:=hb _ (Bq ..);rw [List.length_cons];omega
theorem D9.listed{L:Nat}{s:St}(ok:BA L s){v:UInt64}{l:List Lk}(h:D9 s v l):II s v=some l:=by
 have:=h.list ok 18446744073709551618 [] (Nat.lt_of_le_of_lt (h.len 18446744073709551616 (fun k _=>Xx _)) (by decide)) (fun k _=>Xx _);rw [List.nil_append]at this;exact this
section
variable{L:Nat}{s:St}{items:List Kv}{ch:List UInt8->List Lk}
theorem Du.slot(h:Du L s items ch)(v:UInt64):Du L {s with ws:=Gg s.ws 8 v} items ch:=by
 have hw:∀j,16<=j->Gg s.ws 8 v j=s.ws j:=fun j hj=>by unfold Gg;rw [if_neg (by omega)]
 have ok':BA L {s with ws:=Gg s.ws 8 v}:=h.ix.ok.words (fun i _=>hw _ (by omega));have kt:FV s {s with ws:=Gg s.ws 8 v} (fun _=>True):=fun o c _ ht=>⟨ht,fun j hj=>hw j (by have:=h.ix.ok.DJ (ht.bounds h.ix.ok).1 hj;omega)⟩
 exact h.keep (kt.mono (fun _ _=>trivial)) (h.ix.same ok' h.ix.nh (fun _=>Iff.rfl) kt (by show Gg s.ws 8 v 9=_;unfold Gg;rw [if_neg (by decide)]))
end
theorem D9.Am9{s:St}{v:UInt64}{l:List Lk}(h:D9 s v l):l.map (·.off)=(EU l).map Cc:=by
 induction h with
 | nil=>rfl
 | cons o r l _ _ _ _ _ ih=>
   unfold EU at ih⊢;rw [BU,BU,BU,ih];rfl
theorem ZP{s:St}{ch:List UInt8->List Lk}{f:Kv->List UInt8×UInt64}(hf:∀kv,(f kv).2=kv.2):∀(l:List Kv)(acc:List Int),(∀kv∈l,II s kv.2=some (ch kv.1))->Fq s (l.map f) acc=some (acc++(l.map fun kv=>(ch kv.1).map (·.off)).flatten)
 | [],acc,_=>by simp [Fq]
 | kv::t,acc,h=>by
   rw [BU,Fq,hf,h kv (Bq ..)];simp only;rw [ZP hf t _ (fun x hx=>h x (BO _ hx))];simp
theorem jP:∀{l:List Int},l.Pairwise (fun x y=>x<y)->Gv l=true
 | [],_=>rfl
 | [_],_=>rfl
 | a::b::t,h=>by
   obtain⟨h1,h2⟩:=GL.1 h;have h3:=h1 b (Bq ..);unfold Gv;rw [jP h2,Bool.and_true,Bool.not_eq_true',beq_eq_false_iff_ne];omega
theorem Ul{ch:List UInt8->List Lk}:∀(l:List Kv),l.Pairwise (fun a b=>a.1≠b.1)->(∀kv∈l,(EU (ch kv.1)).Nodup)->(∀a∈l,∀b∈l,a.1≠b.1->∀o∈EU (ch a.1),o∉EU (ch b.1))->((l.map fun kv=>EU (ch kv.1)).flatten).Nodup
 | [],_,_,_=>List.nodup_nil
 | kv::t,h,hn,hd=>by
   obtain⟨h1,h2⟩:=GL.1 h;rw [BU,List.flatten_cons];refine Cj.2 ⟨hn kv (Bq ..),Ul t h2 (fun x hx=>hn x (BO _ hx)) (fun a ha b hb=>hd a (BO _ ha) b (BO _ hb)),fun x hx y hy e=> ?_⟩;subst e;obtain⟨l',hl,hxl⟩:=MP.1 hy;obtain⟨kv',hk,rfl⟩:=Bf.1 hl;exact hd kv (Bq ..) kv' (BO _ hk) (h1 kv' hk) x hx hxl
section
variable{L:Nat}{s:St}{items:List Kv}{ch:List UInt8->List Lk}
theorem xq(ok:BA L s){N:List Nat}(hn:N.Nodup)(hm:∀o,o∈N<->∃d,AP s o d){r:List Int}(hp:r.Perm (N.map Cc)):Dc r=(Dx s).map Cc:=by
 unfold Dc;have hperm:=(FC r (fun x y=>decide (x<=y))).trans hp;have hnd:(r.mergeSort (fun x y=>decide (x<=y))).Nodup:=hperm.nodup_iff.2 (IJ.2 (hn.imp fun{a b}hab e=>hab (by injection e)));have hsort:(r.mergeSort (fun x y=>decide (x<=y))).Pairwise (fun x y=>decide (x<=y)=true):=kK (fun a b c h k=>by simp at h k⊢;omega) (fun a b=>by simp;omega) _;have hlt:(r.mergeSort (fun x y=>decide (x<=y))).Pairwise (fun(x y:Int)=>x<y):=(rM.2 ⟨hsort,hnd⟩).imp (fun{a b}h=>by
  have h1:a<=b:=by simpa using h.1
  have h2:a≠b:=h.2;omega)
 refine Ve (r:=fun(x y:Int)=>x<y) (fun x=>by omega) (fun x y h=>by omega) _ _ hlt (by rw [IJ];exact(Oo ok).imp fun{a b}h=>by show(a:Int)<b;omega) fun x=> ?_
 rw [hperm.mem_iff];simp only [Bf];constructor
 ·rintro⟨o,ho,rfl⟩;exact⟨o,(Ia ok o).2 ((hm o).1 ho),rfl⟩
 ·rintro⟨o,ho,rfl⟩;exact⟨o,(hm o).2 ((Ia ok o).1 ho),rfl⟩
theorem Vf(h:Du L s items ch):∃its met r,DU s=some (its,met)/\its=items.map (fun kv=>(pairs kv.1,kv.2))/\Fq s its (Dc met)=some r/\r.length<=100000/\Dc r=(Dx s).map Cc/\Gv (Dc r)=true/\
 (Dx s).length=met.length+((items.map fun kv=>ch kv.1).flatten).length:=by
 obtain⟨met,h1,h2,h3,h4⟩:=RP h.ix;obtain⟨N,hN⟩:∃N,N=met++(items.map fun kv=>EU (ch kv.1)).flatten:=⟨_,rfl⟩;have qh:∀o,o∈(items.map fun kv=>EU (ch kv.1)).flatten<->∃kv∈items,o∈EU (ch kv.1):=fun o=>by
  rw [MP];constructor
  ·rintro⟨l,hl,ho⟩;obtain⟨kv,hk,rfl⟩:=Bf.1 hl;exact⟨kv,hk,ho⟩
  ·rintro⟨kv,hk,ho⟩;exact⟨_,Bf.2 ⟨kv,hk,rfl⟩,ho⟩
 have hm:∀o,o∈N<->∃d,AP s o d:=fun o=>by rw [hN,AL,qh,h4 o]
 have hn:N.Nodup:=by
  rw [hN];refine Cj.2 ⟨h2,Ul items (h.ix.up.imp fun{a b}hab e=>by rw [e,Fb]at hab;cases hab) (fun kv hkv=>(h.chain kv hkv).1.nodup.1) h.Yd,fun x hx y hy e=> ?_⟩;subst e;exact h3 x hx ((qh x).1 hy)
 have hoff:(items.map fun kv=>(ch kv.1).map (·.off)).flatten=((items.map fun kv=>EU (ch kv.1)).flatten).map Cc:=by
  rw [Ad2,GM];congr 1;exact FO fun kv hkv=>(h.chain kv hkv).1.Am9
 have hr:=ZP (s:=s) (ch:=ch) (f:=fun kv=>(pairs kv.1,kv.2)) (fun _=>rfl) items (Dc (met.map Cc)) (fun kv hkv=>(h.chain kv hkv).1.listed h.ix.ok);have hperm:(Dc (met.map Cc)++(items.map fun kv=>(ch kv.1).map (·.off)).flatten).Perm (N.map Cc):=by
  rw [hN,Dq,hoff];exact List.Perm.append_right _ (FC _ _)
 have hs:=xq h.ix.ok hn hm hperm;have hlen:(Dc (met.map Cc)++(items.map fun kv=>(ch kv.1).map (·.off)).flatten).length=(Dx s).length:=by
  have:=(FC (Dc (met.map Cc)++(items.map fun kv=>(ch kv.1).map (·.off)).flatten) (fun x y=>decide (x<=y))).length_eq;unfold Dc at hs;unfold Dc at this⊢;rw [hs,BH]at this;exact this.symm
 refine⟨_,met.map Cc,_,h1,rfl,hr,?_,hs,?_,?_⟩
 ·have hb:=EX N (D7 65537) hn (fun o ho=>by
  obtain⟨d,hd⟩:=(hm o).1 ho;have:=(hd.bounds h.ix.ok).2.1;have:=h.ix.ok.L1;exact Dj.2 (by omega))
  rw [hperm.length_eq,BH];rw [Py]at hb;omega
 ·rw [hs];refine jP ?_;rw [IJ];exact(Oo h.ix.ok).imp fun{a b}h=>by show(a:Int)<b;omega
 ·rw [<-hlen,AQ];have e1:(Dc (met.map Cc)).length=(met.map Cc).length:=(FC _ _).length_eq;rw [e1];congr 1;simp only [yf,GM];congr 1;exact FO fun kv _=>by simp
end
structure EW(Y:Nat->Prop)(L:Nat)(s:St)(items:List Kv)(ch:List UInt8->List Lk):Prop where
 ix:P5 (fun o=>(∃kv∈items,o∈EU (ch kv.1))\/Y o) L s items
 chain:∀kv∈items,D9 s kv.2 (ch kv.1)/\kv.2≠0
 none:∀k,(∀kv∈items,kv.1≠k)->ch k=[]
 Yd:∀kv∈items,∀kv'∈items,kv.1≠kv'.1->∀o∈EU (ch kv.1),o∉EU (ch kv'.1)
 loose:∀kv∈items,∀o∈EU (ch kv.1),¬Y o
section
variable{Y:Nat->Prop}{L:Nat}{s:St}{items:List Kv}{ch:List UInt8->List Lk}
theorem Du.y(h:Du L s items ch):EW (fun _=>False) L s items ch:=
 ⟨h.ix.congr (fun _=>⟨.inl,fun h=>h.elim id False.elim⟩),h.chain,h.none,h.Yd,fun _ _ _ _ h=>h⟩
theorem EW.ok(h:EW Y L s items ch)(hY:∀o,¬Y o):Du L s items ch:=
 ⟨h.ix.congr (fun o=>⟨fun h=>h.resolve_right (hY o),.inl⟩),h.chain,h.none,h.Yd⟩
theorem EW.taken(h:EW Y L s items ch){o:Nat}(ho:Y o):∃d,AP s o d:=by
 rcases h.ix.tree with⟨_,_,h3⟩| ⟨_,_,_,_,_,h3⟩
 ·exact(h3 o).2 (.inr ho)
 ·exact(h3 o).2 (.inr (.inr ho))
theorem zJ(h:EW Y L s items ch):∃its met r,DU s=some (its,met)/\its=items.map (fun kv=>(pairs kv.1,kv.2))/\Fq s its (Dc met)=some r/\r.length<=100000/\Gv (Dc r)=true/\(Dc r).Pairwise (fun x y=>x<y)/\
 (∀o:Nat,(o:Int)∈Dc r<->(∃d,AP s o d)/\¬Y o)/\r.length=met.length+((items.map fun kv=>ch kv.1).flatten).length:=by
 obtain⟨met,h1,h2,h3,h4⟩:=RP h.ix;obtain⟨N,hN⟩:∃N,N=met++(items.map fun kv=>EU (ch kv.1)).flatten:=⟨_,rfl⟩;have qh:∀o,o∈(items.map fun kv=>EU (ch kv.1)).flatten<->∃kv∈items,o∈EU (ch kv.1):=fun o=>by
  rw [MP];constructor
  ·rintro⟨l,hl,ho⟩;obtain⟨kv,hk,rfl⟩:=Bf.1 hl;exact⟨kv,hk,ho⟩
  ·rintro⟨kv,hk,ho⟩;exact⟨_,Bf.2 ⟨kv,hk,rfl⟩,ho⟩
 have hm:∀o,o∈N<->(∃d,AP s o d)/\¬Y o:=fun o=>by
  rw [hN,AL,qh];constructor
  ·rintro(ho| ⟨kv,hk,ho⟩)
   ·exact⟨(h4 o).2 (.inl ho),fun hy=>h3 o ho (.inr hy)⟩
   ·exact⟨(h4 o).2 (.inr (.inl ⟨kv,hk,ho⟩)),h.loose kv hk o ho⟩
  ·rintro⟨ht,hy⟩;rcases(h4 o).1 ht with ho| ho| ho
   ·exact .inl ho
   ·exact .inr ho
   ·exact absurd ho hy
 have hn:N.Nodup:=by
  rw [hN];refine Cj.2 ⟨h2,Ul items (h.ix.up.imp fun{a b}hab e=>by rw [e,Fb]at hab;cases hab) (fun kv hkv=>(h.chain kv hkv).1.nodup.1) h.Yd,fun x hx y hy e=> ?_⟩;subst e;exact h3 x hx (.inl ((qh x).1 hy))
 have hoff:(items.map fun kv=>(ch kv.1).map (·.off)).flatten=((items.map fun kv=>EU (ch kv.1)).flatten).map Cc:=by
  rw [Ad2,GM];congr 1;exact FO fun kv hkv=>(h.chain kv hkv).1.Am9
 have hr:=ZP (s:=s) (ch:=ch) (f:=fun kv=>(pairs kv.1,kv.2)) (fun _=>rfl) items (Dc (met.map Cc)) (fun kv hkv=>(h.chain kv hkv).1.listed h.ix.ok);have hperm:(Dc (met.map Cc)++(items.map fun kv=>(ch kv.1).map (·.off)).flatten).Perm (N.map Cc):=by
  rw [hN,Dq,hoff];exact List.Perm.append_right _ (FC _ _)
 generalize hR:Dc (met.map Cc)++(items.map fun kv=>(ch kv.1).map (·.off)).flatten=R at hr hperm;have hsp:=(FC R (fun x y=>decide (x<=y))).trans hperm;have hnd:(Dc R).Nodup:=hsp.nodup_iff.2 (IJ.2 (hn.imp fun{a b}hab e=>hab (by injection e)));have hsort:(Dc R).Pairwise (fun x y=>decide (x<=y)=true):=kK (fun a b c h k=>by simp at h k⊢;omega) (fun a b=>by simp;omega) _;have hlt:(Dc R).Pairwise (fun(x y:Int)=>x<y):=(rM.2 ⟨hsort,hnd⟩).imp (fun{a b}h=>by
  have h1:a<=b:=by simpa using h.1
  have h2:a≠b:=h.2;omega)
 refine⟨_,met.map Cc,R,h1,rfl,hr,?_,jP hlt,hlt,fun o=> ?_,?_⟩
 ·have hb:=EX N (D7 65537) hn (fun o ho=>by
  obtain⟨d,hd⟩:=((hm o).1 ho).1;have:=(hd.bounds h.ix.ok).2.1;have:=h.ix.ok.L1;exact Dj.2 (by omega))
  rw [hperm.length_eq,BH];rw [Py]at hb;omega
 ·rw [show((o:Int)∈Dc R<->(o:Int)∈N.map Cc)from hsp.mem_iff,<-hm o,Bf];constructor
  ·rintro⟨x,hx,e⟩;have:x=o:=by injection e
   exact this▸hx
  ·exact fun ho=>⟨o,ho,rfl⟩
 ·rw [<-hR,AQ];have e1:(Dc (met.map Cc)).length=(met.map Cc).length:=(FC _ _).length_eq;rw [e1];congr 1;simp only [yf,GM];congr 1;exact FO fun kv _=>by simp
theorem EW.drop(h:EW Y L s items ch){o:Nat}(ho:Y o):∃s2,J4 s o=(s2,0)/\EW (fun p=>Y p/\p≠o) L s2 items ch/\s2.sh=s.sh/\∀j,j<16->s2.ws j=s.ws j:=by
 obtain⟨s2,e2,ix2,k2,sD,Auu⟩:=Agh h.ix (o:=o) (.inr ho);have hne:∀kv∈items,∀p∈EU (ch kv.1),p≠o:=fun kv hkv p hp e=>h.loose kv hkv p hp (e▸ho)
 refine⟨s2,e2,⟨ix2.congr (fun p=> ?_),fun kv hkv=>⟨(h.chain kv hkv).1.keep k2 (fun p hp=>hne kv hkv p hp),(h.chain kv hkv).2⟩,h.none,h.Yd,fun kv hkv p hp hy=>h.loose kv hkv p hp hy.1⟩,sD,Auu⟩;constructor
 ·rintro⟨h1| h1,h2⟩
  ·exact .inl h1
  ·exact .inr ⟨h1,h2⟩
 ·rintro(⟨kv,hkv,hp⟩| ⟨h1,h2⟩)
  ·exact⟨.inl ⟨kv,hkv,hp⟩,hne kv hkv p hp⟩
  ·exact⟨.inr h1,h2⟩
theorem EW.Ajw(h:EW Y L s items ch){o:Nat}(ho:Y o){s2:St}(e:J4 s o=(s2,0)):∀p d,AP s2 p d<->AP s p d/\p≠o:=by
 obtain⟨c,ht⟩:=h.taken ho;obtain⟨s1,e1,_,_,_,_,tk1⟩:=Ye h.ix.ok ht;rw [e1]at e;cases e
 exact tk1
theorem EW.congr{Z:Nat->Prop}(h:EW Y L s items ch)(hz:∀o,Y o<->Z o):EW Z L s items ch:=
 ⟨h.ix.congr (fun o=>or_congr Iff.rfl (hz o)),h.chain,h.none,h.Yd,fun kv hkv o ho hZ=>h.loose kv hkv o ho ((hz o).2 hZ)⟩
theorem EW.again{s':St}{Z:Nat->Prop}(h:EW Y L s items ch)(ok':BA L s')(nh':∀o d,¬EI s' o d)(hk:FV s s' (fun _=>True))(h9:s'.ws 9=s.ws 9)(hz:∀o,Z o<->(∃d,AP s' o d)/\((∃d,AP s o d)->Y o)):EW Z L s' items ch:=by
 have hcl:∀kv∈items,∀o∈EU (ch kv.1),∃d,AP s o d:=fun kv hkv o ho=>by
  rcases h.ix.tree with⟨_,_,h3⟩| ⟨_,_,_,_,_,h3⟩
  ·exact(h3 o).2 (.inl ⟨kv,hkv,ho⟩)
  ·exact(h3 o).2 (.inr (.inl ⟨kv,hkv,ho⟩))
 have hto:∀o,(∃d,AP s o d)->∃d,AP s' o d:=fun o⟨d,hd⟩=>⟨d,(hk o d trivial hd).1⟩
 refine⟨⟨ok',nh',?_,h.ix.even⟩,fun kv hkv=>⟨(h.chain kv hkv).1.keep hk (fun _ _=>trivial),(h.chain kv hkv).2⟩,h.none,h.Yd,fun kv hkv o ho hZ=>h.loose kv hkv o ho (((hz o).1 hZ).2 (hcl kv hkv o ho))⟩;rcases h.ix.tree with⟨h1,h2,h3⟩| ⟨blocks,h1,T,hnd,hX,h3⟩
 ·refine .inl ⟨h9.trans h1,h2,fun o=> ?_⟩;constructor
  ·intro ht;by_cases hs:∃d,AP s o d
   ·rcases(h3 o).1 hs with h4| h4
    ·exact .inl h4
    ·exact .inr ((hz o).2 ⟨ht,fun _=>h4⟩)
   ·exact .inr ((hz o).2 ⟨ht,fun h=>absurd h hs⟩)
  ·rintro(⟨kv,hkv,ho⟩| hZ)
   ·exact hto o (hcl kv hkv o ho)
   ·exact((hz o).1 hZ).1
 ·refine .inr ⟨blocks,by rw [h9];exact h1,?_,hnd,fun o ho=> ?_,fun o=> ?_⟩
  ·rw [h9];exact T.keep h.ix.ok ok' hk (fun _ _=>trivial)
  ·rintro(⟨kv,hkv,h4⟩| hZ)
   ·exact hX o ho (.inl ⟨kv,hkv,h4⟩)
   ·exact hX o ho (.inr (((hz o).1 hZ).2 ((h3 o).2 (.inl ho))))
  ·constructor
   ·intro ht;by_cases hs:∃d,AP s o d
    ·rcases(h3 o).1 hs with h4| h4| h4
     ·exact .inl h4
     ·exact .inr (.inl h4)
     ·exact .inr (.inr ((hz o).2 ⟨ht,fun _=>h4⟩))
    ·exact .inr (.inr ((hz o).2 ⟨ht,fun h=>absurd h hs⟩))
   ·rintro(ho| ⟨kv,hkv,ho⟩| hZ)
    ·exact hto o ((h3 o).2 (.inl ho))
    ·exact hto o (hcl kv hkv o ho)
    ·exact((hz o).1 hZ).1
end
theorem xu{L:Nat}{sh:Sh}(hL:L<=1024)(hs:shapeOf L=some sh):Du L (st0 sh) [] (fun _=>[]):=
 ⟨(Am5 hL hs).congr (fun _=>⟨fun h=>h.elim,fun⟨_,h,_⟩=>(nomatch h)⟩),(fun _ h=>(nomatch h)),(fun _ _=>rfl),(fun _ h=>(nomatch h))⟩
def FN:Sh:={lines:=100,BI:=6,table:=128,data:=192}
theorem Yi:shapeOf 100=some FN:=by decide+kernel
def JP:ByteArray:=⟨#[97]⟩
def JA:ByteArray:=⟨#[120]⟩
def Arn:ByteArray:=⟨#[98]⟩
theorem qi:vZ FN JP JA=true:=by decide+kernel
def Wx:Wr:=⟨JP,JA,false⟩
theorem zK:jO (st0 FN) 1 Wx=(SV FN JP JA,0,Oj FN JA,0):=by
 have hg:GI (st0 FN) Wx.key.data.toList=(0,7):=yX FN JP (by decide);have ha:IQ (st0 FN) ⟨1,0,Wx.gone,Wx.text⟩=(one1 FN JA,Oj FN JA,0):=one_add qi;have hp:KW (one1 FN JA) Wx.key.data.toList (Oj FN JA)=(SV FN JP JA,0):=yV qi;unfold jO;rw [hg];simp only;rw [if_neg (by simp),if_neg (by simp [Wx]),ha];simp only;rw [if_neg (by simp),hp];simp
theorem qj:∃o,Oj FN JA=AA o/\Du 100 (SV FN JP JA) [(DR JP.data.toList,AA o)] (Q9 (fun _=>[]) (DR JP.data.toList) ⟨o,⟨1,0,false,JA⟩⟩)/\(SV FN JP JA).ws 8=0:=by
 have h:=qg (xu (L:=100) (by decide) Yi) 1 Wx (by decide+kernel) (by decide) (fun x hx=>(nomatch hx));rw [zK]at h;obtain⟨hl,h1⟩:=h;have h80:(SV FN JP JA).ws 8=0:=(hl.2 8 (by decide) (by decide)).trans (Il FN 8 (by decide));rcases h1 with⟨h1,_⟩| ⟨_,h1,_⟩| ⟨o,v,items',h1,_,_,hv,hs,hp⟩
 ·exact absurd (congrArg (fun r=>r.2.2) h1) (by decide)
 ·cases h1
 ·simp only [Prod.mk.injEq]at h1;obtain⟨rfl,h1,_⟩:=h1;refine⟨o,h1,?_,h80⟩;have hi:items'=[(DR JP.data.toList,AA o)]:=Ajs hs.ix.up (List.pairwise_singleton _ _) (fun x=>by
   rw [hp x];simp only [List.not_mem_nil,false_and,or_false,BC];exact Iff.rfl)
  rw [hi]at hs;exact hs
section
variable{L:Nat}{s:St}{items:List Kv}{ch:List UInt8->List Lk}
def Ib(s:St)(ws:Nat->UInt64):St:={sh:=s.sh,ws:=ws,tk:=s.tk,hd:=BB s.sh.BI 0}
theorem SK(s:St)(ws:Nat->UInt64)(i:Nat):hdN (Ib s ws) i=0:=by
 unfold hdN Ib;simp only [Bh,List.getElem?_replicate];split<;>rfl
theorem Acp(ok:BA L s){ws:Nat->UInt64}(h:∀j,j<16+s.sh.BI->ws j=s.ws j):BA L (Ib s ws):=
 ⟨ok.sh,ok.L1,ok.NR,by simp [Ib],ok.tk,fun i _=> .inl (SK s ws i),fun i _=> .inr (.inl (SK s ws i)),fun i a _ _=>by rw [SK,EE],fun i hi=>(h (16+i) (by have:i<s.sh.BI:=hi;omega)).trans (ok.tab i hi)⟩
theorem Acr(s:St)(ws:Nat->UInt64)(o d:Nat):¬EI (Ib s ws) o d:=by
 rintro⟨i,a,_,ha,_⟩;rw [SK,EE]at ha;cases ha
theorem Acs(ok:BA L s):wordsAt s.ws (s.sh.table/8) s.sh.BI=s.tk:=by
 apply EH
 ·simp [wordsAt,ok.NR]
 ·intro i h1 h2;rw [Gn,ok.sh.table,show 128/8+i=16+i by omega,ok.tab i (by rw [<-ok.NR];exact h2),Bh,List.getElem?_eq_getElem h2];rfl
theorem jQ(ok:BA L s):∀i,i<s.sh.BI->ES (s.ws (s.sh.table/8+i)).toNat=true:=fun i hi=>by
 rw [ok.sh.table,show 128/8+i=16+i by omega,ok.tab i hi];exact(ok.tk i hi).right
theorem xw(h:Du L s items ch){c off:Nat}{s1:St}(hc:c=1\/c=2)(hres:CQ s c=some (off,s1)){l:List UInt64}(hl:l.length<=8*Be c){ws:Nat->UInt64}(hw:Half s1.ws (BQ s1.ws (off/8) l) ws):
 Du L (Ib s ws) items ch/\∀j,j<16+s.sh.BI->ws j=s.ws j:=by
 obtain⟨ok1,hw1,pG,UZ,hh1,_,_,ht1⟩:=Ue h.ix.ok hc hres;have hb1:=hh1.bounds ok1;have hput:∀j,¬H8 off c j->ws j=s.ws j:=fun j hj=>by
  rcases hw j with e| e
  ·rw [e,hw1]
  ·rw [e];unfold BQ;rw [if_neg,hw1];intro h';exact hj ⟨h'.1,by have:=h'.2;omega⟩
 have hlow:∀j,j<16+s.sh.BI->ws j=s.ws j:=fun j hj=>hput j (fun hi=>by
  have:=ok1.DJ (by exact hb1.1) hi;rw [pG]at this;omega)
 have hk:FV s (Ib s ws) (fun _=>True):=fun o d _ ht=>by
  have ht1':=(ht1 o d).2 ht;obtain⟨hne,hap⟩:=Ll ok1 hh1 ht1';exact⟨ht,fun j hj=>hput j (fun hi=>Md hap hb1.2.2 (ht1'.bounds ok1).2.2 hi hj)⟩
 exact⟨h.keep (hk.mono fun _ _=>trivial) (h.ix.same (Acp h.ix.ok hlow) (Acr s ws) (fun o=>Iff.rfl) hk (hlow 9 (by omega))),hlow⟩
end
def Ana:ByteArray:=⟨#[121]⟩
def Aro:ByteArray:=⟨#[122]⟩
def Ajx:Wr:=⟨JP,Ana,false⟩
def Anb:Wr:=⟨Arn,Aro,false⟩
def Gp:St:={SV FN JP JA with ws:=Gg (SV FN JP JA).ws 8 1}
def ZQ:Rc:=⟨2,Oj FN JA,false,Ana⟩
def Ak3:Bool:=match CQ Gp 1 with
 | none=>false
 | some (off,s1)=>(IP {s1 with ws:=BQ s1.ws (off/8) (Dk ZQ)} off).2==0
theorem Arp:Ak3=true:=by decide+kernel
theorem Anc:∃off s1,CQ Gp 1=some (off,s1)/\(IP {s1 with ws:=BQ s1.ws (off/8) (Dk ZQ)} off).2=0:=by
 have h:=Arp;unfold Ak3 at h;cases hr:CQ Gp 1 with
 | none=>rw [hr]at h;cases h
 | some q=>
   obtain⟨off,s1⟩:=q;rw [hr]at h;exact⟨off,s1,rfl,by simpa using h⟩
theorem Arq:(Dx (SV FN JP JA)).length=2:=by decide+kernel
theorem Ajy:Eg ZQ=true:=by decide+kernel
theorem Ane:(Oj FN JA).toNat≠0:=by decide+kernel
theorem Arr:GI Gp JP.data.toList=(Oj FN JA,0):=by
 obtain⟨o,ho,hs,_⟩:=qj;rcases Agm (hs.slot 1).ix JP.data.toList (by decide)with⟨v,h1,hm,_⟩| ⟨_,h2⟩
 ·rw [BC]at hm;have:v=AA o:=congrArg Prod.snd hm;rw [ho,<-this];exact h1
 ·exact absurd rfl (h2 _ (BC.2 rfl))
theorem Ak4:RV (st0 FN) (SV FN JP JA):=by
 have h:=qg (xu (L:=100) (by decide) Yi) 1 Wx (by decide+kernel) (by decide) (fun x hx=>(nomatch hx));rw [zK]at h;exact h.1
theorem Ajz : ∃ off s1, CQ Gp 1 = some (off, s1) /\ (IP { s1 with ws := BQ s1.ws (off / 8) (Dk ZQ) } off).2 = 0 /\
    ∀ ws, Half s1.ws (BQ s1.ws (off / 8) (Dk ZQ)) ws -> ws 8 = 1 /\ wordsAt ws 0 8 = wordsOf FN /\ (∃ o, Du 100 (Ib Gp ws) [(DR JP.data.toList, AA o)] (Q9 (fun _ => []) (DR JP.data.toList) ⟨o, ⟨1, 0, false, JA⟩⟩)) /\
      (∀ i, i < FN.BI -> ES (ws (FN.table / 8 + i)).toNat = true) /\ Ib Gp ws = { sh := FN, ws := ws, tk := wordsAt ws (FN.table / 8) FN.BI, hd := BB FN.BI 0 } := by
  obtain ⟨off, s1, h1, h2⟩ := Anc
  refine ⟨off, s1, h1, h2, fun ws hw => ?_⟩
  obtain ⟨o, ho, hs, _⟩ := qj
  have hs3 : Du 100 Gp [(DR JP.data.toList, AA o)] (Q9 (fun _ => []) (DR JP.data.toList) ⟨o, ⟨1, 0, false, JA⟩⟩) := hs.slot 1
  obtain ⟨hso, hlow⟩ := xw hs3 (.inl rfl) h1 (by decide +kernel) hw
  have hsh : Gp.sh = FN := Ak4.1
  rw [hsh] at hlow
  have hsl : FN.BI = 6 := rfl
  have h8 : ws 8 = 1 := (hlow 8 (by omega)).trans (by show Gg (SV FN JP JA).ws 8 1 8 = 1; unfold Gg; rw [if_pos rfl])
  have hlw : ∀ j, j < 8 -> ws j = MR FN j := fun j hj => (hlow j (by omega)).trans (by
    show Gg (SV FN JP JA).ws 8 1 j = _
    unfold Gg
    rw [if_neg (by omega)]
    exact Ak4.2 j (by omega) (by omega))
  have hok : BA 100 (Ib Gp ws) := hso.ix.ok
  have htk := Acs hok
  have hrt := jQ hok
  have e1 : (Ib Gp ws).sh = FN := hsh
  rw [e1] at htk hrt
  refine ⟨h8, ?_, ⟨o, hso⟩, hrt, ?_⟩
  · have h2 : wordsAt ws 0 8 = wordsAt (MR FN) 0 8 := by
      apply EH
      · simp [wordsAt]
      · intro i h1 h2
        rw [Gn, Gn]
        exact hlw _ (by have := h1; simp [wordsAt] at this; omega)
    rw [h2, Xb]
  · have e2 : (Ib Gp ws).tk = Gp.tk := rfl
    rw [e2] at htk
    show ({ sh := Gp.sh, ws := ws, tk := Gp.tk, hd := BB Gp.sh.BI 0 } : St) = _
    rw [hsh, <- htk]
    rfl
section
variable{X Y:Nat->Prop}{L:Nat}{s:St}{items:List Kv}{ch:List UInt8->List Lk}
end
structure Loose(L:Nat)(s0 s:St)(Y:Nat->Prop)(items:List Kv)(ch:List UInt8->List Lk):Prop where
 sto:EW Y L s items ch
 sh:s.sh=s0.sh
 low:∀j,j<16->s.ws j=s0.ws j
 tk:∀o,(∃d,AP s0 o d)<->(∃d,AP s o d)/\¬Y o
section
variable{Y:Nat->Prop}{L:Nat}{s0 s s':St}{items:List Kv}{ch:List UInt8->List Lk}
theorem Acu(ok:BA L s)(ok':BA L s')(h:∀o,(∃d,AP s o d)<->∃d,AP s' o d):Dx s=Dx s':=
 Ve (r:=fun(x y:Nat)=>x<y) (fun x=>Nat.lt_irrefl x) (fun x y h=>by omega) _ _ (Oo ok) (Oo ok') fun o=>by rw [Ia ok,Ia ok',h o]
theorem Loose.start(h:Du L s items ch):Loose L s s (fun _=>False) items ch:=⟨h.y,rfl,fun _ _=>rfl,fun _=>⟨fun h=>⟨h,id⟩,fun h=>h.1⟩⟩
theorem Loose.opened(h:Loose L s0 s Y items ch):EW Y L (Ee s.ws s.sh) items ch/\∀o d,AP (Ee s.ws s.sh) o d<->AP s o d:=by
 obtain⟨ok',ht,hk⟩:=Acm h.sto.ix.ok (Acn s);refine⟨h.sto.again ok' (Ajr _ _) hk rfl (fun o=>⟨fun ho=> ?_,fun⟨⟨d,hd⟩,f⟩=>f ⟨d,(ht o d).1 hd⟩⟩),ht⟩;obtain⟨d,hd⟩:=h.sto.taken ho;exact⟨⟨d,(ht o d).2 hd⟩,fun _=>ho⟩
theorem Loose.freed(h:Loose L s0 s Y items ch)(h0:BA L s0)(h':BA L s')(ht:∀o d,AP s' o d<->AP (Ee s.ws s.sh) o d/\¬Y o):Dx s'=Dx s0:=by
 refine Acu h' h0 fun o=> ?_
 rw [h.tk o];constructor
 ·rintro⟨d,hd⟩;obtain⟨h1,h2⟩:=(ht o d).1 hd;exact⟨⟨d,(h.opened.2 o d).1 h1⟩,h2⟩
 ·rintro⟨⟨d,hd⟩,h2⟩;exact⟨d,(ht o d).2 ⟨(h.opened.2 o d).2 hd,h2⟩⟩
end
