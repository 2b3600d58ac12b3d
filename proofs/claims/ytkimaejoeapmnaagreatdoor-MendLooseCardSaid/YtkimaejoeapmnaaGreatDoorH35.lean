import Derived.Test.YtkimaejoeapmnaaGreatDoorH33
import Derived.Test.YtkimaejoeapmnaaGreatDoorH34
set_option linter.defProp false
open List renaming mem_cons_self->Bh,pairwise_cons->GV,mem_cons->CJ,mem_cons_of_mem->BH,mem_range->Dy,mem_map->Ba,pairwise_map->Jc,range->D9,length_range->We,getElem_of_mem->CB,append_assoc->AX,mem_append->AL,append_cancel_left->Ey,mem_append_left->BG,mem_singleton->BD,map_cons->Cb,reverse_append->UW,reverse_singleton->Rn,singleton_append->TF,getElem?_eq_getElem->Af,nodup_append->CE,mem_flatten->Nz,mergeSort_perm->FD,pairwise_mergeSort->mO,pairwise_and_iff->uF,map_flatten->Afd,map_map->Gp,map_congr_left->FW,map_append->Dx,length_map->BJ,length_append->AQ,length_flatten->zF,replicate->BC,getD_eq_getElem?_getD->Bi,ext_getElem->Eu
open UInt64 renaming ofNat->Aw,toNat->UU,toNat_lt->Yc
open Int renaming toNat_natCast->Cm,ofNat->Cf
namespace Go.Proofs.YtkimaejoeapmnaaGreatDoor
def VI{α:Type}{r:α->α->Prop}(hi:∀x,¬r x x)(hs:∀x y,r x y->¬r y x):∀(a b:List α),a.Pairwise r->b.Pairwise r->(∀x,x∈a<->x∈b)->a=b
 | [],[],_,_,_=>rfl
 | [],y::b,_,_,h=>absurd ((h y).2 (Bh ..)) (λh=>nomatch h)
 | x::a,[],_,_,h=>absurd ((h x).1 (Bh ..)) (λh=>nomatch h)
 | x::a,y::b,ha,hb,h=>by
   obtain⟨ha1,ha2⟩:=GV.1 ha;obtain⟨hb1,hb2⟩:=GV.1 hb;have e:x=y:=by
    rcases CJ.1 ((h x).1 (Bh ..))with e| h1
    ·exact e
    ·rcases CJ.1 ((h y).2 (Bh ..))with e| h2
     ·exact e.symm
     ·exact absurd (ha1 y h2) (hs y x (hb1 x h1))
   subst e;refine congrArg (List.cons x) (VI hi hs a b ha2 hb2 λz=> ?_);constructor
   ·intro hz;rcases CJ.1 ((h z).1 (BH _ hz))with e| h1
    ·subst e;exact absurd (ha1 z hz) (hi z)
    ·exact h1
   ·intro hz;rcases CJ.1 ((h z).2 (BH _ hz))with e| h1
    ·subst e;exact absurd (hb1 z hz) (hi z)
    ·exact h1
section
variable{L:Nat}{s:St}{items items':List Kv}
def PS{w:Nat}{a:Nat}(ok:OkW w):a∈IC w<->EP w a=true:=by
 unfold IC;rw [List.mem_filter,Dy];refine⟨λh=>h.2,λh=>⟨?_,h⟩⟩;obtain⟨c,hc,ha,_⟩:=ok.RZ h;rw [hc.class];exact ha
def IK(ok:Bz L s)(o:Nat):o∈DC s<->∃d,AO s o d:=by
 unfold DC;rw [List.mem_flatMap];constructor
 ·rintro⟨i,hi,ho⟩;rw [Dy,ok.Oq]at hi;obtain⟨a,ha,rfl⟩:=Ba.1 ho;exact⟨_,i,a,hi,(PS (ok.tk i hi)).1 ha,rfl,rfl⟩
 ·rintro⟨d,i,a,hi,ha,rfl,rfl⟩;exact⟨i,by rw [Dy,ok.Oq];exact hi,Ba.2 ⟨a,(PS (ok.tk i hi)).2 ha,rfl⟩⟩
def Ahz(w:Nat):(IC w).Pairwise (·<·):=by
 unfold IC;exact List.Pairwise.filter _ List.pairwise_lt_range
def QD(ok:Bz L s):(DC s).Pairwise (·<·):=by
 unfold DC;rw [List.flatMap_def,List.pairwise_flatten];refine⟨λl hl=> ?_,?_⟩
 ·obtain⟨i,hi,rfl⟩:=Ba.1 hl;rw [Dy,ok.Oq]at hi;rw [Jc];refine(Ahz (GY s i)).imp_of_mem λ{a b}ha hb hab=> ?_
  obtain⟨c,hc,_,_⟩:=(ok.tk i hi).RZ ((PS (ok.tk i hi)).1 ha);have hc0:0<64*Bf (Bg (GY s i)):=by
   rw [hc.class];have:=(Ff hc.cls).2.1;omega
  unfold CY;have:=Nat.mul_lt_mul_of_pos_left hab hc0;omega
 ·rw [Jc];refine List.pairwise_lt_range.imp_of_mem λ{i j}hi hj hij x hx y hy=> ?_
  rw [Dy,ok.Oq]at hi hj;obtain⟨a,ha,rfl⟩:=Ba.1 hx;obtain⟨b,hb,rfl⟩:=Ba.1 hy;obtain⟨c,hc,ha',_⟩:=(ok.tk i hi).RZ ((PS (ok.tk i hi)).1 ha);rw [hc.class];have:=(MR (sh:=s.sh) (i:=i) hc.cls ha').2;have h2:s.sh.data+1024*j<=CY s.sh j (Bg (GY s j)) b:=by unfold CY;omega
  have h3:=(Ff hc.cls).2.1;omega
end
def Aa1{L:Nat}{s:St}(ok:Bz L s):(DC s).length<=65537:=by
 have hn:(DC s).Nodup:=(QD ok).imp (λ{a b}hab=>O);have hle:=FU (DC s) (D9 65537) hn (λo ho=>by
  obtain⟨d,hd⟩:=(IK ok o).1 ho;have:=(hd.bounds ok).2.1;have:=ok.L1;exact Dy.2 O)
 rwa [We]at hle
def lK{a b:List Kv}(ha:rE a)(hb:rE b)(h:∀x,x∈a<->x∈b):a=b:=
 VI (r:=λa b:Kv=>Op.bytesLess a.1 b.1=true) (λx h=>by rw [EL]at h;cases h) (λx y h k=>by
  have:=MN _ _ _ h k;rw [EL]at this;cases this) a b ha hb h
def Aa2{l:List Kv}(h:rE l){a b:Kv}(ha:a∈l)(hb:b∈l)(e:a.1=b.1):a=b:=by
 obtain⟨i,hi,rfl⟩:=CB ha;obtain⟨j,hj,rfl⟩:=CB hb;have hr:=List.pairwise_iff_getElem.1 h;rcases Nat.lt_trichotomy i j with h1| h1| h1
 ·have:=hr i j hi hj h1;rw [e,EL]at this;cases this
 ·subst h1;rfl
 ·have:=hr j i hj hi h1;rw [e,EL]at this;cases this
section
variable{X:Nat->Prop}{L:Nat}{s:St}{items:List Kv}
def yO (h : Ox X L s items) (key : List UInt8) (hk : key.length <= 16) : (∃ v, Gy s key = (v, 0) /\ (Dn key, v) ∈ items /\ v ≠ 0) \/ (Gy s key = (0, 7) /\ ∀ kv ∈ items, kv.1 ≠ Dn key) := by
  by_cases h0 : s.ws 9 = 0
  · have hi : items = [] := by
      rcases h.tree with ⟨_, h2, _⟩ | ⟨_, h1, _⟩
      · exact h2
      · exact absurd h0 h1
    subst hi
    refine .inr ⟨?_, λ_ h => nomatch h⟩
    unfold Gy FY
    rw [if_neg O, h0, Ez, if_pos rfl]
    rfl
  · rcases h.tree with ⟨h1, _⟩ | ⟨blocks, h1, T, hnd, hX, htk⟩
    · exact absurd h1 h0
    · obtain ⟨way, last, rest', q, rl, nl, parts, A, B, b1, b2, o, hp, a⟩ := around h.ok h1 T hnd key hk
      have S := a.spot
      have hgl : (way ++ [last]).getLast? = some last := by simp
      have hmem : ∀ kv ∈ items, kv ∈ A \/ kv ∈ B \/ ∃ k, (k, kv.2) ∈ BX last.nd ++ Bo last.nd.pre last.nd.labels parts /\ kv.1 = q ++ k := λkv hkv => by
        rw [S.its, AX] at hkv
        rcases AL.1 hkv with g | g
        · exact .inl g
        · rcases AL.1 g with g | g
          · exact .inr (.inr (Es.1 g))
          · exact .inr (.inl g)
      unfold Gy
      rw [if_neg O, hp]
      simp only
      by_cases hpr : last.nd.pre = rest'
      · have hst : CZ (way ++ [last]) rest' = some last := by unfold CZ; rw [hgl]; simp only; rw [if_pos hpr]
        rw [hst]
        simp only
        have hkey : Dn key = q ++ last.nd.pre := by rw [hpr]; exact S.cut
        by_cases hv : last.nd.val = 0
        · rw [if_pos hv]
          refine .inr ⟨rfl, λkv hkv e => ?_⟩
          rcases hmem kv hkv with g | g | ⟨k, g1, g2⟩
          · exact a.other kv (.inl g) e
          · exact a.other kv (.inr g) e
          · rcases AL.1 g1 with g1 | g1
            · exact (FT g1).2 hv
            · obtain ⟨i, i1, i2, kv', _, e2⟩ := Fg g1
              rw [g2, hkey] at e
              have e3 := Ey e
              have e4 : k = last.nd.pre ++ last.nd.labels[i] :: kv'.1 := congrArg Prod.fst e2
              rw [e4] at e3
              have := congrArg List.length e3
              simp at this
        · rw [if_neg hv]
          refine .inl ⟨_, rfl, ?_, hv⟩
          rw [S.its, AX]
          refine List.mem_append_right _ (BG _ (Es.2 ⟨last.nd.pre, BG _ ?_, hkey⟩))
          unfold BX
          rw [if_pos hv]
          exact BD.2 rfl
      · have hst : CZ (way ++ [last]) rest' = none := by unfold CZ; rw [hgl]; simp only; rw [if_neg hpr]
        rw [hst]
        refine .inr ⟨rfl, λkv hkv e => ?_⟩
        rcases hmem kv hkv with g | g | ⟨k, g1, g2⟩
        · exact a.other kv (.inl g) e
        · exact a.other kv (.inr g) e
        · rw [g2, S.cut] at e
          exact a.below hpr _ g1 (Ey e)
end
structure Ce(L:Nat)(s:St)(items:List Kv)(ch:List UInt8->List Lk):Prop where
 ix:Ox (λo=>∃kv∈items,o∈Et (ch kv.1)) L s items
 chain:∀kv∈items,Dt s kv.2 (ch kv.1)/\kv.2≠0
 none:∀k,(∀kv∈items,kv.1≠k)->ch k=[]
 Xb:∀kv∈items,∀kv'∈items,kv.1≠kv'.1->∀o∈Et (ch kv.1),o∉Et (ch kv'.1)
def IY(ch:List UInt8->List Lk)(k:List UInt8)(x:Lk):List UInt8->List Lk:=λk'=>if k'=k then x::ch k' else ch k'
def Ej(s:St)(stamp:UInt64)(y:Wr):St×UInt64×UInt64×Int:=
 if(Gy s y.key.data.toList).2≠0/\(Gy s y.key.data.toList).2≠7 then(s,0,0,(Gy s y.key.data.toList).2)else
 if y.gone=true/\(Gy s y.key.data.toList).1=0 then(s,0,0,0)else
 if(IZ s ⟨stamp,(Gy s y.key.data.toList).1,y.gone,y.text⟩).2.2≠0 then((IZ s ⟨stamp,(Gy s y.key.data.toList).1,y.gone,y.text⟩).1,0,0,(IZ s ⟨stamp,(Gy s y.key.data.toList).1,y.gone,y.text⟩).2.2)else
 if(KJ (IZ s ⟨stamp,(Gy s y.key.data.toList).1,y.gone,y.text⟩).1 y.key.data.toList (IZ s ⟨stamp,(Gy s y.key.data.toList).1,y.gone,y.text⟩).2.1).2≠0 then
  ((IE (KJ (IZ s ⟨stamp,(Gy s y.key.data.toList).1,y.gone,y.text⟩).1 y.key.data.toList (IZ s ⟨stamp,(Gy s y.key.data.toList).1,y.gone,y.text⟩).2.1).1 (Bj (IZ s ⟨stamp,(Gy s y.key.data.toList).1,y.gone,y.text⟩).2.1)).1,0,0,
    (KJ (IZ s ⟨stamp,(Gy s y.key.data.toList).1,y.gone,y.text⟩).1 y.key.data.toList (IZ s ⟨stamp,(Gy s y.key.data.toList).1,y.gone,y.text⟩).2.1).2)else
 ((KJ (IZ s ⟨stamp,(Gy s y.key.data.toList).1,y.gone,y.text⟩).1 y.key.data.toList (IZ s ⟨stamp,(Gy s y.key.data.toList).1,y.gone,y.text⟩).2.1).1,(Gy s y.key.data.toList).1,(IZ s ⟨stamp,(Gy s y.key.data.toList).1,y.gone,y.text⟩).2.1,0)
def Np(s s':St):Prop:=s'.sh=s.sh/\∀j,j<16->j≠9->s'.ws j=s.ws j
def Np.refl(s:St):Np s s:=⟨rfl,λ_ _ _=>rfl⟩
def Np.trans{s s' s'':St}(h:Np s s')(k:Np s' s''):Np s s'':=⟨k.1.trans h.1,λj h1 h2=>(k.2 j h1 h2).trans (h.2 j h1 h2)⟩
def QS.Ah0{X:Nat->Prop}{s s':St}(h:QS X s s'):Np s s':=⟨h.sh,h.low⟩
section
variable{L:Nat}{s:St}{items:List Kv}{ch:List UInt8->List Lk}
def Ce.key(h:Ce L s items ch){a b:Kv}(ha:a∈items)(hb:b∈items)(e:a.1=b.1):a=b:=Aa2 h.ix.up ha hb e
def Adw (h : Ce L s items ch) {k : List UInt8} {lk : Lk} {s1 s2 : St} {o : Nat} (ho : lk.off = o) (hr : Eb lk.rc = true) (YN : o <= 65536) (h0 : 0 < o) (hnx : ¬ ∃ kv ∈ items, o ∈ Et (ch kv.1)) (hv : Dt s lk.rc.next (ch k)) (hst : ∀ x ∈ ch k, x.rc.stamp.toNat < lk.rc.stamp.toNat)
    (k1 : FB s s1 (λ_ => True)) (ht : AO s1 o 1) (hw : wordsAt s1.ws (o / 8) 8 = Dj lk.rc) {items' : List Kv} (k2 : FB s1 s2 (λp => (∃ kv ∈ items, p ∈ Et (ch kv.1)) \/ p = o)) (ix : Ox (λp => (∃ kv ∈ items, p ∈ Et (ch kv.1)) \/ p = o) L s2 items') (hp : rP items items' k (Aw o)) :
    Ce L s2 items' (IY ch k lk) := by
  have hkey : ∀ kv ∈ items', (kv = (k, Aw o)) \/ (kv ∈ items /\ kv.1 ≠ k) := λkv hkv => (hp kv).1 hkv
  have hin : (k, Aw o) ∈ items' := (hp _).2 (.inl rfl)
  have hother : ∀ kv ∈ items, kv.1 ≠ k -> IY ch k lk kv.1 = ch kv.1 := λkv _ hne => by unfold IY; rw [if_neg hne]
  have hself : IY ch k lk k = lk :: ch k := by unfold IY; rw [if_pos rfl]
  have hlo : Et (lk :: ch k) = o :: Et (ch k) := by unfold Et; rw [Cb, ho, Cm]
  have hold : ∀ p ∈ Et (ch k), ∃ kv ∈ items, p ∈ Et (ch kv.1) := λp hpm => by
    by_cases hh : ∀ kv ∈ items, kv.1 ≠ k
    · rw [h.none k hh] at hpm; cases hpm
    · obtain ⟨kv, h1⟩ := Classical.not_forall.1 hh
      obtain ⟨h2, h3⟩ := Classical.not_imp.1 h1
      exact ⟨kv, h2, by rw [Classical.not_not.1 h3]; exact hpm⟩
  have hcon : ∀ kv ∈ items, kv.1 = k -> ∀ p ∈ Et (ch kv.1), p ∈ Et (ch k) := λkv _ e p hp => by rw [<- e]; exact hp
  refine ⟨ix.congr λp => ?_, λkv hkv => ?_, λk' hk' => ?_, λa ha b hb hab p hpa hpb => ?_⟩
  · constructor
    · rintro (⟨kv, h1, h2⟩ | rfl)
      · by_cases e : kv.1 = k
        · exact ⟨_, hin, by rw [hself, hlo]; exact BH _ (hcon kv h1 e p h2)⟩
        · exact ⟨kv, (hp kv).2 (.inr ⟨h1, e⟩), by rw [hother kv h1 e]; exact h2⟩
      · exact ⟨_, hin, by rw [hself, hlo]; exact Bh ..⟩
    · rintro ⟨kv, h1, h2⟩
      rcases hkey kv h1 with rfl | ⟨h3, h4⟩
      · rw [hself, hlo] at h2
        rcases CJ.1 h2 with h2 | h2
        · exact .inr h2
        · exact .inl (hold p h2)
      · rw [hother kv h3 h4] at h2
        exact .inl ⟨kv, h3, h2⟩
  · rcases hkey kv hkv with rfl | ⟨h3, h4⟩
    · rw [hself]
      refine ⟨?_, λe => ?_⟩
      · obtain ⟨t1, t2⟩ := k2 o 1 (.inr rfl) ht
        have hw2 := U8 (o := o) (c := 1) t2
        rw [show 8 * Bf 1 = 8 from rfl, hw] at hw2
        have hc := (hv.keep k1 (λ_ _ => trivial)).keep k2 (λp hp => .inl (hold p hp))
        have := Dt.cons o lk.rc (ch k) t1 hr hw2 hc hst
        rw [<- ho] at this
        exact this
      · have := congrArg UU e
        rw [DU O] at this
        simp at this
        omega
    · rw [hother kv h3 h4]
      exact ⟨((h.chain kv h3).1.keep k1 (λ_ _ => trivial)).keep k2 (λp hp => .inl ⟨kv, h3, hp⟩), (h.chain kv h3).2⟩
  · have hne : k' ≠ k := λe => hk' _ hin e.symm
    unfold IY
    rw [if_neg hne]
    refine h.none k' (λkv hkv e => ?_)
    exact hk' kv ((hp kv).2 (.inr ⟨hkv, by rw [e]; exact hne⟩)) e
  · have key : ∀ c : Kv, c ∈ items -> c.1 ≠ k -> ∀ p, p ∈ Et (ch c.1) -> p ∈ o :: Et (ch k) -> False := λc hc hck p h1 h2 => by
      rcases CJ.1 h2 with rfl | h2
      · exact hnx ⟨c, hc, h1⟩
      · obtain ⟨kv, g1, g2⟩ := hold p h2
        by_cases hh : ∀ kv ∈ items, kv.1 ≠ k
        · rw [h.none k hh] at h2; cases h2
        · obtain ⟨kv, h1'⟩ := Classical.not_forall.1 hh
          obtain ⟨h3, h4⟩ := Classical.not_imp.1 h1'
          have h4 := Classical.not_not.1 h4
          exact h.Xb c hc kv h3 (by rw [h4]; exact hck) p h1 (by rw [h4]; exact h2)
    rcases hkey a ha with rfl | ⟨a1, a2⟩
    · rcases hkey b hb with rfl | ⟨b1, b2⟩
      · exact hab rfl
      · rw [hself, hlo] at hpa
        rw [hother b b1 b2] at hpb
        exact key b b1 b2 p hpb hpa
    · rw [hother a a1 a2] at hpa
      rcases hkey b hb with rfl | ⟨b1, b2⟩
      · rw [hself, hlo] at hpb
        exact key a a1 a2 p hpa hpb
      · rw [hother b b1 b2] at hpb
        exact h.Xb a a1 b b1 hab p hpa hpb
def Ce.keep(h:Ce L s items ch){s':St}(k:FB s s' (λp=>∃kv∈items,p∈Et (ch kv.1)))(ix:Ox (λp=>∃kv∈items,p∈Et (ch kv.1)) L s' items):Ce L s' items ch:=
 ⟨ix,λkv hkv=>⟨(h.chain kv hkv).1.keep k (λ_ hp=>⟨kv,hkv,hp⟩),(h.chain kv hkv).2⟩,h.none,h.Xb⟩
def Ak8(L:Nat)(s:St)(items:List Kv)(ch:List UInt8->List Lk)(stamp:UInt64)(y:Wr)(r:St×UInt64×UInt64×Int):Prop:=
 Np s r.1/\((r.2=(0,0,6)/\Ce L r.1 items ch)\/
  (r=(s,0,0,0)/\y.gone=true/\∀kv∈items,kv.1≠Dn y.key.data.toList)\/
  (∃o v items',r.2=(v,Aw o,0)/\0<o/\o<=65536/\((v=0/\y.gone=false/\∀kv∈items,kv.1≠Dn y.key.data.toList)\/(v≠0/\(Dn y.key.data.toList,v)∈items))/\
   Ce L r.1 items' (IY ch (Dn y.key.data.toList) ⟨o,⟨stamp,v,y.gone,y.text⟩⟩)/\rP items items' (Dn y.key.data.toList) (Aw o)))
def VJ(h:Ce L s items ch)(stamp:UInt64)(y:Wr)(hy:Dz y=true)(hs0:stamp.toNat≠0)(hst:∀x∈ch (Dn y.key.data.toList),x.rc.stamp.toNat<stamp.toNat):Ak8 L s items ch stamp y (Ej s stamp y):=by
 have hyk:y.key.data.toList.length<=16/\y.text.size<=40/\(y.gone=true->y.text.size=0):=by
  unfold Dz at hy;simp only [Bool.and_eq_true,decide_eq_true_eq,Bool.or_eq_true,Bool.not_eq_true']at hy;exact⟨hy.1.1,hy.1.2,λhg=>hy.2.resolve_left (by rw [hg];simp)⟩
 have hget:∃v e,Gy s y.key.data.toList=(v,e)/\¬(e≠0/\e≠7)/\((v=0/\∀kv∈items,kv.1≠Dn y.key.data.toList)\/(v≠0/\(Dn y.key.data.toList,v)∈items))/\Dt s v (ch (Dn y.key.data.toList)):=by
  rcases yO h.ix y.key.data.toList hyk.1 with⟨v,e,hm,hv⟩| ⟨e,hn⟩
  ·exact⟨v,0,e,by simp,.inr ⟨hv,hm⟩,(h.chain _ hm).1⟩
  ·exact⟨0,7,e,by simp,.inl ⟨rfl,hn⟩,by rw [h.none _ hn];exact .nil⟩
 obtain⟨v,e,hg,he,hcase,hch⟩:=hget;unfold Ej;rw [hg];simp only;rw [if_neg he];by_cases hgv:y.gone=true/\v=0
 ·rw [if_pos hgv];exact⟨Np.refl s,.inr (.inl ⟨rfl,hgv.1,(hcase.resolve_right (λh=>h.1 hgv.2)).2⟩)⟩
 ·rw [if_neg hgv];have hr:Eb ⟨stamp,v,y.gone,y.text⟩=true:=(Ky _).2 ⟨hs0,hyk.2.1,hyk.2.2⟩;rcases Aht h.ix ⟨stamp,v,y.gone,y.text⟩ hr with ea| ⟨s1,o,ea,_,hnt,hnX,YN,ho0,ht1,hw1,ix1,k1,sh1,Av4⟩
  ·rw [ea];simp only;rw [if_pos U];exact⟨Np.refl s,.inl ⟨rfl,h⟩⟩
  ·rw [ea];simp only;rw [if_neg Θ];have hone:Aw o≠0:=λe=>by
    have:=congrArg UU e;rw [DU O]at this;simp at this;omega
   have hL1:Np s s1:=⟨sh1,λj hj _=>Av4 j hj⟩;obtain⟨kx,hput⟩:=lF ix1 y.key.data.toList hyk.1 (Aw o) hone;generalize KJ s1 y.key.data.toList (Aw o)=rp at kx hput;obtain⟨s2,e2⟩:=rp;simp only at kx hput⊢;rcases hput with⟨rfl,dX,_⟩| ⟨rfl,items',dX,hp⟩
   ·rw [if_pos U];obtain⟨s3,e3,ix3,k3,sh3,Av5⟩:=yN dX (o:=o) (.inr rfl);have hof:Bj (Aw o)=o:=MV O;rw [hof,e3];refine⟨(hL1.trans kx.Ah0).trans ⟨sh3,λj hj _=>Av5 j hj⟩,.inl ⟨rfl,?_⟩⟩;have kk:FB s s3 (λp=>∃kv∈items,p∈Et (ch kv.1)):=λp c hp ht=>by
     obtain⟨u1,u2⟩:=k1 p c trivial ht;obtain⟨u3,u4⟩:=kx.keep p c (.inl hp) u1;obtain⟨u5,u6⟩:=k3 p c (λe=>hnX (e▸hp)) u3;exact⟨u5,λj hj=>((u6 j hj).trans (u4 j hj)).trans (u2 j hj)⟩
    refine h.keep kk (ix3.congr λp=> ?_);constructor
    ·rintro⟨h1| h1,h2⟩
     ·exact h1
     ·exact absurd h1 h2
    ·exact λh1=>⟨.inl h1,λe=>hnX (e▸h1)⟩
   ·rw [if_neg Θ];refine⟨hL1.trans kx.Ah0,.inr (.inr ⟨o,v,items',rfl,ho0,YN,?_,?_,hp⟩)⟩
    ·rcases hcase with⟨h1,h2⟩| ⟨h1,h2⟩
     ·exact .inl ⟨h1,by cases hgn:y.gone with
      | false=>rfl
      | true=>exact absurd ⟨hgn,h1⟩ hgv,h2⟩
     ·exact .inr ⟨h1,h2⟩
    ·exact Adw h (k:=Dn y.key.data.toList) (lk:=⟨o,⟨stamp,v,y.gone,y.text⟩⟩) rfl hr YN ho0 hnX hch hst k1 ht1 hw1 kx.keep dX hp
end
section
variable{L:Nat}{s:St}{items items':List Kv}{ch:List UInt8->List Lk}
def yP{s:St}{L:Nat}(ok:Bz L s){v:UInt64}{k:Lk}{l:List Lk}(h:Dt s v (k::l)):∃o:Nat,k.off=o/\v=Aw o/\AO s o 1/\Eb k.rc=true/\wordsAt s.ws (o/8) 8=Dj k.rc/\Dt s k.rc.next l/\(∀x∈l,x.rc.stamp.toNat<k.rc.stamp.toNat)/\0<o/\o<=65536:=by
 cases h with
 | cons o r l ht hr hw hn hs=>
   have hb:=ht.bounds ok;have h1:=ok.sh.Le;have h2:=ok.L1;exact⟨o,rfl,rfl,ht,hr,hw,hn,hs,O,O⟩
def J4(s:St)(key:List UInt8)(v:UInt64):St×Int:=if v=0 then((Ug s key).1,(Ug s key).2.2)else KJ s key v
def iT {s0 : St} (h0 : Ce L s0 items ch) {key : ByteArray} (hk : key.size <= 16) {lk : Lk} {o : Nat} (ho : lk.off = o) (hp : rP items items' (Dn key.data.toList) (Aw o)) (h : Ce L s items' (IY ch (Dn key.data.toList) lk))
    (hcase : (lk.rc.next = 0 /\ ∀ kv ∈ items, kv.1 ≠ Dn key.data.toList) \/ (lk.rc.next ≠ 0 /\ (Dn key.data.toList, lk.rc.next) ∈ items)) :
    ∃ s1 s2, J4 s key.data.toList lk.rc.next = (s1, 0) /\ IE s1 o = (s2, 0) /\ Ce L s2 items ch /\ Np s s2 := by
  have hkl : key.data.toList.length <= 16 := hk
  obtain ⟨k, hkk⟩ : ∃ k, k = Dn key.data.toList := ⟨_, rfl⟩
  rw [<- hkk] at hp h hcase
  have hin : (k, Aw o) ∈ items' := (hp _).2 (.inl rfl)
  have hself : IY ch k lk k = lk :: ch k := by unfold IY; rw [if_pos rfl]
  have hother : ∀ k', k' ≠ k -> IY ch k lk k' = ch k' := λk' hne => by unfold IY; rw [if_neg hne]
  have hlo : Et (lk :: ch k) = o :: Et (ch k) := by unfold Et; rw [Cb, ho, Cm]
  have hc := (h.chain _ hin).1
  simp only [hself] at hc
  obtain ⟨o', ho', _, _, _, _, hnext, _, _, _⟩ := yP h.ix.ok hc
  have hnd := hc.nodup.1
  rw [hlo] at hnd
  obtain ⟨hn1, _⟩ := List.nodup_cons.1 hnd
  -- the places of the elder versions
  have hsub : ∀ p, (∃ kv ∈ items, p ∈ Et (ch kv.1)) -> (∃ kv ∈ items', p ∈ Et (IY ch k lk kv.1)) /\ p ≠ o := λp ⟨kv, h1, h2⟩ => by
    by_cases e : kv.1 = k
    · rw [e] at h2
      exact ⟨⟨_, hin, by rw [hself, hlo]; exact BH _ h2⟩, λe2 => hn1 (e2 ▸ h2)⟩
    · refine ⟨⟨kv, (hp kv).2 (.inr ⟨h1, e⟩), by rw [hother _ e]; exact h2⟩, λe2 => ?_⟩
      subst e2
      exact h.Xb _ hin kv ((hp kv).2 (.inr ⟨h1, e⟩)) (λe3 => e e3.symm) p (by rw [hself, hlo]; exact Bh ..) (by rw [hother _ e]; exact h2)
  have hsub2 : ∀ p, (∃ kv ∈ items', p ∈ Et (IY ch k lk kv.1)) /\ p ≠ o -> ∃ kv ∈ items, p ∈ Et (ch kv.1) := λp ⟨⟨kv, h1, h2⟩, h3⟩ => by
    rcases (hp kv).1 h1 with rfl | ⟨h4, h5⟩
    · rw [hself, hlo] at h2
      have h2 := (CJ.1 h2).resolve_left h3
      rcases hcase with ⟨g1, g2⟩ | ⟨g1, g2⟩
      · rw [h0.none k g2] at h2; cases h2
      · exact ⟨_, g2, h2⟩
    · rw [hother _ h5] at h2
      exact ⟨kv, h4, h2⟩
  -- the index as it was
  have hidx : ∃ s1, J4 s key.data.toList lk.rc.next = (s1, 0) /\ QS (λp => ∃ kv ∈ items', p ∈ Et (IY ch k lk kv.1)) s s1 /\ Ox (λp => ∃ kv ∈ items', p ∈ Et (IY ch k lk kv.1)) L s1 items := by
    unfold J4
    rcases hcase with ⟨g1, g2⟩ | ⟨g1, g2⟩
    · rw [if_pos g1]
      rcases Ahy h.ix key.data.toList hkl with ⟨e, hno⟩ | ⟨kx, e, hm, KT, dX, hcut⟩
      · exact absurd hkk (hno _ hin)
      · refine ⟨(Ug s key.data.toList).1, by rw [e], kx, ?_⟩
        have : KT = items := lK dX.up h0.ix.up (λx => by
          rw [hcut x, hp x, <- hkk]
          constructor
          · rintro ⟨rfl | ⟨h1, _⟩, h2⟩
            · exact absurd rfl h2
            · exact h1
          · exact λh1 => ⟨.inr ⟨h1, g2 x h1⟩, g2 x h1⟩)
        rw [<- this]; exact dX
    · rw [if_neg g1]
      obtain ⟨kx, hput⟩ := lF h.ix key.data.toList hkl lk.rc.next g1
      generalize KJ s key.data.toList lk.rc.next = rp at kx hput
      obtain ⟨s1, e⟩ := rp
      simp only at kx hput
      rcases hput with ⟨_, _, hno⟩ | ⟨rfl, KT, dX, hpp⟩
      · exact absurd hkk (hno _ hin)
      · refine ⟨s1, rfl, kx, ?_⟩
        have : KT = items := lK dX.up h0.ix.up (λx => by
          rw [hpp x, hp x, <- hkk]
          constructor
          · rintro (rfl | ⟨rfl | ⟨h1, _⟩, h2⟩)
            · exact g2
            · exact absurd rfl h2
            · exact h1
          · intro h1
            by_cases e : x.1 = k
            · exact .inl (h0.key h1 g2 e)
            · exact .inr ⟨.inr ⟨h1, e⟩, e⟩)
        rw [<- this]; exact dX
  obtain ⟨s1, e1, kx, ix1⟩ := hidx
  obtain ⟨s2, e2, dX, k2, nN, Aot⟩ := yN ix1 (o := o) ⟨_, hin, by rw [hself, hlo]; exact Bh ..⟩
  have kk : ∀ B : Nat -> Prop, (∀ p, B p -> ∃ kv ∈ items, p ∈ Et (ch kv.1)) -> FB s s2 B := λB hB p c hp ht => by
    obtain ⟨g1, g2⟩ := hsub p (hB p hp)
    obtain ⟨u1, u2⟩ := kx.keep p c g1 ht
    obtain ⟨u3, u4⟩ := k2 p c g2 u1
    exact ⟨u3, λj hj => (u4 j hj).trans (u2 j hj)⟩
  refine ⟨s1, s2, e1, e2, ⟨dX.congr λp => ⟨hsub2 p, hsub p⟩, λkv hkv => ⟨?_, (h0.chain kv hkv).2⟩, h0.none, h0.Xb⟩, kx.Ah0.trans ⟨nN, λj hj _ => Aot j hj⟩⟩
  refine Dt.keep (s := s) ?_ (kk _ (λ_ h => h)) (λp hp => ⟨kv, hkv, hp⟩)
  by_cases e : kv.1 = k
  · have hv : kv.2 = lk.rc.next := by
      rcases hcase with ⟨_, g2⟩ | ⟨_, g2⟩
      · exact absurd e (g2 kv hkv)
      · exact congrArg Prod.snd (h0.key hkv g2 e)
    rw [hv, e]
    exact hnext
  · have := (h.chain kv ((hp kv).2 (.inr ⟨hkv, e⟩))).1
    rw [hother _ e] at this
    exact this
abbrev Past:=ByteArray×UInt64×UInt64
def LM(s:St):List Past->St
 | []=>s
 | (key,v,place)::l=>if place=0 then LM s l else if(J4 s key.data.toList v).2≠0 then(J4 s key.data.toList v).1 else LM (IE (J4 s key.data.toList v).1 (Bj place)).1 l
inductive Hist(L:Nat)(items:List Kv)(ch:List UInt8->List Lk):List Past->List Kv->(List UInt8->List Lk)->Prop
 | nil:Hist L items ch [] items ch
 | skip{l:List Past}{it:List Kv}{c:List UInt8->List Lk}(key:ByteArray):Hist L items ch l it c->Hist L items ch (l++[(key,0,0)]) it c
 | add{l:List Past}{it it':List Kv}{c:List UInt8->List Lk}{key:ByteArray}{lk:Lk}{o:Nat}{s0:St}:Hist L items ch l it c->Ce L s0 it c->key.size<=16->lk.off=o->0<o->o<=65536->rP it it' (Dn key.data.toList) (Aw o)->
  ((lk.rc.next=0/\∀kv∈it,kv.1≠Dn key.data.toList)\/(lk.rc.next≠0/\(Dn key.data.toList,lk.rc.next)∈it))->Hist L items ch (l++[(key,lk.rc.next,Aw o)]) it' (IY c (Dn key.data.toList) lk)
def Ak9{l:List Past}{it:List Kv}{c:List UInt8->List Lk}(h:Hist L items ch l it c):∀{s:St},Ce L s it c->Ce L (LM s l.reverse) items ch/\Np s (LM s l.reverse):=by
 induction h with
 | nil=>exact λhs=>⟨hs,Np.refl _⟩
 | skip key _ ih=>
   intro s hs;rw [UW,Rn,TF,LM,if_pos rfl];exact ih hs
 | add _ h0 hk ho h1 h2 hp hcase ih=>
   intro s hs;rename_i o _ _;obtain⟨s1,s2,e1,e2,hs2,hl2⟩:=iT h0 hk ho hp hs hcase;have hne:Aw o≠0:=λe=>by
    have:=congrArg UU e;rw [DU O]at this;simp at this;omega
   rw [UW,Rn,TF,LM,if_neg hne,e1];simp only;rw [if_neg Θ,MV h2,e2];obtain⟨g1,g2⟩:=ih hs2;exact⟨g1,hl2.trans g2⟩
end
def Dt.len{s:St}{v:UInt64}{l:List Lk}(h:Dt s v l):∀b:Nat,(∀k∈l,k.rc.stamp.toNat<b)->l.length<=b:=by
 induction h with
 | nil=>intro b _;exact Nat.zero_le _
 | cons o r l _ _ _ _ hs ih=>
   intro b hb;have h1:=ih r.stamp.toNat hs;have h2:r.stamp.toNat<b:=hb _ (Bh ..);rw [List.length_cons];omega
def Dt.listed{L:Nat}{s:St}(ok:Bz L s){v:UInt64}{l:List Lk}(h:Dt s v l):Iq s v=some l:=by
 have:=h.list ok 18446744073709551618 [] (Nat.lt_of_le_of_lt (h.len 18446744073709551616 (λk _=>Yc _)) U) (λk _=>Yc _);rw [List.nil_append]at this;exact this
structure yQ where
 s:St
 done:List Past
 over:Bool
 end_:Int
def Nv(stamp:UInt64)(set:List Wr)(j:yQ):yQ×Bool×Int:=
 if j.over=true then(j,true,j.end_)else
 match set[j.done.length]? with
 | some y=>if(Ej j.s stamp y).2.2.2≠0 then(⟨LM (Ej j.s stamp y).1 j.done.reverse,j.done,true,(Ej j.s stamp y).2.2.2⟩,true,(Ej j.s stamp y).2.2.2)else
  (⟨(Ej j.s stamp y).1,j.done++[(y.key,(Ej j.s stamp y).2.1,(Ej j.s stamp y).2.2.1)],false,0⟩,false,0)
 | none=>(⟨{j.s with ws:=FN j.s.ws 8 stamp},j.done,true,0⟩,true,0)
section
variable{L:Nat}{s:St}{items:List Kv}{ch:List UInt8->List Lk}
def Ce.slot(h:Ce L s items ch)(v:UInt64):Ce L {s with ws:=FN s.ws 8 v} items ch:=by
 have hw:∀j,16<=j->FN s.ws 8 v j=s.ws j:=λj hj=>by unfold FN;rw [if_neg O]
 have ok':Bz L {s with ws:=FN s.ws 8 v}:=h.ix.ok.words (λi _=>hw _ O);have kt:FB s {s with ws:=FN s.ws 8 v} (λ_=>True):=λo c _ ht=>⟨ht,λj hj=>hw j (Ω (h.ix.ok.DF (ht.bounds h.ix.ok).1 hj))⟩
 exact h.keep (kt.mono (λ_ _=>trivial)) (h.ix.same ok' h.ix.nh (λ_=>Iff.rfl) kt (by show FN s.ws 8 v 9=_;unfold FN;rw [if_neg U]))
def Ah1{a b:List UInt8}(h:Dn a=Dn b):a=b:=by rw [<-Ue a,h,Ue]
structure iU(L:Nat)(s0:St)(items:List Kv)(ch:List UInt8->List Lk)(stamp:UInt64)(set:List Wr)(j:yQ):Prop where
 it:∃it c,Hist L items ch j.done it c/\Ce L j.s it c/\(∀i,j.done.length<=i->∀y,set[i]? =some y->c (Dn y.key.data.toList)=ch (Dn y.key.data.toList))/\(∀k,∀x∈c k,x.rc.stamp.toNat<=stamp.toNat)
 low:Np s0 j.s
 len:j.done.length<=set.length
 run:j.over=false/\j.end_=0
def Adx(h:Ce L s items ch)(stamp:UInt64)(set:List Wr)(hst:∀k,∀x∈ch k,x.rc.stamp.toNat<stamp.toNat):iU L s items ch stamp set ⟨s,[],false,0⟩:=
 ⟨⟨items,ch,.nil,h,λ_ _ _ _=>rfl,λk x hx=>Nat.le_of_lt (hst k x hx)⟩,Np.refl s,Nat.zero_le _,rfl,rfl⟩
def step_ok{s0:St}{stamp:UInt64}{set:List Wr}{j:yQ}(h:iU L s0 items ch stamp set j)(hr:∀y∈set,Dz y=true)(hu:af set)(hs0:stamp.toNat≠0)(hst:∀k,∀x∈ch k,x.rc.stamp.toNat<stamp.toNat):
 (j.done.length<set.length/\(Nv stamp set j).2=(false,0)/\(Nv stamp set j).1.done.length=j.done.length+1/\iU L s0 items ch stamp set (Nv stamp set j).1)\/
 (j.done.length<set.length/\(Nv stamp set j).2=(true,6)/\(Nv stamp set j).1.over=true/\Ce L (Nv stamp set j).1.s items ch/\Np s0 (Nv stamp set j).1.s)\/
 (j.done.length=set.length/\(Nv stamp set j).2=(true,0)/\(Nv stamp set j).1.over=true/\(Nv stamp set j).1.s.ws 8=stamp/\(Nv stamp set j).1.s.sh=s0.sh/\(∀i,i<16->i≠8->i≠9->(Nv stamp set j).1.s.ws i=s0.ws i)/\∃it c,Ce L (Nv stamp set j).1.s it c/\∀k,∀x∈c k,x.rc.stamp.toNat<=stamp.toNat):=by
 obtain⟨⟨it,c,hh,hs,hc,hle⟩,hlow,hlen,hrun,hend⟩:=h;unfold Nv;rw [if_neg (by rw [hrun];decide)];by_cases hlt:j.done.length<set.length
 ·rw [Af hlt];simp only;obtain⟨y,hy⟩:∃y,y=set[j.done.length]:=⟨_,rfl⟩;rw [<-hy];have hyr:Dz y=true:=hr y (hy▸List.getElem_mem hlt);have hyk:y.key.size<=16:=by
   unfold Dz at hyr;simp only [Bool.and_eq_true,decide_eq_true_eq]at hyr;exact hyr.1.1
  have hcy:=hc j.done.length (Nat.le_refl _) y (by rw [hy];exact Af hlt);have hother:∀i,j.done.length+1<=i->∀z,set[i]? =some z->Dn z.key.data.toList≠Dn y.key.data.toList:=λi hi z hz e=>by
   obtain⟨hil,hz⟩:=List.getElem?_eq_some_iff.1 hz;have:=hu.lt hlt hil hi;rw [hz,<-hy]at this;unfold Gj at this;rw [ByteArray.toList_eq,ByteArray.toList_eq,Ah1 e,EL]at this;cases this
  obtain⟨lw,hw⟩:=VJ hs stamp y hyr hs0 (λx hx=>by rw [hcy]at hx;exact hst _ x hx);rcases hw with⟨e,hs'⟩| ⟨e,hg,hno⟩| ⟨o,v,it',e,ho0,YN,hcase,hs',hp⟩
  ·right;left;have e4:(Ej j.s stamp y).2.2.2=6:=by rw [e]
   rw [if_pos (by rw [e4];decide),e4];obtain⟨g1,g2⟩:=Ak9 hh hs';exact⟨hlt,rfl,rfl,g1,(hlow.trans lw).trans g2⟩
  ·left;rw [e];rw [if_neg Θ];refine⟨hlt,rfl,by simp,⟨⟨it,c,.skip y.key hh,hs,λi hi z hz=>hc i (by simp at hi;omega) z hz,hle⟩,hlow,by simp;omega,rfl,rfl⟩⟩
  ·left;obtain⟨s',hs1⟩:∃s',s'=(Ej j.s stamp y).1:=⟨_,rfl⟩;rw [<-hs1]at lw hs'⊢;rw [e];rw [if_neg Θ];refine⟨hlt,rfl,by simp,⟨⟨it',_,Hist.add (lk:=⟨o,⟨stamp,v,y.gone,y.text⟩⟩) hh hs hyk rfl ho0 YN hp ?_,hs',λi hi z hz=> ?_,λk x hx=> ?_⟩,hlow.trans lw,by simp;omega,rfl,rfl⟩⟩
   ·rcases hcase with⟨g1,_,g2⟩| g
    ·exact .inl ⟨g1,g2⟩
    ·exact .inr g
   ·have hi':j.done.length+1<=i:=by simpa using hi
    unfold IY;rw [if_neg (hother i hi' z hz)];exact hc i O z hz
   ·unfold IY at hx;split at hx
    ·rcases CJ.1 hx with rfl| hx
     ·exact Nat.le_refl _
     ·exact hle k x hx
    ·exact hle k x hx
 ·right;right;rw [List.getElem?_eq_none O];refine⟨O,rfl,rfl,by show FN j.s.ws 8 stamp 8=_;unfold FN;rw [if_pos rfl],hlow.1,λi h1 h2 h3=> ?_,it,c,hs.slot stamp,hle⟩;show FN j.s.ws 8 stamp i=_;unfold FN;rw [if_neg h2];exact hlow.2 i h1 h3
end
def Dt.Aou{s:St}{v:UInt64}{l:List Lk}(h:Dt s v l):l.map (·.off)=(Et l).map Cf:=by
 induction h with
 | nil=>rfl
 | cons o r l _ _ _ _ _ ih=>
   unfold Et at ih⊢;rw [Cb,Cb,Cb,ih];rfl
def bu{s:St}{ch:List UInt8->List Lk}{f:Kv->List UInt8×UInt64}(hf:∀kv,(f kv).2=kv.2):∀(l:List Kv)(acc:List Int),(∀kv∈l,Iq s kv.2=some (ch kv.1))->Fv s (l.map f) acc=some (acc++(l.map λkv=>(ch kv.1).map (·.off)).flatten)
 | [],acc,_=>by simp [Fv]
 | kv::t,acc,h=>by
   rw [Cb,Fv,hf,h kv (Bh ..)];simp only;rw [bu hf t _ (λx hx=>h x (BH _ hx))];simp
def lL:∀{l:List Int},l.Pairwise (λx y=>x<y)->Gz l=true
 | [],_=>rfl
 | [_],_=>rfl
 | a::b::t,h=>by
   obtain⟨h1,h2⟩:=GV.1 h;have h3:=h1 b (Bh ..);unfold Gz;rw [lL h2,Bool.and_true,Bool.not_eq_true',beq_eq_false_iff_ne];omega
def UF{ch:List UInt8->List Lk}:∀(l:List Kv),l.Pairwise (λa b=>a.1≠b.1)->(∀kv∈l,(Et (ch kv.1)).Nodup)->(∀a∈l,∀b∈l,a.1≠b.1->∀o∈Et (ch a.1),o∉Et (ch b.1))->((l.map λkv=>Et (ch kv.1)).flatten).Nodup
 | [],_,_,_=>List.nodup_nil
 | kv::t,h,hn,hd=>by
   obtain⟨h1,h2⟩:=GV.1 h;rw [Cb,List.flatten_cons];refine CE.2 ⟨hn kv (Bh ..),UF t h2 (λx hx=>hn x (BH _ hx)) (λa ha b hb=>hd a (BH _ ha) b (BH _ hb)),λx hx y hy e=> ?_⟩;subst e;obtain⟨l',hl,hxl⟩:=Nz.1 hy;obtain⟨kv',hk,rfl⟩:=Ba.1 hl;exact hd kv (Bh ..) kv' (BH _ hk) (h1 kv' hk) x hx hxl
section
variable{L:Nat}{s:St}{items:List Kv}{ch:List UInt8->List Lk}
def yR(ok:Bz L s){N:List Nat}(hn:N.Nodup)(hm:∀o,o∈N<->∃d,AO s o d){r:List Int}(hp:r.Perm (N.map Cf)):Df r=(DC s).map Cf:=by
 unfold Df;have hperm:=(FD r (λx y=>decide (x<=y))).trans hp;have hnd:(r.mergeSort (λx y=>decide (x<=y))).Nodup:=hperm.nodup_iff.2 (Jc.2 (hn.imp λ{a b}hab e=>hab (by injection e)));have hsort:(r.mergeSort (λx y=>decide (x<=y))).Pairwise (λx y=>decide (x<=y)=true):=mO (λa b c h k=>by simp at h k⊢;omega) (λa b=>by simp;omega) _;have hlt:(r.mergeSort (λx y=>decide (x<=y))).Pairwise (λ(x y:Int)=>x<y):=(uF.2 ⟨hsort,hnd⟩).imp (λ{a b}h=>by
  have h1:a<=b:=by simpa using h.1
  have h2:a≠b:=h.2;omega)
 refine VI (r:=λ(x y:Int)=>x<y) (λx=>O) (λx y h=>O) _ _ hlt (by rw [Jc];exact(QD ok).imp λ{a b}h=>by show(a:Int)<b;omega) λx=> ?_
 rw [hperm.mem_iff];simp only [Ba];constructor
 ·rintro⟨o,ho,rfl⟩;exact⟨o,(IK ok o).2 ((hm o).1 ho),rfl⟩
 ·rintro⟨o,ho,rfl⟩;exact⟨o,(hm o).2 ((IK ok o).1 ho),rfl⟩
def bz(h:Ce L s items ch):∃its met r,DJ s=some (its,met)/\its=items.map (λkv=>(pairs kv.1,kv.2))/\Fv s its (Df met)=some r/\r.length<=100000/\Df r=(DC s).map Cf/\Gz (Df r)=true/\
 (DC s).length=met.length+((items.map λkv=>ch kv.1).flatten).length:=by
 obtain⟨met,h1,h2,h3,h4⟩:=PR h.ix;obtain⟨N,hN⟩:∃N,N=met++(items.map λkv=>Et (ch kv.1)).flatten:=⟨_,rfl⟩;have su:∀o,o∈(items.map λkv=>Et (ch kv.1)).flatten<->∃kv∈items,o∈Et (ch kv.1):=λo=>by
  rw [Nz];constructor
  ·rintro⟨l,hl,ho⟩;obtain⟨kv,hk,rfl⟩:=Ba.1 hl;exact⟨kv,hk,ho⟩
  ·rintro⟨kv,hk,ho⟩;exact⟨_,Ba.2 ⟨kv,hk,rfl⟩,ho⟩
 have hm:∀o,o∈N<->∃d,AO s o d:=λo=>by rw [hN,AL,su,h4 o]
 have hn:N.Nodup:=by
  rw [hN];refine CE.2 ⟨h2,UF items (h.ix.up.imp λ{a b}hab e=>by rw [e,EL]at hab;cases hab) (λkv hkv=>(h.chain kv hkv).1.nodup.1) h.Xb,λx hx y hy e=> ?_⟩;subst e;exact h3 x hx ((su x).1 hy)
 have hoff:(items.map λkv=>(ch kv.1).map (·.off)).flatten=((items.map λkv=>Et (ch kv.1)).flatten).map Cf:=by
  rw [Afd,Gp];congr 1;exact FW λkv hkv=>(h.chain kv hkv).1.Aou
 have hr:=bu (s:=s) (ch:=ch) (f:=λkv=>(pairs kv.1,kv.2)) (λ_=>rfl) items (Df (met.map Cf)) (λkv hkv=>(h.chain kv hkv).1.listed h.ix.ok);have hperm:(Df (met.map Cf)++(items.map λkv=>(ch kv.1).map (·.off)).flatten).Perm (N.map Cf):=by
  rw [hN,Dx,hoff];exact List.Perm.append_right _ (FD _ _)
 have hs:=yR h.ix.ok hn hm hperm;have hlen:(Df (met.map Cf)++(items.map λkv=>(ch kv.1).map (·.off)).flatten).length=(DC s).length:=by
  have:=(FD (Df (met.map Cf)++(items.map λkv=>(ch kv.1).map (·.off)).flatten) (λx y=>decide (x<=y))).length_eq;unfold Df at hs;unfold Df at this⊢;rw [hs,BJ]at this;exact this.symm
 refine⟨_,met.map Cf,_,h1,rfl,hr,?_,hs,?_,?_⟩
 ·have hb:=FU N (D9 65537) hn (λo ho=>by
  obtain⟨d,hd⟩:=(hm o).1 ho;have:=(hd.bounds h.ix.ok).2.1;have:=h.ix.ok.L1;exact Dy.2 O)
  rw [hperm.length_eq,BJ];rw [We]at hb;omega
 ·rw [hs];refine lL ?_;rw [Jc];exact(QD h.ix.ok).imp λ{a b}h=>by show(a:Int)<b;omega
 ·rw [<-hlen,AQ];have e1:(Df (met.map Cf)).length=(met.map Cf).length:=(FD _ _).length_eq;rw [e1];congr 1;simp only [zF,Gp];congr 1;exact FW λkv _=>by simp
end
structure E8(Y:Nat->Prop)(L:Nat)(s:St)(items:List Kv)(ch:List UInt8->List Lk):Prop where
 ix:Ox (λo=>(∃kv∈items,o∈Et (ch kv.1))\/Y o) L s items
 chain:∀kv∈items,Dt s kv.2 (ch kv.1)/\kv.2≠0
 none:∀k,(∀kv∈items,kv.1≠k)->ch k=[]
 Xb:∀kv∈items,∀kv'∈items,kv.1≠kv'.1->∀o∈Et (ch kv.1),o∉Et (ch kv'.1)
 loose:∀kv∈items,∀o∈Et (ch kv.1),¬Y o
section
variable{Y:Nat->Prop}{L:Nat}{s:St}{items:List Kv}{ch:List UInt8->List Lk}
def Ce.y(h:Ce L s items ch):E8 (λ_=>False) L s items ch:=
 ⟨h.ix.congr (λ_=>⟨.inl,λh=>h.elim id False.elim⟩),h.chain,h.none,h.Xb,λ_ _ _ _ h=>h⟩
def E8.ok(h:E8 Y L s items ch)(hY:∀o,¬Y o):Ce L s items ch:=
 ⟨h.ix.congr (λo=>⟨λh=>h.resolve_right (hY o),.inl⟩),h.chain,h.none,h.Xb⟩
def E8.taken(h:E8 Y L s items ch){o:Nat}(ho:Y o):∃d,AO s o d:=by
 rcases h.ix.tree with⟨_,_,h3⟩| ⟨_,_,_,_,_,h3⟩
 ·exact(h3 o).2 (.inr ho)
 ·exact(h3 o).2 (.inr (.inr ho))
def Aa3(h:E8 Y L s items ch):∃its met r,DJ s=some (its,met)/\its=items.map (λkv=>(pairs kv.1,kv.2))/\Fv s its (Df met)=some r/\r.length<=100000/\Gz (Df r)=true/\(Df r).Pairwise (λx y=>x<y)/\
 (∀o:Nat,(o:Int)∈Df r<->(∃d,AO s o d)/\¬Y o)/\r.length=met.length+((items.map λkv=>ch kv.1).flatten).length:=by
 obtain⟨met,h1,h2,h3,h4⟩:=PR h.ix;obtain⟨N,hN⟩:∃N,N=met++(items.map λkv=>Et (ch kv.1)).flatten:=⟨_,rfl⟩;have su:∀o,o∈(items.map λkv=>Et (ch kv.1)).flatten<->∃kv∈items,o∈Et (ch kv.1):=λo=>by
  rw [Nz];constructor
  ·rintro⟨l,hl,ho⟩;obtain⟨kv,hk,rfl⟩:=Ba.1 hl;exact⟨kv,hk,ho⟩
  ·rintro⟨kv,hk,ho⟩;exact⟨_,Ba.2 ⟨kv,hk,rfl⟩,ho⟩
 have hm:∀o,o∈N<->(∃d,AO s o d)/\¬Y o:=λo=>by
  rw [hN,AL,su];constructor
  ·rintro(ho| ⟨kv,hk,ho⟩)
   ·exact⟨(h4 o).2 (.inl ho),λhy=>h3 o ho (.inr hy)⟩
   ·exact⟨(h4 o).2 (.inr (.inl ⟨kv,hk,ho⟩)),h.loose kv hk o ho⟩
  ·rintro⟨ht,hy⟩;rcases(h4 o).1 ht with ho| ho| ho
   ·exact .inl ho
   ·exact .inr ho
   ·exact absurd ho hy
 have hn:N.Nodup:=by
  rw [hN];refine CE.2 ⟨h2,UF items (h.ix.up.imp λ{a b}hab e=>by rw [e,EL]at hab;cases hab) (λkv hkv=>(h.chain kv hkv).1.nodup.1) h.Xb,λx hx y hy e=> ?_⟩;subst e;exact h3 x hx (.inl ((su x).1 hy))
 have hoff:(items.map λkv=>(ch kv.1).map (·.off)).flatten=((items.map λkv=>Et (ch kv.1)).flatten).map Cf:=by
  rw [Afd,Gp];congr 1;exact FW λkv hkv=>(h.chain kv hkv).1.Aou
 have hr:=bu (s:=s) (ch:=ch) (f:=λkv=>(pairs kv.1,kv.2)) (λ_=>rfl) items (Df (met.map Cf)) (λkv hkv=>(h.chain kv hkv).1.listed h.ix.ok);have hperm:(Df (met.map Cf)++(items.map λkv=>(ch kv.1).map (·.off)).flatten).Perm (N.map Cf):=by
  rw [hN,Dx,hoff];exact List.Perm.append_right _ (FD _ _)
 generalize hR:Df (met.map Cf)++(items.map λkv=>(ch kv.1).map (·.off)).flatten=R at hr hperm;have hsp:=(FD R (λx y=>decide (x<=y))).trans hperm;have hnd:(Df R).Nodup:=hsp.nodup_iff.2 (Jc.2 (hn.imp λ{a b}hab e=>hab (by injection e)));have hsort:(Df R).Pairwise (λx y=>decide (x<=y)=true):=mO (λa b c h k=>by simp at h k⊢;omega) (λa b=>by simp;omega) _;have hlt:(Df R).Pairwise (λ(x y:Int)=>x<y):=(uF.2 ⟨hsort,hnd⟩).imp (λ{a b}h=>by
  have h1:a<=b:=by simpa using h.1
  have h2:a≠b:=h.2;omega)
 refine⟨_,met.map Cf,R,h1,rfl,hr,?_,lL hlt,hlt,λo=> ?_,?_⟩
 ·have hb:=FU N (D9 65537) hn (λo ho=>by
  obtain⟨d,hd⟩:=((hm o).1 ho).1;have:=(hd.bounds h.ix.ok).2.1;have:=h.ix.ok.L1;exact Dy.2 O)
  rw [hperm.length_eq,BJ];rw [We]at hb;omega
 ·rw [show((o:Int)∈Df R<->(o:Int)∈N.map Cf)from hsp.mem_iff,<-hm o,Ba];constructor
  ·rintro⟨x,hx,e⟩;have:x=o:=by injection e
   exact this▸hx
  ·exact λho=>⟨o,ho,rfl⟩
 ·rw [<-hR,AQ];have e1:(Df (met.map Cf)).length=(met.map Cf).length:=(FD _ _).length_eq;rw [e1];congr 1;simp only [zF,Gp];congr 1;exact FW λkv _=>by simp
def E8.drop(h:E8 Y L s items ch){o:Nat}(ho:Y o):∃s2,IE s o=(s2,0)/\E8 (λp=>Y p/\p≠o) L s2 items ch/\s2.sh=s.sh/\∀j,j<16->s2.ws j=s.ws j:=by
 obtain⟨s2,e2,dX,k2,nN,Aot⟩:=yN h.ix (o:=o) (.inr ho);have hne:∀kv∈items,∀p∈Et (ch kv.1),p≠o:=λkv hkv p hp e=>h.loose kv hkv p hp (e▸ho)
 refine⟨s2,e2,⟨dX.congr (λp=> ?_),λkv hkv=>⟨(h.chain kv hkv).1.keep k2 (λp hp=>hne kv hkv p hp),(h.chain kv hkv).2⟩,h.none,h.Xb,λkv hkv p hp hy=>h.loose kv hkv p hp hy.1⟩,nN,Aot⟩;constructor
 ·rintro⟨h1| h1,h2⟩
  ·exact .inl h1
  ·exact .inr ⟨h1,h2⟩
 ·rintro(⟨kv,hkv,hp⟩| ⟨h1,h2⟩)
  ·exact⟨.inl ⟨kv,hkv,hp⟩,hne kv hkv p hp⟩
  ·exact⟨.inr h1,h2⟩
def E8.Ala(h:E8 Y L s items ch){o:Nat}(ho:Y o){s2:St}(e:IE s o=(s2,0)):∀p d,AO s2 p d<->AO s p d/\p≠o:=by
 obtain⟨c,ht⟩:=h.taken ho;obtain⟨s1,e1,_,_,_,_,tk1⟩:=YJ h.ix.ok ht;rw [e1]at e;cases e
 exact tk1
def E8.congr{Z:Nat->Prop}(h:E8 Y L s items ch)(hz:∀o,Y o<->Z o):E8 Z L s items ch:=
 ⟨h.ix.congr (λo=>or_congr Iff.rfl (hz o)),h.chain,h.none,h.Xb,λkv hkv o ho hZ=>h.loose kv hkv o ho ((hz o).2 hZ)⟩
def E8.again{s':St}{Z:Nat->Prop}(h:E8 Y L s items ch)(ok':Bz L s')(nh':∀o d,¬EK s' o d)(hk:FB s s' (λ_=>True))(h9:s'.ws 9=s.ws 9)(hz:∀o,Z o<->(∃d,AO s' o d)/\((∃d,AO s o d)->Y o)):E8 Z L s' items ch:=by
 have hcl:∀kv∈items,∀o∈Et (ch kv.1),∃d,AO s o d:=λkv hkv o ho=>by
  rcases h.ix.tree with⟨_,_,h3⟩| ⟨_,_,_,_,_,h3⟩
  ·exact(h3 o).2 (.inl ⟨kv,hkv,ho⟩)
  ·exact(h3 o).2 (.inr (.inl ⟨kv,hkv,ho⟩))
 have hto:∀o,(∃d,AO s o d)->∃d,AO s' o d:=λo⟨d,hd⟩=>⟨d,(hk o d trivial hd).1⟩
 refine⟨⟨ok',nh',?_,h.ix.even⟩,λkv hkv=>⟨(h.chain kv hkv).1.keep hk (λ_ _=>trivial),(h.chain kv hkv).2⟩,h.none,h.Xb,λkv hkv o ho hZ=>h.loose kv hkv o ho (((hz o).1 hZ).2 (hcl kv hkv o ho))⟩;rcases h.ix.tree with⟨h1,h2,h3⟩| ⟨blocks,h1,T,hnd,hX,h3⟩
 ·refine .inl ⟨h9.trans h1,h2,λo=> ?_⟩;constructor
  ·intro ht;by_cases hs:∃d,AO s o d
   ·rcases(h3 o).1 hs with h4| h4
    ·exact .inl h4
    ·exact .inr ((hz o).2 ⟨ht,λ_=>h4⟩)
   ·exact .inr ((hz o).2 ⟨ht,λh=>absurd h hs⟩)
  ·rintro(⟨kv,hkv,ho⟩| hZ)
   ·exact hto o (hcl kv hkv o ho)
   ·exact((hz o).1 hZ).1
 ·refine .inr ⟨blocks,by rw [h9];exact h1,?_,hnd,λo ho=> ?_,λo=> ?_⟩
  ·rw [h9];exact T.keep h.ix.ok ok' hk (λ_ _=>trivial)
  ·rintro(⟨kv,hkv,h4⟩| hZ)
   ·exact hX o ho (.inl ⟨kv,hkv,h4⟩)
   ·exact hX o ho (.inr (((hz o).1 hZ).2 ((h3 o).2 (.inl ho))))
  ·constructor
   ·intro ht;by_cases hs:∃d,AO s o d
    ·rcases(h3 o).1 hs with h4| h4| h4
     ·exact .inl h4
     ·exact .inr (.inl h4)
     ·exact .inr (.inr ((hz o).2 ⟨ht,λ_=>h4⟩))
    ·exact .inr (.inr ((hz o).2 ⟨ht,λh=>absurd h hs⟩))
   ·rintro(ho| ⟨kv,hkv,ho⟩| hZ)
    ·exact hto o ((h3 o).2 (.inl ho))
    ·exact hto o (hcl kv hkv o ho)
    ·exact((hz o).1 hZ).1
end
def yS{L:Nat}{sh:Sh}(hL:L<=1024)(hs:shapeOf L=some sh):Ce L (st0 sh) [] (λ_=>[]):=
 ⟨(Aor hL hs).congr (λ_=>⟨λh=>h.elim,λ⟨_,h,_⟩=>(nomatch h)⟩),(λ_ h=>(nomatch h)),(λ_ _=>rfl),(λ_ h=>(nomatch h))⟩
def FV:Sh:={lines:=100,BM:=6,table:=128,data:=192}
def YO:shapeOf 100=some FV:=by decide+kernel
def Kr:ByteArray:=⟨#[97]⟩
def JJ:ByteArray:=⟨#[120]⟩
def Ata:ByteArray:=⟨#[98]⟩
def sD:xU FV Kr JJ=true:=by decide+kernel
def Xl:Wr:=⟨Kr,JJ,false⟩
def Aa4:Ej (st0 FV) 1 Xl=(TI FV Kr JJ,0,OD FV JJ,0):=by
 have hg:Gy (st0 FV) Xl.key.data.toList=(0,7):=Aaj FV Kr U;have ha:IZ (st0 FV) ⟨1,0,Xl.gone,Xl.text⟩=(one1 FV JJ,OD FV JJ,0):=one_add sD;have hp:KJ (one1 FV JJ) Xl.key.data.toList (OD FV JJ)=(TI FV Kr JJ,0):=Aai sD;unfold Ej;rw [hg];simp only;rw [if_neg Θ,if_neg (by simp [Xl]),ha];simp only;rw [if_neg Θ,hp];simp
def sG:∃o,OD FV JJ=Aw o/\Ce 100 (TI FV Kr JJ) [(Dn Kr.data.toList,Aw o)] (IY (λ_=>[]) (Dn Kr.data.toList) ⟨o,⟨1,0,false,JJ⟩⟩)/\(TI FV Kr JJ).ws 8=0:=by
 have h:=VJ (yS (L:=100) U YO) 1 Xl (by decide+kernel) U (λx hx=>(nomatch hx));rw [Aa4]at h;obtain⟨hl,h1⟩:=h;have h80:(TI FV Kr JJ).ws 8=0:=(hl.2 8 U U).trans (Iz FV 8 U);rcases h1 with⟨h1,_⟩| ⟨_,h1,_⟩| ⟨o,v,items',h1,_,_,hv,hs,hp⟩
 ·exact absurd (congrArg (λr=>r.2.2) h1) U
 ·cases h1
 ·simp only [Prod.mk.injEq]at h1;obtain⟨rfl,h1,_⟩:=h1;refine⟨o,h1,?_,h80⟩;have hi:items'=[(Dn Kr.data.toList,Aw o)]:=lK hs.ix.up (List.pairwise_singleton _ _) (λx=>by
   rw [hp x];simp only [List.not_mem_nil,false_and,or_false,BD];exact Iff.rfl)
  rw [hi]at hs;exact hs
section
variable{L:Nat}{s:St}{items:List Kv}{ch:List UInt8->List Lk}
def Ih(s:St)(ws:Nat->UInt64):St:={sh:=s.sh,ws:=ws,tk:=s.tk,hd:=BC s.sh.BM 0}
def TA(s:St)(ws:Nat->UInt64)(i:Nat):hdN (Ih s ws) i=0:=by
 unfold hdN Ih;simp only [Bi,List.getElem?_replicate];split<;>rfl
def Ady(ok:Bz L s){ws:Nat->UInt64}(h:∀j,j<16+s.sh.BM->ws j=s.ws j):Bz L (Ih s ws):=
 ⟨ok.sh,ok.L1,ok.Oq,by simp [Ih],ok.tk,λi _=> .inl (TA s ws i),λi _=> .inr (.inl (TA s ws i)),λi a _ _=>by rw [TA,EJ],λi hi=>(h (16+i) (by have:i<s.sh.BM:=hi;omega)).trans (ok.tab i hi)⟩
def Adz(s:St)(ws:Nat->UInt64)(o d:Nat):¬EK (Ih s ws) o d:=by
 rintro⟨i,a,_,ha,_⟩;rw [TA,EJ]at ha;cases ha
def Ad0(ok:Bz L s):wordsAt s.ws (s.sh.table/8) s.sh.BM=s.tk:=by
 apply Eu
 ·simp [wordsAt,ok.Oq]
 ·intro i h1 h2;rw [FC,ok.sh.table,show 128/8+i=16+i by omega,ok.tab i (by rw [<-ok.Oq];exact h2),Bi,Af h2];rfl
def lM(ok:Bz L s):∀i,i<s.sh.BM->EX (s.ws (s.sh.table/8+i)).toNat=true:=λi hi=>by
 rw [ok.sh.table,show 128/8+i=16+i by omega,ok.tab i hi];exact(ok.tk i hi).right
def yT(h:Ce L s items ch){c off:Nat}{s1:St}(hc:c=1\/c=2)(hres:CO s c=some (off,s1)){l:List UInt64}(hl:l.length<=8*Bf c){ws:Nat->UInt64}(hw:Half s1.ws (BO s1.ws (off/8) l) ws):
 Ce L (Ih s ws) items ch/\∀j,j<16+s.sh.BM->ws j=s.ws j:=by
 obtain⟨ok1,hw1,aY,TJ,hh1,_,_,ht1⟩:=Oi h.ix.ok hc hres;have hb1:=hh1.bounds ok1;have hput:∀j,¬GR off c j->ws j=s.ws j:=λj hj=>by
  rcases hw j with e| e
  ·rw [e,hw1]
  ·rw [e];unfold BO;rw [if_neg,hw1];intro h';exact hj ⟨h'.1,Ω h'.2⟩
 have hlow:∀j,j<16+s.sh.BM->ws j=s.ws j:=λj hj=>hput j (λhi=>by
  have:=ok1.DF (by exact hb1.1) hi;rw [aY]at this;omega)
 have hk:FB s (Ih s ws) (λ_=>True):=λo d _ ht=>by
  have ht1':=(ht1 o d).2 ht;obtain⟨hne,hap⟩:=Kq ok1 hh1 ht1';exact⟨ht,λj hj=>hput j (λhi=>MS hap hb1.2.2 (ht1'.bounds ok1).2.2 hi hj)⟩
 exact⟨h.keep (hk.mono λ_ _=>trivial) (h.ix.same (Ady h.ix.ok hlow) (Adz s ws) (λo=>Iff.rfl) hk (hlow 9 O)),hlow⟩
end
def Aov:ByteArray:=⟨#[121]⟩
def Atb:ByteArray:=⟨#[122]⟩
def Alb:Wr:=⟨Kr,Aov,false⟩
def Aow:Wr:=⟨Ata,Atb,false⟩
def Gu:St:={TI FV Kr JJ with ws:=FN (TI FV Kr JJ).ws 8 1}
def bC:Rc:=⟨2,OD FV JJ,false,Aov⟩
def Amq:Bool:=match CO Gu 1 with
 | none=>false
 | some (off,s1)=>(Ib {s1 with ws:=BO s1.ws (off/8) (Dj bC)} off).2==0
def Atc:Amq=true:=by decide+kernel
def Aox:∃off s1,CO Gu 1=some (off,s1)/\(Ib {s1 with ws:=BO s1.ws (off/8) (Dj bC)} off).2=0:=by
 have h:=Atc;unfold Amq at h;cases hr:CO Gu 1 with
 | none=>rw [hr]at h;cases h
 | some q=>
   obtain⟨off,s1⟩:=q;rw [hr]at h;exact⟨off,s1,rfl,by simpa using h⟩
def Atd:(DC (TI FV Kr JJ)).length=2:=by decide+kernel
def Alc:Eb bC=true:=by decide+kernel
def Aoy:(OD FV JJ).toNat≠0:=by decide+kernel
def Ate:Gy Gu Kr.data.toList=(OD FV JJ,0):=by
 obtain⟨o,ho,hs,_⟩:=sG;rcases yO (hs.slot 1).ix Kr.data.toList U with⟨v,h1,hm,_⟩| ⟨_,h2⟩
 ·rw [BD]at hm;have:v=Aw o:=congrArg Prod.snd hm;rw [ho,<-this];exact h1
 ·exact absurd rfl (h2 _ (BD.2 rfl))
def Amr:Np (st0 FV) (TI FV Kr JJ):=by
 have h:=VJ (yS (L:=100) U YO) 1 Xl (by decide+kernel) U (λx hx=>(nomatch hx));rw [Aa4]at h;exact h.1
def Ald : ∃ off s1, CO Gu 1 = some (off, s1) /\ (Ib { s1 with ws := BO s1.ws (off / 8) (Dj bC) } off).2 = 0 /\
    ∀ ws, Half s1.ws (BO s1.ws (off / 8) (Dj bC)) ws -> ws 8 = 1 /\ wordsAt ws 0 8 = wordsOf FV /\ (∃ o, Ce 100 (Ih Gu ws) [(Dn Kr.data.toList, Aw o)] (IY (λ_ => []) (Dn Kr.data.toList) ⟨o, ⟨1, 0, false, JJ⟩⟩)) /\
      (∀ i, i < FV.BM -> EX (ws (FV.table / 8 + i)).toNat = true) /\ Ih Gu ws = { sh := FV, ws := ws, tk := wordsAt ws (FV.table / 8) FV.BM, hd := BC FV.BM 0 } := by
  obtain ⟨off, s1, h1, h2⟩ := Aox
  refine ⟨off, s1, h1, h2, λws hw => ?_⟩
  obtain ⟨o, ho, hs, _⟩ := sG
  have hs3 : Ce 100 Gu [(Dn Kr.data.toList, Aw o)] (IY (λ_ => []) (Dn Kr.data.toList) ⟨o, ⟨1, 0, false, JJ⟩⟩) := hs.slot 1
  obtain ⟨hso, hlow⟩ := yT hs3 (.inl rfl) h1 (by decide +kernel) hw
  have hsh : Gu.sh = FV := Amr.1
  rw [hsh] at hlow
  have hsl : FV.BM = 6 := rfl
  have h8 : ws 8 = 1 := (hlow 8 O).trans (by show FN (TI FV Kr JJ).ws 8 1 8 = 1; unfold FN; rw [if_pos rfl])
  have hlw : ∀ j, j < 8 -> ws j = LZ FV j := λj hj => (hlow j O).trans (by
    show FN (TI FV Kr JJ).ws 8 1 j = _
    unfold FN
    rw [if_neg O]
    exact Amr.2 j O O)
  have hok : Bz 100 (Ih Gu ws) := hso.ix.ok
  have htk := Ad0 hok
  have hrt := lM hok
  have e1 : (Ih Gu ws).sh = FV := hsh
  rw [e1] at htk hrt
  refine ⟨h8, ?_, ⟨o, hso⟩, hrt, ?_⟩
  · have h2 : wordsAt ws 0 8 = wordsAt (LZ FV) 0 8 := by
      apply Eu
      · simp [wordsAt]
      · intro i h1 h2
        rw [FC, FC]
        exact hlw _ (by have := h1; simp [wordsAt] at this; omega)
    rw [h2, RQ]
  · have e2 : (Ih Gu ws).tk = Gu.tk := rfl
    rw [e2] at htk
    show ({ sh := Gu.sh, ws := ws, tk := Gu.tk, hd := BC Gu.sh.BM 0 } : St) = _
    rw [hsh, <- htk]
    rfl
section
variable{X Y:Nat->Prop}{L:Nat}{s:St}{items:List Kv}{ch:List UInt8->List Lk}
def Aoz(h:Ox X L s items){c:Nat}(hc:c=1\/c=2){off:Nat}{t:St}(hres:CO s c=some (off,t)):
 ∃s2,Ib t off=(s2,0)/\Ox (λp=>X p\/p=off) L s2 items/\FB s s2 (λ_=>True)/\s2.sh=s.sh/\(∀j,j<16->s2.ws j=s.ws j)/\(¬∃d,AO s off d)/\off<=65536/\∀o,(∃d,AO s2 o d)<->(∃d,AO s o d)\/o=off:=by
 obtain⟨ok1,hw1,aY,TJ,hh1,_,hh2,ht1⟩:=Oi h.ok hc hres;have hb1:=hh1.bounds ok1;have htf:=ok1.sh.Le;have hL1:=h.ok.L1;obtain⟨s2,e2,ok2,hsh2,hw2,ht2,Ahh⟩:=YI ok1 hh1;have hkeep:FB s s2 (λ_=>True):=λo c' _ ht=>by
  have TZ:=(ht1 o c').2 ht;have jI:=TZ.bounds ok1;refine⟨(ht2 o c').2 (.inl TZ),λi hi=> ?_⟩;rw [hw2 i (.inr (ok1.DF jI.1 hi)),hw1]
 have hnew:¬∃d,AO s off d:=λ⟨d,hd⟩=>(Kq ok1 hh1 ((ht1 off d).2 hd)).1 rfl
 have hlow:∀j,j<16->s2.ws j=s.ws j:=λj hj=>by rw [hw2 j (.inl hj),hw1]
 have htk:∀o,(∃d,AO s2 o d)<->(∃d,AO s o d)\/o=off:=λo=>by
  constructor
  ·rintro⟨d,hd⟩;rcases(ht2 o d).1 hd with h1| ⟨h1,_⟩
   ·exact .inl ⟨d,(ht1 o d).1 h1⟩
   ·exact .inr h1
  ·rintro(⟨d,hd⟩| rfl)
   ·exact⟨d,(ht2 o d).2 (.inl ((ht1 o d).2 hd))⟩
   ·exact⟨c,(ht2 _ _).2 (.inr ⟨rfl,rfl⟩)⟩
 refine⟨s2,e2,⟨ok2,λo d hh=> ?_,?_,h.even⟩,hkeep,by rw [hsh2,aY],hlow,hnew,O,htk⟩
 ·obtain⟨h1,h2⟩:=(Ahh o d).1 hh;rcases hh2 o d h1 with h3| h3
  ·exact h.nh o d h3
  ·exact h2 h3
 ·rcases h.tree with⟨h1,h2,h3⟩| ⟨bl,h1,h2,h3,hX,h4⟩
  ·exact .inl ⟨by rw [hlow 9 U,h1],h2,λo=>by rw [htk o,h3 o]⟩
  ·refine .inr ⟨bl,by rw [hlow 9 U];exact h1,by rw [hlow 9 U];exact h2.keep h.ok ok2 hkeep (λ_ _=>trivial),h3,λo ho hx=> ?_,λo=>by rw [htk o,h4 o,or_assoc]⟩;rcases hx with hx| rfl
   ·exact hX o ho hx
   ·exact hnew ((h4 _).2 (.inl ho))
def E8.Ao0(h:E8 Y L s items ch){c:Nat}(hc:c=1\/c=2){off:Nat}{t:St}(hres:CO s c=some (off,t)):
 ∃s2,Ib t off=(s2,0)/\E8 (λp=>Y p\/p=off) L s2 items ch/\s2.sh=s.sh/\(∀j,j<16->s2.ws j=s.ws j)/\(¬∃d,AO s off d)/\off<=65536/\∀o,(∃d,AO s2 o d)<->(∃d,AO s o d)\/o=off:=by
 obtain⟨s2,e,ix,k,hsh,hlow,hnew,h6⟩:=Aoz h.ix hc hres;refine⟨s2,e,⟨ix.congr λo=>or_assoc,λkv hkv=>⟨(h.chain kv hkv).1.keep k (λ_ _=>trivial),(h.chain kv hkv).2⟩,h.none,h.Xb,λkv hkv o ho hY=> ?_⟩,hsh,hlow,hnew,h6⟩;rcases hY with hY| rfl
 ·exact h.loose kv hkv o ho hY
 ·exact hnew ⟨1,(h.chain kv hkv).1.taken _ ho⟩
end
structure Loose(L:Nat)(s0 s:St)(Y:Nat->Prop)(items:List Kv)(ch:List UInt8->List Lk):Prop where
 sto:E8 Y L s items ch
 sh:s.sh=s0.sh
 low:∀j,j<16->s.ws j=s0.ws j
 tk:∀o,(∃d,AO s0 o d)<->(∃d,AO s o d)/\¬Y o
section
variable{Y:Nat->Prop}{L:Nat}{s0 s s':St}{items:List Kv}{ch:List UInt8->List Lk}
def Ad1(ok:Bz L s)(ok':Bz L s')(h:∀o,(∃d,AO s o d)<->∃d,AO s' o d):DC s=DC s':=
 VI (r:=λ(x y:Nat)=>x<y) (λx=>Nat.lt_irrefl x) (λx y h=>O) _ _ (QD ok) (QD ok') λo=>by rw [IK ok,IK ok',h o]
def Loose.start(h:Ce L s items ch):Loose L s s (λ_=>False) items ch:=⟨h.y,rfl,λ_ _=>rfl,λ_=>⟨λh=>⟨h,id⟩,λh=>h.1⟩⟩
def Loose.Ao0(h:Loose L s0 s Y items ch){c:Nat}(hc:c=1\/c=2){off:Nat}{t:St}(hres:CO s c=some (off,t)):∃s2,Ib t off=(s2,0)/\off<=65536/\Loose L s0 s2 (λp=>Y p\/p=off) items ch:=by
 obtain⟨s2,e,hs,hsh,hlo,hnew,h6,htk⟩:=h.sto.Ao0 hc hres;refine⟨s2,e,h6,hs,hsh.trans h.sh,λj hj=>(hlo j hj).trans (h.low j hj),λo=> ?_⟩;rw [h.tk o,htk o];constructor
 ·rintro⟨h1,h2⟩;exact⟨.inl h1,λh3=>h3.elim h2 (λe=>hnew (e▸h1))⟩
 ·rintro⟨h1,h2⟩;exact⟨h1.resolve_right (λe=>h2 (.inr e)),λh3=>h2 (.inl h3)⟩
def Loose.opened(h:Loose L s0 s Y items ch):E8 Y L (En s.ws s.sh) items ch/\∀o d,AO (En s.ws s.sh) o d<->AO s o d:=by
 obtain⟨ok',ht,hk⟩:=Adu h.sto.ix.ok (Adv s);refine⟨h.sto.again ok' (Ak7 _ _) hk rfl (λo=>⟨λho=> ?_,λ⟨⟨d,hd⟩,f⟩=>f ⟨d,(ht o d).1 hd⟩⟩),ht⟩;obtain⟨d,hd⟩:=h.sto.taken ho;exact⟨⟨d,(ht o d).2 hd⟩,λ_=>ho⟩
def Loose.freed(h:Loose L s0 s Y items ch)(h0:Bz L s0)(h':Bz L s')(ht:∀o d,AO s' o d<->AO (En s.ws s.sh) o d/\¬Y o):DC s'=DC s0:=by
 refine Ad1 h' h0 λo=> ?_
 rw [h.tk o];constructor
 ·rintro⟨d,hd⟩;obtain⟨h1,h2⟩:=(ht o d).1 hd;exact⟨⟨d,(h.opened.2 o d).1 h1⟩,h2⟩
 ·rintro⟨⟨d,hd⟩,h2⟩;exact⟨d,(ht o d).2 ⟨(h.opened.2 o d).2 hd,h2⟩⟩
def Ad2{v:UInt64}{l:List Lk}(h:Dt s v l):∀y∈l,y.rc.text.size<=1000:=by
 induction h with
 | nil=>exact λ_ h=>(nomatch h)
 | cons o r l _ hr _ _ _ ih=>
   intro y hy;rcases CJ.1 hy with rfl| hy
   ·unfold Eb at hr;simp only [Bool.and_eq_true,decide_eq_true_eq]at hr;have:=hr.1.2;show r.text.size<=1000;omega
   ·exact ih y hy
def Ao1{sh:Sh}(h1:s.sh=sh)(h:∀j,j<8->s.ws j=(st0 sh).ws j):wordsAt s.ws 0 8=wordsOf s.sh:=by
 have h2:wordsAt s.ws 0 8=wordsAt (LZ sh) 0 8:=by
  apply Eu
  ·simp [wordsAt]
  ·intro i h1 h2;rw [FC,FC];exact h _ (by simp [wordsAt]at h1;omega)
 rw [h2,RQ,h1]
end
