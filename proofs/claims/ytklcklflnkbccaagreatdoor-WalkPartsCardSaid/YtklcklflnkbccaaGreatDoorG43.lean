import Derived.Test.YtklcklflnkbccaaGreatDoorG42
/- Put leaves a tree, where nodes are made anew; what a survey tells of it. Plain words alone, no program in sight. -/
namespace Go.Proofs.YtklcklflnkbccaaGreatDoor

theorem common_split {_ : Nat} {a b : List UInt8} (h : common a b = a.length) : ∃ t, b = a ++ t := by
  have := common_take a b
  rw [h, List.take_length] at this
  exact ⟨b.drop a.length, by conv => lhs; rw [← List.take_append_drop a.length b, ← this]⟩

section
variable {L : Nat} {s : St} {items : List Kv} {blocks : List Nat} {key : List UInt8} {last : Pl} {rest' q : List UInt8} {rl : Nat} {nl : UInt64} {parts : List Part} {A B : List Kv} {b1 b2 : List Nat} {o : Nat}

theorem put_new (h : IxOk L s items) (hn0 : s.ws 9 ≠ 0) (htk : ∀ o, (∃ d, TakenAt s o d) ↔ o ∈ blocks) (_ : blocks.Nodup) (hk16 : key.length ≤ 16) (a : Around L s items blocks key last rest' q rl nl parts A B b1 b2 o) (hp : last.nd.pre ≠ rest') (value : UInt64) (hv : value ≠ 0) :
    PutOk L items (nibs key) value (match growP ⟨s, []⟩ last.nd rest' value with | (j, name, e) => finishP j e last.word name [last.off]) := by
  have ok := h.ok
  obtain ⟨jw, hj1, hj2, hj3, hj4⟩ := a.word ok
  have hbo := a.tk.bounds ok
  have S := a.spot
  have hlen := nibs_length key
  have hcutl : q.length + rest'.length = (nibs key).length := by rw [S.cut, List.length_append]
  have hnib : rest'.all isNib = true := by
    have := nibs_nib key
    rw [S.cut, List.all_append, Bool.and_eq_true] at this
    exact this.2
  have hno : common last.nd.pre rest' = last.nd.pre.length → hasLb last.nd.labels (rest'.getD (common last.nd.pre rest') 0) = false := fun hc => by
    rcases S.stop with h1 | h1 | h1
    · omega
    · exfalso
      refine hp ?_
      exact common_full _ _ hc h1
    · exact kidP_none a.right h1
  have hG := grow_ok ok h.nh a.right S.len S.pre S.kid S.sub (by have := S.lens; omega) hnib hv hp hno
  generalize growP ⟨s, []⟩ last.nd rest' value = res at hG
  obtain ⟨j, name, e⟩ := res
  simp only
  rcases hG with ⟨e1, B', g⟩ | ⟨e1, C, il', bl', g, hn, T, hpm, hmem⟩
  · simp only at e1 g
    subst e1
    simp only [finishP]
    rw [if_pos (by decide)]
    obtain ⟨s2, e2, ok2, nh2, tk2, kp2, lo2⟩ := undo_ok ok g
    rw [e2]
    exact .inl ⟨rfl, h.same ok2 nh2 tk2 kp2 (lo2 9 (by decide))⟩
  · simp only at e1 g hn T
    subst e1
    -- the word is put
    obtain ⟨s1, hs1⟩ : ∃ s1, s1 = ({ j.s with ws := put1 j.s.ws (last.word.toNat / 8) name } : St) := ⟨_, rfl⟩
    have hjw : last.word.toNat / 8 = jw := by rw [hj1, Int.toNat_natCast]; omega
    have hw1 : ∀ i, s1.ws i = if i = jw then name else j.s.ws i := fun i => by rw [hs1, ← hjw]; rfl
    have hshj := g.sh
    have ok1 : PoolOk L s1 := by
      rw [hs1]
      refine g.ok.words (fun i hi => ?_)
      show put1 j.s.ws (last.word.toNat / 8) name (16 + i) = _
      rw [hjw]
      unfold put1
      rw [if_neg]
      rw [hshj] at hi
      omega
    have htk1 : ∀ p d, TakenAt s1 p d ↔ TakenAt j.s p d := fun p d => by rw [hs1]; exact Iff.rfl
    obtain ⟨ho1, ho2⟩ := g.keep o _ trivial a.tk
    have hto1 : TakenAt s1 o (classN last.nd) := (htk1 _ _).2 ho1
    obtain ⟨s2, ed, ok2, sh2, hd2, ws2, tk2⟩ := drop_ok ok1 hto1
    have hsh1 : s1.sh = s.sh := by rw [hs1]; exact hshj
    have hfin : finishP j 0 last.word name [last.off] = (s2, 0) := by
      unfold finishP
      rw [if_neg (by simp), ← hs1]
      rw [a.off]
      simp only [dropsE, ed, if_true]
    rw [hfin]
    have hw2 : ∀ i, (i < 16 ∨ 16 + s.sh.slabs ≤ i) → s2.ws i = if i = jw then name else j.s.ws i := fun i hi => by
      rw [ws2 i (by rw [hsh1]; exact hi), hw1]
    have hCs : ∀ p ∈ C, ∀ d, ¬ TakenAt s p d := g.new
    have hbt : ∀ p ∈ blocks, ∃ d, TakenAt s p d := fun p hp => (htk p).2 hp
    have hoC : o ∉ C := fun hc => hCs o hc _ a.tk
    have hobl : o ∉ bl' := fun hb => by
      rcases List.mem_append.1 (hpm.mem_iff.1 hb) with h1 | h1
      · exact hoC h1
      · exact a.n3 h1
    -- the new tree stands behind the word and the Drop
    have hkeep2 : ∀ p c, p ∈ bl' → TakenAt j.s p c → TakenAt s2 p c ∧ ∀ i, inBlk p c i → s2.ws i = j.s.ws i := fun p c hp ht => by
      refine ⟨(tk2 p c).2 ⟨(htk1 p c).2 ht, fun e => hobl (e ▸ hp)⟩, fun i hi => ?_⟩
      have hi16 := g.ok.table_words (ht.bounds g.ok).1 hi
      rw [hshj] at hi16
      rw [hw2 i (.inr hi16), if_neg]
      intro e
      subst e
      rcases hj4 with ⟨_, h2⟩ | ⟨_, pp, cc, h2, h3, h4⟩
      · omega
      · obtain ⟨h3', _⟩ := g.keep pp cc trivial h3
        refine inBlk_ne g.ok ht h3' (fun e => ?_) hi h4 rfl
        subst e
        rcases List.mem_append.1 (hpm.mem_iff.1 hp) with h5 | h5
        · exact hCs p h5 cc h3
        · exact a.d1 p h2 h5
    have T2 : TreeAt s2 rl name il' bl' := T.keep g.ok ok2 (B := fun p => p ∈ bl') hkeep2 (fun _ h => h)
    have T3 := S.swap s2 name il' bl' ok2 hn T2 (fun p c hp ht => by
      have hpo : p ≠ o := fun e => by subst e; exact hp.elim a.n1 a.n2
      obtain ⟨u1, u2⟩ := g.keep p c trivial ht
      refine ⟨(tk2 p c).2 ⟨(htk1 p c).2 u1, hpo⟩, fun i hi => ?_⟩
      have hi16 := ok.table_words (ht.bounds ok).1 hi
      rw [hw2 i (.inr hi16), hj1]
      by_cases e : i = jw
      · rw [if_pos e, if_pos (by omega)]
      · rw [if_neg e, if_neg (by omega), u2 i hi])
    have h9 : s2.ws 9 = if q = [] then name else s.ws 9 := by
      rw [hw2 9 (.inl (by decide))]
      rcases hj4 with ⟨h1, h2⟩ | ⟨h1, pp, cc, h2, h3, h4⟩
      · rw [if_pos h2.symm, if_pos h1]
      · have := ok.table_words (h3.bounds ok).1 h4
        rw [if_neg (by omega), if_neg h1, g.low 9 (by decide)]
    rw [← h9] at T3
    have h90 : s2.ws 9 ≠ 0 := by
      rw [h9]
      split
      · exact hn
      · exact hn0
    have hkey : nibs key = q ++ rest' := S.cut
    -- keys below the last node are other keys
    have hil : ∀ kv, kv ∈ ownItems last.nd ++ kidItems last.nd.pre last.nd.labels parts → kv.1 ≠ rest' := fun kv hkv e => by
      rcases List.mem_append.1 hkv with h1 | h1
      · obtain ⟨rfl, _⟩ := ownItems_mem h1
        exact hp e
      · obtain ⟨i, i1, i2, kv', _, rfl⟩ := kidItems_mem h1
        simp only at e
        have hc : common last.nd.pre rest' = last.nd.pre.length := by rw [← e, common_append]
        have := hno hc
        rw [hc, ← e, List.getD_eq_getElem?_getD, List.getElem?_append_right (Nat.le_refl _), Nat.sub_self] at this
        have h3 := hasLb_false_at _ _ this i i1
        exact h3 rfl
    right
    refine ⟨rfl, A ++ mapQ q il' ++ B, ⟨ok2, fun p d hh => g.nh p d ((held_same (by rw [hd2, hs1]) (by rw [sh2, hs1]) p d).1 hh), .inr ⟨b1 ++ bl' ++ b2, h90, T3, ?_, fun p => ?_⟩, ?_⟩, ?_⟩
    · have hperm : (b1 ++ bl' ++ b2).Perm (b1 ++ (C ++ kidBlocks parts) ++ b2) := List.Perm.append_right _ (List.Perm.append_left _ hpm)
      rw [hperm.nodup_iff]
      have hC1 : ∀ p ∈ C, p ∉ blocks := fun p hp hb => by
        obtain ⟨d, hd⟩ := hbt p hb
        exact hCs p hp d hd
      rw [a.bls] at hC1
      refine List.nodup_append.2 ⟨List.nodup_append.2 ⟨a.m1, List.nodup_append.2 ⟨g.nod, a.m3, fun x hx y hy e => ?_⟩, fun x hx y hy e => ?_⟩, a.m2, fun x hx y hy e => ?_⟩
      · subst e
        exact hC1 x hx (by simp [hy])
      · subst e
        rcases List.mem_append.1 hy with h1 | h1
        · exact hC1 x h1 (by simp [hx])
        · exact a.d1 x hx h1
      · subst e
        rcases List.mem_append.1 hx with h1 | h1
        · exact a.d3 x h1 hy
        · rcases List.mem_append.1 h1 with h1 | h1
          · exact hC1 x h1 (by simp [hy])
          · exact a.d2 x hy h1
    · have h1 : (∃ d, TakenAt s2 p d) ↔ (∃ d, TakenAt j.s p d) ∧ p ≠ o := by
        constructor
        · rintro ⟨d, hd⟩
          obtain ⟨h1, h2⟩ := (tk2 p d).1 hd
          exact ⟨⟨d, (htk1 p d).1 h1⟩, h2⟩
        · rintro ⟨⟨d, hd⟩, h2⟩
          exact ⟨d, (tk2 p d).2 ⟨(htk1 p d).2 hd, h2⟩⟩
      rw [h1, g.tk p, htk p, a.bls]
      simp only [List.mem_append, List.mem_cons, hpm.mem_iff]
      constructor
      · rintro ⟨h1 | h1, h2⟩
        · rcases h1 with (h1 | h1 | h1) | h1
          · exact .inl (.inl h1)
          · exact absurd h1 h2
          · exact .inl (.inr (.inr h1))
          · exact .inr h1
        · exact .inl (.inr (.inl h1))
      · rintro ((h1 | h1 | h1) | h1)
        · exact ⟨.inl (.inl (.inl h1)), fun e => a.n1 (e ▸ h1)⟩
        · exact ⟨.inr h1, fun e => hoC (e ▸ h1)⟩
        · exact ⟨.inl (.inl (.inr (.inr h1))), fun e => a.n3 (e ▸ h1)⟩
        · exact ⟨.inl (.inr h1), fun e => a.n2 (e ▸ h1)⟩
    · intro kv hkv
      rw [List.append_assoc] at hkv
      rcases List.mem_append.1 hkv with h1 | h1
      · exact h.even kv (by rw [S.its]; simp [h1])
      · rcases List.mem_append.1 h1 with h1 | h1
        · obtain ⟨k, h2, h3⟩ := mapQ_mem.1 h1
          rcases (hmem _).1 h2 with h4 | h4
          · refine h.even kv ?_
            rw [S.its, List.append_assoc]
            exact List.mem_append_right _ (List.mem_append_left _ (mapQ_mem.2 ⟨k, h4, h3⟩))
          · have e1 : k = rest' := congrArg Prod.fst h4
            rw [h3, e1, ← hkey]
            exact keyOk_nib key
        · exact h.even kv (by rw [S.its]; simp [h1])
    · intro kv
      constructor
      · intro hkv
        rw [List.append_assoc] at hkv
        rcases List.mem_append.1 hkv with h1 | h1
        · exact .inr ⟨by rw [S.its]; simp [h1], a.other kv (.inl h1)⟩
        · rcases List.mem_append.1 h1 with h1 | h1
          · obtain ⟨k, h2, h3⟩ := mapQ_mem.1 h1
            rcases (hmem _).1 h2 with h4 | h4
            · refine .inr ⟨?_, ?_⟩
              · rw [S.its, List.append_assoc]
                exact List.mem_append_right _ (List.mem_append_left _ (mapQ_mem.2 ⟨k, h4, h3⟩))
              · rw [h3, hkey]
                intro e
                exact hil _ h4 (List.append_cancel_left e)
            · left
              have e1 : k = rest' := congrArg Prod.fst h4
              have e2 : kv.2 = value := congrArg Prod.snd h4
              exact Prod.ext (by rw [h3, e1, hkey]) e2
          · exact .inr ⟨by rw [S.its]; simp [h1], a.other kv (.inr h1)⟩
      · rintro (rfl | ⟨h1, h2⟩)
        · rw [List.append_assoc]
          exact List.mem_append_right _ (List.mem_append_left _ (mapQ_mem.2 ⟨rest', (hmem _).2 (.inr rfl), hkey⟩))
        · rw [S.its, List.append_assoc] at h1
          rw [List.append_assoc]
          rcases List.mem_append.1 h1 with h3 | h3
          · exact List.mem_append_left _ h3
          · rcases List.mem_append.1 h3 with h3 | h3
            · obtain ⟨k, h4, h5⟩ := mapQ_mem.1 h3
              exact List.mem_append_right _ (List.mem_append_left _ (mapQ_mem.2 ⟨k, (hmem _).2 (.inl h4), h5⟩))
            · exact List.mem_append_right _ (List.mem_append_right _ h3)

/-- Put. -/
theorem put_ok (h : IxOk L s items) (key : List UInt8) (hk : key.length ≤ 16) (value : UInt64) (hv : value ≠ 0) : PutOk L items (nibs key) value (putK s key value) := by
  by_cases h0 : s.ws 9 = 0
  · exact put_empty h h0 key hk value hv
  · rcases h.tree with ⟨h1, _⟩ | ⟨blocks, h1, T, hnd, htk⟩
    · exact absurd h1 h0
    · obtain ⟨way, last, rest', q, rl, nl, parts, A, B, b1, b2, o, hp, a⟩ := around h.ok h1 T hnd key hk
      unfold putK
      rw [if_neg (by omega), if_neg hv, hp]
      have hgl : (way ++ [last]).getLast? = some last := by simp
      simp only [standsP, hgl]
      by_cases hpr : last.nd.pre = rest'
      · rw [if_pos hpr]
        exact put_there h h1 htk hnd a hpr value hv
      · rw [if_neg hpr]
        exact put_new h h1 htk hnd hk a hpr value hv

/-- A survey. -/
theorem survey_ok (h : IxOk L s items) : ∃ met : List Nat, surveyP s = some (items.map (fun kv => (pairs kv.1, kv.2)), met.map Int.ofNat) ∧ met.Nodup ∧ ∀ o, o ∈ met ↔ ∃ d, TakenAt s o d := by
  rcases h.tree with ⟨h1, h2, h3⟩ | ⟨blocks, h1, T, hnd, htk⟩
  · refine ⟨[], ?_, List.nodup_nil, fun o => ⟨fun h => (nomatch h), fun ⟨d, hd⟩ => absurd hd (h3 o d)⟩⟩
    unfold surveyP
    rw [if_pos h1, h2]
    rfl
  · refine ⟨blocks, ?_, hnd, fun o => (htk o).symm⟩
    unfold surveyP
    rw [if_neg h1]
    have := T.survey h.ok 34 [] [] [] (by decide) (by decide) hnd (fun _ _ h => by cases h) (fun kv hkv => h.even kv hkv)
    simpa using this
end

end Go.Proofs.YtklcklflnkbccaaGreatDoor
