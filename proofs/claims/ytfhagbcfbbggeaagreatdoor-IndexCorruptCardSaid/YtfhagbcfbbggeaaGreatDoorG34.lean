import Derived.Test.YtfhagbcfbbggeaaGreatDoorG31
namespace Go.Proofs.YtfhagbcfbbggeaaGreatDoor
theorem foldlM_each{α β:Type}{g:β→α→Option β}:∀(l:List α)(a:β),(l.foldlM g a).isSome=true→∀x∈l,∃a',(g a' x).isSome=true
 | [],_,_,x,hx=>by cases hx
 | y::l,a,h,x,hx=>by
   rw [List.foldlM_cons]at h
   cases hg:g a y with
   | none=>rw [hg]at h;cases h
   | some b=>
     rw [hg]at h
     rcases List.mem_cons.1 hx with e| hx
     ·subst e;exact⟨a,by rw [hg];rfl⟩
     ·exact foldlM_each l b h x hx
theorem visit_path {s : St} : ∀ (f : Nat) (name : UInt64) (ahead : List UInt8) (st : List (List UInt8 × UInt64) × List Int), (visitP s f name ahead st).isSome = true → ∀ (f2 : Nat) (rest : List UInt8) (label : UInt8) (word : Int) (way : List Pl), (pathGo s f2 name rest label word way).isSome = true
  | 0, _, _, _, h, _, _, _, _, _ => by unfold visitP at h; cases h
  | f + 1, name, ahead, (items, met), h, f2, rest, label, word, way => by
    cases f2 with
    | zero => unfold pathGo; rfl
    | succ f2 =>
      unfold pathGo
      split
      · rfl
      · unfold visitP at h
        cases hr : readP s name with
        | none => rw [hr] at h; cases h
        | some x =>
          rw [hr] at h
          simp only at h ⊢
          split at h
          · cases h
          · split at h
            · cases h
            · split
              · rfl
              · split
                · rfl
                · rename_i kid number hk
                  unfold kidP at hk
                  split at hk
                  · rename_i i hi
                    split at hk
                    · injection hk with hk
                      injection hk with hk1 _
                      by_cases hlt : i < x.kids.length
                      · have hil : i < x.labels.length := by
                          unfold findLb at hi
                          exact (List.findIdx?_eq_some_iff_getElem.1 hi).1
                        have hm : (x.labels[i], x.kids[i]) ∈ x.labels.zip x.kids := by
                          have h1 : i < (x.labels.zip x.kids).length := by rw [List.length_zip]; omega
                          have := List.getElem_mem h1
                          rwa [List.getElem_zip] at this
                        obtain ⟨a', ha⟩ := foldlM_each _ _ h _ hm
                        have hk2 : kid = x.kids[i] := by rw [← hk1, List.getD_eq_getElem?_getD, List.getElem?_eq_getElem hlt]; rfl
                        rw [hk2]
                        exact visit_path f _ _ _ ha f2 _ _ _ _
                      · have hk2 : kid = 0 := by rw [← hk1, List.getD_eq_getElem?_getD, List.getElem?_eq_none (by omega)]; rfl
                        rw [hk2]
                        cases f2 with
                        | zero => unfold pathGo; rfl
                        | succ f2 => unfold pathGo; rw [if_pos rfl]; rfl
                    · cases hk
                  · cases hk
theorem survey_path{s:St}(h:(surveyP s).isSome=true)(key:List UInt8):(pathP s key).isSome=true:=by
 unfold surveyP at h
 unfold pathP
 split at h
 ·rename_i h0
  rw [h0]
  unfold pathGo
  rw [if_pos rfl];rfl
 ·exact visit_path 34 _ _ _ h _ _ _ _ _
theorem survey_get{s:St}(h:(surveyP s).isSome=true)(key:List UInt8):(getP s key).2=0∨(getP s key).2=7∨(getP s key).2=3:=by
 unfold getP
 split
 ·exact .inr (.inr rfl)
 ·have hp:=survey_path h key
  split
  ·rename_i e;rw [e]at hp;cases hp
  ·split
   ·exact .inr (.inl rfl)
   ·split
    ·exact .inr (.inl rfl)
    ·exact .inl rfl
def Spotted(s:St)(o:Int):Prop:=∃i:Nat,i<16*s.tk.length∧o=((s.sh.data+64*i:Nat):Int)
theorem read_spot{s:St}{name:UInt64}{x:Nd}(e:readP s name=some x):Spotted s (offOf name):=by
 unfold readP at e
 split at e
 ·cases e
 ·rename_i h0
  unfold classP at h0
  split at h0
  ·exact absurd rfl h0
  ·rename_i i a hf
   unfold findP at hf
   split at hf
   ·cases hf
   ·rename_i h1
    split at hf
    ·cases hf
    ·rename_i h2
     generalize linesN (classW (bothN s (((offOf name).toNat-s.sh.data)/1024)))=m at h2
     have h3:((offOf name).toNat-s.sh.data)%1024%(64*m)=0:=by omega
     have h4:64∣((offOf name).toNat-s.sh.data)%1024:=Nat.dvd_trans (Nat.dvd_mul_right 64 m) (Nat.dvd_of_mod_eq_zero h3)
     refine⟨((offOf name).toNat-s.sh.data)/64,?_,?_⟩<;>omega
theorem fold_count{s:St}{α:Type}{g:List (List UInt8×UInt64)×List Int→α→Option (List (List UInt8×UInt64)×List Int)}
 (hg:∀a x b,g a x=some b→b.1.length+a.2.length≤a.1.length+b.2.length∧(a.2.Nodup→b.2.Nodup)∧∀o∈b.2,o∈a.2∨Spotted s o):∀(l:List α)(a b:List (List UInt8×UInt64)×List Int),l.foldlM g a=some b→
 b.1.length+a.2.length≤a.1.length+b.2.length∧(a.2.Nodup→b.2.Nodup)∧∀o∈b.2,o∈a.2∨Spotted s o
 | [],a,b,h=>by
   injection h with h
   subst h
   exact⟨Nat.le_refl _,id,fun _ h=> .inl h⟩
 | x::l,a,b,h=>by
   rw [List.foldlM_cons]at h
   cases hx:g a x with
   | none=>rw [hx]at h;cases h
   | some c=>
     rw [hx]at h
     obtain⟨h1,h2,h3⟩:=hg a x c hx
     obtain⟨k1,k2,k3⟩:=fold_count hg l c b h
     exact⟨by omega,fun hn=>k2 (h2 hn),fun o ho=>(k3 o ho).elim (fun h=>h3 o h) .inr⟩
theorem visit_count{s:St}:∀(f:Nat)(name:UInt64)(ahead:List UInt8)(a b:List (List UInt8×UInt64)×List Int),visitP s f name ahead a=some b→
 b.1.length+a.2.length≤a.1.length+b.2.length∧(a.2.Nodup→b.2.Nodup)∧∀o∈b.2,o∈a.2∨Spotted s o
 | 0,_,_,_,_,h=>by unfold visitP at h;cases h
 | f+1,name,ahead,(items,met),b,h=>by
   unfold visitP at h
   cases hr:readP s name with
   | none=>rw [hr]at h;cases h
   | some x=>
     rw [hr]at h
     simp only at h
     split at h
     ·cases h
     ·rename_i h0
      split at h
      ·cases h
      ·obtain⟨k1,k2,k3⟩:=fold_count (s:=s) (fun a y b h=>visit_count f y.2 (ahead++x.pre++[y.1]) a b h) _ _ _ h
       have hnm:offOf name∉met:=fun hm=>h0 (.inl (by simpa using hm))
       refine⟨?_,fun hn=>k2 ?_,fun o ho=> ?_⟩
       ·simp only [List.length_append,List.length_cons,List.length_nil]at k1⊢
        split at k1
        ·simp only [List.length_append,List.length_cons,List.length_nil]at k1;omega
        ·omega
       ·rw [List.nodup_append]
        exact⟨hn,List.pairwise_singleton _ _,fun u hu v hv e=>by rw [List.mem_singleton]at hv;subst hv;subst e;exact hnm hu⟩
       ·rcases k3 o ho with g| g
        ·rcases List.mem_append.1 g with g| g
         ·exact .inl g
         ·rw [List.mem_singleton]at g;subst g
          exact .inr (read_spot hr)
        ·exact .inr g
theorem survey_count{s:St}{r:List (List UInt8×UInt64)×List Int}(h:surveyP s=some r):r.1.length≤16*s.tk.length:=by
 unfold surveyP at h
 split at h
 ·injection h with h
  subst h
  simp
 ·obtain⟨h1,h2,h3⟩:=visit_count 34 _ _ _ _ h
  have h4:=nodup_sub_len r.2 ((List.range (16*s.tk.length)).map fun i=>((s.sh.data+64*i:Nat):Int)) (h2 List.nodup_nil) (fun o ho=>by
   rcases h3 o ho with g| ⟨i,g1,g2⟩
   ·cases g
   ·exact List.mem_map.2 ⟨i,List.mem_range.2 g1,g2.symm⟩)
  rw [List.length_map,List.length_range]at h4
  simp at h1
  omega
end Go.Proofs.YtfhagbcfbbggeaaGreatDoor
