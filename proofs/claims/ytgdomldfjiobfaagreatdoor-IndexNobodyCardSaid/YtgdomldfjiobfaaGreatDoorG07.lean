import Derived.Test.YtgdomldfjiobfaaGreatDoorG01
/- Plain laws of nodes: lists of bytes and words alone, no program in sight. -/
namespace Go.Proofs.YtgdomldfjiobfaaGreatDoor

/-- A node: nibbles, a value, labels, and what is below at each. -/
structure Nd where
  pre : List UInt8
  val : UInt64
  labels : List UInt8
  kids : List UInt64

/-- Each stands below the next one. -/
def risingB : List UInt8 → Bool
  | a :: b :: l => decide (a.toNat < b.toNat) && risingB (b :: l)
  | _ => true

theorem rising_iff : ∀ (l : List UInt8), risingB l = true ↔ ∀ i (h : i + 1 < l.length), l[i].toNat < l[i + 1].toNat
  | [] => by simp [risingB]
  | [_] => by simp [risingB]
  | a :: b :: l => by
    have ih := rising_iff (b :: l)
    simp only [risingB, Bool.and_eq_true, decide_eq_true_eq, ih]
    constructor
    · rintro ⟨h1, h2⟩ i hi
      rcases i with _ | i
      · simpa using h1
      · exact h2 i (by simpa using hi)
    · intro h
      exact ⟨by simpa using h 0 (by simp), fun i hi => h (i + 1) (by simpa using hi)⟩

theorem rising_take_succ (l : List UInt8) (k : Nat) (hk : k < l.length) (h : risingB (l.take k) = true) (hlt : ∀ j, k = j + 1 → (h : j < l.length) → l[j].toNat < l[k].toNat) : risingB (l.take (k + 1)) = true := by
  rw [rising_iff] at h ⊢
  intro i hi
  simp only [List.length_take] at hi
  simp only [List.getElem_take]
  by_cases e : i + 1 = k
  · subst e
    exact hlt i rfl (by omega)
  · have := h i (by simp; omega)
    simpa using this

theorem rising_step (l : List UInt8) (j : Nat) (hq : j + 1 < l.length) (h : risingB (l.take (j + 1)) = true) (hr : l[j].toNat < l[j + 1].toNat) : risingB (l.take (j + 1 + 1)) = true :=
  rising_take_succ l (j + 1) hq h (fun j' hj' _ => by cases hj'; exact hr)

theorem rising_false (l : List UInt8) (j : Nat) (hj : j + 1 < l.length) (h : ¬ l[j].toNat < l[j + 1].toNat) : risingB l = false := by
  cases hr : risingB l with
  | false => rfl
  | true => exact absurd ((rising_iff l).1 hr j hj) h

def rightB (x : Nd) : Bool :=
  decide (x.pre.length ≤ 15) && x.pre.all isNib && decide (x.labels.length = x.kids.length) && x.labels.all isNib && risingB x.labels && x.kids.all (fun k => k.toNat != 0)

theorem rightB_iff (x : Nd) : rightB x = true ↔ x.pre.length ≤ 15 ∧ x.pre.all isNib = true ∧ x.labels.length = x.kids.length ∧ x.labels.all isNib = true ∧ risingB x.labels = true ∧ ∀ i (h : i < x.kids.length), x.kids[i].toNat ≠ 0 := by
  simp only [rightB, Bool.and_eq_true, decide_eq_true_eq, and_assoc, List.all_eq_true (p := fun k : UInt64 => k.toNat != 0), bne_iff_ne, ne_eq]
  constructor
  · rintro ⟨h1, h2, h3, h4, h5, h6⟩
    exact ⟨h1, h2, h3, h4, h5, fun i hi => h6 _ (List.getElem_mem hi)⟩
  · rintro ⟨h1, h2, h3, h4, h5, h6⟩
    refine ⟨h1, h2, h3, h4, h5, fun k hk => ?_⟩
    obtain ⟨i, hi, rfl⟩ := List.getElem_of_mem hk
    exact h6 i hi

theorem right_no_nib (x : Nd) (k : Nat) (hk : k < x.labels.length) (h : ¬ x.labels[k].toNat < 16) : rightB x = false := by
  cases hr : rightB x with
  | false => rfl
  | true =>
    have := ((rightB_iff x).1 hr).2.2.2.1
    exact absurd (nib_get this hk) h
theorem right_no_rise (x : Nd) (j : Nat) (hj : j + 1 < x.labels.length) (h : ¬ x.labels[j].toNat < x.labels[j + 1].toNat) : rightB x = false := by
  cases hr : rightB x with
  | false => rfl
  | true =>
    have := ((rightB_iff x).1 hr).2.2.2.2.1
    exact absurd ((rising_iff _).1 this j hj) h
theorem right_no_pre (x : Nd) (h : ¬ (x.pre.length ≤ 15 ∧ x.pre.all isNib = true)) : rightB x = false := by
  cases hr : rightB x with
  | false => rfl
  | true => exact absurd ⟨((rightB_iff x).1 hr).1, ((rightB_iff x).1 hr).2.1⟩ h
theorem right_no_len (x : Nd) (h : x.labels.length ≠ x.kids.length) : rightB x = false := by
  cases hr : rightB x with
  | false => rfl
  | true => exact absurd ((rightB_iff x).1 hr).2.2.1 h
theorem right_rest (x : Nd) (h1 : x.pre.length ≤ 15) (h2 : x.pre.all isNib = true) (h3 : x.labels.length = x.kids.length) (h4 : x.labels.all isNib = true) (h5 : risingB x.labels = true) :
    rightB x = !(x.kids.any fun y => y.toNat == 0) := by
  rw [Bool.eq_iff_iff, rightB_iff]
  simp only [Bool.not_eq_true', List.any_eq_false, beq_iff_eq]
  constructor
  · rintro ⟨_, _, _, _, _, h⟩ k hk
    obtain ⟨i, hi, rfl⟩ := List.getElem_of_mem hk
    exact h i hi
  · intro h
    exact ⟨h1, h2, h3, h4, h5, fun i hi => h _ (List.getElem_mem hi)⟩

def classN (x : Nd) : Nat := if x.kids.length ≤ 4 then 1 else 2

/-- The first place of a value; none: there is no such place. -/
def placeOf {α : Type} (p : α → Bool) (l : List α) : Int := match l.findIdx? p with | some i => (i : Int) | none => -1

theorem placeOf_hit {α : Type} (p : α → Bool) (l : List α) (k : Nat) (hk : k < l.length) (hno : ∀ j (h : j < k), p (l[j]'(by omega)) = false) (hp : p l[k] = true) : placeOf p l = (k : Int) := by
  have : l.findIdx? p = some k := by
    rw [List.findIdx?_eq_some_iff_getElem]
    exact ⟨hk, hp, fun j hj => by simp [hno j hj]⟩
  simp [placeOf, this]

theorem placeOf_miss {α : Type} (p : α → Bool) (l : List α) (hno : ∀ j (h : j < l.length), p l[j] = false) : placeOf p l = -1 := by
  have : l.findIdx? p = none := by
    rw [List.findIdx?_eq_none_iff]
    intro x hx
    obtain ⟨i, hi, rfl⟩ := List.getElem_of_mem hx
    exact hno i hi
  simp [placeOf, this]

def packU (l : List UInt8) : UInt64 := UInt64.ofNat (l.length + 16 * packN l)

/-- Kids at the places of their labels, behind the first four words. -/
def putKids : List UInt64 → List UInt8 → List UInt64 → List UInt64
  | row, a :: as, k :: ks => putKids (row.set (4 + a.toNat) k) as ks
  | row, _, _ => row

theorem putKids_length : ∀ (row : List UInt64) (as : List UInt8) (ks : List UInt64), (putKids row as ks).length = row.length
  | row, a :: as, k :: ks => by rw [putKids, putKids_length]; simp
  | row, [], _ => by simp [putKids]
  | row, _ :: _, [] => by simp [putKids]

theorem putKids_take_succ : ∀ (row : List UInt64) (as : List UInt8) (ks : List UInt64) (i : Nat) (h1 : i < as.length) (h2 : i < ks.length),
    putKids row (as.take (i + 1)) (ks.take (i + 1)) = (putKids row (as.take i) (ks.take i)).set (4 + as[i].toNat) ks[i]
  | row, a :: as, k :: ks, 0, _, _ => by simp [putKids]
  | row, a :: as, k :: ks, i + 1, h1, h2 => by
    have := putKids_take_succ (row.set (4 + a.toNat) k) as ks i (by simpa using h1) (by simpa using h2)
    simpa [putKids] using this
  | _, [], _, _, h1, _ => by simp at h1
  | _, _ :: _, [], _, _, h2 => by simp at h2

/-- The words of a node. -/
def encS (x : Nd) : List UInt64 := [UInt64.ofNat (1 + 256 * x.kids.length), packU x.pre, x.val, packU x.labels] ++ x.kids ++ List.replicate (4 - x.kids.length) 0
def headB (x : Nd) : List UInt64 := [UInt64.ofNat (2 + 256 * x.kids.length), packU x.pre, x.val] ++ List.replicate 29 0
def encB (x : Nd) : List UInt64 := putKids (headB x) x.labels x.kids
def encW (x : Nd) : List UInt64 := if x.kids.length ≤ 4 then encS x else encB x

theorem encS_length (x : Nd) (h : x.kids.length ≤ 4) : (encS x).length = 8 := by simp [encS]; omega
theorem encB_length (x : Nd) : (encB x).length = 32 := by simp [encB, putKids_length, headB]
theorem encW_length (x : Nd) : (encW x).length = if x.kids.length ≤ 4 then 8 else 32 := by
  unfold encW; split
  · rename_i h; exact encS_length x h
  · exact encB_length x

/-- The labels, and the nodes below, of a small one's words. -/
def candS (u : Nat) (tail : List UInt64) : List UInt8 × List UInt64 :=
  if u / 16 / 16 ^ (u % 16) = 0 ∧ u % 16 ≤ 4 then (digits (u % 16) (u / 16), tail.take (u % 16)) else ([], [])

/-- Those of a big one's. -/
def collB : Nat → List UInt64 → List UInt8
  | _, [] => []
  | i, k :: t => if k.toNat = 0 then collB (i + 1) t else UInt8.ofNat i :: collB (i + 1) t
def collK (t : List UInt64) : List UInt64 := t.filter fun k => k.toNat != 0

theorem collB_snoc : ∀ (i : Nat) (t : List UInt64) (x : UInt64), collB i (t ++ [x]) = collB i t ++ (if x.toNat = 0 then [] else [UInt8.ofNat (i + t.length)])
  | i, [], x => by simp only [List.nil_append, collB]; split <;> simp
  | i, k :: t, x => by
    have := collB_snoc (i + 1) t x
    simp only [List.cons_append, collB, this, List.length_cons]
    rw [show i + 1 + t.length = i + (t.length + 1) by omega]
    split <;> simp
theorem collK_snoc (t : List UInt64) (x : UInt64) : collK (t ++ [x]) = collK t ++ (if x.toNat = 0 then [] else [x]) := by
  simp only [collK, List.filter_append, List.filter_cons, List.filter_nil]
  by_cases h : x.toNat = 0 <;> simp [h]
theorem coll_length : ∀ (i : Nat) (t : List UInt64), (collB i t).length = (collK t).length
  | _, [] => rfl
  | i, k :: t => by
    have := coll_length (i + 1) t
    simp only [collB, collK, List.filter_cons] at this ⊢
    by_cases h : k.toNat = 0 <;> simp [h, this]
theorem collK_le (t : List UInt64) : (collK t).length ≤ t.length := List.length_filter_le _ _

def candP (u : Nat) : List UInt8 := if u / 16 / 16 ^ (u % 16) = 0 then digits (u % 16) (u / 16) else []
def cand8 (l : List UInt64) : Nd :=
  { pre := candP (l.getD 1 0).toNat, val := l.getD 2 0, labels := (candS (l.getD 3 0).toNat (l.drop 4)).1, kids := (candS (l.getD 3 0).toNat (l.drop 4)).2 }
def cand32 (l : List UInt64) : Nd :=
  { pre := candP (l.getD 1 0).toNat, val := l.getD 2 0, labels := collB 0 ((l.drop 4).take 16), kids := collK ((l.drop 4).take 16) }
def cand (l : List UInt64) : Nd := if l.length = 8 then cand8 l else cand32 l
def decOk (l : List UInt64) : Bool := (decide (l.length = 8) || decide (l.length = 32)) && (rightB (cand l) && decide (encW (cand l) = l))

theorem candP_len (u : Nat) : (candP u).length ≤ 15 := by
  unfold candP; split
  · rw [digits_length]; omega
  · simp

theorem rightB_val (x : Nd) (v : UInt64) : rightB { x with val := v } = rightB x := rfl
theorem putKids_get2 : ∀ (row row' : List UInt64) (as : List UInt8) (ks : List UInt64) (i : Nat), row.length = row'.length → (∀ j, j ≠ 2 → row[j]? = row'[j]?) → i ≠ 2 → (putKids row as ks)[i]? = (putKids row' as ks)[i]?
  | row, row', a :: as, k :: ks, i, hl, h, hi => by
    simp only [putKids]
    refine putKids_get2 _ _ as ks i (by simp [hl]) (fun j hj => ?_) hi
    rw [List.getElem?_set, List.getElem?_set, h j hj, hl]
  | row, row', [], _, i, _, h, hi => by simp only [putKids]; exact h i hi
  | row, row', _ :: _, [], i, _, h, hi => by simp only [putKids]; exact h i hi
theorem putKids_at2 : ∀ (row : List UInt64) (as : List UInt8) (ks : List UInt64), (putKids row as ks)[2]? = row[2]?
  | row, a :: as, k :: ks => by
    simp only [putKids]
    rw [putKids_at2, List.getElem?_set]
    simp; omega
  | row, [], _ => by simp [putKids]
  | row, _ :: _, [] => by simp [putKids]

/-- Another value changes one word alone. -/
theorem encW_val (x : Nd) (v : UInt64) (i : Nat) (hi : i ≠ 2) : (encW { x with val := v })[i]? = (encW x)[i]? := by
  unfold encW
  by_cases h : x.kids.length ≤ 4
  · simp only [if_pos h, encS]
    rcases i with _ | _ | _ | i
    · rfl
    · rfl
    · exact absurd rfl hi
    · simp
  · simp only [if_neg h, encB]
    refine putKids_get2 _ _ _ _ i (by simp [headB]) (fun j hj => ?_) hi
    rcases j with _ | _ | _ | j
    · rfl
    · rfl
    · exact absurd rfl hj
    · simp [headB]
theorem encW_at2 (x : Nd) : (encW x)[2]? = some x.val := by
  unfold encW
  split
  · simp [encS]
  · rw [encB, putKids_at2]; simp [headB]

end Go.Proofs.YtgdomldfjiobfaaGreatDoor

/- Plain models of the pool and of the index: numbers, words and lists alone, no program in sight. -/
namespace Go.Proofs.YtgdomldfjiobfaaGreatDoor

/-- Words written one behind the other. -/
def putWs (ws : Nat → UInt64) (j : Nat) (xs : List UInt64) (i : Nat) : UInt64 := if j ≤ i ∧ i < j + xs.length then xs.getD (i - j) 0 else ws i
def put1 (ws : Nat → UInt64) (j : Nat) (x : UInt64) (i : Nat) : UInt64 := if i = j then x else ws i
def wordsAt (ws : Nat → UInt64) (j n : Nat) : List UInt64 := (List.range n).map fun t => ws (j + t)

/-- A pool over a device: the device's words, the slabs' words of what is taken, and of what is held. -/
structure St where
  sh : Sh
  ws : Nat → UInt64
  tk : List UInt64
  hd : List UInt64

def tkN (s : St) (i : Nat) : Nat := (s.tk.getD i 0).toNat
def hdN (s : St) (i : Nat) : Nat := (s.hd.getD i 0).toNat
def bothN (s : St) (i : Nat) : Nat := tkN s i ||| hdN s i
def placeN (sh : Sh) (i c a : Nat) : Nat := sh.data + 1024 * i + 64 * linesN c * a

def findP (s : St) (off : Int) : Option (Nat × Nat) :=
  if off < (s.sh.data : Int) ∨ (s.sh.data + 1024 * s.tk.length : Nat) ≤ off then none else
  if linesN (classW (bothN s ((off.toNat - s.sh.data) / 1024))) = 0 ∨ (off.toNat - s.sh.data) % 1024 % (64 * linesN (classW (bothN s ((off.toNat - s.sh.data) / 1024)))) ≠ 0 then none else
  some ((off.toNat - s.sh.data) / 1024, (off.toNat - s.sh.data) % 1024 / (64 * linesN (classW (bothN s ((off.toNat - s.sh.data) / 1024)))))

def classP (s : St) (off : Int) : Nat :=
  match findP s off with
  | none => 0
  | some (i, a) => if hasW (tkN s i) a then classW (tkN s i) else 0

/-- The first slab of a class that has room for a block of another one. -/
def firstP (s : St) (k c : Nat) : Option Nat := (List.range s.tk.length).find? fun i => decide (classW (bothN s i) = k) && (nextW (bothN s i) c).isSome
def slabFor (s : St) (c : Nat) : Option Nat := match firstP s c c with | some i => some i | none => firstP s 0 c

def reserveP (s : St) (c : Nat) : Option (Nat × St) :=
  match slabFor s c with
  | none => none
  | some i => match nextW (bothN s i) c with
    | none => none
    | some a => some (placeN s.sh i c a, { s with hd := s.hd.set i (UInt64.ofNat (takeW (hdN s i) c a).1) })

def putP (s : St) (i : Nat) (x : UInt64) : St := { s with ws := put1 s.ws (s.sh.table / 8 + i) x, tk := s.tk.set i x }

def takeP (s : St) (off : Int) : St × Int :=
  match findP s off with
  | none => (s, 7)
  | some (i, a) => if hasW (hdN s i) a then
      ({ putP s i (UInt64.ofNat (takeW (tkN s i) (classW (hdN s i)) a).1) with hd := s.hd.set i (UInt64.ofNat (dropW (hdN s i) a).1) }, 0)
    else (s, 7)

def dropP (s : St) (off : Int) : St × Int :=
  match findP s off with
  | none => (s, 7)
  | some (i, a) =>
    if (dropW (hdN s i) a).2 then ({ s with hd := s.hd.set i (UInt64.ofNat (dropW (hdN s i) a).1) }, 0)
    else if (dropW (tkN s i) a).2 then (putP s i (UInt64.ofNat (dropW (tkN s i) a).1), 0)
    else (s, 7)

def allP (s : St) : List Nat := (List.range s.tk.length).flatMap fun i => (listW (tkN s i)).map fun a => placeN s.sh i (classW (tkN s i)) a
def heldP (s : St) : Nat := ((List.range s.hd.length).map fun i => (listW (hdN s i)).length).sum

/-- A device that is formatted, and its pool. -/
def formatW (sh : Sh) : Nat → UInt64 := putWs (fun _ => 0) 0 (wordsOf sh)
def openP (L : Nat) (ws : Nat → UInt64) : Option St :=
  match shapeOf L with
  | none => none
  | some sh => if wordsAt ws 0 8 = wordsOf sh ∧ (wordsAt ws (sh.table / 8) sh.slabs).all (fun x => rightW x.toNat) then some { sh := sh, ws := ws, tk := wordsAt ws (sh.table / 8) sh.slabs, hd := List.replicate sh.slabs 0 } else none

/-- A word as a place. -/
def offOf (x : UInt64) : Int := IntKind.i64.wrap (x.toNat : Int)

/-- The node whose block is named. -/
def readP (s : St) (name : UInt64) : Option Nd :=
  if linesN (classP s (offOf name)) = 0 then none else
  if decOk (wordsAt s.ws ((offOf name).toNat / 8) (8 * linesN (classP s (offOf name)))) then some (cand (wordsAt s.ws ((offOf name).toNat / 8) (8 * linesN (classP s (offOf name))))) else none

structure Pl where
  nd : Nd
  off : Int
  label : UInt8
  word : Int

def findLb (l : List UInt8) (x : UInt8) : Option Nat := l.findIdx? fun y => y.toNat == x.toNat
def kidP (x : Nd) (label : UInt8) : Option (UInt64 × Nat) :=
  match findLb x.labels label with
  | some i => if rightB x then some (x.kids.getD i 0, if x.kids.length ≤ 4 then 4 + i else 4 + label.toNat) else none
  | none => none

def pathGo (s : St) : Nat → UInt64 → List UInt8 → UInt8 → Int → List Pl → Option (List Pl × List UInt8)
  | 0, _, rest, _, _, way => some (way, rest)
  | f + 1, name, rest, label, word, way =>
    if name = 0 then some (way, rest) else
    match readP s name with
    | none => none
    | some x =>
      if common x.pre rest < x.pre.length ∨ common x.pre rest = rest.length then some (way ++ [⟨x, offOf name, label, word⟩], rest) else
      match kidP x (rest.getD (common x.pre rest) 0) with
      | none => some (way ++ [⟨x, offOf name, label, word⟩], rest)
      | some (kid, number) => pathGo s f kid (rest.drop (common x.pre rest + 1)) (rest.getD (common x.pre rest) 0) (offOf name + 8 * number) (way ++ [⟨x, offOf name, label, word⟩])

def pathP (s : St) (key : List UInt8) : Option (List Pl × List UInt8) := pathGo s (2 * key.length + 1) (s.ws 9) (nibs key) 0 72 []

/-- The last node of a way, if it stands for the key. -/
def standsP (way : List Pl) (rest : List UInt8) : Option Pl :=
  match way.getLast? with
  | none => none
  | some last => if last.nd.pre = rest then some last else none

def getP (s : St) (key : List UInt8) : UInt64 × Int :=
  if 16 < key.length then (0, 3) else
  match pathP s key with
  | none => (0, 5)
  | some (way, rest) => match standsP way rest with
    | none => (0, 7)
    | some last => if last.nd.val = 0 then (0, 7) else (last.nd.val, 0)

/-- A job's state: the pool, and the blocks that were made. -/
structure Jb where
  s : St
  made : List Int

def buildP (j : Jb) (n : Nd) : Jb × UInt64 × Int :=
  if !rightB n then (j, 0, 5) else
  match reserveP j.s (classN n) with
  | none => (j, 0, 6)
  | some (off, s1) =>
    match takeP { s1 with ws := putWs s1.ws (off / 8) (encW n) } off with
    | (s2, e) => if e = 0 then (⟨s2, j.made ++ [(off : Int)]⟩, UInt64.ofNat off, 0) else (⟨s2, j.made ++ [(off : Int)]⟩, 0, e)

def hasLb (l : List UInt8) (x : UInt8) : Bool := l.any fun y => y.toNat == x.toNat
def withOkP (x : Nd) (label : UInt8) (kid : UInt64) : Bool := rightB x && decide (label.toNat < 16) && !(kid.toNat == 0) && !hasLb x.labels label
def insP {α : Type} (xs : List α) (i : Nat) (u : α) : List α := xs.take i ++ u :: xs.drop i
def delP {α : Type} (xs : List α) (i : Nat) : List α := xs.take i ++ xs.drop (i + 1)
def placeSP (l : List UInt8) (x : UInt8) : Nat := l.countP fun y => decide (y.toNat < x.toNat)
def withP (x : Nd) (label : UInt8) (kid : UInt64) : Nd := { pre := x.pre, val := x.val, labels := insP x.labels (placeSP x.labels label) label, kids := insP x.kids (placeSP x.labels label) kid }
def outP (x : Nd) (i : Nat) : Nd := { pre := x.pre, val := x.val, labels := delP x.labels i, kids := delP x.kids i }

def aboveP (j : Jb) (n : Nd) (label : UInt8) (kid : UInt64) (e : Int) : Jb × UInt64 × Int :=
  if e ≠ 0 then (j, 0, e) else
  if withOkP n label kid then buildP j (withP n label kid) else (j, 0, 5)

/-- New nodes of which the last one stands for nibbles; f: more than the nibbles are. -/
def leafP : Nat → Jb → List UInt8 → UInt64 → Jb × UInt64 × Int
  | 0, j, _, _ => (j, 0, 5)
  | f + 1, j, l, value =>
    if l.length ≤ 15 then buildP j ⟨l, value, [], []⟩ else
    match leafP f j (l.drop 16) value with
    | (j1, kid, e) => aboveP j1 ⟨l.take 15, 0, [], []⟩ (l.getD 15 0) kid e

def growP (j : Jb) (x : Nd) (rest : List UInt8) (value : UInt64) : Jb × UInt64 × Int :=
  if common x.pre rest = x.pre.length then
    match leafP (rest.length + 1) j (rest.drop (common x.pre rest + 1)) value with
    | (j1, kid, e) => aboveP j1 x (rest.getD (common x.pre rest) 0) kid e
  else
    match buildP j { x with pre := x.pre.drop (common x.pre rest + 1) } with
    | (j1, kid, e) =>
      if common x.pre rest = rest.length then aboveP j1 ⟨x.pre.take (common x.pre rest), value, [], []⟩ (x.pre.getD (common x.pre rest) 0) kid e else
      if e ≠ 0 then (j1, 0, e) else
      if withOkP ⟨x.pre.take (common x.pre rest), 0, [], []⟩ (x.pre.getD (common x.pre rest) 0) kid then
        match leafP (rest.length + 1) j1 (rest.drop (common x.pre rest + 1)) value with
        | (j2, kid2, e2) => aboveP j2 (withP ⟨x.pre.take (common x.pre rest), 0, [], []⟩ (x.pre.getD (common x.pre rest) 0) kid) (rest.getD (common x.pre rest) 0) kid2 e2
      else (j1, 0, 5)

def dropsP (s : St) (l : List Int) : St := l.foldl (fun s off => (dropP s off).1) s
/-- All go; the first error. -/
def dropsE : St → List Int → Int → St × Int
  | s, [], e => (s, e)
  | s, off :: l, e => dropsE (dropP s off).1 l (if e = 0 then (dropP s off).2 else e)

def finishP (j : Jb) (e : Int) (word : Int) (name : UInt64) (old : List Int) : St × Int :=
  if e ≠ 0 then (dropsP j.s j.made, e) else dropsE { j.s with ws := put1 j.s.ws (word.toNat / 8) name } old 0

def valueP (s : St) (at_ : Pl) (n : UInt64) : St := { s with ws := put1 s.ws (at_.off.toNat / 8 + 2) n }

def putK (s : St) (key : List UInt8) (value : UInt64) : St × Int :=
  if 16 < key.length then (s, 3) else if value = 0 then (s, 2) else
  match pathP s key with
  | none => (s, 5)
  | some (way, rest) => match standsP way rest with
    | some last => (valueP s last value, 0)
    | none => match way.getLast? with
      | none => match leafP (rest.length + 1) ⟨s, []⟩ rest value with
        | (j, name, e) => finishP j e 72 name []
      | some last => match growP ⟨s, []⟩ last.nd rest value with
        | (j, name, e) => finishP j e last.word name [last.off]

/-- How far up a way's nodes go with the last one: its number at last, and their places. -/
def pruneGo (way : List Pl) : Nat → List Int → Nat × List Int
  | 0, old => (0, old)
  | a + 1, old => match way[a]?, way[a + 1]? with
    | some up, some _ => if up.nd.val = 0 ∧ up.nd.kids.length = 1 then pruneGo way a (old ++ [up.off]) else (a + 1, old)
    | _, _ => (a + 1, old)

def pruneP (j : Jb) (way : List Pl) : St × Int :=
  match pruneGo way (way.length - 1) [(way.getLast?.map (·.off)).getD 0] with
  | (0, old) => finishP j 0 72 0 old
  | (a + 1, old) => match way[a]?, way[a + 1]? with
    | some up, some at_ => match findLb up.nd.labels at_.label with
      | some i => if rightB up.nd then match buildP j (outP up.nd i) with
          | (j1, name, e) => finishP j1 e up.word name (old ++ [up.off])
        else (j.s, 5)
      | none => (j.s, 5)
    | _, _ => (j.s, 5)

def cutK (s : St) (key : List UInt8) : St × UInt64 × Int :=
  if 16 < key.length then (s, 0, 3) else
  match pathP s key with
  | none => (s, 0, 5)
  | some (way, rest) => match standsP way rest with
    | none => (s, 0, 7)
    | some last => if last.nd.val = 0 then (s, 0, 7) else
      match (if last.nd.kids.length = 0 then pruneP ⟨s, []⟩ way else (s, 6)) with
      | (s1, e) => if e = 6 then (valueP s1 last 0, last.nd.val, 0) else if e = 0 then (s1, last.nd.val, 0) else (s1, 0, e)

/-- What is met in an index: keys with values, and blocks. -/
def visitP (s : St) : Nat → UInt64 → List UInt8 → List (List UInt8 × UInt64) × List Int → Option (List (List UInt8 × UInt64) × List Int)
  | 0, _, _, _ => none
  | f + 1, name, ahead, (items, met) =>
    match readP s name with
    | none => none
    | some n =>
      if met.contains (offOf name) ∨ 32 < (ahead ++ n.pre).length then none else
      if n.val ≠ 0 ∧ keyOk (ahead ++ n.pre) = false then none else
      (n.labels.zip n.kids).foldlM (fun st (lk : UInt8 × UInt64) => visitP s f lk.2 (ahead ++ n.pre ++ [lk.1]) st)
        (if n.val ≠ 0 then items ++ [(pairs (ahead ++ n.pre), n.val)] else items, met ++ [offOf name])

def surveyP (s : St) : Option (List (List UInt8 × UInt64) × List Int) :=
  if s.ws 9 = 0 then some ([], []) else visitP s 34 (s.ws 9) [] ([], [])

end Go.Proofs.YtgdomldfjiobfaaGreatDoor
