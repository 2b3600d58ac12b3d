import Derived.Outline
namespace Go.Proofs.YtdjfbnoolfpcnaaGreatDoor
def swapF(f:Nat→Nat)(i j k:Nat):Nat:=if k=i then f j else if k=j then f i else f k
def HeapTo(f:Nat→Nat)(n:Nat):Prop:=∀k,0<k→k<n→f ((k-1)/2)≤f k
def HeapBut(f:Nat→Nat)(i n:Nat):Prop:=
 (∀k,0<k→k<n→(k-1)/2≠i→f ((k-1)/2)≤f k)∧(0<i→∀k,0<k→k<n→(k-1)/2=i→f ((i-1)/2)≤f k)
def HeapUp(f:Nat→Nat)(i n:Nat):Prop:=
 (∀k,0<k→k<n→k≠i→f ((k-1)/2)≤f k)∧(0<i→∀k,0<k→k<n→(k-1)/2=i→f ((i-1)/2)≤f k)
theorem heap_least{f:Nat→Nat}{n:Nat}(h:HeapTo f n):∀k,k<n→f 0≤f k:=by
 intro k;induction k using Nat.strongRecOn with
 | ind k ih=>
   intro hk;by_cases h0:k=0
   ·subst h0;exact Nat.le_refl _
   ·exact Nat.le_trans (ih ((k-1)/2) (by omega) (by omega)) (h k (by omega) hk)
theorem heapBut_start{f:Nat→Nat}{n:Nat}(h:HeapTo f (n+1)):HeapBut (swapF f 0 n) 0 n:=by
 refine⟨fun k h0 hk hp=> ?_,fun h=>absurd h (by omega)⟩;have:=h k h0 (by omega);unfold swapF;rw [if_neg hp,if_neg (by omega),if_neg (by omega),if_neg (by omega)];exact this
theorem heapBut_swap{f:Nat→Nat}{i j n:Nat}(h:HeapBut f i n)(hj0:0<j)(hjn:j<n)(hji:(j-1)/2=i)(hmin:∀k,0<k→k<n→(k-1)/2=i→f j≤f k)(hlt:f j<f i):HeapBut (swapF f i j) j n:=by
 obtain⟨ha,hb⟩:=h;have hij:i<j:=by omega
 refine⟨fun k h0 hk hp=> ?_,fun _ k h0 hk hp=> ?_⟩
 ·unfold swapF;by_cases c1:k=i
  ·subst c1;rw [if_neg (by omega),if_neg (by omega),if_pos rfl];exact hb h0 j hj0 hjn hji
  ·by_cases c2:k=j
   ·subst c2;rw [if_pos hji,if_neg (by omega),if_pos rfl];exact Nat.le_of_lt hlt
   ·by_cases c3:(k-1)/2=i
    ·rw [if_pos c3,if_neg c1,if_neg c2];exact hmin k h0 hk c3
    ·rw [if_neg c3,if_neg hp,if_neg c1,if_neg c2];exact ha k h0 hk c3
 ·unfold swapF;rw [hji,if_pos rfl,if_neg (by omega),if_neg (by omega)];have:=ha k h0 hk (by omega);rw [hp]at this;exact this
theorem heapBut_end{f:Nat→Nat}{i n:Nat}(h:HeapBut f i n)(he:∀k,0<k→k<n→(k-1)/2=i→f i≤f k):HeapTo f n:=by
 intro k h0 hk;by_cases c:(k-1)/2=i
 ·rw [c];exact he k h0 hk c
 ·exact h.1 k h0 hk c
theorem heapUp_swap{f:Nat→Nat}{i j n:Nat}(h:HeapUp f j n)(hj0:0<j)(hjn:j<n)(hji:(j-1)/2=i)(hlt:f j<f i):HeapUp (swapF f i j) i n:=by
 obtain⟨ha,hb⟩:=h;have hij:i<j:=by omega
 refine⟨fun k h0 hk hp=> ?_,fun hi k h0 hk hp=> ?_⟩
 ·unfold swapF;by_cases c2:k=j
  ·subst c2;rw [if_pos hji,if_neg (by omega),if_pos rfl];exact Nat.le_of_lt hlt
  ·by_cases c3:(k-1)/2=i
   ·rw [if_pos c3,if_neg hp,if_neg c2];have:=ha k h0 hk c2;rw [c3]at this;omega
   ·by_cases c4:(k-1)/2=j
    ·rw [if_neg c3,if_pos c4,if_neg hp,if_neg c2];have:=hb hj0 k h0 hk c4;rw [hji]at this;exact this
    ·rw [if_neg c3,if_neg c4,if_neg hp,if_neg c2];exact ha k h0 hk c2
 ·unfold swapF;have hpi:=ha i hi (by omega) (by omega);by_cases c2:k=j
  ·subst c2;rw [if_neg (by omega),if_neg (by omega),if_neg (by omega),if_pos rfl];exact hpi
  ·rw [if_neg (by omega),if_neg (by omega),if_neg (by omega),if_neg c2];have:=ha k h0 hk c2;rw [hp]at this;exact Nat.le_trans hpi this
theorem heapUp_end{f:Nat→Nat}{j n:Nat}(h:HeapUp f j n)(he:0<j→f ((j-1)/2)≤f j):HeapTo f n:=by
 intro k h0 hk;by_cases c:k=j
 ·subst c;exact he h0
 ·exact h.1 k h0 hk c
section
variable{α:Type}
def keyF(key:α→Nat)(l:List α)(k:Nat):Nat:=(l[k]?.map key).getD 0
def swapL(l:List α)(i j:Nat):List α:=match l[i]?,l[j]? with
 | some a,some b=>(l.set i b).set j a
 | _,_=>l
theorem swapL_at(l:List α)(i j:Nat)(hi:i<l.length)(hj:j<l.length):swapL l i j=(l.set i l[j]).set j l[i]:=by
 simp [swapL,List.getElem?_eq_getElem hi,List.getElem?_eq_getElem hj]
theorem swapL_length(l:List α)(i j:Nat):(swapL l i j).length=l.length:=by
 unfold swapL;split<;>simp
theorem swapL_get(l:List α)(i j:Nat)(hi:i<l.length)(hj:j<l.length)(k:Nat):(swapL l i j)[k]? =if k=i then l[j]? else if k=j then l[i]? else l[k]? :=by
 rw [swapL_at l i j hi hj,List.getElem?_set,List.getElem?_set];simp only [List.length_set];by_cases c1:k=i
 ·subst c1;by_cases c2:j=k
  ·subst c2;simp [hj]
  ·rw [if_neg c2];simp [hi,hj]
 ·by_cases c2:k=j
  ·subst c2;simp [hi,hj,c1]
  ·rw [if_neg (fun e=>c2 e.symm),if_neg (fun e=>c1 e.symm),if_neg c1,if_neg c2]
theorem keyF_swap(key:α→Nat)(l:List α)(i j:Nat)(hi:i<l.length)(hj:j<l.length):keyF key (swapL l i j)=swapF (keyF key l) i j:=by
 funext k;unfold keyF swapF;rw [swapL_get l i j hi hj];by_cases c1:k=i
 ·rw [if_pos c1,if_pos c1]
 ·rw [if_neg c1,if_neg c1];by_cases c2:k=j
  ·rw [if_pos c2,if_pos c2]
  ·rw [if_neg c2,if_neg c2]
theorem swapL_perm(l:List α)(i j:Nat):(swapL l i j).Perm l:=by
 by_cases hi:i<l.length
 ·by_cases hj:j<l.length
  ·rw [swapL_at l i j hi hj];rcases Nat.lt_trichotomy i j with h| h| h
   ·exact List.set_set_perm hi hj
   ·subst h;simp
   ·exact List.set_set_perm hi hj
  ·simp [swapL,List.getElem?_eq_none (Nat.le_of_not_lt hj)]
 ·simp [swapL,List.getElem?_eq_none (Nat.le_of_not_lt hi)]
end
end Go.Proofs.YtdjfbnoolfpcnaaGreatDoor
