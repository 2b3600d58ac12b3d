import Derived.Laws.IdiomCopy
import Derived.IntWalk
import Derived.Laws.Rows
import Derived.Deep.AppendSrc
import Derived.Deep.AppendLies
import Derived.Deep.Upon
import Derived.Lib.AppendZeros
import Derived.ArgAppend
import Derived.Test.YtdjfbnoolfpcnaaGreatDoorG01
import Derived.Test.YtdjfbnoolfpcnaaGreatDoorG02
import Derived.Test.YtdjfbnoolfpcnaaGreatDoorG03
namespace Go.Proofs.YtdjfbnoolfpcnaaGreatDoor
open Go.RowKit
theorem heap_setCells_at(g:Nat)(e:TypeId)(fz:Nat×Nat):∀(vs:List Value)(o:Nat)(w:World)(cur:Array Value),w.heap[g]? =some (.cells cur e fz)→o+vs.length≤cur.size→
 ∃cur':Array Value,(w.setCells g o vs).heap[g]? =some (.cells cur' e fz)∧cur'.size=cur.size∧∀j:Nat,cur'[j]? =if o≤j∧j<o+vs.length then vs[j-o]? else cur[j]?
 | [],o,w,cur,h,_=>⟨cur,h,rfl,fun j=>by rw [if_neg (by simp only [List.length_nil];omega)]⟩
 | v::r,o,w,cur,h,hs=>by
   have h1:(w.setCell ⟨g,o,none⟩ v).heap[g]? =some (.cells (cur.setIfInBounds o v) e fz):=by
    simp [World.setCell,Array.getElem?_modify,h]
   obtain⟨cur',h2,h3,h4⟩:=heap_setCells_at g e fz r (o+1) (w.setCell ⟨g,o,none⟩ v) (cur.setIfInBounds o v) h1 (by simp at hs⊢;omega);refine⟨cur',h2,by rw [h3];simp,fun j=> ?_⟩;rw [h4 j];simp only [List.length_cons]at hs⊢;by_cases hj:j=o
   ·subst hj;rw [if_neg (by omega),if_pos (by omega),Array.getElem?_setIfInBounds,if_pos rfl,if_pos (by omega)];simp
   ·by_cases hin:o+1≤j∧j<o+1+r.length
    ·rw [if_pos hin,if_pos (by omega)];rw [show j-o=(j- (o+1))+1 by omega];simp
    ·rw [if_neg hin,if_neg (by omega),Array.getElem?_setIfInBounds,if_neg (by omega)]
theorem setCells_size(w:World)(g o:Nat)(vs:List Value):(w.setCells g o vs).heap.size=w.heap.size:=by
 induction vs generalizing w o with
 | nil=>rfl
 | cons v r ih=>rw [World.setCells,ih];simp [World.setCell]
theorem setCells_tape(w:World)(g o:Nat)(vs:List Value):(w.setCells g o vs).tape=w.tape:=by
 induction vs generalizing w o with
 | nil=>rfl
 | cons v r ih=>rw [World.setCells,ih];rfl
theorem setCells_os(w:World)(g o:Nat)(vs:List Value):(w.setCells g o vs).os=w.os:=by
 induction vs generalizing w o with
 | nil=>rfl
 | cons v r ih=>rw [World.setCells,ih];rfl
theorem setCells_output(w:World)(g o:Nat)(vs:List Value):(w.setCells g o vs).output=w.output:=by
 induction vs generalizing w o with
 | nil=>rfl
 | cons v r ih=>rw [World.setCells,ih];rfl
theorem setCells_other(w:World)(g o:Nat)(vs:List Value){k:Nat}(hk:k≠g):(w.setCells g o vs).heap[k]? =w.heap[k]? :=by
 induction vs generalizing w o with
 | nil=>rfl
 | cons v r ih=>rw [World.setCells,ih];exact Below.heap_setCell w ⟨g,o,none⟩ v k (fun h=>hk h)
def insV(xs:List Value)(i:Nat)(u:Value):List Value:=xs.take i++u::xs.drop i
theorem insV_get(xs:List Value)(i:Nat)(u:Value)(hi:i≤xs.length)(j:Nat):(insV xs i u)[j]? =if j<i then xs[j]? else if j=i then some u else xs[j-1]? :=by
 unfold insV;by_cases h1:j<i
 ·rw [if_pos h1,List.getElem?_append_left (by simp;omega),List.getElem?_take,if_pos h1]
 ·rw [if_neg h1,List.getElem?_append_right (by simp;omega)];simp only [List.length_take,Nat.min_eq_left hi];by_cases h2:j=i
  ·subst h2;simp
  ·rw [if_neg h2,show j-i=(j-1-i)+1 by omega,List.getElem?_cons_succ,List.getElem?_drop];congr 1;omega
theorem insV_length(xs:List Value)(i:Nat)(u:Value)(hi:i≤xs.length):(insV xs i u).length=xs.length+1:=by
 unfold insV;simp;omega
theorem own_shift{w:World}{base g n c i:Nat}{e:TypeId}{xs:List Value}{u:Value}(h:w.ownsRow base e 1 (.slice (some ⟨g,0,none⟩) n c) n xs)(hi:i≤n)(hc:n+1≤c):
 ((w.setCells g (i+1) (xs.drop i)).setCells g i [u]).ownsRow base e 1 (.slice (some ⟨g,0,none⟩) (n+1) c) (n+1) (insV xs i u):=by
 obtain⟨h1,h2⟩:=h;have hlen:xs.length=n:=by simpa using h1
 rcases h2 with⟨h2,_⟩| ⟨g',cap,cur,hv,hB,hg,hnc,hcm,hcs,ht⟩
 ·cases h2
 simp only [Value.slice.injEq,Option.some.injEq,Addr.mk.injEq,and_true,true_and]at hv;obtain⟨rfl,rfl⟩:=hv;obtain⟨cur1,a1,a2,a3⟩:=heap_setCells_at g e (0,0) (xs.drop i) (i+1) w cur hg (by simp;omega);obtain⟨cur2,b1,b2,b3⟩:=heap_setCells_at g e (0,0) [u] i _ cur1 a1 (by simp;omega);refine⟨by rw [insV_length xs i u (by omega)];omega,.inr ⟨g,c,cur2,rfl,hB,b1,hc,hcm,by omega,?_⟩⟩;apply List.ext_getElem?;intro j;rw [insV_get xs i u (by omega) j,List.getElem?_take];have hcur:∀j,j<n→cur[j]? =xs[j]? :=fun j hj=>by rw [←ht,List.getElem?_take,if_pos (by omega)];simp
 by_cases hj:j<(n+1)*1
 ·rw [if_pos hj];have e2:cur2.toList[j]? =cur2[j]? :=by simp
  rw [e2,b3 j];simp only [List.length_cons,List.length_nil,Nat.zero_add];by_cases hji:j=i
  ·subst hji;rw [if_pos (by omega),if_neg (by omega),if_pos rfl];simp
  ·rw [if_neg (by omega),a3 j];by_cases hlt:j<i
   ·rw [if_neg (by omega),if_pos hlt,hcur j (by omega)]
   ·rw [if_pos (by simp;omega),if_neg hlt,if_neg hji,List.getElem?_drop];congr 1;omega
 ·rw [if_neg hj,if_neg (by omega),if_neg (by omega),List.getElem?_eq_none (by omega)]
theorem own_grown{w:World}{base G:Nat}{e:TypeId}{xs zs:List Value}{i:Nat}{u:Value}(ROW:Array Value)(hb:base≤w.heap.size)(hi:i≤xs.length)(hG:xs.length+1≤G)(hGm:G≤maxLen)(hR:ROW.size=G)(hz:∀j,j<i→ROW[j]? =xs[j]?)(hzs:zs=xs.drop i):
 ((((w.alloc (.cells ROW e)).drew.setCells w.heap.size i [u]).drew).setCells w.heap.size (i+1) zs).ownsRow base e 1 (.slice (some ⟨w.heap.size,0,none⟩) (xs.length+1) G) (xs.length+1) (insV xs i u):=by
 subst hzs;have hg:((w.alloc (.cells ROW e)).drew).heap[w.heap.size]? =some (.cells ROW e (0,0)):=by
  show(w.heap.push _)[w.heap.size]? =_;simp
 obtain⟨cur1,a1,a2,a3⟩:=heap_setCells_at w.heap.size e (0,0) [u] i _ ROW hg (by simp;omega);have a1':(((w.alloc (.cells ROW e)).drew.setCells w.heap.size i [u]).drew).heap[w.heap.size]? =some (.cells cur1 e (0,0)):=a1;obtain⟨cur2,b1,b2,b3⟩:=heap_setCells_at w.heap.size e (0,0) (xs.drop i) (i+1) _ cur1 a1' (by simp;omega);refine⟨by rw [insV_length xs i u hi];omega,.inr ⟨w.heap.size,G,cur2,rfl,hb,b1,hG,hGm,by omega,?_⟩⟩;apply List.ext_getElem?;intro j;rw [insV_get xs i u hi j,List.getElem?_take];by_cases hj:j<(xs.length+1)*1
 ·rw [if_pos hj];have e2:cur2.toList[j]? =cur2[j]? :=by simp
  rw [e2,b3 j,a3 j];simp only [List.length_cons,List.length_nil,Nat.zero_add,List.length_drop];by_cases hji:j=i
  ·subst hji;rw [if_neg (by omega),if_pos (by omega),if_neg (by omega),if_pos rfl];simp
  ·by_cases hlt:j<i
   ·rw [if_neg (by omega),if_neg (by omega),if_pos hlt,hz j hlt]
   ·rw [if_pos (by omega),if_neg hlt,if_neg hji,List.getElem?_drop];congr 1;omega
 ·rw [if_neg hj,if_neg (by omega),if_neg (by omega),List.getElem?_eq_none (by omega)]
def delV(xs:List Value)(i:Nat):List Value:=xs.take i++xs.drop (i+1)
theorem delV_get(xs:List Value)(i:Nat)(hi:i<xs.length)(j:Nat):(delV xs i)[j]? =if j<i then xs[j]? else xs[j+1]? :=by
 unfold delV;by_cases h1:j<i
 ·rw [if_pos h1,List.getElem?_append_left (by simp;omega),List.getElem?_take,if_pos h1]
 ·rw [if_neg h1,List.getElem?_append_right (by simp;omega)];simp only [List.length_take,Nat.min_eq_left (Nat.le_of_lt hi)];rw [List.getElem?_drop];congr 1;omega
theorem delV_length(xs:List Value)(i:Nat)(hi:i<xs.length):(delV xs i).length=xs.length-1:=by
 unfold delV;simp;omega
theorem own_unshift{w:World}{base g n c i:Nat}{e:TypeId}{xs zs:List Value}(h:w.ownsRow base e 1 (.slice (some ⟨g,0,none⟩) n c) n xs)(hi:i<n)(hz:zs.length=1):
 ((w.setCells g i (xs.drop (i+1))).setCells g (n-1) zs).ownsRow base e 1 (.slice (some ⟨g,0,none⟩) (n-1) c) (n-1) (delV xs i):=by
 obtain⟨h1,h2⟩:=h;have hlen:xs.length=n:=by simpa using h1
 rcases h2 with⟨h2,_⟩| ⟨g',cap,cur,hv,hB,hg,hnc,hcm,hcs,ht⟩
 ·cases h2
 simp only [Value.slice.injEq,Option.some.injEq,Addr.mk.injEq,and_true,true_and]at hv;obtain⟨rfl,rfl⟩:=hv;obtain⟨cur1,a1,a2,a3⟩:=heap_setCells_at g e (0,0) (xs.drop (i+1)) i w cur hg (by simp;omega);obtain⟨cur2,b1,b2,b3⟩:=heap_setCells_at g e (0,0) zs (n-1) _ cur1 a1 (by omega);refine⟨by rw [delV_length xs i (by omega)];omega,.inr ⟨g,c,cur2,rfl,hB,b1,by omega,hcm,by omega,?_⟩⟩;apply List.ext_getElem?;intro j;rw [delV_get xs i (by omega) j,List.getElem?_take];have hcur:∀j,j<n→cur[j]? =xs[j]? :=fun j hj=>by rw [←ht,List.getElem?_take,if_pos (by omega)];simp
 by_cases hj:j<(n-1)*1
 ·rw [if_pos hj];have e2:cur2.toList[j]? =cur2[j]? :=by simp
  rw [e2,b3 j,if_neg (by omega),a3 j];by_cases hlt:j<i
  ·rw [if_neg (by omega),if_pos hlt,hcur j (by omega)]
  ·rw [if_pos (by simp;omega),if_neg hlt,List.getElem?_drop];congr 1;omega
 ·rw [if_neg hj,if_neg (by omega),List.getElem?_eq_none (by omega)]
theorem Kept.refl(w:World)(row:Option Nat):Kept w w row:=⟨Nat.le_refl _,fun _ _ _=>rfl⟩
theorem Kept.setCells{w w':World}{g:Nat}(h:Kept w w' (some g))(o:Nat)(vs:List Value):Kept w (w'.setCells g o vs) (some g):=
 ⟨by rw [setCells_size];exact h.1,fun k hk hne=>by rw [setCells_other _ _ _ _ (fun e=>hne (by rw [e]))];exact h.2 k hk hne⟩
theorem Kept.drew{w w':World}{row:Option Nat}(h:Kept w w' row):Kept w w'.drew row:=h
theorem Kept.below{w w':World}{row:Option Nat}{B:Nat}(h:Kept w w' row)(hB:B≤w.heap.size)(ho:w'.os=w.os)(ht:w'.tape=w.tape)(hp:w'.output=w.output)(hr:∀g,row=some g→B≤g):Below B w w':=
 ⟨ho,ht,hp,h.1,fun k hk=>h.2 k (by omega) (fun e=>by have:=hr k e.symm;omega)⟩
theorem append_rd2 {P : Program} {t e : TypeId} {z : Value} {bytes : Nat} (T : RowTy P t e z bytes) (ty : TypeId) {w : World} {base : Nat} {v : Value} {n : Nat} {xs news : List Value}
    (hown : w.ownsRow base e 1 v n xs) {A : Option Addr} {m : Nat} (hr : Rd w A m news)
    (h1 : ∀ u ∈ news, u.oneCell' = true) (hm : n + m ≤ 1000000000) (hby : bytes ≤ 64) (hbase : base ≤ w.heap.size) (c : Nat) :
    ∃ v' w', (Builtin.append_ #[t, t] ty #[v, .slice A m c]).run P w = .ok v' w' ∧ w'.ownsRow base e 1 v' (n + m) (xs ++ news) ∧ Below base w w' ∧ Kept w w' v.ownBlock := by
  obtain ⟨i, hi, hz0, hz1, hz2⟩ := info_parts T.hi
  rcases A with _ | ad
  · have h0 : m = 0 := by
      rcases Nat.eq_zero_or_pos m with h0 | h0
      · exact h0
      · obtain ⟨_, _, e, _⟩ := hr.2 h0; cases e
    subst h0
    have hn : news = [] := List.eq_nil_of_length_eq_zero hr.1
    subst hn
    refine ⟨v, w, ?_, by simpa using hown, Below.refl _ _, Kept.refl _ _⟩
    rcases hown.2 with ⟨rfl, rfl⟩ | ⟨g, cap, cur, rfl, _, _, hnc, _⟩
    · simp [Builtin.append_, run_underlying T.ht, sizeOf, typeInfo, hi, Builtin.lenOf, Builtin.firstCells]
    · simp [Builtin.append_, run_underlying T.ht, sizeOf, typeInfo, hi, Builtin.lenOf, Builtin.firstCells, hnc, storeCells]
  · have hcells : ∀ j u, news[j]? = some u → w.cell? (ad.add j) = some u := by
      intro j u hu
      have hj : j < m := by
        have := (List.getElem?_eq_some_iff.1 hu).1
        have := hr.1
        omega
      obtain ⟨b, off, e, _, hc⟩ := hr.2 (by omega)
      injection e with e
      subst e
      rw [Addr.add_lit, hc j hj, hu]
    have hmul : (n + m) * bytes ≤ 1000000000 * 64 := Nat.mul_le_mul hm hby
    obtain ⟨v', w', hrun, h2, h3, _⟩ := run_append_own (P := P) w base t ty e i z 1 bytes T.ht hi hz0 hz1 hz2 T.hz (by decide) v n xs hown ad m c news (by simp [hr.1]) hcells h1
      (by unfold maxLen; omega) (by omega) hbase
    exact ⟨v', w', hrun, h2, (Below.refl _ _).grown h3 hbase (fun k hk => (hown.lt k hk).1), h3.size, fun k hk hne => h3.block k hk (fun h => hne h)⟩
structure Touch(F:Nat→Prop)(w w':World):Prop where
 os:w'.os=w.os
 tape:w'.tape=w.tape
 output:w'.output=w.output
 size:w.heap.size≤w'.heap.size
 block:∀k,k<w.heap.size→¬F k→w'.heap[k]? =w.heap[k]?
theorem Touch.refl(F:Nat→Prop)(w:World):Touch F w w:=⟨rfl,rfl,rfl,Nat.le_refl _,fun _ _ _=>rfl⟩
theorem Touch.mono{F G:Nat→Prop}{w w':World}(h:Touch F w w')(hg:∀k,F k→G k):Touch G w w':=
 ⟨h.os,h.tape,h.output,h.size,fun k hk hn=>h.block k hk (fun hf=>hn (hg k hf))⟩
theorem Touch.of_below{F:Nat→Prop}{w w':World}(h:Below w.heap.size w w'):Touch F w w':=
 ⟨h.os,h.tape,h.output,h.size,fun k hk _=>h.block k hk⟩
theorem Touch.below{F:Nat→Prop}{w w':World}(h:Touch F w w'){B:Nat}(hB:B≤w.heap.size)(hF:∀k,F k→B≤k):Below B w w':=
 ⟨h.os,h.tape,h.output,h.size,fun k hk=>h.block k (by omega) (fun hf=>by have:=hF k hf;omega)⟩
theorem Touch.trans{F G:Nat→Prop}{w w' w'':World}(h:Touch F w w')(k:Touch G w' w'')(hg:∀b,G b→F b∨w.heap.size≤b):Touch F w w'':=
 ⟨k.os.trans h.os,k.tape.trans h.tape,k.output.trans h.output,Nat.le_trans h.size k.size,fun b hb hn=>by
  rw [k.block b (Nat.lt_of_lt_of_le hb h.size) (fun hgb=>(hg b hgb).elim hn (fun hle=>by omega))];exact h.block b hb hn⟩
theorem Touch.setCell{F:Nat→Prop}{w w':World}(h:Touch F w w'){p:Addr}(hp:F p.block∨w.heap.size≤p.block)(u:Value):Touch F w (w'.setCell p u):=
 ⟨h.os,h.tape,h.output,by simpa [World.setCell]using h.size,fun b hb hn=>by
  rw [Below.heap_setCell w' p u b (fun e=>hp.elim (fun hf=>hn (e▸hf)) (fun hle=>by omega))];exact h.block b hb hn⟩
theorem Touch.alloc{F:Nat→Prop}{w w':World}(h:Touch F w w')(o:Obj):Touch F w (w'.alloc o):=
 ⟨h.os,h.tape,h.output,by have:=h.size;simp;omega,fun b hb hn=>by
  rw [Below.heap_alloc w' o b (by have:=h.size;omega)];exact h.block b hb hn⟩
theorem Touch.drew{F:Nat→Prop}{w w':World}(h:Touch F w w'):Touch F w w'.drew:=⟨h.os,h.tape,h.output,h.size,h.block⟩
theorem Blk.touch{w w':World}{F:Nat→Prop}{g:Nat}{e:TypeId}{xs:List Value}(h:Blk w g e xs)(t:Touch F w w')(hg:¬F g):Blk w' g e xs:=(t.block g h.lt hg).trans h
theorem Rd.touch{w w':World}{F:Nat→Prop}{A:Option Addr}{n:Nat}{xs:List Value}(h:Rd w A n xs)(t:Touch F w w')(hF:∀a,A=some a→¬F a.block):Rd w' A n xs:=
 ⟨h.1,fun hn=>by
   obtain⟨b,off,e,hb,hc⟩:=h.2 hn;exact⟨b,off,e,Nat.lt_of_lt_of_le hb t.size,fun j hj=>(World.cell?_of_block (w:=w) (t.block b hb (hF _ e))).trans (hc j hj)⟩⟩
theorem own_touch{w w':World}{F:Nat→Prop}{base:Nat}{e:TypeId}{v:Value}{n:Nat}{xs:List Value}{size:Nat}(h:w.ownsRow base e size v n xs)(t:Touch F w w')(hF:∀g,v.ownBlock=some g→¬F g):w'.ownsRow base e size v n xs:=by
 refine⟨h.1,?_⟩;rcases h.2 with h| ⟨g,cap,cur,h1,h2,h3,h4⟩
 ·exact .inl h
 ·exact .inr ⟨g,cap,cur,h1,h2,(t.block g (Array.getElem?_eq_some_iff.1 h3).1 (hF g (by rw [h1];rfl))).trans h3,h4⟩
theorem own_set{w:World}{base g n c i:Nat}{e:TypeId}{xs:List Value}{u:Value}(h:w.ownsRow base e 1 (.slice (some ⟨g,0,none⟩) n c) n xs)(_:i<n):
 (w.setCell ⟨g,i,none⟩ u).ownsRow base e 1 (.slice (some ⟨g,0,none⟩) n c) n (xs.set i u):=by
 obtain⟨h1,h2⟩:=h;have hlen:xs.length=n:=by simpa using h1
 rcases h2 with⟨h2,_⟩| ⟨g',cap,cur,hv,hB,hg,hnc,hcm,hcs,ht⟩
 ·cases h2
 simp only [Value.slice.injEq,Option.some.injEq,Addr.mk.injEq,and_true,true_and]at hv;obtain⟨rfl,rfl⟩:=hv;have a1:(w.setCell ⟨g,i,none⟩ u).heap[g]? =some (.cells (cur.setIfInBounds i u) e (0,0)):=by
  simp [World.setCell,Array.getElem?_modify,hg]
 refine⟨by simpa using h1,.inr ⟨g,c,_,rfl,hB,a1,hnc,hcm,by simpa using hcs,?_⟩⟩;rw [Array.toList_setIfInBounds,List.take_set,ht]
theorem own_has{w:World}{base g n c i:Nat}{e:TypeId}{xs:List Value}(h:w.ownsRow base e 1 (.slice (some ⟨g,0,none⟩) n c) n xs)(hi:i<n):
 (∃v,w.cell? ⟨g,i,none⟩=some v)∧w.frozen? ⟨g,i,none⟩=false:=by
 refine⟨own_cell h hi,?_⟩;rcases h.2 with⟨h2,_⟩| ⟨g',cap,cur,hv,hB,hg,_⟩
 ·cases h2
 ·simp only [Value.slice.injEq,Option.some.injEq,Addr.mk.injEq,and_true,true_and]at hv;obtain⟨rfl,rfl⟩:=hv;simp [World.frozen?,hg]
theorem own_addr{w:World}{base n c:Nat}{A:Option Addr}{e:TypeId}{xs:List Value}(h:w.ownsRow base e 1 (.slice A n c) n xs)(hn:0<n):∃g,A=some ⟨g,0,none⟩∧base≤g∧g<w.heap.size:=by
 rcases h.2 with⟨h2,h0⟩| ⟨g',cap,cur,hv,hB,hg,_⟩
 ·omega
 ·simp only [Value.slice.injEq]at hv;exact⟨g',hv.1,hB,(Array.getElem?_eq_some_iff.1 hg).1⟩
theorem has_yes(A:Option Addr)(n c k:Nat)(w:World)(hn:n≤1000000000)(h8:k%8=0)(hk:k+8≤n):
 Calls Tryz.prog 137 #[.slice A n c,.int .i64 (k:Int)] w fun e w'=>e= .returned (.bool true)∧w=w':=by
 have t1:decide ((0:Int)≤(k:Int))=true:=by simp
 have t2:((k:Int)%8==0)=true:=by rw [beq_iff_eq];omega
 have t3:decide ((k:Int)≤(n:Int) -8)=true:=decide_eq_true (by omega);go_enter Tryz.func137,Tryz.ntmps137;go_wp2;go_ret;exact⟨rfl,rfl⟩
theorem pow256(j:Nat):2^(8*j)=256^j:=by rw [Nat.pow_mul]
theorem pow256_le(j:Nat)(hj:j<8):256^j≤72057594037927936:=by
 have:256^j≤256^7:=Nat.pow_le_pow_right (by decide) (by omega);exact Nat.le_trans this (by decide)
theorem or_step(X b j:Nat)(hb:b<256)(hj:j<8):bits .or .u64 ((X:Int)%256^j) (IntKind.u64.wrap (IntKind.u64.wrap (b:Int)*2^(8*j)))=((X%256^j+b*256^j:Nat):Int):=by
 have h1:X%256^j<256^j:=Nat.mod_lt _ (Nat.pow_pos (by decide));have h2:=pow256_le j hj;have h3:b*256^j≤255*72057594037927936:=Nat.mul_le_mul (by omega) h2;have e1:((X:Int)%256^j)=((X%256^j:Nat):Int):=by rw [Int.natCast_emod,Int.natCast_pow];rfl
 have e2:IntKind.u64.wrap (b:Int)=(b:Int):=by rw [IntKind.wrap_u64];omega
 have e3:(b:Int)*2^(8*j)=((b*256^j:Nat):Int):=by rw [←pow256,Int.natCast_mul,Int.natCast_pow];rfl
 have e4:IntKind.u64.wrap ((b*256^j:Nat):Int)=((b*256^j:Nat):Int):=by rw [IntKind.wrap_u64];omega
 rw [e1,e2,e3,e4,u64_or_nat _ _ (by omega) (by omega),Nat.or_comm,nat_join (8*j) _ _ (by rw [pow256];exact Nat.mul_mod_left _ _) (by rw [pow256];exact h1)];congr 1;omega
set_option maxHeartbeats 1000000 in
theorem wordGet_any(A:Option Addr)(n c k:Nat)(l:List UInt64)(w:World)(hn:n≤1000000)(h:Bs w A n (leBytes l))(hk:k<l.length):
 Calls Tryz.prog 138 #[.slice A n c,.int .i64 ((8*k:Nat):Int)] w fun e w'=>e= .returned (.tuple #[.int .u64 (l[k].toNat:Int),.bool true])∧w=w':=by
 have hlen:=h.len;rw [leBytes_length]at hlen;have hh:=has_yes A n c (8*k) w (by omega) (by omega) (by omega);have HH:=Lib.hid hh;have HLE:=Lib.hid (leBytes_get l k · hk ·);clear hh;go_enter Tryz.func138,Tryz.ntmps138
 go_wp2_with fail
 refine HH.out.mono ?_;rintro e w'⟨rfl,rfl⟩;clear HH
 go_wp2_with fail
 go_loop [6,12](fun s i=>∃j:Nat,j≤8∧i= .int .i64 j∧s= .int .u64 ((l[k].toNat%256^j:Nat):Int))(fun _ i=>8- (intOf i).toNat)
 case atStart=>exact⟨0,by omega,rfl,by simp⟩
 case round=>
  obtain⟨j,hj,rfl,rfl⟩:=hrel;by_cases hlt:j<8
  ·obtain⟨hq,p,off,rfl,hp,hc⟩:=h.at (show 8*k+j<n by omega);have hb:=HLE.out j hlt;rw [List.getElem?_eq_getElem hq]at hb;injection hb with hb
   rw [hb]at hc;have HS:Hid (bits .or .u64 ((l[k].toNat:Int)%256^j) (IntKind.u64.wrap (IntKind.u64.wrap ((leB l[k] j).toNat:Int)*2^(8*j)))=((l[k].toNat%256^(j+1):Nat):Int)):=Lib.hid (by
    rw [or_step _ _ _ (leB l[k] j).toNat_lt hlt,le_step])
   go_wp2
   go_round
   case rel=>exact⟨j+1,by omega,by go_num,by rw [HS.out]⟩
   case measure=>simp [intOf];omega
  ·have hj8:j=8:=by omega
   subst hj8;rw [le_all];go_wp2;go_ret2;exact⟨rfl,rfl⟩
theorem shr_step(x:UInt64)(j:Nat):(x.toNat:Int)/2^(8*j)%256=((leB x j).toNat:Int):=by
 have e:(x.toNat:Int)/2^(8*j)=((x.toNat/256^j:Nat):Int):=by
  rw [Int.natCast_ediv,←pow256,Int.natCast_pow];rfl
 rw [leB_toNat,e];rfl
set_option maxHeartbeats 1000000 in
theorem wordPut_any(A:Option Addr)(n c k:Nat)(l:List UInt64)(x:UInt64)(w:World)(hn:n≤1000000)(h:Bs w A n (leBytes l))(hk:k<l.length):
 Calls Tryz.prog 97 #[.slice A n c,.int .i64 ((8*k:Nat):Int),.int .u64 (x.toNat:Int)] w fun e w'=>∃g c',e= .returned (.tuple #[.slice (some ⟨g,0,none⟩) n c',.bool true])∧w'.ownsRow w.heap.size 5 1 (.slice (some ⟨g,0,none⟩) n c') n ((leBytes (l.set k x)).map bv)∧Below w.heap.size w w':=by
 have hlen:=h.len;rw [leBytes_length]at hlen;have HM:=Lib.hid (mixW_succ l k x · hk ·);have HZ:=Lib.hid (mixW_zero l k x);have HE:=Lib.hid (leBytes_set l k x hk);go_enter Tryz.func97,Tryz.ntmps97
 go_wp2_with fail
 refine(cloneB_any A n c (leBytes l) w hn h).mono ?_;rintro e w1⟨v1,rfl,o1,hb1⟩;obtain⟨A1,c1,rfl,hc1,_⟩:=rd_of_own o1;obtain⟨g,rfl,hg1,hg2⟩:=own_addr o1 (by omega);have HH:=Lib.hid (has_yes A n c (8*k) w1 (by omega) (by omega) (by omega));rw [←HZ.out]at o1;clear HZ
 go_wp2_with fail
 refine HH.out.mono ?_;rintro e w'⟨rfl,rfl⟩;clear HH
 go_wp2_with fail
 go_loopw [17](fun i wr=>∃j:Nat,j≤8∧i= .int .i64 j∧wr.ownsRow w.heap.size 5 1 (.slice (some ⟨g,0,none⟩) n c1) n ((mixW l k x j).map bv)∧Below w.heap.size w wr)(fun i _=>8- (intOf i).toNat)
 case atStart=>exact⟨0,by omega,rfl,o1,hb1⟩
 case round=>
  obtain⟨j,hj,rfl,oj,hbj⟩:=hrel;by_cases hlt:j<8
  ·obtain⟨⟨v,hv⟩,hfz⟩:=own_has oj (show 8*k+j<n by omega);have HO:Hid ((wr.setCell ⟨g,8*k+j,none⟩ (.int .u8 ((leB x j).toNat:Int))).ownsRow w.heap.size 5 1 (.slice (some ⟨g,0,none⟩) n c1) n ((mixW l k x (j+1)).map bv)):=Lib.hid (by
    rw [←HM.out j hlt,List.map_set];exact own_set oj (by omega))
   have HB:=Lib.hid (hbj.setCell (p:=⟨g,8*k+j,none⟩) hg1 (.int .u8 ((leB x j).toNat:Int)));have HW:=Lib.hid (shr_step x j);clear oj;go_wp2;rw [HW.out];go_roundw
   case rel=>exact⟨j+1,by omega,by go_num,HO.out,HB.out⟩
   case measure=>simp [intOf];omega
  ·have hj8:j=8:=by omega
   subst hj8;rw [HE.out]at oj;go_wp2;go_ret2;exact⟨g,c1,rfl,oj,hbj⟩
def lineW(ws:Nat→UInt64)(i:Nat):List UInt64:=(List.range 8).map fun t=>ws (8*i+t)
theorem lineW_length(ws:Nat→UInt64)(i:Nat):(lineW ws i).length=8:=by simp [lineW]
theorem lineW_get(ws:Nat→UInt64)(i k:Nat)(hk:k<(lineW ws i).length):(lineW ws i)[k]=ws (8*i+k):=by simp [lineW]
theorem lineW_set(ws:Nat→UInt64)(i k:Nat)(x:UInt64)(_:k<8):(lineW ws i).set k x=lineW (fun j=>if j=8*i+k then x else ws j) i:=by
 apply List.ext_getElem
 ·simp [lineW]
 ·intro t h1 h2;rw [List.getElem_set,lineW_get,lineW_get];by_cases ht:k=t
  ·rw [if_pos ht,if_pos (by omega)]
  ·rw [if_neg ht,if_neg (by omega)]
theorem lineW_other(ws:Nat→UInt64)(i i' k:Nat)(x:UInt64)(hk:k<8)(hne:i'≠i):lineW (fun j=>if j=8*i+k then x else ws j) i'=lineW ws i':=by
 apply List.ext_getElem
 ·simp [lineW]
 ·intro t h1 h2;have:t<8:=by simpa [lineW]using h1
  rw [lineW_get,lineW_get,if_neg (by omega)]
structure Mode where
 chg:Nat→List (Nat×UInt64)
 lf:Int
def Mode.len(m:Mode)(i:Nat):Nat:=(m.chg i).length
instance:CoeFun Mode (fun _=>Nat→Nat):=⟨Mode.len⟩
abbrev MU(lf:Int):Mode:=⟨fun _=>[],lf⟩
abbrev M0:Mode:=MU (-1)
def Mode.tick(m:Mode):Mode:=⟨m.chg,if 0<m.lf then m.lf-1 else m.lf⟩
def Mode.note(m:Mode)(i:Nat)(c:Nat×UInt64):Mode:=⟨fun k=>if k=i then m.chg i++[c]else m.chg k,m.lf⟩
def Mode.wipe(m:Mode)(i:Nat):Mode:=⟨fun k=>if k=i then []else m.chg k,m.lf⟩
theorem Mode.len_note(m:Mode)(i:Nat)(c:Nat×UInt64)(k:Nat):(m.note i c).len k=if k=i then m.len i+1 else m.len k:=by
 unfold Mode.note Mode.len;simp only;split
 ·simp
 ·rfl
theorem Mode.len_wipe(m:Mode)(i k:Nat):(m.wipe i).len k=if k=i then 0 else m.len k:=by
 unfold Mode.wipe Mode.len;simp only;split<;>rfl
def chV:List (Nat×UInt64)→List Value
 | []=>[]
 | c::l=> .int .i64 (c.1:Nat):: .int .u64 (c.2.toNat:Nat)::chV l
def undoW(i:Nat):List (Nat×UInt64)→(Nat→UInt64)→Nat→UInt64
 | [],ws=>ws
 | c::l,ws=>fun q=>if q=8*i+c.1/8 then c.2 else undoW i l ws q
def undoD(m:Mode)(pick:Nat→Nat)(ws:Nat→UInt64)(q:Nat):UInt64:=undoW (q/8) ((m.chg (q/8)).drop (pick (q/8))) ws q
theorem chV_app:∀(a b:List (Nat×UInt64)),chV (a++b)=chV a++chV b
 | [],_=>rfl
 | c::a,b=>by simp only [List.cons_append,chV,chV_app a b]
def ChAt(w:World)(A:Option Addr)(cs:List (Nat×UInt64))(c:Nat)(hb:Option Nat):Prop:=
 (hb=none∧cs=[]∧c=0)∨∃h,hb=some h∧A=some ⟨h,0,none⟩∧w.ownsRow 0 140 2 (.slice A cs.length c) cs.length (chV cs)
structure DevRep(w:World)(d L:Nat)(ws:Nat→UInt64)(len:Mode)(mark:Nat→Nat)(g:Nat)(hb:Nat→Option Nat):Prop where
 box:∃st:Int,Blk w d 93 [.slice (some ⟨g,0,none⟩) L L,.bool (decide (len.lf=0)),.int .i64 len.lf,.int .i64 st]
 lfr: -1≤len.lf∧len.lf≤1000000000
 gd:g≠d
 blk:∃cur:Array Value,w.heap[g]? =some (.cells cur 101 (0,0))∧cur.size=66*L∧
  (∀i,i<L→∀k,k<64→cur[66*i+k]? =(leBytes (lineW ws i))[k]?.map bv)∧
  ∀i,i<L→∃A c,cur[66*i+64]? =some (.slice A (len i) c)∧cur[66*i+65]? =some (.int .i64 (mark i:Int))∧ChAt w A (len.chg i) c (hb i)
 bd:∀i,i<L→∀h,hb i=some h→h≠g∧h≠d
 inj:∀i j,i<L→j<L→i≠j→∀h,hb i=some h→hb j≠some h
 mrk:∀i,i<L→mark i≤len i+1
def devOwn(d L g:Nat)(hb:Nat→Option Nat)(b:Nat):Prop:=b=d∨b=g∨∃i,i<L∧hb i=some b
def Dev(w:World)(d L:Nat)(ws:Nat→UInt64)(len:Mode)(mark:Nat→Nat)(own:Nat→Prop):Prop:=
 ∃g hb,DevRep w d L ws len mark g hb∧∀b,own b↔devOwn d L g hb b
theorem ChAt.keep{w w':World}{A:Option Addr}{cs:List (Nat×UInt64)}{c:Nat}{hb:Option Nat}(h:ChAt w A cs c hb)(hk:∀b,hb=some b→b<w.heap.size→w'.heap[b]? =w.heap[b]?):ChAt w' A cs c hb:=by
 rcases h with h| ⟨h0,e1,e2,⟨h1,h2⟩⟩
 ·exact .inl h
 ·refine .inr ⟨h0,e1,e2,⟨h1,?_⟩⟩;rcases h2 with h2| ⟨g,cap,cur,a1,a2,a3,a4⟩
  ·exact .inl h2
  ·refine .inr ⟨g,cap,cur,a1,a2,?_,a4⟩;have:g=h0:=by
    simp only [Value.slice.injEq]at a1;have:=a1.1.symm.trans e2;simpa using this
   subst this;rw [hk g e1 (Array.getElem?_eq_some_iff.1 a3).1];exact a3
theorem ChAt.lt {w : World} {A : Option Addr} {cs : List (Nat × UInt64)} {c : Nat} {hb : Option Nat} (h : ChAt w A cs c hb) : ∀ b, hb = some b → b < w.heap.size := by
  intro b hbb
  rcases h with ⟨h, _⟩ | ⟨h0, e1, e2, ⟨h1, h2⟩⟩
  · rw [h] at hbb; cases hbb
  · rcases h2 with ⟨h2, _⟩ | ⟨g, cap, cur, a1, a2, a3, a4⟩
    · simp only [Value.slice.injEq] at h2
      rw [e2] at h2; cases h2.1
    · have e3 : g = h0 := by
        simp only [Value.slice.injEq] at a1
        have := a1.1.symm.trans e2
        simpa using this
      rw [e1] at hbb
      injection hbb with hbb
      subst e3 hbb
      exact (Array.getElem?_eq_some_iff.1 a3).1
theorem DevRep.keep{w w':World}{d L:Nat}{ws:Nat→UInt64}{len:Mode}{mark:Nat→Nat}{g:Nat}{hb:Nat→Option Nat}(h:DevRep w d L ws len mark g hb)
 (hk:∀b,devOwn d L g hb b→b<w.heap.size→w'.heap[b]? =w.heap[b]?):DevRep w' d L ws len mark g hb:=by
 obtain⟨st,hbx⟩:=h.box;obtain⟨cur,hg,hs,h1,h2⟩:=h.blk;refine⟨⟨st,(hk d (.inl rfl) hbx.lt).trans hbx⟩,h.lfr,h.gd,⟨cur,(hk g (.inr (.inl rfl)) (Array.getElem?_eq_some_iff.1 hg).1).trans hg,hs,h1,fun i hi=> ?_⟩,h.bd,h.inj,h.mrk⟩;obtain⟨A,c,e1,e2,hc⟩:=h2 i hi;exact⟨A,c,e1,e2,hc.keep (fun b hb' hlt=>hk b (.inr (.inr ⟨i,hi,hb'⟩)) hlt)⟩
theorem Dev.touch{w w':World}{d L:Nat}{ws:Nat→UInt64}{len:Mode}{mark:Nat→Nat}{own F:Nat→Prop}(h:Dev w d L ws len mark own)(t:Touch F w w')(hF:∀b,own b→¬F b):Dev w' d L ws len mark own:=by
 obtain⟨g,hb,hr,ho⟩:=h;exact⟨g,hb,hr.keep (fun b hbo hlt=>t.block b hlt (hF b ((ho b).2 hbo))),ho⟩
theorem Dev.below{w w':World}{d L:Nat}{ws:Nat→UInt64}{len:Mode}{mark:Nat→Nat}{own:Nat→Prop}(h:Dev w d L ws len mark own)(hb:Below w.heap.size w w'):Dev w' d L ws len mark own:=by
 obtain⟨g,hb',hr,ho⟩:=h;exact⟨g,hb',hr.keep (fun b _ hlt=>hb.block b hlt),ho⟩
theorem DevRep.lt{w:World}{d L:Nat}{ws:Nat→UInt64}{len:Mode}{mark:Nat→Nat}{g:Nat}{hb:Nat→Option Nat}(h:DevRep w d L ws len mark g hb):∀b,devOwn d L g hb b→b<w.heap.size:=by
 intro b hb';obtain⟨st,hbx⟩:=h.box;obtain⟨cur,hg,hs,h1,h2⟩:=h.blk;rcases hb' with rfl| rfl| ⟨i,hi,hh⟩
 ·exact hbx.lt
 ·exact(Array.getElem?_eq_some_iff.1 hg).1
 ·obtain⟨A,c,_,_,hc⟩:=h2 i hi;exact hc.lt b hh
theorem Dev.lt{w:World}{d L:Nat}{ws:Nat→UInt64}{len:Mode}{mark:Nat→Nat}{own:Nat→Prop}(h:Dev w d L ws len mark own):∀b,own b→b<w.heap.size:=by
 obtain⟨g,hb,hr,ho⟩:=h;exact fun b hb'=>hr.lt b ((ho b).1 hb')
theorem DevRep.line{w:World}{d L:Nat}{ws:Nat→UInt64}{len:Mode}{mark:Nat→Nat}{g:Nat}{hb:Nat→Option Nat}(h:DevRep w d L ws len mark g hb)(i:Nat)(hi:i<L):Bs w (some ⟨g,66*i,none⟩) 64 (leBytes (lineW ws i)):=by
 obtain⟨cur,hg,hs,h1,h2⟩:=h.blk;refine⟨by rw [List.length_map,leBytes_length,lineW_length],fun _=>⟨g,66*i,rfl,(Array.getElem?_eq_some_iff.1 hg).1,fun j hj=> ?_⟩⟩;rw [cell_of_row w g _ cur _ (0,0) hg,h1 i hi j hj,List.getElem?_map]
theorem blk4'{w:World}{g:Nat}{e:TypeId}{a b c d:Value}(h:Blk w g e [a,b,c,d]):
 w.cell? ⟨g,0,none⟩=some a∧w.cell? ⟨g,1,none⟩=some b∧w.cell? ⟨g,2,none⟩=some c∧w.cell? ⟨g,3,none⟩=some d∧
 w.frozen? ⟨g,0,none⟩=false∧w.frozen? ⟨g,1,none⟩=false∧w.frozen? ⟨g,2,none⟩=false∧w.frozen? ⟨g,3,none⟩=false:=
 ⟨h.cell 0,h.cell 1,h.cell 2,h.cell 3,h.frozen 0,h.frozen 1,h.frozen 2,h.frozen 3⟩
theorem size_dev(d L g:Nat)(v1 v2 v3:Value)(w:World)(hL:L≤1024)(h:Blk w d 93 [.slice (some ⟨g,0,none⟩) L L,v1,v2,v3]):
 Calls Tryz.prog 31 #[.pointer (some ⟨d,0,none⟩)] w fun e w'=>e= .returned (.int .i64 ((L*64:Nat):Int))∧w=w':=by
 obtain⟨y0,y1,y2,y3,f0,f1,f2,f3⟩:=blk4' h;go_enter Tryz.func31,Tryz.ntmps31;go_wp2;go_ret;exact⟨by simp,rfl⟩
theorem ask_ok(d L g off each:Nat)(v2 v3:Value)(w:World)(hL:L≤1024)(h:Blk w d 93 [.slice (some ⟨g,0,none⟩) L L,.bool false,v2,v3])(ho:off<L*64)(he:0<each)(hm:off%each=0)(he2:each≤64):
 Calls Tryz.prog 126 #[.pointer (some ⟨d,0,none⟩),.int .i64 (off:Int),.int .i64 (each:Int)] w fun e w'=>e= .returned (.int .i64 0)∧w=w':=by
 obtain⟨y0,y1,y2,y3,f0,f1,f2,f3⟩:=blk4' h;have hs:=size_dev d L g (.bool false) v2 v3 w hL h;have HS:=Lib.hid hs;have t1:(((L*64:Nat):Int)==0)=false:=by rw [beq_eq_false_iff_ne];omega
 have t2:decide ((off:Int)<0)=false:=by simp
 have t3:decide (((L*64:Nat):Int)≤(off:Int))=false:=by simp;omega
 have t4:((off:Int)%(each:Int)!=0)=false:=by
  have:(off:Int)%(each:Int)=((off%each:Nat):Int):=by rw [Int.natCast_emod]
  rw [this,hm];rfl
 generalize hN:L*64=N at*;clear hs hN h;go_enter Tryz.func126,Tryz.ntmps126
 go_wp2_with fail
 refine HS.out.mono ?_;rintro e w'⟨rfl,rfl⟩
 go_wp2_with fail
 refine HS.out.mono ?_;rintro e w'⟨rfl,rfl⟩
 go_wp2_with fail
 go_ret;exact⟨rfl,rfl⟩
theorem ask_down(d L g off each:Nat)(v2 v3:Value)(w:World)(hL0:0<L)(hL:L≤1024)(h:Blk w d 93 [.slice (some ⟨g,0,none⟩) L L,.bool true,v2,v3]):
 Calls Tryz.prog 126 #[.pointer (some ⟨d,0,none⟩),.int .i64 (off:Int),.int .i64 (each:Int)] w fun e w'=>e= .returned (.int .i64 12)∧w=w':=by
 obtain⟨y0,y1,y2,y3,f0,f1,f2,f3⟩:=blk4' h;have hs:=size_dev d L g (.bool true) v2 v3 w hL h;have HS:=Lib.hid hs;have t1:(((L*64:Nat):Int)==0)=false:=by rw [beq_eq_false_iff_ne];omega
 generalize hN:L*64=N at*;clear hs hN h;go_enter Tryz.func126,Tryz.ntmps126
 go_wp2_with fail
 refine HS.out.mono ?_;rintro e w'⟨rfl,rfl⟩
 go_wp2_with fail
 go_ret;exact⟨rfl,rfl⟩
set_option maxHeartbeats 1000000 in
theorem load_dev(d L:Nat)(ws:Nat→UInt64)(len:Mode)(mark:Nat→Nat)(g:Nat)(hb:Nat→Option Nat)(j:Nat)(w:World)(hL:L≤1024)(hu:len.lf≠0)(h:DevRep w d L ws len mark g hb)(hj:j<8*L):
 Calls Tryz.prog 100 #[.pointer (some ⟨d,0,none⟩),.int .i64 ((8*j:Nat):Int)] w fun e w'=>e= .returned (.tuple #[.int .u64 ((ws j).toNat:Int),.int .i64 0])∧w=w':=by
 obtain⟨st,hbx⟩:=h.box;rw [decide_eq_false hu]at hbx;obtain⟨y0,y1,y2,y3,f0,f1,f2,f3⟩:=blk4' hbx;have ha:=ask_ok d L g (8*j) 8 (.int .i64 len.lf) (.int .i64 st) w hL hbx (by omega) (by decide) (by omega) (by decide);have HA:=Lib.hid ha;have hl:=h.line (j/8) (by omega);have hg:=wordGet_any (some ⟨g,66*(j/8),none⟩) 64 64 (j%8) (lineW ws (j/8)) w (by decide) hl (by rw [lineW_length];omega);rw [lineW_get,show 8*(j/8)+j%8=j by omega]at hg;have HG:=Lib.hid hg;clear ha hl hg h hbx;go_enter Tryz.func100,Tryz.ntmps100
 go_wp2_with fail
 refine HA.out.mono ?_;rintro e w'⟨rfl,rfl⟩;clear HA
 go_wp2_with fail
 rw [show 8*j/64*66=66*(j/8)by omega,show 8*(j:Int)%64=((8*(j%8):Nat):Int)by omega];refine HG.out.mono ?_;rintro e w'⟨rfl,rfl⟩;clear HG
 go_wp2_with fail
 go_ret2;exact⟨rfl,rfl⟩
theorem load_down(d L g off:Nat)(v2 v3:Value)(w:World)(hL0:0<L)(hL:L≤1024)(h:Blk w d 93 [.slice (some ⟨g,0,none⟩) L L,.bool true,v2,v3]):
 Calls Tryz.prog 100 #[.pointer (some ⟨d,0,none⟩),.int .i64 (off:Int)] w fun e w'=>e= .returned (.tuple #[.int .u64 0,.int .i64 12])∧w=w':=by
 have HA:=Lib.hid (ask_down d L g off 8 v2 v3 w hL0 hL h);obtain⟨y0,y1,y2,y3,f0,f1,f2,f3⟩:=blk4' h;clear h;go_enter Tryz.func100,Tryz.ntmps100
 go_wp2_with fail
 refine HA.out.mono ?_;rintro e w'⟨rfl,rfl⟩;clear HA
 go_wp2_with fail
 go_ret2;exact⟨rfl,rfl⟩
theorem store_down(d L g off:Nat)(x:Int)(v2 v3:Value)(w:World)(hL0:0<L)(hL:L≤1024)(h:Blk w d 93 [.slice (some ⟨g,0,none⟩) L L,.bool true,v2,v3]):
 Calls Tryz.prog 123 #[.pointer (some ⟨d,0,none⟩),.int .i64 (off:Int),.int .u64 x] w fun e w'=>e= .returned (.int .i64 12)∧w=w':=by
 have HA:=Lib.hid (load_down d L g off v2 v3 w hL0 hL h);obtain⟨y0,y1,y2,y3,f0,f1,f2,f3⟩:=blk4' h;clear h;go_enter Tryz.func123,Tryz.ntmps123
 go_wp2_with fail
 refine HA.out.mono ?_;rintro e w'⟨rfl,rfl⟩;clear HA
 go_wp2_with fail
 go_ret;exact⟨rfl,rfl⟩
theorem flush_down(d L g off:Nat)(v2 v3:Value)(w:World)(hL0:0<L)(hL:L≤1024)(h:Blk w d 93 [.slice (some ⟨g,0,none⟩) L L,.bool true,v2,v3]):
 Calls Tryz.prog 125 #[.pointer (some ⟨d,0,none⟩),.int .i64 (off:Int)] w fun e w'=>e= .returned (.int .i64 12)∧w=w':=by
 have HA:=Lib.hid (ask_down d L g off 1 v2 v3 w hL0 hL h);obtain⟨y0,y1,y2,y3,f0,f1,f2,f3⟩:=blk4' h;clear h;go_enter Tryz.func125,Tryz.ntmps125
 go_wp2_with fail
 refine HA.out.mono ?_;rintro e w'⟨rfl,rfl⟩;clear HA
 go_wp2_with fail
 go_ret;exact⟨rfl,rfl⟩
theorem fence_down(d L g:Nat)(v2 v3:Value)(w:World)(hL0:0<L)(hL:L≤1024)(h:Blk w d 93 [.slice (some ⟨g,0,none⟩) L L,.bool true,v2,v3]):
 Calls Tryz.prog 88 #[.pointer (some ⟨d,0,none⟩)] w fun e w'=>e= .returned (.int .i64 12)∧w=w':=by
 have HA:=Lib.hid (ask_down d L g 0 1 v2 v3 w hL0 hL h);obtain⟨y0,y1,y2,y3,f0,f1,f2,f3⟩:=blk4' h;clear h;go_enter Tryz.func88,Tryz.ntmps88
 go_wp2_with fail
 refine HA.out.mono ?_;rintro e w'⟨rfl,rfl⟩;clear HA
 go_wp2_with fail
 go_ret;exact⟨rfl,rfl⟩
theorem done_dev(d g L:Nat)(lf st:Int)(w:World)(hl:lf≠0)(hr: -1≤lf∧lf≤1000000000)(h:Blk w d 93 [.slice (some ⟨g,0,none⟩) L L,.bool false,.int .i64 lf,.int .i64 st]):
 Calls Tryz.prog 128 #[.pointer (some ⟨d,0,none⟩)] w fun e w'=>e= .returned (.tuple #[])∧Touch (fun b=>b=d) w w'∧
  ∃st':Int,Blk w' d 93 [.slice (some ⟨g,0,none⟩) L L,.bool (decide ((if 0<lf then lf-1 else lf)=0)),.int .i64 (if 0<lf then lf-1 else lf),.int .i64 st']:=by
 obtain⟨lf',hl'⟩:∃lf',lf'=(if 0<lf then lf-1 else lf):=⟨_,rfl⟩;rw [←hl'];have HL:=Lib.hid hl';have HN:=Lib.hid hl;clear hl' hl;obtain⟨y0,y1,y2,y3,f0,f1,f2,f3⟩:=blk4' h;have T0:=Touch.refl (fun b=>b=d) w;have H:=Lib.hid h;clear h;by_cases hp:0<lf
 ·have t1:decide (0<lf)=true:=decide_eq_true hp;have b1:IntKind.i64.wrap (lf-1)=lf-1:=IntWalk.i64_in _ (by omega);have KEY:Hid (∀v:Int,Touch (fun b=>b=d) w (((w.setCell ⟨d,3,none⟩ (.int .i64 v)).setCell ⟨d,2,none⟩ (.int .i64 (lf-1))).setCell ⟨d,1,none⟩ (.bool (lf-1==0)))∧∃st':Int,Blk (((w.setCell ⟨d,3,none⟩ (.int .i64 v)).setCell ⟨d,2,none⟩ (.int .i64 (lf-1))).setCell ⟨d,1,none⟩ (.bool (lf-1==0))) d 93 [.slice (some ⟨g,0,none⟩) L L,.bool (decide (lf-1=0)),.int .i64 (lf-1),.int .i64 st']):=
   Lib.hid (fun v=>⟨((T0.setCell (p:=⟨d,3,none⟩) (.inl rfl) _).setCell (p:=⟨d,2,none⟩) (.inl rfl) _).setCell (p:=⟨d,1,none⟩) (.inl rfl) _,v,((H.out.set_ 3 (.int .i64 v)).set_ 2 (.int .i64 (lf-1))).set_ 1 (.bool (lf-1==0))⟩)
  go_enter Tryz.func128,Tryz.ntmps128;go_wp2;go_end0;have hl':=HL.out;rw [if_pos (by omega)]at hl';subst hl';exact⟨rfl,KEY.out _⟩
 ·have t1:decide (0<lf)=false:=decide_eq_false hp;go_enter Tryz.func128,Tryz.ntmps128;go_wp2;go_end0;have hl':=HL.out;rw [if_neg (by omega)]at hl';subst hl';rw [decide_eq_false HN.out];exact⟨rfl,T0.setCell (p:=⟨d,3,none⟩) (.inl rfl) _,_,H.out.set_ 3 _⟩
theorem run_loadVar_at{P:Program}(w:World)(b off:Nat)(ty:TypeId)(vs:List Value)(d:TypeDesc)(hu:P.underlying ty=some d)(hd:(match d with| .struct _| .array _ _=>true| _=>false)=true)
 (hi:(P.info? ty).map (·.size)=some vs.length)(h:∀j v,vs[j]? =some v→w.cell? ⟨b,off+j,none⟩=some v):(loadVar ty ⟨b,off,none⟩).run P w= .ok (.agg vs.toArray) w:=by
 have hl:(loadCells ⟨b,off,none⟩ vs.length).run P w= .ok vs.toArray w:=
  run_loadCells_list (P:=P) w ⟨b,off,none⟩ vs (fun j v hv=>by rw [Addr.add_lit];exact h j v hv)
 cases hq:P.info? ty with
 | none=>simp [hq]at hi
 | some i=>
   have hs:i.size=vs.length:=by simpa [hq]using hi
   have hagg:(isAgg ty).run P w= .ok true w:=by
    unfold isAgg;rw [Sem.run_bind,run_underlying hu w];cases d<;>simp_all
   simp [loadVar,Sem.run_bind,hagg,sizeOf,typeInfo,hq,hs,hl]
theorem wpList_load_at{P:Program}{ops:Array Oper}{rest:List Oper}{o:Oper}{a:Act}{w:World}{Q:Exit→Act→World→Prop}(hgd:o.guard=none)(ty:TypeId)(x:Operand)(ho:o.op= .load ty x)
 (b off:Nat)(hx:a.eval x= .pointer (some ⟨b,off,none⟩))(vs:List Value)(d:TypeDesc)(hu:P.underlying ty=some d)(hd:(match d with| .struct _| .array _ _=>true| _=>false)=true)
 (hi:(P.info? ty).map (·.size)=some vs.length)(hc:∀j v,vs[j]? =some v→w.cell? ⟨b,off+j,none⟩=some v)
 (h:wpList P ops Q rest (a.put o.dst (.agg vs.toArray)) w):wpList P ops Q (o::rest) a w:=by
 refine wpList_plain hgd fun K hK=> ?_
 unfold Oper.wp execOp;simp only [ho,hx,Instr.loadAt,Instr.sureAddr,Sem.run_bind,Sem.run_pure,Result.andThen_ok,run_loadVar_at w b off ty vs d hu hd hi hc];exact hK _ _ h
theorem run_storeVar_at{P:Program}(w:World)(b off:Nat)(ty:TypeId)(vs:List Value)(hi:(P.info? ty).map (·.size)=some vs.length)(hc:∀j,j<vs.length→(w.cell? ⟨b,off+j,none⟩).isSome=true)
 (hf:∀j,j<vs.length→w.frozen? ⟨b,off+j,none⟩=false)(h1:∀v∈vs,v.oneCell'=true):(storeVar ty ⟨b,off,none⟩ (.agg vs.toArray)).run P w= .ok () (w.setCells b off vs):=by
 have hs:=run_storeCells_cells (P:=P) b off vs 0 w (by simpa using hc) (by simpa using hf) h1;cases hq:P.info? ty with
 | none=>simp [hq]at hi
 | some i=>
   have hz:i.size=vs.length:=by simpa [hq]using hi
   simp only [Nat.add_zero]at hs;simp [storeVar,Sem.run_bind,sizeOf,typeInfo,hq,hz,Value.cells,hs]
theorem wpList_store_at{P:Program}{ops:Array Oper}{rest:List Oper}{o:Oper}{a:Act}{w:World}{Q:Exit→Act→World→Prop}(hgd:o.guard=none)(ty:TypeId)(x y:Operand)(ho:o.op= .store ty x y)
 (b off:Nat)(hx:a.eval x= .pointer (some ⟨b,off,none⟩))(vs:List Value)(hy:a.eval y= .agg vs.toArray)(hi:(P.info? ty).map (·.size)=some vs.length)(hc:∀j,j<vs.length→(w.cell? ⟨b,off+j,none⟩).isSome=true)
 (hf:∀j,j<vs.length→w.frozen? ⟨b,off+j,none⟩=false)(h1:∀v∈vs,v.oneCell'=true)
 (h:wpList P ops Q rest (a.put o.dst undef) (w.setCells b off vs)):wpList P ops Q (o::rest) a w:=by
 refine wpList_plain hgd fun K hK=> ?_
 unfold Oper.wp execOp;simp only [ho,hx,hy,Instr.storeAt,Instr.sureAddr,Sem.run_bind,Sem.run_pure,Result.andThen_ok,run_storeVar_at w b off ty vs hi hc hf h1];exact hK _ _ h
set_option maxHeartbeats 2000000 in
set_option maxRecDepth 100000 in
theorem set_line(g off k:Nat)(l:List UInt64)(x:UInt64)(w:World)(hl:l.length=8)(h:Bs w (some ⟨g,off,none⟩) 64 (leBytes l))(hf:∀j,j<64→w.frozen? ⟨g,off+j,none⟩=false)(hk:k<8):
 Calls Tryz.prog 57 #[.pointer (some ⟨g,off,none⟩),.int .i64 ((8*k:Nat):Int),.int .u64 (x.toNat:Int)] w fun e w'=>e= .returned (.tuple #[])∧∃w1,Below w.heap.size w w1∧w'=w1.setCells g off ((leBytes (l.set k x)).map bv):=by
 have hp:=wordPut_any (some ⟨g,off,none⟩) 64 64 k l x w (by decide) h (by omega);have HP:=Lib.hid hp;have hlen:((leBytes (l.set k x)).map bv).length=64:=by rw [List.length_map,leBytes_length,List.length_set,hl]
 have HLEN:=Lib.hid hlen;have hgw:g<w.heap.size:=by
  obtain⟨_,b,o,e,hb,_⟩:=h.at (show 0<64 by decide);injection e with e;injection e with e _ _;omega
 have HC:Hid (∀j,j<64→(w.cell? ⟨g,off+j,none⟩).isSome=true):=Lib.hid (fun j hj=>by
  obtain⟨_,b,o,e,hb,hc⟩:=h.at hj;injection e with e;injection e with e1 e2 _;subst e1 e2
  rw [hc];rfl)
 have HF:=Lib.hid hf;clear hp hlen h hf;go_enter Tryz.func57,Tryz.ntmps57
 go_wp2_with fail
 refine HP.out.mono ?_;rintro e w1⟨gn,cn,rfl,on,hb1⟩;clear HP;obtain⟨hcn,rn⟩:=rd_own on;have hcell:∀j v,((leBytes (l.set k x)).map bv)[j]? =some v→w1.cell? ⟨gn,0+j,none⟩=some v:=fun j v hj=>by
  have hlt:=(List.getElem?_eq_some_iff.1 hj).1;obtain⟨b,o,e,_,hc⟩:=rn.2 (by decide);injection e with e;injection e with e1 e2 _;subst e1 e2
  rw [hc j (by rw [←HLEN.out];exact hlt)];exact hj
 have hst:∀j,j<((leBytes (l.set k x)).map bv).length→(w1.cell? ⟨g,off+j,none⟩).isSome=true:=fun j hj=>by
  rw [hb1.cell (p:=⟨g,off+j,none⟩) hgw];exact HC.out j (by rw [HLEN.out]at hj;exact hj)
 have hfz:∀j,j<((leBytes (l.set k x)).map bv).length→w1.frozen? ⟨g,off+j,none⟩=false:=fun j hj=>by
  rw [hb1.frozen (p:=⟨g,off+j,none⟩) hgw];exact HF.out j (by rw [HLEN.out]at hj;exact hj)
 have HCE:=Lib.hid hcell;have HST:=Lib.hid hst;have HFZ:=Lib.hid hfz;have hsz:(Tryz.prog.info? 98).map (·.size)=some 64:=by kernel_rfl
 have HSZ:Hid ((Tryz.prog.info? 98).map (·.size)=some ((leBytes (l.set k x)).map bv).length):=Lib.hid (by rw [HLEN.out];exact hsz);have har:∀W,(Instr.arrayAt 98 (.slice (some ⟨gn,0,none⟩) 64 cn)).run Tryz.prog W= .ok (.pointer (some ⟨gn,0,none⟩)) W:=fun W=>by
  simp [Instr.arrayAt,run_underlying Tryz.underlying98]
 clear hcell hst hfz rn on hsz
 go_wp2_with(first
  | (with_reducible refine wpList_load_at rfl 98 (.tmp 21) rfl gn 0 rfl ((leBytes (l.set k x)).map bv) _ Tryz.underlying98 rfl HSZ.out HCE.out ?_)
  | (with_reducible refine wpList_store_at rfl 98 (.tmp 24) (.tmp 22) rfl g off rfl ((leBytes (l.set k x)).map bv) rfl HSZ.out HST.out HFZ.out (oneCell_bv _) ?_)
  | fail)
 go_end0;exact⟨rfl,w1,hb1,rfl⟩
theorem Touch.of_grown{F:Nat→Prop}{w w':World}{row:Option Nat}(h:w.grownBy w' row)(hF:∀k,row=some k→F k):Touch F w w':=
 ⟨h.os,h.tape,h.output,h.size,fun b hb hn=>h.block b hb (fun e=>hn (hF b e.symm))⟩
theorem ChAt.append{w:World}{A:Option Addr}{cs:List (Nat×UInt64)}{n c:Nat}{hb:Option Nat}(h:ChAt w A cs c hb)(hcn:n=cs.length)(ty:TypeId)(b:Nat)(cx:Nat×UInt64)(hbk:Blk w b 140 [.int .i64 (cx.1:Nat),.int .u64 (cx.2.toNat:Nat)])(hn:n≤1000000):
 ∃g c' w',(Builtin.append_ #[99,99] ty #[.slice A n c,.slice (some ⟨b,0,none⟩) 1 1]).run Tryz.prog w= .ok (.slice (some ⟨g,0,none⟩) (n+1) c') w'∧
  ChAt w' (some ⟨g,0,none⟩) (cs++[cx]) c' (some g)∧(hb=some g∨g=w.heap.size)∧Touch (fun k=>hb=some k) w w':=by
 obtain⟨x,hx⟩:∃x,x=Value.int .i64 (cx.1:Nat):=⟨_,rfl⟩;obtain⟨y,hy⟩:∃y,y=Value.int .u64 (cx.2.toNat:Nat):=⟨_,rfl⟩;have hch:chV (cs++[cx])=chV cs++[x,y]:=by rw [chV_app,hx,hy];rfl
 have hcl:(cs++[cx]).length=n+1:=by rw [hcn];simp
 have hx1:x.oneCell'=true:=by rw [hx];rfl
 have hy1:y.oneCell'=true:=by rw [hy];rfl
 rw [←hx,←hy]at hbk;clear hx hy;obtain⟨i,hi,hz0,hz1,hz2⟩:∃i,Tryz.prog.info? 140=some i∧i.zero=some (.agg #[.int .i64 0,.int .u64 0])∧i.size=2∧i.bytes=16:=by
  have hI:(Tryz.prog.info? 140).map (fun i=>(i.zero,i.size,i.bytes))=some (some (.agg #[.int .i64 0,.int .u64 0]),2,16):=by kernel_rfl
  exact info_parts hI
 have hnews:∀j u,[x,y][j]? =some u→w.cell? ((⟨b,0,none⟩:Addr).add j)=some u:=fun j u hu=>by
  rw [Addr.add_lit];have:=World.news_of_block hbk j u (by simpa using hu);rw [Addr.add_lit]at this;exact this
 have h1:∀u∈[x,y],u.oneCell'=true:=by
  intro u hu;simp at hu;rcases hu with rfl| rfl<;>assumption
 unfold ChAt;rw [hch,hcl];rcases h with⟨rfl,rfl,rfl⟩| ⟨h0,e1,e2,hown⟩
 ·simp only [List.length_nil]at hcn;subst hcn;have hs:=Src.ofSlice (P:=Tryz.prog) w Tryz.underlying99 ⟨b,0,none⟩ 1 1 [x,y] (size:=i.size) (by rw [hz1];rfl) hnews h1;have hr:=run_append_grow_src (P:=Tryz.prog) w 99 99 ty 140 i _ Tryz.underlying99 hi hz0 A 0 0 []
   (by cases A with
    | none=>exact run_firstCells_none w.drew i.size 0 0 0
    | some a=>exact run_firstCells_some w.drew i.size 0 a 0 0 [] (by simp) (by simp)) (.slice (some ⟨b,0,none⟩) 1 1) 1 [x,y] hs (by decide) (by decide) (by rw [hz2];decide)
  have hr0:=run_append_grow_src (P:=Tryz.prog) w 99 99 ty 140 i _ Tryz.underlying99 hi hz0 none 0 0 []
   (run_firstCells_none w.drew i.size 0 0 0) (.slice (some ⟨b,0,none⟩) 1 1) 1 [x,y] hs (by decide) (by decide) (by rw [hz2];decide)
  obtain⟨g,cap,w',a1,a2,a3,a4,a5⟩:=run_append_lies (P:=Tryz.prog) w 99 ty 0 140 i _ 2 16 Tryz.underlying99 hi hz0 hz1 hz2 rfl (by decide) (.slice none 0 0) 0 [] (World.ownsRow_nil w 0 140 2) ⟨b,0,none⟩ 1 1 [x,y] rfl hnews h1 (by decide) (by unfold maxLen;omega) (by omega) (Nat.zero_le _) _ rfl;refine⟨g,cap,w',(hr.trans hr0.symm).trans a1,.inr ⟨g,rfl,rfl,a2⟩,?_,Touch.of_grown a3 (fun k hk=>by cases hk)⟩;rcases a4 with a4| a4
  ·cases a4
  ·exact .inr a4
 ·subst e1 e2;rw [←hcn]at hown;obtain⟨g,cap,w',a1,a2,a3,a4,a5⟩:=run_append_lies (P:=Tryz.prog) w 99 ty 0 140 i _ 2 16 Tryz.underlying99 hi hz0 hz1 hz2 rfl (by decide) _ n (chV cs) hown ⟨b,0,none⟩ 1 1 [x,y] rfl hnews h1 (by decide) (by unfold maxLen;omega) (by omega) (Nat.zero_le _) _ rfl;refine⟨g,cap,w',a1,.inr ⟨g,rfl,rfl,a2⟩,?_,Touch.of_grown a3 (fun k hk=>hk)⟩;rcases a4 with a4| a4
  ·left;exact a4
  ·right;exact a4
section
variable{w:World}{d L:Nat}{ws:Nat→UInt64}{len:Mode}{mark:Nat→Nat}{g:Nat}{hb:Nat→Option Nat}
theorem setCell_cur{w:World}{g i:Nat}{cur:Array Value}{e:TypeId}{fz:Nat×Nat}(v:Value)(h:w.heap[g]? =some (.cells cur e fz)):(w.setCell ⟨g,i,none⟩ v).heap[g]? =some (.cells (cur.setIfInBounds i v) e fz):=by
 simp [World.setCell,Array.getElem?_modify,h]
theorem DevRep.glt(h:DevRep w d L ws len mark g hb):g<w.heap.size:=h.lt g (.inr (.inl rfl))
theorem DevRep.dlt(h:DevRep w d L ws len mark g hb):d<w.heap.size:=h.lt d (.inl rfl)
theorem DevRep.step(h:DevRep w d L ws len mark g hb){w':World}(t:Touch (fun b=>b=d) w w'){st':Int}(hB:Blk w' d 93 [.slice (some ⟨g,0,none⟩) L L,.bool (decide (len.tick.lf=0)),.int .i64 len.tick.lf,.int .i64 st']):DevRep w' d L ws len.tick mark g hb:=by
 have hk:∀b,b<w.heap.size→b≠d→w'.heap[b]? =w.heap[b]? :=fun b hl hb'=>t.block b hl hb'
 obtain⟨cur,hg,hs,h1,h2⟩:=h.blk;refine⟨⟨st',hB⟩,?_,h.gd,⟨cur,(hk g h.glt h.gd).trans hg,hs,h1,fun i hi=> ?_⟩,h.bd,h.inj,h.mrk⟩
 ·have:=h.lfr;show-1≤(if 0<len.lf then len.lf-1 else len.lf)∧(if 0<len.lf then len.lf-1 else len.lf)≤1000000000;split<;>omega
 ·obtain⟨A,c,e1,e2,hc⟩:=h2 i hi;exact⟨A,c,e1,e2,hc.keep (fun b hb' hl=>hk b hl (h.bd i hi b hb').2)⟩
theorem DevRep.grow(h:DevRep w d L ws len mark g hb){i:Nat}(hi:i<L){w2:World}(t:Touch (fun k=>hb i=some k) w w2){g2 c':Nat}{cx:Nat×UInt64}(hc:ChAt w2 (some ⟨g2,0,none⟩) (len.chg i++[cx]) c' (some g2))(hg2:hb i=some g2∨w.heap.size≤g2):
 DevRep (w2.setCell ⟨g,66*i+64,none⟩ (.slice (some ⟨g2,0,none⟩) (len i+1) c')) d L ws (len.note i cx) mark g (fun k=>if k=i then some g2 else hb k):=by
 have hni:(len.note i cx).chg i=len.chg i++[cx]:=if_pos rfl;have hno:∀k,k≠i→(len.note i cx).chg k=len.chg k:=fun k e=>if_neg e
 have hglt:=h.glt;have hdlt:=h.dlt;have hk:∀b,b≠g→(w2.setCell ⟨g,66*i+64,none⟩ (.slice (some ⟨g2,0,none⟩) (len i+1) c')).heap[b]? =w2.heap[b]? :=fun b hb'=>Below.heap_setCell w2 ⟨g,66*i+64,none⟩ _ b hb'
 have hng:¬hb i=some g:=fun e=>(h.bd i hi g e).1 rfl
 have hnd:¬hb i=some d:=fun e=>(h.bd i hi d e).2 rfl
 have h2g:g2≠g∧g2≠d:=by
  rcases hg2 with e| e
  ·exact h.bd i hi g2 e
  ·exact⟨by omega,by omega⟩
 obtain⟨st,hbx⟩:=h.box;obtain⟨cur,hg,hs,h1,h2⟩:=h.blk;have hgw:=(t.block g hglt hng).trans hg;refine⟨⟨st,(hk d (fun e=>h.gd e.symm)).trans ((t.block d hdlt hnd).trans hbx)⟩,h.lfr,h.gd,⟨_,setCell_cur _ hgw,by rw [Array.size_setIfInBounds];exact hs,fun i' hi' k hk'=> ?_,fun i' hi'=> ?_⟩,?_,?_,?_⟩
 ·rw [Array.getElem?_setIfInBounds,if_neg (by omega)];exact h1 i' hi' k hk'
 ·obtain⟨A,c,e1,e2,hcc⟩:=h2 i' hi';by_cases e:i'=i
  ·subst e;refine⟨some ⟨g2,0,none⟩,c',?_,?_,?_⟩
   ·rw [Array.getElem?_setIfInBounds,if_pos rfl,if_pos (by omega),Mode.len_note,if_pos rfl]
   ·rw [Array.getElem?_setIfInBounds,if_neg (by omega)];exact e2
   ·rw [hni,if_pos rfl];exact hc.keep (fun b hb' _=>hk b (by injection hb' with hb';omega))
  ·refine⟨A,c,?_,?_,?_⟩
   ·rw [Array.getElem?_setIfInBounds,if_neg (by omega),Mode.len_note,if_neg e];exact e1
   ·rw [Array.getElem?_setIfInBounds,if_neg (by omega)];exact e2
   ·rw [hno _ e,if_neg e];exact hcc.keep (fun b hb' hlt=>(hk b (h.bd i' hi' b hb').1).trans (t.block b hlt (h.inj i i' hi hi' (fun x=>e x.symm) b · hb')))
 ·intro i' hi' b hb';by_cases e:i'=i
  ·rw [if_pos e]at hb';injection hb' with hb';subst hb';exact h2g
  ·rw [if_neg e]at hb';exact h.bd i' hi' b hb'
 ·intro a b ha hb' hab v hv;by_cases ea:a=i<;>by_cases eb:b=i
  ·omega
  ·rw [if_pos ea]at hv;rw [if_neg eb];injection hv with hv;subst hv
   intro hbb;rcases hg2 with e| e
   ·exact h.inj b i hb' hi eb g2 hbb e
   ·have:=h.lt g2 (.inr (.inr ⟨b,hb',hbb⟩));omega
  ·rw [if_neg ea]at hv;rw [if_pos eb];intro hbb;injection hbb with hbb;subst hbb
   rcases hg2 with e| e
   ·exact h.inj a i ha hi ea g2 hv e
   ·have:=h.lt g2 (.inr (.inr ⟨a,ha,hv⟩));omega
  ·rw [if_neg ea]at hv;rw [if_neg eb];exact h.inj a b ha hb' hab v hv
 ·intro i' hi';have:=h.mrk i' hi';by_cases e:i'=i
  ·subst e;rw [Mode.len_note,if_pos rfl];omega
  ·rw [Mode.len_note,if_neg e];exact this
theorem DevRep.put(h:DevRep w d L ws len mark g hb){i k:Nat}(hi:i<L)(hk8:k<8)(x:UInt64):
 DevRep (w.setCells g (66*i) ((leBytes ((lineW ws i).set k x)).map bv)) d L (fun j=>if j=8*i+k then x else ws j) len mark g hb:=by
 have hglt:=h.glt;have hl:((leBytes ((lineW ws i).set k x)).map bv).length=64:=by rw [List.length_map,leBytes_length,List.length_set,lineW_length]
 have hk:∀b,b≠g→b<w.heap.size→(w.setCells g (66*i) ((leBytes ((lineW ws i).set k x)).map bv)).heap[b]? =w.heap[b]? :=fun b hb' hlt=>World.heap_setCells_other w g _ _ hlt hb'
 obtain⟨st,hbx⟩:=h.box;obtain⟨cur,hg,hs,h1,h2⟩:=h.blk;obtain⟨cur',c1,c2,c3⟩:=heap_setCells_at g _ _ ((leBytes ((lineW ws i).set k x)).map bv) (66*i) w cur hg (by rw [hl,hs];omega);rw [hl]at c3;refine⟨⟨st,(hk d (fun e=>h.gd e.symm) h.dlt).trans hbx⟩,h.lfr,h.gd,⟨cur',c1,by rw [c2];exact hs,fun i' hi' j hj=> ?_,fun i' hi'=> ?_⟩,h.bd,h.inj,h.mrk⟩
 ·rw [c3];by_cases e:i'=i
  ·subst e;rw [if_pos (by omega),show 66*i'+j-66*i'=j by omega,lineW_set ws i' k x hk8,List.getElem?_map]
  ·rw [if_neg (by omega),lineW_other ws i i' k x hk8 e];exact h1 i' hi' j hj
 ·obtain⟨A,c,e1,e2,hc⟩:=h2 i' hi';refine⟨A,c,?_,?_,hc.keep (fun b hb' hlt=>hk b (h.bd i' hi' b hb').1 hlt)⟩
  ·rw [c3,if_neg (by omega)];exact e1
  ·rw [c3,if_neg (by omega)];exact e2
end
theorem Touch.setCells{F:Nat→Prop}{w w':World}(h:Touch F w w'){g o:Nat}{vs:List Value}(hg:F g∨w.heap.size≤g):Touch F w (w'.setCells g o vs):=by
 refine⟨?_,?_,?_,?_,fun b hb hn=> ?_⟩
 ·rw [setCells_os];exact h.os
 ·rw [setCells_tape];exact h.tape
 ·rw [setCells_output];exact h.output
 ·rw [setCells_size];exact h.size
 ·rw [World.heap_setCells_other w' g o vs (Nat.lt_of_lt_of_le hb h.size) (fun e=>hg.elim (fun hf=>hn (e▸hf)) (fun hle=>by omega))];exact h.block b hb hn
theorem DevRep.below{w w':World}{d L:Nat}{ws:Nat→UInt64}{len:Mode}{mark:Nat→Nat}{g:Nat}{hb:Nat→Option Nat}(h:DevRep w d L ws len mark g hb)(k:Below w.heap.size w w'):DevRep w' d L ws len mark g hb:=
 h.keep (fun b _ hlt=>k.block b hlt)
set_option maxHeartbeats 2000000 in
theorem store_same(d L:Nat)(ws:Nat→UInt64)(len:Mode)(mark:Nat→Nat)(g:Nat)(hb:Nat→Option Nat)(j:Nat)(w:World)(hL:L≤1024)(hu:len.lf≠0)(h:DevRep w d L ws len mark g hb)(hj:j<8*L):
 Calls Tryz.prog 123 #[.pointer (some ⟨d,0,none⟩),.int .i64 ((8*j:Nat):Int),.int .u64 ((ws j).toNat:Int)] w fun e w'=>e= .returned (.int .i64 0)∧DevRep w' d L ws len.tick mark g hb∧Touch (devOwn d L g hb) w w':=by
 have H:=Lib.hid h;obtain⟨st,hbx⟩:=h.box;rw [decide_eq_false hu]at hbx;obtain⟨y0,y1,y2,y3,f0,f1,f2,f3⟩:=blk4' hbx;have hl:=load_dev d L ws len mark g hb j w hL hu h hj;have HL:=Lib.hid hl;have hd:=done_dev d g L len.lf st w hu h.lfr hbx;have HD:=Lib.hid hd;clear hl hd h hbx;go_enter Tryz.func123,Tryz.ntmps123
 go_wp2_with fail
 refine HL.out.mono ?_;rintro e w'⟨rfl,rfl⟩;clear HL
 go_wp2_with fail
 refine HD.out.mono ?_;rintro e w'⟨rfl,ht,st',hB⟩;clear HD y0 y1 y2 y3 f0 f1 f2 f3
 go_wp2_with fail
 go_ret;exact⟨rfl,H.out.step ht hB,ht.mono (fun b h=> .inl h)⟩
set_option maxHeartbeats 2000000 in
set_option maxRecDepth 100000 in
theorem store_new(d L:Nat)(ws:Nat→UInt64)(len:Mode)(mark:Nat→Nat)(g:Nat)(hb:Nat→Option Nat)(j:Nat)(x:UInt64)(w:World)(hL:L≤1024)(hu:len.lf≠0)(h:DevRep w d L ws len mark g hb)(hj:j<8*L)(hne:ws j≠x)(hlen:len (j/8)≤1000000):
 Calls Tryz.prog 123 #[.pointer (some ⟨d,0,none⟩),.int .i64 ((8*j:Nat):Int),.int .u64 (x.toNat:Int)] w fun e w'=>e= .returned (.int .i64 0)∧
  ∃g2,(hb (j/8)=some g2∨w.heap.size≤g2)∧DevRep w' d L (fun i=>if i=j then x else ws i) (len.note (j/8) (8*(j%8),ws j)).tick mark g (fun k=>if k=j/8 then some g2 else hb k)∧Touch (devOwn d L g hb) w w':=by
 obtain⟨st,hbx⟩:=h.box;have hlfr:=h.lfr;rw [decide_eq_false hu]at hbx;obtain⟨y0,y1,y2,y3,f0,f1,f2,f3⟩:=blk4' hbx;have hl:=load_dev d L ws len mark g hb j w hL hu h hj;have HL:=Lib.hid hl;have t1:(((ws j).toNat:Int)!=(x.toNat:Int))=true:=by
  rw [bne_iff_ne];intro e;exact hne (UInt64.toNat_inj.1 (by omega))
 obtain⟨cur,hg,hs,h1,h2⟩:=h.blk;obtain⟨A,c,e1,e2,hc⟩:=h2 (j/8) (by omega);have z1:w.cell? ⟨g,66*(j/8)+64,none⟩=some (.slice A (len (j/8)) c):=by rw [cell_of_row w g _ cur _ (0,0) hg];exact e1
 have z2:w.frozen? ⟨g,66*(j/8)+64,none⟩=false:=by simp [World.frozen?,hg]
 rw [show 66*(j/8)+64=8*j/64*66+64 by omega]at z1 z2;have H:=Lib.hid h;have HC:=Lib.hid hc;have HG:=Lib.hid h1;clear hl h hbx h1 h2 hc hg e1 e2;have hall:Below w.heap.size w (w.alloc (.cells #[.int .i64 (8*(j:Int)%64),.int .u64 ((ws j).toNat:Int)] 140)):=(Below.refl _ _).alloc (Nat.le_refl _) _;have hR1:=H.out.below hall;have hc1:=HC.out.keep (w':=w.alloc (.cells #[.int .i64 (8*(j:Int)%64),.int .u64 ((ws j).toNat:Int)] 140)) (fun b _ hlt=>hall.block b hlt);obtain⟨g2,c',w2,hrun,hch,hg2,ht⟩:=hc1.append (n:=len (j/8)) rfl 99 w.heap.size (8*(j%8),ws j) (by rw [show((8*(j%8):Nat):Int)=8*(j:Int)%64 by omega];exact heap_alloc_new w _) hlen;have hng:¬hb (j/8)=some g:=fun e=>(H.out.bd (j/8) (by omega) g e).1 rfl
 have hgb:w2.heap[g]? =w.heap[g]? :=(ht.block g (by have:=H.out.glt;simp;omega) hng).trans (hall.block g H.out.glt);have z3:w2.cell? ⟨g,8*j/64*66+64,none⟩=some (.slice A (len (j/8)) c):=(World.cell?_of_block hgb).trans z1;have z4:w2.frozen? ⟨g,8*j/64*66+64,none⟩=false:=(World.frozen?_of_block hgb).trans z2;have hg2':hb (j/8)=some g2∨w.heap.size≤g2:=hg2.imp id (fun e=>by rw [e];simp);have hR3:=hR1.grow (i:=j/8) (by omega) ht hch (hg2.imp id (fun e=>by omega));have hT3:Touch (devOwn d L g hb) w (w2.setCell ⟨g,66*(j/8)+64,none⟩ (.slice (some ⟨g2,0,none⟩) (len (j/8)+1) c')):=
  ((Touch.of_below (F:=devOwn d L g hb) hall).trans (ht.mono (fun k hk=> .inr (.inr ⟨j/8,by omega,hk⟩))) (fun b hb'=> .inl hb')).setCell (.inl (.inr (.inl rfl))) _
 have HRUN:=Lib.hid hrun;have HZ3:=Lib.hid z3;have HZ4:=Lib.hid z4;have HR3:=Lib.hid hR3;have HT3:=Lib.hid hT3;have HG2:=Lib.hid hg2';clear hrun z3 z4 hall hR1 hc1 hch hg2 ht hng hgb hg2' hR3 hT3;go_enter Tryz.func123,Tryz.ntmps123
 go_wp2_with fail
 refine HL.out.mono ?_;rintro e w'⟨rfl,rfl⟩;clear HL
 go_wp2_with(at_builtin;go_loud(refine Lib.wpList_append_run _ rfl (.tmp 36) (.tmp 40) 99 99 rfl (.slice A (len (j/8)) c) (.slice (some ⟨w.heap.size,0,none⟩) 1 1) rfl rfl _ _ HRUN.out ?_;clear HRUN;have z3:=HZ3.out;have z4:=HZ4.out))
 rw [show 8*j/64*66=66*(j/8)by omega,show 8*(j:Int)%64=((8*(j%8):Nat):Int)by omega];refine(set_line g (66*(j/8)) (j%8) (lineW ws (j/8)) x _ (lineW_length _ _) (HR3.out.line (j/8) (by omega)) ?_ (by omega)).mono ?_
 ·obtain⟨cur3,hg3,_⟩:=HR3.out.blk;intro t _;simp [World.frozen?,hg3]
 rintro e w5⟨rfl,w4,hb4,rfl⟩;have hR5:=(HR3.out.below hb4).put (i:=j/8) (k:=j%8) (by omega) (by omega) x;have hT5:=(HT3.out.trans (Touch.of_below (F:=devOwn d L g hb) hb4) (fun b h=> .inl h)).setCells (g:=g) (o:=66*(j/8)) (vs:=(leBytes ((lineW ws (j/8)).set (j%8) x)).map bv) (.inl (.inr (.inl rfl)));rw [show 8*(j/8)+j%8=j by omega]at hR5;generalize w4.setCells g (66*(j/8)) ((leBytes ((lineW ws (j/8)).set (j%8) x)).map bv)=w5 at hR5 hT5⊢;obtain⟨st5,hbx5⟩:=hR5.box;rw [show decide ((len.note (j/8) (8*(j%8),ws j)).lf=0)=false from decide_eq_false hu]at hbx5;have HD:=Lib.hid (done_dev d g L len.lf st5 _ hu hlfr hbx5);have HR5:=Lib.hid hR5;have HT5:=Lib.hid hT5;clear hR5 hT5 hbx5 z3 z4 HZ3 HZ4 hb4 HT3 HR3
 go_wp2_with fail
 refine HD.out.mono ?_;rintro e w'⟨rfl,ht6,st',hB6⟩;clear HD
 go_wp2_with fail
 go_ret;exact⟨rfl,g2,HG2.out,HR5.out.step ht6 hB6,HT5.out.trans ht6 (fun b h=> .inl (.inl h))⟩
theorem DevRep.mark{w:World}{d L:Nat}{ws:Nat→UInt64}{len:Mode}{mark:Nat→Nat}{g:Nat}{hb:Nat→Option Nat}(h:DevRep w d L ws len mark g hb){i:Nat}(hi:i<L)(m:Nat)(hm:m≤len i+1):
 DevRep (w.setCell ⟨g,66*i+65,none⟩ (.int .i64 (m:Int))) d L ws len (fun k=>if k=i then m else mark k) g hb:=by
 have hk:∀b,b≠g→(w.setCell ⟨g,66*i+65,none⟩ (.int .i64 (m:Int))).heap[b]? =w.heap[b]? :=fun b hb'=>Below.heap_setCell w ⟨g,66*i+65,none⟩ _ b hb'
 obtain⟨st,hbx⟩:=h.box;obtain⟨cur,hg,hs,h1,h2⟩:=h.blk;refine⟨⟨st,(hk d (fun e=>h.gd e.symm)).trans hbx⟩,h.lfr,h.gd,⟨_,setCell_cur _ hg,by rw [Array.size_setIfInBounds];exact hs,fun i' hi' k hk'=> ?_,fun i' hi'=> ?_⟩,h.bd,h.inj,fun i' hi'=> ?_⟩
 ·rw [Array.getElem?_setIfInBounds,if_neg (by omega)];exact h1 i' hi' k hk'
 ·obtain⟨A,c,e1,e2,hcc⟩:=h2 i' hi';refine⟨A,c,?_,?_,hcc.keep (fun b hb' _=>hk b (h.bd i' hi' b hb').1)⟩
  ·rw [Array.getElem?_setIfInBounds,if_neg (by omega)];exact e1
  ·by_cases e:i'=i
   ·subst e;rw [Array.getElem?_setIfInBounds,if_pos rfl,if_pos (by omega),if_pos rfl]
   ·rw [Array.getElem?_setIfInBounds,if_neg (by omega),if_neg e];exact e2
 ·show(if i'=i then m else mark i')≤len i'+1;by_cases e:i'=i
  ·rw [if_pos e];subst e;exact hm
  ·rw [if_neg e];exact h.mrk i' hi'
set_option maxHeartbeats 2000000 in
theorem flush_dev(d L:Nat)(ws:Nat→UInt64)(len:Mode)(mark:Nat→Nat)(g:Nat)(hb:Nat→Option Nat)(off:Nat)(w:World)(hL:L≤1024)(hu:len.lf≠0)(h:DevRep w d L ws len mark g hb)(hj:off<64*L)(hlen:len (off/64)≤1000001):
 Calls Tryz.prog 125 #[.pointer (some ⟨d,0,none⟩),.int .i64 (off:Int)] w fun e w'=>e= .returned (.int .i64 0)∧
  DevRep w' d L ws len.tick (fun k=>if k=off/64 then len (off/64)+1 else mark k) g hb∧Touch (devOwn d L g hb) w w':=by
 obtain⟨st,hbx⟩:=h.box;have hlfr:=h.lfr;rw [decide_eq_false hu]at hbx;obtain⟨y0,y1,y2,y3,f0,f1,f2,f3⟩:=blk4' hbx;have ha:=ask_ok d L g off 1 (.int .i64 len.lf) (.int .i64 st) w hL hbx (by omega) (by decide) (by omega) (by decide);have HA:=Lib.hid ha;obtain⟨cur,hg,hs,h1,h2⟩:=h.blk;obtain⟨A,c,e1,e2,hc⟩:=h2 (off/64) (by omega);have z1:w.cell? ⟨g,66*(off/64)+64,none⟩=some (.slice A (len (off/64)) c):=by rw [cell_of_row w g _ cur _ (0,0) hg];exact e1
 have z2:w.frozen? ⟨g,66*(off/64)+65,none⟩=false:=by simp [World.frozen?,hg]
 have z3:w.cell? ⟨g,66*(off/64)+65,none⟩=some (.int .i64 (mark (off/64):Int)):=by rw [cell_of_row w g _ cur _ (0,0) hg];exact e2
 rw [show 66*(off/64)+64=off/64*66+64 by omega]at z1;rw [show 66*(off/64)+65=off/64*66+65 by omega]at z2 z3;have hm:=h.mark (i:=off/64) (by omega) (len (off/64)+1) (Nat.le_refl _);have ht:=(Touch.refl (devOwn d L g hb) w).setCell (p:=⟨g,66*(off/64)+65,none⟩) (.inl (.inr (.inl rfl))) (.int .i64 ((len (off/64)+1:Nat):Int));have HM:=Lib.hid hm;have HT:=Lib.hid ht;clear ha h hbx h1 h2 hc hg e1 e2 hm ht;go_enter Tryz.func125,Tryz.ntmps125
 go_wp2_with fail
 refine HA.out.mono ?_;rintro e w'⟨rfl,rfl⟩;clear HA
 go_wp2_with fail
 rw [show off/64*66=66*(off/64)by omega,show((len (off/64):Int)+1)=((len (off/64)+1:Nat):Int)by omega];have hR:=HM.out;have hT:=HT.out;clear HM HT;generalize w.setCell ⟨g,66*(off/64)+65,none⟩ (.int .i64 ((len (off/64)+1:Nat):Int))=w5 at hR hT⊢;obtain⟨st5,hbx5⟩:=hR.box;rw [decide_eq_false hu]at hbx5;have HD:=Lib.hid (done_dev d g L len.lf st5 _ hu hlfr hbx5);have HR:=Lib.hid hR;have HT:=Lib.hid hT;clear hR hT hbx5;refine HD.out.mono ?_;rintro e w'⟨rfl,ht6,st',hB6⟩;clear HD
 go_wp2_with fail
 go_ret;exact⟨rfl,HR.out.step ht6 hB6,HT.out.trans ht6 (fun b h=> .inl (.inl h))⟩
set_option maxHeartbeats 2000000 in
theorem clone_none(A:Option Addr)(c:Nat)(w:World):
 Calls Tryz.prog 158 #[.slice A 0 c] w fun e w'=>∃B,e= .returned (.slice B 0 0)∧Below w.heap.size w w':=by
 rcases A with _| ad
 ·have q1:=fun W=>Lib.run_eql_slice_nil (P:=Tryz.prog) W 99 140 none 0 c 0 0 Tryz.underlying99
  go_enter Tryz.func158,Tryz.ntmps158;go_wp2;go_ret;exact⟨_,rfl,Below.refl _ _⟩
 ·have q1:=fun W=>Lib.run_eql_slice_nil (P:=Tryz.prog) W 99 140 (some ad) 0 c 0 0 Tryz.underlying99
  obtain⟨i,hi,hz0,hz1,hz2⟩:∃i,Tryz.prog.info? 140=some i∧i.zero=some (.agg #[.int .i64 0,.int .u64 0])∧i.size=2∧i.bytes=16:=by
   have hI:(Tryz.prog.info? 140).map (fun i=>(i.zero,i.size,i.bytes))=some (some (.agg #[.int .i64 0,.int .u64 0]),2,16):=by kernel_rfl
   exact info_parts hI
  have hr:(Builtin.append_ #[99,99] 99 #[.slice (some ⟨w.heap.size,0,none⟩) 0 0,.slice (some ad) 0 c]).run Tryz.prog (w.alloc (.cells #[] 140))= .ok (.slice (some ⟨w.heap.size,0,none⟩) 0 0) (w.alloc (.cells #[] 140)):=by
   simp [Builtin.append_,run_underlying Tryz.underlying99,sizeOf,typeInfo,hi,Builtin.lenOf,Builtin.firstCells,loadCells,loadCellsFrom,storeCells]
  have HR:=Lib.hid hr;clear hr;go_enter Tryz.func158,Tryz.ntmps158
  go_wp2_with(at_builtin;go_loud(refine Lib.wpList_append_run _ rfl (.tmp 5) (.tmp 6) 99 99 rfl (.slice (some ⟨w.heap.size,0,none⟩) 0 0) (.slice (some ad) 0 c) rfl rfl _ _ HR.out ?_))
  go_ret;exact⟨_,rfl,(Below.refl _ _).alloc (Nat.le_refl _) _⟩
theorem DevRep.clear{w:World}{d L:Nat}{ws:Nat→UInt64}{len:Mode}{mark:Nat→Nat}{g:Nat}{hb:Nat→Option Nat}(h:DevRep w d L ws len mark g hb){i:Nat}(hi:i<L){w1:World}(k:Below w.heap.size w w1)(B:Option Addr):
 DevRep ((w1.setCell ⟨g,66*i+64,none⟩ (.slice B 0 0)).setCell ⟨g,66*i+65,none⟩ (.int .i64 0)) d L ws (len.wipe i) (fun k=>if k=i then 0 else mark k) g (fun k=>if k=i then none else hb k):=by
 have hni:(len.wipe i).chg i=[]:=if_pos rfl;have hno:∀k,k≠i→(len.wipe i).chg k=len.chg k:=fun k e=>if_neg e
 have h:=h.below k;have hk:∀b,b≠g→((w1.setCell ⟨g,66*i+64,none⟩ (.slice B 0 0)).setCell ⟨g,66*i+65,none⟩ (.int .i64 0)).heap[b]? =w1.heap[b]? :=fun b hb'=>(Below.heap_setCell _ ⟨g,66*i+65,none⟩ _ b hb').trans (Below.heap_setCell w1 ⟨g,66*i+64,none⟩ _ b hb')
 obtain⟨st,hbx⟩:=h.box;obtain⟨cur,hg,hs,h1,h2⟩:=h.blk;refine⟨⟨st,(hk d (fun e=>h.gd e.symm)).trans hbx⟩,h.lfr,h.gd,⟨_,setCell_cur _ (setCell_cur _ hg),by rw [Array.size_setIfInBounds,Array.size_setIfInBounds];exact hs,fun i' hi' k hk'=> ?_,fun i' hi'=> ?_⟩,fun i' hi' b hb'=> ?_,fun a b ha hb' hab v hv=> ?_,fun i' hi'=> ?_⟩
 ·rw [Array.getElem?_setIfInBounds,if_neg (by omega),Array.getElem?_setIfInBounds,if_neg (by omega)];exact h1 i' hi' k hk'
 ·obtain⟨A,c,e1,e2,hcc⟩:=h2 i' hi';by_cases e:i'=i
  ·subst e;refine⟨B,0,?_,?_,.inl ⟨if_pos rfl,hni,rfl⟩⟩
   ·rw [Array.getElem?_setIfInBounds,if_neg (by omega),Array.getElem?_setIfInBounds,if_pos rfl,if_pos (by omega),Mode.len_wipe,if_pos rfl]
   ·rw [Array.getElem?_setIfInBounds,if_pos rfl,if_pos (by rw [Array.size_setIfInBounds];omega),if_pos rfl];rfl
  ·refine⟨A,c,?_,?_,?_⟩
   ·rw [Array.getElem?_setIfInBounds,if_neg (by omega),Array.getElem?_setIfInBounds,if_neg (by omega),Mode.len_wipe,if_neg e];exact e1
   ·rw [Array.getElem?_setIfInBounds,if_neg (by omega),Array.getElem?_setIfInBounds,if_neg (by omega),if_neg e];exact e2
   ·rw [hno _ e,if_neg e];exact hcc.keep (fun b hb' _=>hk b (h.bd i' hi' b hb').1)
 ·by_cases e:i'=i
  ·rw [if_pos e]at hb';cases hb'
  ·rw [if_neg e]at hb';exact h.bd i' hi' b hb'
 ·by_cases ea:a=i
  ·rw [if_pos ea]at hv;cases hv
  ·rw [if_neg ea]at hv;by_cases eb:b=i
   ·rw [if_pos eb];exact fun x=>by cases x
   ·rw [if_neg eb];exact h.inj a b ha hb' hab v hv
 ·show(if i'=i then 0 else mark i')≤(len.wipe i).len i'+1;by_cases e:i'=i
  ·rw [if_pos e];omega
  ·rw [if_neg e,Mode.len_wipe,if_neg e];exact h.mrk i' hi'
theorem ones_lt(size:Nat)(h:size≤32):2^size-1<4294967296:=by
 have:2^size≤2^32:=Nat.pow_le_pow_right (by decide) h;omega
theorem pow_low_le(low:Nat)(h:low≤31):2^low≤2147483648:=Nat.pow_le_pow_right (by decide) h
theorem field_eq(x low size:Nat)(hx:x<18446744073709551616)(hs:size≤32):bits .and .u64 ((x:Int)/2^low) ((2^size-1:Nat):Int)=(fieldN x low size:Nat):=by
 have e1:(x:Int)/2^low=((x/2^low:Nat):Int):=by rw [Int.natCast_ediv,Int.natCast_pow];rfl
 have:=ones_lt size hs;rw [e1,u64_and_nat _ _ (Nat.lt_of_le_of_lt (Nat.div_le_self _ _) hx) (by omega),Nat.and_two_pow_sub_one_eq_mod];rfl
theorem with_eq(x low size v:Nat)(hx:x<18446744073709551616)(hv:v<18446744073709551616)(hs:size≤32)(hl:low≤31):
 bits .or .u64 (bits .andNot .u64 (x:Int) (IntKind.u64.wrap (((2^size-1:Nat):Int)*2^low))) (IntKind.u64.wrap (bits .and .u64 (v:Int) ((2^size-1:Nat):Int)*2^low))=(withB x low size v:Nat):=by
 have h1:=ones_lt size hs;have h2:=pow_low_le low hl;have h3:(2^size-1)*2^low≤4294967295*2147483648:=Nat.mul_le_mul (by omega) h2;have h4:v&&&(2^size-1)≤2^size-1:=Nat.and_le_right;have h5:(v&&&(2^size-1))*2^low≤4294967295*2147483648:=Nat.mul_le_mul (by omega) h2;have e1:((2^size-1:Nat):Int)*2^low=(((2^size-1)*2^low:Nat):Int):=by rw [Int.natCast_mul,Int.natCast_pow];rfl
 have e2:IntKind.u64.wrap (((2^size-1)*2^low:Nat):Int)=(((2^size-1)*2^low:Nat):Int):=by rw [IntKind.wrap_u64];omega
 have e3:((v&&&(2^size-1):Nat):Int)*2^low=(((v&&&(2^size-1))*2^low:Nat):Int):=by rw [Int.natCast_mul,Int.natCast_pow];rfl
 have e4:IntKind.u64.wrap (((v&&&(2^size-1))*2^low:Nat):Int)=(((v&&&(2^size-1))*2^low:Nat):Int):=by rw [IntKind.wrap_u64];omega
 have h6:x&&&(18446744073709551615- (2^size-1)*2^low)≤x:=Nat.and_le_left;rw [e1,e2,u64_andNot_nat _ _ hx (by omega),u64_and_nat _ _ hv (by omega),e3,e4,u64_or_nat _ _ (by omega) (by omega)];rfl
set_option maxHeartbeats 1000000 in
theorem span_any(low size:Nat)(w:World)(hl:low+size≤64)(hs:size≤32):
 Calls Tryz.prog 139 #[.int .i64 (low:Int),.int .i64 (size:Int)] w fun e w'=>e= .returned (.tuple #[.int .i64 (low:Int),.int .u64 ((2^size-1:Nat):Int)])∧Dr w w':=by
 have h1:=ones_lt size hs;have hp:0<2^size:=Nat.pow_pos (by decide);have hq:((2^size:Nat):Int)=(2:Int)^size:=by rw [Int.natCast_pow];rfl
 have e2:IntKind.u64.wrap (IntKind.u64.wrap ((2:Int)^size) -1)=((2^size-1:Nat):Int):=by
  rw [IntKind.wrap_u64,IntKind.wrap_u64,←hq];omega
 go_enter Tryz.func139,Tryz.ntmps139
 go_wp2_with fail
 go_quiet(fail)
 go_wp2_with fail
 go_ret2;exact⟨by simp;omega,_,rfl⟩
set_option maxHeartbeats 1000000 in
theorem field_any(x low size:Nat)(w:World)(hx:x<18446744073709551616)(hl:low+size≤64)(hs:size≤32):
 Calls Tryz.prog 101 #[.int .u64 (x:Int),.int .i64 (low:Int),.int .i64 (size:Int)] w fun e w'=>e= .returned (.int .u64 (fieldN x low size:Nat))∧Dr w w':=by
 have HE:=Lib.hid (field_eq x low size hx hs);go_enter Tryz.func101,Tryz.ntmps101
 go_wp2_with fail
 refine(span_any low size w hl hs).mono ?_;rintro e w'⟨rfl,q,rfl⟩
 go_wp2_with fail
 rw [HE.out];go_ret;exact⟨rfl,_,rfl⟩
set_option maxHeartbeats 1000000 in
theorem with_any(x low size v:Nat)(w:World)(hx:x<18446744073709551616)(hv:v<18446744073709551616)(hl:low+size≤31):
 Calls Tryz.prog 102 #[.int .u64 (x:Int),.int .i64 (low:Int),.int .i64 (size:Int),.int .u64 (v:Int)] w fun e w'=>e= .returned (.int .u64 (withB x low size v:Nat))∧Dr w w':=by
 have HE:=Lib.hid (with_eq x low size v hx hv (by omega) (by omega));go_enter Tryz.func102,Tryz.ntmps102
 go_wp2_with fail
 refine(span_any low size w (by omega) (by omega)).mono ?_;rintro e w'⟨rfl,q,rfl⟩
 go_wp2_with fail
 go_quiet(fail)
 go_wp2_with fail
 rw [HE.out];go_ret;exact⟨rfl,Dr.two _ _ _⟩
theorem fieldN_lt(x low size:Nat):fieldN x low size<2^size:=Nat.mod_lt _ (Nat.pow_pos (by decide))
theorem kindN_lt(x:Nat):kindN x<4:=fieldN_lt x 16 2
theorem takenN_lt(x:Nat):takenN x<65536:=fieldN_lt x 0 16
theorem blocksN_le(c:Nat):blocksN c≤16:=by unfold blocksN;split<;>omega
theorem linesN_le(c:Nat):linesN c≤4:=by unfold linesN;split<;>omega
theorem withB_lt(x low size v:Nat)(hx:x<18446744073709551616)(hs:low+size≤64):withB x low size v<18446744073709551616:=by
 unfold withB;have h1:x&&&(ones64- (2^size-1)*2^low)<2^64:=Nat.lt_of_le_of_lt Nat.and_le_left hx;have h2:(v&&&(2^size-1))*2^low<2^64:=by
  have a:v&&&(2^size-1)≤2^size-1:=Nat.and_le_right;have b:0<2^size:=Nat.pow_pos (by decide);have c:(v&&&(2^size-1))*2^low<2^size*2^low:=Nat.mul_lt_mul_of_pos_right (by omega) (Nat.pow_pos (by decide));rw [←Nat.pow_add]at c;exact Nat.lt_of_lt_of_le c (Nat.pow_le_pow_right (by decide) (by omega))
 exact Nat.or_lt_two_pow h1 h2
theorem blocks_any(c:Nat)(w:World)(hc:c<1000000):Calls Tryz.prog 65 #[.int .i64 (c:Int)] w fun e w'=>e= .returned (.int .i64 (blocksN c:Nat))∧w=w':=by
 by_cases h1:c=1
 ·subst h1;go_enter Tryz.func65,Tryz.ntmps65;go_wp2;go_ret;exact⟨rfl,rfl⟩
 ·by_cases h2:c=2
  ·subst h2;go_enter Tryz.func65,Tryz.ntmps65;go_wp2;go_ret;exact⟨rfl,rfl⟩
  ·have t1:((c:Int)==1)=false:=by rw [beq_eq_false_iff_ne];omega
   have t2:((c:Int)==2)=false:=by rw [beq_eq_false_iff_ne];omega
   have e:blocksN c=0:=by unfold blocksN;split<;>first| omega| rfl
   rw [e];go_enter Tryz.func65,Tryz.ntmps65;go_wp2;go_ret;exact⟨rfl,rfl⟩
theorem slabLines_any(c:Nat)(w:World)(hc:c<1000000):Calls Tryz.prog 67 #[.int .i64 (c:Int)] w fun e w'=>e= .returned (.int .i64 (linesN c:Nat))∧w=w':=by
 by_cases h1:c=1
 ·subst h1;go_enter Tryz.func67,Tryz.ntmps67;go_wp2;go_ret;exact⟨rfl,rfl⟩
 ·by_cases h2:c=2
  ·subst h2;go_enter Tryz.func67,Tryz.ntmps67;go_wp2;go_ret;exact⟨rfl,rfl⟩
  ·have t1:((c:Int)==1)=false:=by rw [beq_eq_false_iff_ne];omega
   have t2:((c:Int)==2)=false:=by rw [beq_eq_false_iff_ne];omega
   have e:linesN c=0:=by unfold linesN;split<;>first| omega| rfl
   rw [e];go_enter Tryz.func67,Tryz.ntmps67;go_wp2;go_ret;exact⟨rfl,rfl⟩
theorem kind_any(x:Nat)(w:World)(hx:x<18446744073709551616):Calls Tryz.prog 68 #[.int .u64 (x:Int)] w fun e w'=>e= .returned (.int .i64 (kindN x:Nat))∧Dr w w':=by
 have hd:=Dr.refl w;have hk:=kindN_lt x;have e1:IntKind.i64.wrap (kindN x:Int)=(kindN x:Int):=by rw [IntKind.wrap_i64];omega
 go_enter Tryz.func68,Tryz.ntmps68
 go_wp2_with fail
 refine(field_any x 16 2 _ hx (by decide) (by decide)).mono ?_;rintro e w'⟨rfl,hd'⟩;replace hd:=hd.trans hd';rw [show fieldN x 16 2=kindN x from rfl]
 go_wp2_with fail
 go_ret;exact⟨rfl,hd⟩
theorem taken_any(x:Nat)(w:World)(hx:x<18446744073709551616):Calls Tryz.prog 129 #[.int .u64 (x:Int)] w fun e w'=>e= .returned (.int .u64 (takenN x:Nat))∧Dr w w':=by
 have hd:=Dr.refl w;go_enter Tryz.func129,Tryz.ntmps129
 go_wp2_with fail
 refine(field_any x 0 16 _ hx (by decide) (by decide)).mono ?_;rintro e w'⟨rfl,hd'⟩;replace hd:=hd.trans hd';rw [show fieldN x 0 16=takenN x from rfl]
 go_wp2_with fail
 go_ret;exact⟨rfl,hd⟩
set_option maxHeartbeats 1000000 in
theorem rightS_any(x:Nat)(w:World)(hx:x<18446744073709551616):Calls Tryz.prog 61 #[.int .u64 (x:Int)] w fun e w'=>e= .returned (.bool (rightW x))∧Dr w w':=by
 have hd:=Dr.refl w;have hk:=kindN_lt x;have hb:=blocksN_le (kindN x);by_cases h0:x=0
 ·subst h0;rw [show rightW 0=true from rfl];go_enter Tryz.func61,Tryz.ntmps61;go_wp2;go_ret;exact⟨rfl,hd⟩
 ·have t0:((x:Int)==0)=false:=by rw [beq_eq_false_iff_ne];omega
  have HF:=Lib.hid (fun W=>field_any x 0 (blocksN (kindN x)) W hx (by omega) (by omega));have w1:=withB_lt x 0 (blocksN (kindN x)) 0 hx (by omega);have HW1:=Lib.hid (fun W=>with_any x 0 (blocksN (kindN x)) 0 W hx (by decide) (by omega));have HW2:=Lib.hid (fun W=>with_any (withB x 0 (blocksN (kindN x)) 0) 16 2 0 W w1 (by decide) (by decide));by_cases h1:fieldN x 0 (blocksN (kindN x))=0
  ·have HR:Hid (rightW x=false):=Lib.hid (by simp [rightW,h0,h1]);have t1:(((fieldN x 0 (blocksN (kindN x)):Nat):Int)!=0)=false:=by rw [h1];rfl
   generalize fieldN x 0 (blocksN (kindN x))=fl at HF t1;clear h1;go_enter Tryz.func61,Tryz.ntmps61
   go_wp2_with fail
   refine(kind_any x _ hx).mono ?_;rintro e w'⟨rfl,hd'⟩;replace hd:=hd.trans hd'
   go_wp2_with fail
   refine(blocks_any (kindN x) _ (by omega)).mono ?_;rintro e w'⟨rfl,rfl⟩
   go_wp2_with fail
   refine(HF.out _).mono ?_;rintro e w'⟨rfl,hd'⟩;replace hd:=hd.trans hd'
   go_wp2_with fail
   rw [HR.out];go_ret;exact⟨rfl,hd⟩
  ·have HR:Hid (rightW x=(withB (withB x 0 (blocksN (kindN x)) 0) 16 2 0==0)):=Lib.hid (by
   have e0:(x==0)=false:=by rw [beq_eq_false_iff_ne];exact h0
   have e1:(fieldN x 0 (blocksN (kindN x))!=0)=true:=by rw [bne_iff_ne];exact h1
   rw [rightW,e0,e1];rfl)
   have t1:(((fieldN x 0 (blocksN (kindN x)):Nat):Int)!=0)=true:=by rw [bne_iff_ne];omega
   have HT:Hid ((((withB (withB x 0 (blocksN (kindN x)) 0) 16 2 0:Nat):Int)==0)=(withB (withB x 0 (blocksN (kindN x)) 0) 16 2 0==0)):=Lib.hid (by
    rw [Bool.eq_iff_iff,beq_iff_eq,beq_iff_eq];omega)
   generalize fieldN x 0 (blocksN (kindN x))=fl at HF t1;clear h1;go_enter Tryz.func61,Tryz.ntmps61
   go_wp2_with fail
   refine(kind_any x _ hx).mono ?_;rintro e w'⟨rfl,hd'⟩;replace hd:=hd.trans hd'
   go_wp2_with fail
   refine(blocks_any (kindN x) _ (by omega)).mono ?_;rintro e w'⟨rfl,rfl⟩
   go_wp2_with fail
   refine(HF.out _).mono ?_;rintro e w'⟨rfl,hd'⟩;replace hd:=hd.trans hd'
   go_wp2_with fail
   refine(HW1.out _).mono ?_;rintro e w'⟨rfl,hd'⟩;replace hd:=hd.trans hd'
   go_wp2_with fail
   refine(HW2.out _).mono ?_;rintro e w'⟨rfl,hd'⟩;replace hd:=hd.trans hd'
   go_wp2_with fail
   rw [HR.out,HT.out];go_ret;exact⟨rfl,hd⟩
theorem classW_lt(x:Nat):classW x<4:=by unfold classW;split;exact kindN_lt x;decide
theorem classS_any(x:Nat)(w:World)(hx:x<18446744073709551616):Calls Tryz.prog 40 #[.int .u64 (x:Int)] w fun e w'=>e= .returned (.int .i64 (classW x:Nat))∧Dr w w':=by
 have hd:=Dr.refl w;have HR:=Lib.hid (fun W=>rightS_any x W hx);cases hr:rightW x
 ·rw [show classW x=0 by simp [classW,hr]];rw [hr]at HR;clear hr;go_enter Tryz.func40,Tryz.ntmps40
  go_wp2_with fail
  refine(HR.out _).mono ?_;rintro e w'⟨rfl,hd'⟩;replace hd:=hd.trans hd'
  go_wp2_with fail
  go_ret;exact⟨rfl,hd⟩
 ·rw [show classW x=kindN x by simp [classW,hr]];rw [hr]at HR;clear hr;go_enter Tryz.func40,Tryz.ntmps40
  go_wp2_with fail
  refine(HR.out _).mono ?_;rintro e w'⟨rfl,hd'⟩;replace hd:=hd.trans hd'
  go_wp2_with fail
  refine(kind_any x _ hx).mono ?_;rintro e w'⟨rfl,hd'⟩;replace hd:=hd.trans hd'
  go_wp2_with fail
  go_ret;exact⟨rfl,hd⟩
set_option maxHeartbeats 1000000 in
theorem hasS_any(x a:Nat)(w:World)(hx:x<18446744073709551616)(ha:a<1000000):Calls Tryz.prog 66 #[.int .u64 (x:Int),.int .i64 (a:Int)] w fun e w'=>e= .returned (.bool (hasW x a))∧Dr w w':=by
 have hd:=Dr.refl w;have hc:=classW_lt x;have hb:=blocksN_le (classW x);have t0:decide ((0:Int)≤(a:Int))=true:=by simp
 by_cases h1:a<blocksN (classW x)
 ·have HF:=Lib.hid (fun W=>field_any x a 1 W hx (by omega) (by omega));have t1:decide ((a:Int)<((blocksN (classW x):Nat):Int))=true:=decide_eq_true (by omega);have HT:Hid ((((fieldN x a 1:Nat):Int)==1)=hasW x a):=Lib.hid (by
   rw [Bool.eq_iff_iff,beq_iff_eq];simp [hasW,h1];omega)
  go_enter Tryz.func66,Tryz.ntmps66
  go_wp2_with fail
  refine(classS_any x _ hx).mono ?_;rintro e w'⟨rfl,hd'⟩;replace hd:=hd.trans hd'
  go_wp2_with fail
  refine(blocks_any (classW x) _ (by omega)).mono ?_;rintro e w'⟨rfl,rfl⟩
  go_wp2_with fail
  refine(HF.out _).mono ?_;rintro e w'⟨rfl,hd'⟩;replace hd:=hd.trans hd'
  go_wp2_with fail
  rw [HT.out];go_ret;exact⟨rfl,hd⟩
 ·have t1:decide ((a:Int)<((blocksN (classW x):Nat):Int))=false:=decide_eq_false (by omega);rw [show hasW x a=false by simp [hasW,h1]];go_enter Tryz.func66,Tryz.ntmps66
  go_wp2_with fail
  refine(classS_any x _ hx).mono ?_;rintro e w'⟨rfl,hd'⟩;replace hd:=hd.trans hd'
  go_wp2_with fail
  refine(blocks_any (classW x) _ (by omega)).mono ?_;rintro e w'⟨rfl,rfl⟩
  go_wp2_with fail
  go_ret;exact⟨rfl,hd⟩
structure RowTyK(P:Program)(t e:TypeId)(z:Value)(k bytes:Nat):Prop where
 ht:P.underlying t=some (.slice e)
 hi:(P.info? e).map (fun i=>(i.zero,i.size,i.bytes))=some (some z,k,bytes)
 hz:z.cells.size=k
theorem append_one{P:Program}{t e:TypeId}{z:Value}{k bytes:Nat}(T:RowTyK P t e z k bytes)(ty:TypeId){w:World}{base:Nat}{v:Value}{n:Nat}{xs news:List Value}
 (hown:w.ownsRow base e k v n xs)(b:Nat)(hb:Blk w b e news)(hk:news.length=k)(hk0:0<k)(h1:∀u∈news,u.oneCell'=true)(hm:n≤1000000)(hby:bytes≤1000)(hbase:base≤w.heap.size)(c:Nat):
 ∃g cap w',(Builtin.append_ #[t,t] ty #[v,.slice (some ⟨b,0,none⟩) 1 c]).run P w= .ok (.slice (some ⟨g,0,none⟩) (n+1) cap) w'∧w'.ownsRow base e k (.slice (some ⟨g,0,none⟩) (n+1) cap) (n+1) (xs++news)∧Below base w w'∧Kept w w' v.ownBlock∧(v.ownBlock=some g∨g=w.heap.size):=by
 obtain⟨i,hi,hz0,hz1,hz2⟩:=info_parts T.hi;have hnews:∀j u,news[j]? =some u→w.cell? ((⟨b,0,none⟩:Addr).add j)=some u:=fun j u hu=>by
  rw [Addr.add_lit,Nat.zero_add,hb.cell,hu]
 have hmul:(n+1)*bytes≤1000001*1000:=Nat.mul_le_mul (by omega) hby;obtain⟨g,cap,w',a1,a2,a3,a4,a5⟩:=run_append_lies (P:=P) w t ty base e i z k bytes T.ht hi hz0 hz1 hz2 T.hz hk0 v n xs hown ⟨b,0,none⟩ 1 c news (by rw [hk,Nat.one_mul]) hnews h1 (by decide) (by unfold maxLen;omega) (by omega) hbase _ rfl;exact⟨g,cap,w',a1,a2,(Below.refl _ _).grown a3 hbase (fun k hk=>(hown.lt k hk).1),⟨a3.size,fun j hj hr=>a3.block j hj hr⟩,a4⟩
theorem wpList_app_one{P:Program}{ops:Array Oper}{rest:List Oper}{o:Oper}{a:Act}{w:World}{Q:Exit→Act→World→Prop}(hgd:o.guard=none)(s x:Operand)(t:TypeId)
 (ho:o.op= .call {callee:= .builtin .append,args:= #[s,x],argTypes:= #[t,t]}){e:TypeId}{z:Value}{k bytes:Nat}(T:RowTyK P t e z k bytes)
 (wr:World)(base:Nat)(v:Value)(n:Nat)(xs news:List Value)(hs:a.eval s=v)(hown:wr.ownsRow base e k v n xs)(hw:w=wr.alloc (.cells news.toArray e))(b c:Nat)(hx:a.eval x= .slice (some ⟨b,0,none⟩) 1 c)(hb:b=wr.heap.size)
 (hk:news.length=k)(hk0:0<k)(h1:∀u∈news,u.oneCell'=true)(hm:n≤1000000)(hby:bytes≤1000)(hbase:base≤wr.heap.size)
 (h:∀g cap w',w'.ownsRow base e k (.slice (some ⟨g,0,none⟩) (n+1) cap) (n+1) (xs++news)→Below base wr w'→Kept wr w' v.ownBlock→(v.ownBlock=some g∨wr.heap.size≤g)→wpList P ops Q rest (a.put o.dst (.slice (some ⟨g,0,none⟩) (n+1) cap)) w'):wpList P ops Q (o::rest) a w:=by
 refine wpList_plain hgd fun K hK=> ?_
 subst hw hb;have hbl:Below wr.heap.size wr (wr.alloc (.cells news.toArray e)):=(Below.refl _ _).alloc (Nat.le_refl _) _;have hown':(wr.alloc (.cells news.toArray e)).ownsRow base e k v n xs:=by
  refine⟨hown.1,?_⟩;rcases hown.2 with h| ⟨g,cap,cur,h1,h2,h3,h4⟩
  ·exact .inl h
  ·exact .inr ⟨g,cap,cur,h1,h2,by rw [hbl.block g (Array.getElem?_eq_some_iff.1 h3).1];exact h3,h4⟩
 obtain⟨g,cap,w',hrun,h2,h3,h4,h5⟩:=append_one T o.type hown' wr.heap.size (heap_alloc_new wr _) hk hk0 h1 hm hby (by simp;omega) c;unfold Oper.wp execOp;simp only [ho,resolve,invoke,builtin,Sem.run_bind,Sem.run_pure,Result.andThen_ok,List.map_toArray,List.map_cons,List.map_nil,hs,hx,hrun];refine hK _ _ (h g cap w' h2 ((hbl.mono hbase).trans h3) ⟨Nat.le_trans hbl.size h4.1,fun j hj hr=>(h4.2 j (Nat.lt_of_lt_of_le hj hbl.size) hr).trans (hbl.block j hj)⟩ (h5.imp id (fun e=>by rw [e];simp)))
def putMap(W:World)(r:Nat)(es:Array MapEntry)(c:Nat):World:={W with heap:=W.heap.setIfInBounds r (.map es c)}
theorem putMap_size(W:World)(r:Nat)(es:Array MapEntry)(c:Nat):(putMap W r es c).heap.size=W.heap.size:=by simp [putMap]
theorem putMap_at(W:World)(r:Nat)(es:Array MapEntry)(c:Nat)(h:r<W.heap.size):(putMap W r es c).heap[r]? =some (.map es c):=by simp [putMap,h]
theorem putMap_touch(W:World)(r:Nat)(es:Array MapEntry)(c:Nat):Touch (fun b=>b=r) W (putMap W r es c):=
 ⟨rfl,rfl,rfl,by simp [putMap],fun k hk hn=>by
  simp only [putMap];rw [Array.getElem?_setIfInBounds,if_neg (fun e=>hn e.symm)]⟩
theorem getMap_run{P:Program}{w:World}{r:Nat}{es:Array MapEntry}{c:Nat}(hb:w.heap[r]? =some (.map es c)):(getObj r).run P w= .ok (.map es c) w:=by simp [getObj,Sem.run,hb]
theorem setMap_run{P:Program}{w:World}{r:Nat}{es:Array MapEntry}{c:Nat}(o:Obj)(hb:w.heap[r]? =some (.map es c)):(setObj r o).run P w= .ok () {w with heap:=w.heap.setIfInBounds r o}:=by simp [setObj,Sem.run,hb]
theorem run_makeMap{P:Program}(t:TypeId)(w:World):(Instr.makeMap t none).run P w= .ok (.map (some w.heap.size)) (w.alloc (.map #[] 0)):=by
 simp [Instr.makeMap,Result.andThen]
theorem run_checkKey_int{P:Program}{kt:TypeId}{d:IntKind}(hk:P.underlying kt=some (.int d))(b:Bool)(n:Nat)(q:IntKind)(k:Int)(w:World):(Instr.checkKey b (n+1) kt (.int q k)).run P w= .ok () w:=by
 simp [Instr.checkKey,run_underlying hk,Result.andThen]
theorem run_ins{P:Program}{t kt et:TypeId}{d:IntKind}(ht:P.underlying t=some (.map kt et))(hk:P.underlying kt=some (.int d))(W:World)(r:Nat)(es:Array MapEntry)(c:Nat)(k:Int)(v:Value)
 (h:W.heap[r]? =some (.map es c))(hf:Instr.findNow (.int d) (.int d k) es.toList 0=some none):
 (Instr.mapUpdate t (.map (some r)) (.int d k) v).run P W= .ok () (putMap W r (es.push {key:= .int d k,val:=v,born:=c}) (c+1)):=by
 have h1:=run_underlying (P:=P) ht;have h2:=run_underlying (P:=P) hk;have h3:=fun w=>run_checkKey_int (P:=P) hk false 9999 d k w
 have h4:=getMap_run (P:=P) h;have h5:=fun o=>setMap_run (P:=P) o h
 simp [Instr.mapUpdate,h1,h2,h3,h4,h5,Instr.findKey,hf,putMap,Result.andThen]
theorem run_look{P:Program}{t kt et:TypeId}{d:IntKind}(ht:P.underlying t=some (.map kt et))(hk:P.underlying kt=some (.int d))(W:World)(r:Nat)(es:Array MapEntry)(c:Nat)(k:Int)(i:Nat)(v:Value)
 (h:W.heap[r]? =some (.map es c))(hf:Instr.findNow (.int d) (.int d k) es.toList 0=some (some (i,v))):
 (Instr.lookup t (.map (some r)) (.int d k) false).run P W= .ok v W:=by
 have h1:=run_underlying (P:=P) ht;have h2:=run_underlying (P:=P) hk;have h3:=fun b w=>run_checkKey_int (P:=P) hk b 9999 d k w
 have h4:=getMap_run (P:=P) h;simp [Instr.lookup,h1,h2,h3,h4,Instr.findKey,hf,Result.andThen]
def TabF(w:World):Prop:=∀j,j<16→w.cell? ⟨0,j,none⟩=some (.int .u32 (foursN.getD j 0:Nat))
theorem fours_lt(j:Nat):foursN.getD j 0<4294967296:=by
 rcases Nat.lt_or_ge j 16 with h| h
 ·have key:∀k:Fin 16,foursN.getD k.val 0<4294967296:=by decide
  exact key ⟨j,h⟩
 ·rw [List.getD_eq_getElem?_getD,List.getElem?_eq_none (by simpa [foursN]using h)];decide
theorem crc_and(y:Nat)(hy:y<4294967296):bits .and .u32 (y:Int) 15=((y%16:Nat):Int):=by
 rw [show(15:Int)=((15:Nat):Int)from rfl,u32_and_nat _ _ hy (by decide),nat_mask4]
theorem crc_xor(y:Nat)(hy:y<4294967296):bits .xor .u32 ((y:Int)/16) ((foursN.getD (y%16) 0:Nat):Int)=(crcStep y:Nat):=by
 rw [show(y:Int)/16=((y/16:Nat):Int)by omega,u32_xor_nat _ _ (by omega) (fours_lt _)];rfl
set_option maxHeartbeats 2000000 in
theorem crcNext_any(sum:Nat)(A:Option Addr)(n c:Nat)(l:List UInt8)(w:World)(hs:sum<4294967296)(hn:n≤1000000)(h:Bs w A n l)(hT:TabF w):
 Calls Tryz.prog 151 #[.int .u32 (sum:Int),.slice A n c] w fun e w'=>e= .returned (.int .u32 (crcNext sum l:Nat))∧w=w':=by
 have hlen:=h.len;have e0:bits .xor .u32 IntKind.u32.max (sum:Int)=((crcTo sum l 0:Nat):Int):=by
  rw [show IntKind.u32.max=((4294967295:Nat):Int)from rfl,u32_xor_nat _ _ (by decide) hs,crcTo_zero,Nat.xor_comm]
 have HH:=Lib.hid h;clear h;go_enter Tryz.func151,Tryz.ntmps151
 go_wp2_with fail
 go_loop [5,12](fun x i=>∃k:Nat,k≤n∧i= .int .i64 k∧x= .int .u32 ((crcTo sum l k:Nat):Int))(fun _ i=>n- (intOf i).toNat)
 case atStart=>exact⟨0,Nat.zero_le _,rfl,rfl⟩
 case round=>
  obtain⟨k,hk,rfl,rfl⟩:=hrel;have hlt:=crcTo_lt sum l hs k (by omega);by_cases hkn:k<n
  ·obtain⟨hkl,b,off,rfl,hb,hc⟩:=HH.out.at hkn;have hcb:l[k].toNat<256:=UInt8.toNat_lt _;have HS:=Lib.hid (crcTo_succ sum l k hkl);generalize crcTo sum l k=x at*;generalize l[k].toNat=b at*;have hy:x^^^b<4294967296:=Nat.xor_lt_two_pow (n:=32) hlt (by omega);have a1:bits .xor .u32 (x:Int) (b:Int)=((x^^^b:Nat):Int):=u32_xor_nat _ _ hlt (by omega);have a2:=crc_and _ hy;have a3:=crc_xor _ hy;have c1:=hT ((x^^^b)%16) (Nat.mod_lt _ (by decide));have HB:Hid (crcByte x b=crcStep (crcStep (x^^^b))):=Lib.hid rfl;generalize x^^^b=y at*;have hz:=crcStep_lt y hy;generalize crcStep y=z at*;have b2:=crc_and _ hz;have b3:=crc_xor _ hz;have c2:=hT (z%16) (Nat.mod_lt _ (by decide));generalize foursN.getD (y%16) 0=f1 at*;generalize foursN.getD (z%16) 0=f2 at*;go_wp2
   trace_state
   go_round
   case rel=>exact⟨k+1,by omega,by go_num,by rw [HS.out,HB.out]⟩
   case measure=>simp [intOf];omega
  ·have hkn:k=n:=by omega
   subst hkn;have e1:bits .xor .u32 IntKind.u32.max ((crcTo sum l k:Nat):Int)=(crcNext sum l:Nat):=by
    rw [show IntKind.u32.max=((4294967295:Nat):Int)from rfl,u32_xor_nat _ _ (by decide) hlt,Nat.xor_comm,←hlen,crcTo_all]
   go_wp2;go_ret;exact⟨rfl,rfl⟩
theorem crcSum_any(A:Option Addr)(n c:Nat)(l:List UInt8)(w:World)(hn:n≤1000000)(h:Bs w A n l)(hT:TabF w):
 Calls Tryz.prog 108 #[.slice A n c] w fun e w'=>e= .returned (.int .u32 (crcNext 0 l:Nat))∧w=w':=by
 have HN:=Lib.hid (crcNext_any 0 A n c l w (by decide) hn h hT);go_enter Tryz.func108,Tryz.ntmps108
 go_wp2_with fail
 refine HN.out.mono ?_;rintro e w'⟨rfl,rfl⟩
 go_wp2_with fail
 go_ret;exact⟨rfl,rfl⟩
theorem step_app_one{P:Program}{ops:Array Oper}{o:Oper}{a:Act}{w:World}{K:Act→World→Prop}{Q:Exit→Act→World→Prop}{E:Prop}(hgd:o.guard=none)(s x:Operand)(t:TypeId)
 (ho:o.op= .call {callee:= .builtin .append,args:= #[s,x],argTypes:= #[t,t]}){e:TypeId}{z:Value}{k bytes:Nat}(T:RowTyK P t e z k bytes)
 (wr:World)(base:Nat)(v:Value)(n:Nat)(xs news:List Value)(hs:a.eval s=v)(hown:wr.ownsRow base e k v n xs)(hw:w.heap=wr.heap.push (.cells news.toArray e))
 (hos:w.os=wr.os)(htape:w.tape=wr.tape)(hout:w.output=wr.output)(gx c:Nat)(hx:a.eval x= .slice (some ⟨gx,0,none⟩) 1 c)(hgx:wr.heap.size=gx)
 (hk:news.length=k)(hk0:0<k)(h1:∀u∈news,u.oneCell'=true)(hm:n≤1000000)(hby:bytes≤1000)(hbase:base≤wr.heap.size)
 (h:∀g cap w',w'.ownsRow base e k (.slice (some ⟨g,0,none⟩) (n+1) cap) (n+1) (xs++news)→Below base wr w'→Kept wr w' v.ownBlock→(v.ownBlock=some g∨wr.heap.size≤g)→K (a.put o.dst (.slice (some ⟨g,0,none⟩) (n+1) cap)) w'):
 if Region.wanted o (yielded ops a.tmps)=true then Oper.wp P o a w K Q else E:=by
 have hwt:Region.wanted o (yielded ops a.tmps)=true:=by simp [Region.wanted,hgd]
 rw [if_pos hwt];subst hgx;have hbl:Below wr.heap.size wr w:=⟨hos,htape,hout,by rw [hw];simp,fun k hk=>by rw [hw,Array.getElem?_push,if_neg (by omega)]⟩;have hown':w.ownsRow base e k v n xs:=by
  refine⟨hown.1,?_⟩;rcases hown.2 with h| ⟨g,cap,cur,h1,h2,h3,h4⟩
  ·exact .inl h
  ·exact .inr ⟨g,cap,cur,h1,h2,by rw [hbl.block g (Array.getElem?_eq_some_iff.1 h3).1];exact h3,h4⟩
 have hb:Blk w wr.heap.size e news:=by unfold Blk;rw [hw,Array.getElem?_push,if_pos rfl]
 obtain⟨g,cap,w',hrun,h2,h3,h4,h5⟩:=append_one T o.type hown' wr.heap.size hb hk hk0 h1 hm hby (Nat.le_trans hbase hbl.size) c;unfold Oper.wp execOp;simp only [ho,resolve,invoke,builtin,Sem.run_bind,Sem.run_pure,Result.andThen_ok,List.map_toArray,List.map_cons,List.map_nil,hs,hx,hrun];exact h g cap w' h2 ((hbl.mono hbase).trans h3) ⟨Nat.le_trans hbl.size h4.1,fun j hj hr=>(h4.2 j (Nat.lt_of_lt_of_le hj hbl.size) hr).trans (hbl.block j hj)⟩ (h5.imp id (fun e=>by rw [e];exact hbl.size))
def metE:Nat→List (Int×Int)→List MapEntry
 | _,[]=>[]
 | i,(o,v)::t=>{key:= .int .i64 o,val:= .int .i64 v,born:=i}::metE (i+1) t
theorem metE_app(o v:Int):∀(l:List (Int×Int))(i:Nat),metE i (l++[(o,v)])=metE i l++[{key:= .int .i64 o,val:= .int .i64 v,born:=i+l.length}]
 | [],i=>rfl
 | (a,b)::t,i=>by
   simp only [List.cons_append,metE,metE_app o v t (i+1),List.length_cons];rw [show i+1+t.length=i+(t.length+1)by omega]
theorem metE_len:∀(l:List (Int×Int))(i:Nat),(metE i l).length=l.length
 | [],_=>rfl
 | (_,_)::t,i=>by simp [metE,metE_len t]
theorem find_no(k:Int):∀(l:List (Int×Int))(i n:Nat),(∀p∈l,p.1≠k)→Instr.findNow (.int .i64) (.int .i64 k) (metE i l) n=some none
 | [],_,_,_=>rfl
 | (a,b)::t,i,n,h=>by
   have ha:(k==a)=false:=by rw [beq_eq_false_iff_ne];exact fun e=>h (a,b) (List.mem_cons_self ..) e.symm
   simp only [metE,Instr.findNow,Instr.sameNow,if_true,ha];exact find_no k t (i+1) (n+1) (fun p hp=>h p (List.mem_cons_of_mem _ hp))
theorem find_yes(k v:Int)(l2:List (Int×Int)):∀(l1:List (Int×Int))(i n:Nat),(∀p∈l1,p.1≠k)→Instr.findNow (.int .i64) (.int .i64 k) (metE i (l1++(k,v)::l2)) n=some (some (n+l1.length,.int .i64 v))
 | [],_,_,_=>by simp [metE,Instr.findNow,Instr.sameNow]
 | (a,b)::t,i,n,h=>by
   have ha:(k==a)=false:=by rw [beq_eq_false_iff_ne];exact fun e=>h (a,b) (List.mem_cons_self ..) e.symm
   simp only [List.cons_append,metE,Instr.findNow,Instr.sameNow,if_true,ha];rw [find_yes k v l2 t (i+1) (n+1) (fun p hp=>h p (List.mem_cons_of_mem _ hp))];simp only [List.length_cons];rw [show n+1+t.length=n+(t.length+1)by omega]
theorem metE_mod(k v v':Int)(l2:List (Int×Int)):∀(l1:List (Int×Int))(i:Nat),(metE i (l1++(k,v)::l2)).modify l1.length (fun e=>{e with key:= .int .i64 k,val:= .int .i64 v'})=metE i (l1++(k,v')::l2)
 | [],i=>rfl
 | (a,b)::t,i=>by
   simp only [List.cons_append,metE,List.length_cons,List.modify_succ_cons];rw [metE_mod k v v' l2 t (i+1)]
def MapIs(w:World)(mb:Nat)(l:List (Int×Int)):Prop:=w.heap[mb]? =some (.map (metE 0 l).toArray l.length)
theorem MapIs.lt{w:World}{mb:Nat}{l:List (Int×Int)}(h:MapIs w mb l):mb<w.heap.size:=(Array.getElem?_eq_some_iff.1 h).1
theorem MapIs.below{w w':World}{mb:Nat}{l:List (Int×Int)}(h:MapIs w mb l)(k:Below w.heap.size w w'):MapIs w' mb l:=(k.block _ h.lt).trans h
section
variable{P:Program}{t:TypeId}
theorem look_no{kt:TypeId}(ht:P.underlying t=some (.map kt kt))(hk:P.underlying kt=some (.int .i64))(hz:∀W,(zeroValue kt).run P W= .ok (.int .i64 0) W)(W:World)(mb:Nat)(l:List (Int×Int))(k:Int)(h:MapIs W mb l)(hn:∀p∈l,p.1≠k):
 (Instr.lookup t (.map (some mb)) (.int .i64 k) false).run P W= .ok (.int .i64 0) W:=by
 have h1:=run_underlying (P:=P) ht;have h2:=run_underlying (P:=P) hk;have h3:=fun b w=>run_checkKey_int (P:=P) hk b 9999 .i64 k w
 have h4:=getMap_run (P:=P) h;have hf:=find_no k l 0 0 hn;simp [Instr.lookup,h1,h2,h3,h4,Instr.findKey,hf,hz,Result.andThen]
theorem look_yes{kt et:TypeId}(ht:P.underlying t=some (.map kt et))(hk:P.underlying kt=some (.int .i64))(W:World)(mb:Nat)(l1 l2:List (Int×Int))(k v:Int)(h:MapIs W mb (l1++(k,v)::l2))(hn:∀p∈l1,p.1≠k):
 (Instr.lookup t (.map (some mb)) (.int .i64 k) false).run P W= .ok (.int .i64 v) W:=
 run_look ht hk W mb _ _ k _ _ h (by simpa using find_yes k v l2 l1 0 0 hn)
theorem upd_no{kt et:TypeId}(ht:P.underlying t=some (.map kt et))(hk:P.underlying kt=some (.int .i64))(W:World)(mb:Nat)(l:List (Int×Int))(k v:Int)(h:MapIs W mb l)(hn:∀p∈l,p.1≠k):
 (Instr.mapUpdate t (.map (some mb)) (.int .i64 k) (.int .i64 v)).run P W= .ok () (putMap W mb (metE 0 (l++[(k,v)])).toArray (l++[(k,v)]).length):=by
 rw [run_ins ht hk W mb _ _ k _ h (by simpa using find_no k l 0 0 hn),metE_app];simp
theorem upd_yes{kt et:TypeId}(ht:P.underlying t=some (.map kt et))(hk:P.underlying kt=some (.int .i64))(W:World)(mb:Nat)(l1 l2:List (Int×Int))(k v v':Int)(h:MapIs W mb (l1++(k,v)::l2))(hn:∀p∈l1,p.1≠k):
 (Instr.mapUpdate t (.map (some mb)) (.int .i64 k) (.int .i64 v')).run P W= .ok () (putMap W mb (metE 0 (l1++(k,v')::l2)).toArray (l1++(k,v')::l2).length):=by
 have h1:=run_underlying (P:=P) ht;have h2:=run_underlying (P:=P) hk;have h3:=fun w=>run_checkKey_int (P:=P) hk false 9999 .i64 k w
 have h4:=getMap_run (P:=P) h;have h5:=fun o=>setMap_run (P:=P) o h
 have hf:=find_yes k v l2 l1 0 0 hn;have hm:=metE_mod k v v' l2 l1 0;have hkey:(((metE 0 (l1++(k,v)::l2)).toArray[l1.length]?).map (·.key)).getD (.int .i64 k)= .int .i64 k:=by
  have:∀(l1:List (Int×Int))(i:Nat),(((metE i (l1++(k,v)::l2))[l1.length]?).map (·.key)).getD (.int .i64 k)= .int .i64 k:=by
   intro l1;induction l1 with
   | nil=>intro i;rfl
   | cons p t ih=>intro i;obtain⟨a,b⟩:=p;simpa [metE]using ih (i+1)
  simpa using this l1 0
 have hks:∀W,(Instr.keyThatStays (.int .i64 k) (.int .i64 k)).run P W= .ok (.int .i64 k) W:=fun W=>by
  have hb:Instr.sameBits 10000 (.int .i64 k) (.int .i64 k)=true:=by show Instr.sameBits (9999+1) _ _=true;simp [Instr.sameBits]
  simp [Instr.keyThatStays,hb]
 have hlen:(l1++(k,v')::l2).length=(l1++(k,v)::l2).length:=by simp
 have harr:(metE 0 (l1++(k,v)::l2)).toArray.modify l1.length (fun e=>{e with key:= .int .i64 k,val:= .int .i64 v'})=(metE 0 (l1++(k,v')::l2)).toArray:=by
  rw [←hm];simp
 rw [hlen];simp only [Nat.zero_add]at hf;simp only [Instr.mapUpdate,Sem.run_bind,h1,Result.andThen_ok,h4,h3,Instr.findKey,h2,hf,Sem.run_pure,hkey,hks,h5,harr,putMap]
end
def CutAt(w w':World)(e:TypeId)(A A':Option Addr)(m:Nat):Prop:=(A'=A∧m=0)∨∃g cs,A'=some ⟨g,0,none⟩∧w.heap.size≤g∧w'.heap[g]? =some (.cells cs e (0,0))
theorem append_cut {P : Program} {t e : TypeId} {z : Value} {bytes : Nat} (T : RowTy P t e z bytes) (ty : TypeId) {w : World} {A : Option Addr} {n : Nat} {xs news : List Value} (hA : Rd w A n xs) (hA0 : ∀ a, A = some a → ∃ g, a = ⟨g, 0, none⟩) (hn0 : A = none → n = 0)
    {B : Option Addr} {m : Nat} (hr : Rd w B m news) (h1 : ∀ u ∈ news, u.oneCell' = true) (hm : n + m ≤ 1000000) (hby : bytes ≤ 64) (c : Nat) :
    ∃ A' C w', (Builtin.append_ #[t, t] ty #[.slice A n n, .slice B m c]).run P w = .ok (.slice A' (n + m) C) w' ∧ n + m ≤ C ∧ Rd w' A' (n + m) (xs ++ news) ∧ Below w.heap.size w w' ∧ CutAt w w' e A A' m := by
  obtain ⟨i, hi, hz0, hz1, hz2⟩ := info_parts T.hi
  rcases B with _ | bd
  · have h0 : m = 0 := by
      rcases Nat.eq_zero_or_pos m with h0 | h0
      · exact h0
      · obtain ⟨_, _, e, _⟩ := hr.2 h0; cases e
    subst h0
    have hn : news = [] := List.eq_nil_of_length_eq_zero hr.1
    subst hn
    refine ⟨A, n, w, ?_, Nat.le_refl _, by simpa using hA, Below.refl _ _, .inl ⟨rfl, rfl⟩⟩
    rcases A with _ | a
    · have hn := hn0 rfl
      subst hn
      simp [Builtin.append_, run_underlying T.ht, sizeOf, typeInfo, hi, Builtin.lenOf, Builtin.firstCells]
    · simp [Builtin.append_, run_underlying T.ht, sizeOf, typeInfo, hi, Builtin.lenOf, Builtin.firstCells, storeCells]
  · have hcells : ∀ j u, news[j]? = some u → w.cell? (bd.add j) = some u := by
      intro j u hu
      have hj : j < m := by
        have := (List.getElem?_eq_some_iff.1 hu).1
        have := hr.1
        omega
      obtain ⟨b, off, e, _, hc⟩ := hr.2 (by omega)
      injection e with e
      subst e
      rw [Addr.add_lit, hc j hj, hu]
    rcases A with _ | a
    · have hn := hn0 rfl
      subst hn
      have hxs : xs = [] := List.eq_nil_of_length_eq_zero hA.1
      subst hxs
      obtain ⟨v', w', hrun, h2, h3, h4⟩ := append_rd2 T ty (World.ownsRow_nil w w.heap.size e 1) hr h1 (by omega) hby (Nat.le_refl _) c
      obtain ⟨A', C, rfl, hc, hrd⟩ := rd_of_own h2
      refine ⟨A', C, w', hrun, hc, hrd, h3, ?_⟩
      rcases h2.2 with ⟨e1, e2⟩ | ⟨g, cap, cur, e1, e2, e3, _⟩
      · simp only [Value.slice.injEq] at e1
        exact .inl ⟨e1.1, by omega⟩
      · simp only [Value.slice.injEq] at e1
        exact .inr ⟨g, _, e1.1, e2, e3⟩
    · obtain ⟨g, rfl⟩ := hA0 a rfl
      rcases Nat.eq_zero_or_pos m with h0 | h0
      · subst h0
        have hn : news = [] := List.eq_nil_of_length_eq_zero hr.1
        subst hn
        have hrun := run_append_room_cells (P := P) w t ty e i T.ht hi g 0 n n bd 0 c [] (by simp) (by simp) (by simp) (by omega) (by simp) (by simp)
        exact ⟨_, n, w, hrun, Nat.le_refl _, by simpa using hA, Below.refl _ _, .inl ⟨rfl, rfl⟩⟩
      · have holds : ∀ j u, xs[j]? = some u → w.cell? ((⟨g, 0, none⟩ : Addr).add j) = some u := by
          intro j u hu
          have hj : j < n := by
            have := (List.getElem?_eq_some_iff.1 hu).1
            have := hA.1
            omega
          obtain ⟨b, off, e, _, hc⟩ := hA.2 (by omega)
          injection e with e
          injection e with e1 e2
          subst e1 e2
          rw [Addr.add_lit, hc j hj, hu]
        have hmul : (n + m) * bytes ≤ 1000000 * 64 := Nat.mul_le_mul hm hby
        obtain ⟨v', w', hrun, h2, h3⟩ := run_append_arg_grows (P := P) w t ty e i z 1 bytes T.ht hi hz0 hz1 hz2 T.hz (by decide) ⟨g, 0, none⟩ n n xs (by have := hA.1; omega) holds bd m c news (by have := hr.1; omega) hcells (by omega) (by unfold maxLen; omega) (by omega)
        obtain ⟨A', C, rfl, hc, hrd⟩ := rd_of_own h2
        refine ⟨A', C, w', hrun, hc, hrd, (Below.refl _ _).grown h3 (Nat.le_refl _) (fun k hk => nomatch hk), ?_⟩
        rcases h2.2 with ⟨e1, e2⟩ | ⟨g', cap, cur, e1, e2, e3, _⟩
        · omega
        · simp only [Value.slice.injEq] at e1
          exact .inr ⟨g', _, e1.1, e2, e3⟩
theorem step_app_cut{P:Program}{ops:Array Oper}{o:Oper}{a:Act}{w:World}{K:Act→World→Prop}{Q:Exit→Act→World→Prop}{E:Prop}(hgd:o.guard=none)(s x:Operand)(t:TypeId)
 (ho:o.op= .call {callee:= .builtin .append,args:= #[s,x],argTypes:= #[t,t]}){e:TypeId}{z:Value}{bytes:Nat}(T:RowTy P t e z bytes)
 (A:Option Addr)(n:Nat)(xs:List Value)(hs:a.eval s= .slice A n n)(hA:Rd w A n xs)(hA0:∀a,A=some a→∃g,a=⟨g,0,none⟩)(hn0:A=none→n=0)
 (B:Option Addr)(m c:Nat)(news:List Value)(hx:a.eval x= .slice B m c)(hr:Rd w B m news)(h1:∀u∈news,u.oneCell'=true)(hm:n+m≤1000000)(hby:bytes≤64)
 (h:∀A' C w',n+m≤C→Rd w' A' (n+m) (xs++news)→Below w.heap.size w w'→CutAt w w' e A A' m→K (a.put o.dst (.slice A' (n+m) C)) w'):
 if Region.wanted o (yielded ops a.tmps)=true then Oper.wp P o a w K Q else E:=by
 have hwt:Region.wanted o (yielded ops a.tmps)=true:=by simp [Region.wanted,hgd]
 rw [if_pos hwt];obtain⟨A',C,w',hrun,h2,h3,h4,h5⟩:=append_cut T o.type hA hA0 hn0 hr h1 hm hby c;unfold Oper.wp execOp;simp only [ho,resolve,invoke,builtin,Sem.run_bind,Sem.run_pure,Result.andThen_ok,List.map_toArray,List.map_cons,List.map_nil,hs,hx,hrun];exact h A' C w' h2 h3 h4 h5
theorem step_app_cut1{P:Program}{ops:Array Oper}{o:Oper}{a:Act}{w:World}{K:Act→World→Prop}{Q:Exit→Act→World→Prop}{E:Prop}(hgd:o.guard=none)(s x:Operand)(t:TypeId)
 (ho:o.op= .call {callee:= .builtin .append,args:= #[s,x],argTypes:= #[t,t]}){e:TypeId}{z:Value}{bytes:Nat}(T:RowTy P t e z bytes)
 (wr:World)(A:Option Addr)(n:Nat)(xs:List Value)(hs:a.eval s= .slice A n n)(hA:Rd wr A n xs)(hA0:∀a,A=some a→∃g,a=⟨g,0,none⟩)(hn0:A=none→n=0)
 (u:Value)(hw:w.heap=wr.heap.push (.cells #[u] e))(hos:w.os=wr.os)(htape:w.tape=wr.tape)(hout:w.output=wr.output)(gx c:Nat)(hx:a.eval x= .slice (some ⟨gx,0,none⟩) 1 c)(hgx:wr.heap.size=gx)
 (h1:u.oneCell'=true)(hm:n+1≤1000000)(hby:bytes≤64)
 (h:∀A' C w',n+1≤C→Rd w' A' (n+1) (xs++[u])→Below wr.heap.size wr w'→CutAt wr w' e A A' 1→K (a.put o.dst (.slice A' (n+1) C)) w'):
 if Region.wanted o (yielded ops a.tmps)=true then Oper.wp P o a w K Q else E:=by
 subst hgx;have hbl:Below wr.heap.size wr w:=⟨hos,htape,hout,by rw [hw];simp,fun k hk=>by rw [hw,Array.getElem?_push,if_neg (by omega)]⟩;have hb:Blk w wr.heap.size e [u]:=by unfold Blk;rw [hw,Array.getElem?_push,if_pos rfl]
 refine step_app_cut hgd s x t ho T A n xs hs (Rd.below hA hbl) hA0 hn0 (some ⟨wr.heap.size,0,none⟩) 1 c [u] hx hb.rd (fun v hv=>by rw [List.mem_singleton]at hv;exact hv▸h1) hm hby ?_;intro A' C w' q1 q2 q3 q4;refine h A' C w' q1 q2 (hbl.trans (q3.mono hbl.size)) ?_;rcases q4 with h2| ⟨g,cs,h2,h3,h4⟩
 ·exact .inl h2
 ·exact .inr ⟨g,cs,h2,Nat.le_trans hbl.size h3,h4⟩
theorem append_rdk {P : Program} {t e : TypeId} {z : Value} {k bytes : Nat} (T : RowTyK P t e z k bytes) (hk0 : 0 < k) (ty : TypeId) {w : World} {base : Nat} {v : Value} {n : Nat} {xs news : List Value}
    (hown : w.ownsRow base e k v n xs) {A : Option Addr} {m : Nat} (hr : Rd w A (m * k) news)
    (h1 : ∀ u ∈ news, u.oneCell' = true) (hm : n + m ≤ 1000000) (hby : bytes ≤ 1000) (hbase : base ≤ w.heap.size) (c : Nat) :
    ∃ v' w', (Builtin.append_ #[t, t] ty #[v, .slice A m c]).run P w = .ok v' w' ∧ w'.ownsRow base e k v' (n + m) (xs ++ news) ∧ Below base w w' ∧ Kept w w' v.ownBlock := by
  obtain ⟨i, hi, hz0, hz1, hz2⟩ := info_parts T.hi
  rcases A with _ | ad
  · have h0 : m = 0 := by
      rcases Nat.eq_zero_or_pos m with h0 | h0
      · exact h0
      · obtain ⟨_, _, e, _⟩ := hr.2 (Nat.mul_pos h0 hk0); cases e
    subst h0
    have hn : news = [] := List.eq_nil_of_length_eq_zero (by have := hr.1; omega)
    subst hn
    refine ⟨v, w, ?_, by simpa using hown, Below.refl _ _, Kept.refl _ _⟩
    rcases hown.2 with ⟨rfl, rfl⟩ | ⟨g, cap, cur, rfl, _, _, hnc, _⟩
    · simp [Builtin.append_, run_underlying T.ht, sizeOf, typeInfo, hi, Builtin.lenOf, Builtin.firstCells]
    · simp [Builtin.append_, run_underlying T.ht, sizeOf, typeInfo, hi, Builtin.lenOf, Builtin.firstCells, hnc, storeCells]
  · have hcells : ∀ j u, news[j]? = some u → w.cell? (ad.add j) = some u := by
      intro j u hu
      have hj : j < m * k := by
        have := (List.getElem?_eq_some_iff.1 hu).1
        have := hr.1
        omega
      obtain ⟨b, off, e, _, hc⟩ := hr.2 (by omega)
      injection e with e
      subst e
      rw [Addr.add_lit, hc j hj, hu]
    have hmul : (n + m) * bytes ≤ 1000000 * 1000 := Nat.mul_le_mul hm hby
    obtain ⟨v', w', hrun, h2, h3, _⟩ := run_append_own (P := P) w base t ty e i z k bytes T.ht hi hz0 hz1 hz2 T.hz hk0 v n xs hown ad m c news hr.1 hcells h1
      (by unfold maxLen; omega) (by omega) hbase
    exact ⟨v', w', hrun, h2, (Below.refl _ _).grown h3 hbase (fun k hk => (hown.lt k hk).1), h3.size, fun k hk hne => h3.block k hk (fun h => hne h)⟩
theorem wpList_app_rows{P:Program}{ops:Array Oper}{rest:List Oper}{o:Oper}{a:Act}{w:World}{Q:Exit→Act→World→Prop}(hgd:o.guard=none)(s x:Operand)(t:TypeId)
 (ho:o.op= .call {callee:= .builtin .append,args:= #[s,x],argTypes:= #[t,t]}){e:TypeId}{z:Value}{k bytes:Nat}(T:RowTyK P t e z k bytes)(hk0:0<k)
 (base:Nat)(v:Value)(n:Nat)(xs:List Value)(hs:a.eval s=v)(hown:w.ownsRow base e k v n xs)(A:Option Addr)(m c:Nat)(news:List Value)(hx:a.eval x= .slice A m c)(hr:Rd w A (m*k) news)
 (h1:∀u∈news,u.oneCell'=true)(hm:n+m≤1000000)(hby:bytes≤1000)(hbase:base≤w.heap.size)
 (h:∀v' w',w'.ownsRow base e k v' (n+m) (xs++news)→Below base w w'→Kept w w' v.ownBlock→wpList P ops Q rest (a.put o.dst v') w'):wpList P ops Q (o::rest) a w:=by
 refine wpList_plain hgd fun K hK=> ?_
 obtain⟨v',w',hrun,h2,h3,h4⟩:=append_rdk T hk0 o.type hown hr h1 hm hby hbase c;unfold Oper.wp execOp;simp only [ho,resolve,invoke,builtin,Sem.run_bind,Sem.run_pure,Result.andThen_ok,List.map_toArray,List.map_cons,List.map_nil,hs,hx,hrun];exact hK _ _ (h v' w' h2 h3 h4)
theorem step_app_rows{P:Program}{ops:Array Oper}{o:Oper}{a:Act}{w:World}{K:Act→World→Prop}{Q:Exit→Act→World→Prop}{E:Prop}(s x:Operand)(t:TypeId)
 (ho:o.op= .call {callee:= .builtin .append,args:= #[s,x],argTypes:= #[t,t]}){e:TypeId}{z:Value}{k bytes:Nat}(T:RowTyK P t e z k bytes)(hk0:0<k)
 (hwt:Region.wanted o (yielded ops a.tmps)=true)
 (base:Nat)(v:Value)(n:Nat)(xs:List Value)(hs:a.eval s=v)(hown:w.ownsRow base e k v n xs)(A:Option Addr)(m c:Nat)(news:List Value)(hx:a.eval x= .slice A m c)(hr:Rd w A (m*k) news)
 (h1:∀u∈news,u.oneCell'=true)(hm:n+m≤1000000)(hby:bytes≤1000)(hbase:base≤w.heap.size)
 (h:∀v' w',w'.ownsRow base e k v' (n+m) (xs++news)→Below base w w'→Kept w w' v.ownBlock→K (a.put o.dst v') w'):
 if Region.wanted o (yielded ops a.tmps)=true then Oper.wp P o a w K Q else E:=by
 rw [if_pos hwt];obtain⟨v',w',hrun,h2,h3,h4⟩:=append_rdk T hk0 o.type hown hr h1 hm hby hbase c;unfold Oper.wp execOp;simp only [ho,resolve,invoke,builtin,Sem.run_bind,Sem.run_pure,Result.andThen_ok,List.map_toArray,List.map_cons,List.map_nil,hs,hx,hrun];exact h v' w' h2 h3 h4
end Go.Proofs.YtdjfbnoolfpcnaaGreatDoor
