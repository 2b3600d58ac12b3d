import Derived.Sort.OwnSortedInts
import Derived.Test.YtbkpiojejmhfcaaGreatDoorG01
import Derived.Test.YtbkpiojejmhfcaaGreatDoorG04
import Derived.Test.YtbkpiojejmhfcaaGreatDoorG13
import Derived.Test.YtbkpiojejmhfcaaGreatDoorG24
namespace Go.Proofs.YtbkpiojejmhfcaaGreatDoor
open Go.RowKit Go.Maps Go.Shelf
def ivs(l:List Int):List Value:=l.map (Value.int .i64)
theorem ivs_app(a b:List Int):ivs (a++b)=ivs a++ivs b:=List.map_append
theorem sortZ_len(l:List Int):(sortZ l).length=l.length:=List.length_mergeSort _
theorem one_ivs(l:List Int):∀u∈ivs l,u.oneCell'=true:=fun u hu=>by
 obtain⟨a,_,rfl⟩:=List.mem_map.1 hu
 rfl
theorem sort_own{w:World}{base:Nat}{v:Value}(ss:List Int)(h:w.ownsRow base 3 1 v ss.length (ivs ss))(hb:base≤w.heap.size)(hs:ss.length≤1000000000):
 Calls Tryz.prog 115 #[v] w fun e w'=>e= .returned (.tuple #[])∧w'.ownsRow base 3 1 v ss.length (ivs (sortZ ss))∧Below base w w':=by
 rcases h.2 with⟨rfl,h2⟩| ⟨g,cap,cur,rfl,hB,hg,hnc,hcm,hcs,ht⟩
 ·have he:ss=[]:=List.eq_nil_of_length_eq_zero h2
  subst he
  refine(AnyM.slices_Sort_int_none Tryz.sortA none 0 w).mono ?_
  rintro e w'⟨rfl,rfl⟩
  exact⟨rfl,by simpa [sortZ,ivs]using h,Below.refl _ _⟩
 ·rw [Nat.mul_one]at ht
  refine(AnyM.slices_Sort_int Tryz.sortA g 0 cap ss w (holds_of_blockI hg ht) (Array.getElem?_eq_some_iff.1 hg).1 (by omega)).mono ?_
  rintro e w'⟨rfl,n,os,rfl⟩
  refine⟨rfl,ownsRow_sortedI (List.length_mergeSort _) hB hg hnc hcm hcs,?_⟩
  exact(Below.refl _ _).grown (grownBy_sortedI _) hb (fun k hk=>by injection hk with hk;omega)
theorem intClone{w:World}{A:Option Addr}{c:Nat}(l:List Int)(hr:Rd w A (l.length*1) (ivs l))(hs:l.length≤100000):
 Calls Tryz.prog 114 #[.slice A l.length c] w fun e w'=>∃u,e= .returned u∧w'.ownsRow w.heap.size 3 1 u l.length (ivs l)∧Below w.heap.size w w':=by
 have q1:=fun W=>Lib.run_eql_slice_nil (P:=Tryz.prog) W 69 3 A l.length c 0 0 Tryz.underlying69
 cases A with
 | none=>
   have hs0:l=[]:=by
    by_cases e:l=[]
    ·exact e
    ·obtain⟨b,off,e2,_⟩:=hr.2 (by have:=List.length_pos_iff.2 e;omega)
     cases e2
   subst hs0
   simp only [List.length_nil]at q1
   clear hr
   go_enter Tryz.func114,Tryz.ntmps114
   go_wp2_with fail
   go_ret
   exact⟨_,rfl,⟨by simp [ivs],.inl ⟨rfl,rfl⟩⟩,Below.refl _ _⟩
 | some a=>
   have HR:=Lib.hid hr
   have HC:=Lib.hid hs
   have hb0:Below w.heap.size w (w.alloc (.cells #[] 3)):=(Below.refl _ _).alloc (Nat.le_refl _) _
   have HB0:=Lib.hid hb0
   have HO:Hid ((w.alloc (.cells #[] 3)).ownsRow w.heap.size 3 1 (.slice (some ⟨w.heap.size,0,none⟩) 0 0) 0 []):=Lib.hid ⟨rfl,.inr ⟨w.heap.size,0,#[],rfl,Nat.le_refl _,heap_alloc_new _ _,Nat.le_refl _,by decide,rfl,rfl⟩⟩
   clear hb0 hr hs
   go_enter Tryz.func114,Tryz.ntmps114
   go_wp2_with(at_builtin;refine wpList_app_rows rfl (.tmp 5) (.tmp 6) 69 rfl Tryz.intTyK (by decide) w.heap.size (.slice (some ⟨w.heap.size,0,none⟩) 0 0) 0 [] rfl HO.out (some a) l.length c (ivs l) rfl (Rd.below HR.out HB0.out) (one_ivs l) (by have:=HC.out;omega) (by decide) (by simp) ?_;intro v' w' hO hB hK)
   go_ret
   exact⟨_,rfl,by simpa using hO,HB0.out.trans hB⟩
end Go.Proofs.YtbkpiojejmhfcaaGreatDoor
