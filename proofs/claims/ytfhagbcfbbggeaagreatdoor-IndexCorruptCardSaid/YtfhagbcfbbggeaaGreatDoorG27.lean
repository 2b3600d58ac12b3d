import Derived.Test.YtfhagbcfbbggeaaGreatDoorG15
import Derived.Test.YtfhagbcfbbggeaaGreatDoorG25
import Derived.Test.YtfhagbcfbbggeaaGreatDoorG26
namespace Go.Proofs.YtfhagbcfbbggeaaGreatDoor
open Go.RowKit
def RoundOk(L:Nat)(items:List Kv)(cut:Bool)(want:List It)(s':St)(f:Int):Prop:=
 ∃items',IxOk L s' items'∧items'.length≤items.length+1∧((f=0∧(items'.map kvIt).map itP=want.map itP)∨(items'=items∧(f=3∨f=7∨f=2∨(f=6∧cut=false))))
section
variable{L:Nat}{s:St}{items:List Kv}
theorem put_round(h:IxOk L s items)(key:ByteArray)(v:UInt64):RoundOk L items false (putR (items.map kvIt) key v).1 (putK s key.data.toList v).1 (putK s key.data.toList v).2:=by
 have hkl:=key_len key
 by_cases h16:16<key.size
 ·refine⟨items,?_,by omega,.inr ⟨rfl,.inl ?_⟩⟩
  all_goals(unfold putK;rw [if_pos (by omega)])
  exact h
 ·by_cases hv:v=0
  ·refine⟨items,?_,by omega,.inr ⟨rfl,.inr (.inr (.inl ?_))⟩⟩
   all_goals(unfold putK;rw [if_neg (by omega),if_pos hv])
   exact h
  ·have hvn:v.toNat≠0:=fun e=>hv (by rw [←UInt64.toNat_inj];exact e)
   rcases put_ok h key.data.toList (by omega) v hv with⟨e,h1⟩| ⟨e,items',h1,h2⟩
   ·exact⟨items,h1,by omega,.inr ⟨rfl,.inr (.inr (.inr ⟨e,rfl⟩))⟩⟩
   ·exact⟨items',h1,put_len h1.up h2,.inl ⟨e,put_same h (fun _=>⟨_,h1⟩) key h16 hvn h2⟩⟩
end
section
variable{w:World}{x d p L:Nat}{s:St}{F:Nat→Prop}{items:List Kv}
end
end Go.Proofs.YtfhagbcfbbggeaaGreatDoor
