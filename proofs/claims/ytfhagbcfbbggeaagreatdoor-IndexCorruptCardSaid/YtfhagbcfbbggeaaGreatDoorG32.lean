import Derived.Test.YtfhagbcfbbggeaaGreatDoorG27
import Derived.Test.YtfhagbcfbbggeaaGreatDoorG30
import Derived.Test.YtfhagbcfbbggeaaGreatDoorG31
namespace Go.Proofs.YtfhagbcfbbggeaaGreatDoor
open Go.RowKit
section
variable{L:Nat}{s:St}{items:List Kv}{sh:Sh}
theorem again_head(h:Low (st0 sh) s):wordsAt s.ws 0 8=wordsOf s.sh:=by
 have h2:wordsAt s.ws 0 8=wordsAt (formatW sh) 0 8:=by
  apply List.ext_getElem
  ·simp [wordsAt]
  ·intro i h1 h2
   rw [wordsAt_get,wordsAt_get]
   exact h.2 _ (by have:=h1;simp [wordsAt]at this;omega)
 rw [h2,format_head,h.1]
 rfl
end
section
variable{w:World}{d p L:Nat}{s:St}{F:Nat→Prop}{items:List Kv}{sh:Sh}
end
end Go.Proofs.YtfhagbcfbbggeaaGreatDoor
