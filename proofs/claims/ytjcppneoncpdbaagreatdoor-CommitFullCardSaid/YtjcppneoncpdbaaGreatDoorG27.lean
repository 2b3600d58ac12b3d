import Derived.OrdersHeld
import Derived.OrdersIn
import Derived.RangeFuncCalls
import Derived.TacticsIn
import Derived.Deep.RegionHeld
open Array renaming replicate->xu
namespace Go.Proofs.YtjcppneoncpdbaaGreatDoor
section
variable{P:Program}{ops:Array Oper}{Q:Exit->Act->World->Prop}{n l0:Nat}
def Vb(Q:Exit->Act->World->Prop):Exit->Act->World->Prop:=fun e a w=>e≠.outgrown/\Q e a w
theorem Vb.not:¬LetsOut (Vb Q):=fun⟨_,_,h,_⟩=>h rfl
theorem XL{o:Oper}{a:Act}{K K':Act->World->Prop}(hK:∀a w,K a w->K' a w){r:Result Next}(h:o.upon P a K (Vb Q) r):o.uponIn (Fence.wide.inRound l0) n P a K' Q r:=by
 cases r with
 | ok x w'=>
   cases x with
   | value v=>exact hK _ _ h
   | skip=>exact hK _ _ h
   | defer d=>exact hK _ _ h
   | enter f args=>
     refine⟨fun h=>(by cases h),CallsIn.inRound l0 ((callsIn_wide.2 (show Calls P f args w' _ from h)).mono ?_)⟩;intro e w'' he;cases e with
     | returned v=>exact hK _ _ he
     | panicked c=>exact he.2
     | outgrown=>exact(Vb.not he).elim
   | row row args=>exact⟨fun h=>(by cases h),fun c cs _=>let⟨v,w'',q,s⟩:=(show Rows P row args w' _ from h) c cs;⟨v,w'',hK _ _ q,stepsIn_wide.2 s⟩⟩
   | _=>exact h.elim
 | halt x w'=>
   cases x with
   | panic v=>exact h.2
   | _=>exact h.elim
theorem Ig(hd:∀o∈ops,∀c,o.op≠.defer c):∀(l:List Nat)(a:Act)(w:World),wpOps P ops (Vb Q) l a w->wpOpsIn (Fence.wide.inRound l0) n P ops Q l a w
 | [],_,_,h=>h.2
 | i::rest,a,w,h=>by
   unfold wpOps at h;unfold wpOpsIn;cases ho:ops[i]? with
   | none=>rw [ho]at h;exact Ig hd rest _ _ h
   | some o=>
     rw [ho]at h;simp only at h⊢;split at h
     ·rename_i hw;rw [if_pos hw];rcases h with h| ⟨_,h⟩
      ·refine⟨fun _ _=>trivial,?_⟩;rw [show(Fence.wide.inRound l0).round=some l0 from rfl,Oper.semAt_some l0 _ _ (hd o (Array.mem_of_getElem? ho))];exact XL (Ig hd rest) h
      ·exact(Vb.not h).elim
     ·rename_i hw;rw [if_neg hw];exact⟨fun _ _=>trivial,Ig hd rest _ _ h⟩
def bY(ops:Array Oper):Bool:=ops.all fun o=>match o.op with| .defer _=>false| _=>true
theorem bZ(h:bY ops=true):∀o∈ops,∀c,o.op≠.defer c:=fun o ho c e=>by
 have:=Array.all_eq_true_iff_forall_mem.1 h o ho;rw [e]at this;cases this
theorem TC{S:World->Prop}{id:Nat}{a:Act}{w:World}(hm:P.follows .mixedOrders=true)(hd:bY ops=true)
 (h:wpAnyH P .any ops (Vb Q) S ops.size (xu ops.size false) a {w with drawn:=w.drawn+1}):(Code.region id ops true).wpIn (Fence.wide.inRound l0) n P Q a w:=
 wpIn_region_draw fun t=>by
  simp only [Region.schedule,hm,Bool.true_or,if_true];exact Ig (bZ hd) _ _ _ (wpAny_sound ops.size t _ a _ (wpAny_of_held _ _ _ _ h))
theorem Gx{S:World->Prop}{id:Nat}{a:Act}{w:World}(hm:P.follows .mixedOrders=true)(hd:bY ops=true)(hS:S w.drew)
 (h:S w.drew->wpAnyH P .any ops (Vb Q) S ops.size (xu ops.size false) a w.drew):(Code.region id ops true).wpIn (Fence.wide.inRound l0) n P Q a w:=
 TC hm hd (h hS)
end
end Go.Proofs.YtjcppneoncpdbaaGreatDoor
