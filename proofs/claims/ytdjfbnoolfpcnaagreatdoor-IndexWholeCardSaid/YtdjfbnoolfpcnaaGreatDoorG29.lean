import Derived.Test.YtdjfbnoolfpcnaaGreatDoorG16
import Derived.Test.YtdjfbnoolfpcnaaGreatDoorG27
import Derived.Test.YtdjfbnoolfpcnaaGreatDoorG28
namespace Go.Proofs.YtdjfbnoolfpcnaaGreatDoor
open Go.RowKit
def RoundOk(L:Nat)(items:List Kv)(cut:Bool)(want:List It)(s':St)(f:Int):Prop:=
 ∃items',IxOk L s' items'∧items'.length≤items.length+1∧((f=0∧(items'.map kvIt).map itP=want.map itP)∨(items'=items∧(f=3∨f=7∨f=2∨(f=6∧cut=false))))
section
variable{L:Nat}{s:St}{items:List Kv}
theorem put_round(h:IxOk L s items)(key:ByteArray)(v:UInt64):RoundOk L items false (putR (items.map kvIt) key v).1 (putK s key.data.toList v).1 (putK s key.data.toList v).2:=by
 have hkl:=key_len key;by_cases h16:16<key.size
 ·refine⟨items,?_,by omega,.inr ⟨rfl,.inl ?_⟩⟩
  all_goals(unfold putK;rw [if_pos (by omega)])
  exact h
 ·by_cases hv:v=0
  ·refine⟨items,?_,by omega,.inr ⟨rfl,.inr (.inr (.inl ?_))⟩⟩
   all_goals(unfold putK;rw [if_neg (by omega),if_pos hv])
   exact h
  ·have hvn:v.toNat≠0:=fun e=>hv (by rw [←UInt64.toNat_inj];exact e)
   rcases(put_ok h key.data.toList (by omega) v hv).2 with⟨e,h1,_⟩| ⟨e,items',h1,h2⟩
   ·exact⟨items,h1,by omega,.inr ⟨rfl,.inr (.inr (.inr ⟨e,rfl⟩))⟩⟩
   ·exact⟨items',h1,put_len h1.up h2,.inl ⟨e,put_same h (fun _=>⟨_,_,h1⟩) key h16 hvn h2⟩⟩
theorem cut_round(h:IxOk L s items)(key:ByteArray):RoundOk L items true (cutR (items.map kvIt) key).1 (cutK s key.data.toList).1 (cutK s key.data.toList).2.2:=by
 have hkl:=key_len key;by_cases h16:16<key.size
 ·refine⟨items,?_,by omega,.inr ⟨rfl,.inl ?_⟩⟩
  all_goals(unfold cutK;rw [if_pos (by omega)])
  exact h
 ·rcases cut_ok h key.data.toList (by omega)with⟨e,_⟩| ⟨_,e,hm,items',h1,h2⟩
  ·rw [e];exact⟨items,h,by omega,.inr ⟨rfl,.inr (.inl rfl)⟩⟩
  ·have hi:=(isR_mem h key).2 ⟨_,hm⟩;refine⟨items',h1,?_,.inl ⟨e,cut_same h h1 key h16 hi h2⟩⟩;have:=nodup_sub_len items' items (upK_nodup h1.up) (fun x hx=>((h2 x).1 hx).1);omega
theorem cutR_len(l:List It)(key:ByteArray):(cutR l key).1.length≤l.length:=by
 unfold cutR;split
 ·exact Nat.le_refl _
 ·split
  ·simp only [List.length_append,List.length_take,List.length_drop];omega
  ·exact Nat.le_refl _
theorem same_itP{a b:List It}(h:a.map itP=b.map itP):a.length=b.length∧sameK a b a.length:=by
 obtain⟨h1,h2⟩:=itP_same h;refine⟨h1,fun j k1 k2 _=> ?_⟩;obtain⟨e1,e2⟩:=h2 j k1 k2;unfold sameI;rw [e1,e2];simp
theorem iv_nvs(l:List Nat):iv10 (l.map Int.ofNat)=nvs l:=by
 unfold iv10 nvs;rw [List.map_map];rfl
end
theorem ItR.moved{w w':World}{F F':Nat→Prop}{A:Option Addr}{l:List It}(h:ItR w A l)(m:Moved F F' w w')(hF:∀a,A=some a→¬F a.block):ItR w' A l:=Rd.moved h m hF
theorem own_itrF{w:World}{base:Nat}{e:TypeId}{v:Value}{l:List It}(h:w.ownsRow base e 2 v l.length (itCs l)):∃A c,v= .slice A l.length c∧l.length≤c∧(A=none→c=0)∧ItR w A l:=by
 have hnil:∀n c',v= .slice none n c'→c'=0:=fun n c' e=>by
  rcases h.2 with⟨h1,h2⟩| ⟨g,cap,cur,h1,h2,_⟩
  ·rw [h1]at e;injection e with _ _ e;exact e.symm
  ·rw [h1]at e;cases e
 obtain⟨A,c,e1,hc,hr⟩:=own_itrE h;exact⟨A,c,e1,hc,fun e=>hnil _ _ (by rw [e1,e]),hr⟩
section
variable{w:World}{x d p L:Nat}{s:St}{F:Nat→Prop}{items:List Kv}
theorem all_right{Y:Nat→Prop}(h:Ix w x d p L s F)(ok:IxX Y L s items):Calls Tryz.prog 9 #[.pointer (some ⟨x,0,none⟩)] w fun e w'=>
 ∃A c,e= .returned (.tuple #[.slice A (items.map kvIt).length c,.int .i64 0])∧ItR w' A (items.map kvIt)∧(∀a,A=some a→¬F a.block)∧(items.map kvIt).length≤65537∧Below w.heap.size w w':=by
 refine(allK_own h).mono ?_;rintro e w1⟨hb,hp⟩;rw [all_ok ok]at hp;obtain⟨A,c,he,hc,hr,hl,hn⟩:=(hp:∃A c,e= .returned (.tuple #[.slice A (items.map kvIt).length c,.int .i64 0])∧(items.map kvIt).length≤c∧ItR w1 A (items.map kvIt)∧(items.map kvIt).length≤65537∧∀a,A=some a→w.heap.size≤a.block);exact⟨A,c,he,hr,fun a ea hF=>by have:=h.sys.lt _ hF;have:=hn a ea;omega,hl,hb⟩
theorem pool_of(h:Ix w x d p L s F):∃tb hb n cT cH,PoolAt w d p L s tb hb n cT cH:=by
 obtain⟨tb,hb,n,cT,cH,own,h,_⟩:=h.sys;exact⟨tb,hb,n,cT,cH,h.at⟩
theorem same_right(a b:List It)(A B:Option Addr)(c d:Nat)(w:World)(hla:a.length≤100000)(ha:ItR w A a)(hb:ItR w B b)(h:a.map itP=b.map itP):Calls Tryz.prog 17 #[.slice A a.length c,.slice B b.length d] w fun e w'=>e= .returned (.bool true)∧Dr w w':=by
 refine(same_any a b A B c d w hla ha hb).mono ?_;rintro e w1⟨h1,hd⟩;rcases h1 with⟨h1,_⟩| ⟨_,h1⟩
 ·exact⟨h1,hd⟩
 ·exact absurd (same_itP h) h1
theorem ours_right(l:List It)(A:Option Addr)(c:Nat)(w:World)(hl:l.length≤100000)(h:ItR w A l):Calls Tryz.prog 12 #[.slice A l.length c] w fun e w'=>
 ∃A' c',e= .returned (.slice A' l.length c')∧l.length≤c'∧(A'=none→c'=0)∧ItR w' A' l∧Below w.heap.size w w':=by
 refine(ours10 l A c w hl h).mono ?_;rintro e w1⟨v,rfl,ho,hb⟩;obtain⟨A',c',hv,hc,hz,hr⟩:=own_itrF ho;subst hv;exact⟨A',c',rfl,hc,hz,hr,hb⟩
end
end Go.Proofs.YtdjfbnoolfpcnaaGreatDoor
