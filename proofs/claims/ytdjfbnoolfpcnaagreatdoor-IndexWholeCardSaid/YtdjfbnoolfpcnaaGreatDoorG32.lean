import Derived.Test.YtdjfbnoolfpcnaaGreatDoorG16
namespace Go.Proofs.YtdjfbnoolfpcnaaGreatDoor
def Far(sh:Sh):Prop:=64≤sh.table∧64≤sh.data
theorem far_of{L:Nat}{sh:Sh}(h:ShOk L sh):Far sh:=by
 refine⟨by rw [h.table];decide,?_⟩;rw [h.data];unfold aheadN;omega
def Low(s s':St):Prop:=s'.sh=s.sh∧∀j,j<8→s'.ws j=s.ws j
theorem Low.refl(s:St):Low s s:=⟨rfl,fun _ _=>rfl⟩
theorem Low.trans{a b c:St}(h:Low a b)(k:Low b c):Low a c:=⟨k.1.trans h.1,fun j hj=>(k.2 j hj).trans (h.2 j hj)⟩
theorem Low.far{a b:St}(h:Low a b)(k:Far a.sh):Far b.sh:=by rw [h.1];exact k
theorem low_put1(s:St)(k:Nat)(x:UInt64)(hk:8≤k):Low s {s with ws:=put1 s.ws k x}:=⟨rfl,fun j hj=>by show put1 s.ws k x j=_;unfold put1;rw [if_neg (by omega)]⟩
theorem low_putWs(s:St)(k:Nat)(xs:List UInt64)(hk:8≤k):Low s {s with ws:=putWs s.ws k xs}:=⟨rfl,fun j hj=>by show putWs s.ws k xs j=_;unfold putWs;rw [if_neg (by omega)]⟩
theorem low_putP(s:St)(h:Far s.sh)(i:Nat)(x:UInt64):Low s (putP s i x):=⟨rfl,fun j hj=>by
 show put1 s.ws (s.sh.table/8+i) x j=_;unfold put1;rw [if_neg (by have:=h.1;omega)]⟩
theorem low_hd(s:St)(hd:List UInt64):Low s {s with hd:=hd}:=⟨rfl,fun _ _=>rfl⟩
theorem low_takeP(s:St)(h:Far s.sh)(off:Int):Low s (takeP s off).1:=by
 unfold takeP;split
 ·exact Low.refl s
 ·split
  ·exact(low_putP s h _ _).trans (low_hd _ _)
  ·exact Low.refl s
theorem low_dropP(s:St)(h:Far s.sh)(off:Int):Low s (dropP s off).1:=by
 unfold dropP;split
 ·exact Low.refl s
 ·split
  ·exact low_hd _ _
  ·split
   ·exact low_putP s h _ _
   ·exact Low.refl s
theorem low_reserveP{s s1:St}(h:Far s.sh){c off:Nat}(e:reserveP s c=some (off,s1)):Low s s1∧64≤off:=by
 unfold reserveP at e;split at e
 ·cases e
 ·split at e
  ·cases e
  ·injection e with e
   injection e with e1 e2
   subst e1 e2;refine⟨low_hd _ _,?_⟩;have:=h.2;unfold placeN;omega
theorem low_buildP(j:Jb)(h:Far j.s.sh)(n:Nd):Low j.s (buildP j n).1.s:=by
 unfold buildP;split
 ·exact Low.refl _
 ·split
  ·exact Low.refl _
  ·rename_i off s1 e;obtain⟨h1,h2⟩:=low_reserveP h e;have h3:=low_putWs s1 (off/8) (encW n) (by omega);have h4:=h1.trans h3;have h5:=h4.trans (low_takeP _ (h4.far h) (off:Int));split;rename_i s2 e2 hs;rw [hs]at h5;split
   ·exact h5
   ·exact h5
theorem low_aboveP(j:Jb)(h:Far j.s.sh)(n:Nd)(label:UInt8)(kid:UInt64)(e:Int):Low j.s (aboveP j n label kid e).1.s:=by
 unfold aboveP;split
 ·exact Low.refl _
 ·split
  ·exact low_buildP j h _
  ·exact Low.refl _
theorem low_leafP:∀(f:Nat)(j:Jb)(_:Far j.s.sh)(l:List UInt8)(value:UInt64),Low j.s (leafP f j l value).1.s
 | 0,_,_,_,_=>Low.refl _
 | f+1,j,h,l,value=>by
   unfold leafP;split
   ·exact low_buildP j h _
   ·have ih:=low_leafP f j h (l.drop 16) value;split;rename_i j1 kid e hs;rw [hs]at ih;exact ih.trans (low_aboveP j1 (ih.far h) _ _ _ _)
theorem low_growP(j:Jb)(h:Far j.s.sh)(x:Nd)(rest:List UInt8)(value:UInt64):Low j.s (growP j x rest value).1.s:=by
 unfold growP;split
 ·have ih:=low_leafP (rest.length+1) j h (rest.drop (common x.pre rest+1)) value;split;rename_i j1 kid e hs;rw [hs]at ih;exact ih.trans (low_aboveP j1 (ih.far h) _ _ _ _)
 ·have i1:=low_buildP j h {x with pre:=x.pre.drop (common x.pre rest+1)};split;rename_i j1 kid e hs;rw [hs]at i1;split
  ·exact i1.trans (low_aboveP j1 (i1.far h) _ _ _ _)
  ·split
   ·exact i1
   ·split
    ·have i2:=low_leafP (rest.length+1) j1 (i1.far h) (rest.drop (common x.pre rest+1)) value;split;rename_i j2 kid2 e2 hs2;rw [hs2]at i2;exact i1.trans (i2.trans (low_aboveP j2 (i2.far (i1.far h)) _ _ _ _))
    ·exact i1
theorem low_dropsP:∀(l:List Int)(s:St)(_:Far s.sh),Low s (dropsP s l)
 | [],s,_=>Low.refl s
 | a::l,s,h=>(low_dropP s h a).trans (low_dropsP l _ ((low_dropP s h a).far h))
theorem low_dropsE:∀(l:List Int)(s:St)(e:Int)(_:Far s.sh),Low s (dropsE s l e).1
 | [],s,_,_=>Low.refl s
 | a::l,s,_,h=>(low_dropP s h a).trans (low_dropsE l _ _ ((low_dropP s h a).far h))
theorem low_finishP(j:Jb)(h:Far j.s.sh)(e:Int)(word:Int)(hw:64≤word)(name:UInt64)(old:List Int):Low j.s (finishP j e word name old).1:=by
 unfold finishP;split
 ·exact low_dropsP _ _ h
 ·have h1:=low_put1 j.s (word.toNat/8) name (by omega);exact h1.trans (low_dropsE _ _ _ (h1.far h))
theorem low_valueP(s:St)(pl:Pl)(hp:64≤pl.off)(n:UInt64):Low s (valueP s pl n):=low_put1 s _ n (by omega)
def GoodPl(pl:Pl):Prop:=64≤pl.off∧64≤pl.word
theorem read_far{s:St}(h:Far s.sh){name:UInt64}{x:Nd}(e:readP s name=some x):64≤offOf name:=by
 unfold readP at e;split at e
 ·cases e
 ·rename_i h0;unfold classP at h0;split at h0
  ·exact absurd rfl h0
  ·rename_i i a hf;unfold findP at hf;split at hf
   ·cases hf
   ·rename_i h1;have:=h.2;omega
theorem path_good{s:St}(h:Far s.sh):∀(f:Nat)(name:UInt64)(rest:List UInt8)(label:UInt8)(word:Int)(way way':List Pl)(rest':List UInt8),64≤word→(∀pl∈way,GoodPl pl)→pathGo s f name rest label word way=some (way',rest')→∀pl∈way',GoodPl pl
 | 0,_,_,_,_,_,_,_,_,hg,e=>by
   unfold pathGo at e;injection e with e
   injection e with e1 e2
   subst e1;exact hg
 | f+1,name,rest,label,word,way,way',rest',hw,hg,e=>by
   unfold pathGo at e;split at e
   ·injection e with e
    injection e with e1 e2
    subst e1;exact hg
   ·split at e
    ·cases e
    ·rename_i x hx;have ho:=read_far h hx;have hg2:∀pl∈way++[⟨x,offOf name,label,word⟩],GoodPl pl:=fun pl hpl=>by
      rcases List.mem_append.1 hpl with g| g
      ·exact hg pl g
      ·rw [List.mem_singleton]at g;subst g;exact⟨ho,hw⟩
     split at e
     ·injection e with e
      injection e with e1 e2
      subst e1;exact hg2
     ·split at e
      ·injection e with e
       injection e with e1 e2
       subst e1;exact hg2
      ·rename_i kid number hk;exact path_good h f kid _ _ _ _ way' rest' (by omega) hg2 e
theorem low_putK(s:St)(h:Far s.sh)(key:List UInt8)(value:UInt64):Low s (putK s key value).1:=by
 unfold putK;split
 ·exact Low.refl s
 ·split
  ·exact Low.refl s
  ·split
   ·exact Low.refl s
   ·rename_i way rest hp;have hg:=path_good h _ _ _ _ _ _ _ _ (by decide) (fun _ h=>by cases h) hp;split
    ·rename_i last hl;refine low_valueP s last (hg last ?_).1 _;unfold standsP at hl;split at hl
     ·cases hl
     ·rename_i l2 hl2;split at hl
      ·injection hl with hl
       subst hl;exact List.mem_of_getLast? hl2
      ·cases hl
    ·split
     ·have i1:=low_leafP (rest.length+1) ⟨s,[]⟩ h rest value;split;rename_i j name e hs;rw [hs]at i1;exact i1.trans (low_finishP j (i1.far h) e 72 (by decide) name [])
     ·rename_i last hl;have i1:=low_growP ⟨s,[]⟩ h last.nd rest value;split;rename_i j name e hs;rw [hs]at i1;exact i1.trans (low_finishP j (i1.far h) e last.word (hg last (List.mem_of_getLast? hl)).2 name [last.off])
theorem low_pruneP(s:St)(h:Far s.sh)(way:List Pl)(hg:∀pl∈way,GoodPl pl):Low s (pruneP ⟨s,[]⟩ way).1:=by
 unfold pruneP;split
 ·exact low_finishP ⟨s,[]⟩ h 0 72 (by decide) 0 _
 ·split
  ·rename_i up at_ hu ha;split
   ·split
    ·have i1:=low_buildP ⟨s,[]⟩ h (outP up.nd (by assumption));split;rename_i j1 name e hs;rw [hs]at i1;exact i1.trans (low_finishP j1 (i1.far h) e up.word (hg up (List.mem_of_getElem? hu)).2 name _)
    ·exact Low.refl s
   ·exact Low.refl s
  ·exact Low.refl s
theorem low_cutK (s : St) (h : Far s.sh) (key : List UInt8) : Low s (cutK s key).1 := by
  unfold cutK
  split
  · exact Low.refl s
  · split
    · exact Low.refl s
    · rename_i way rest hp
      have hg := path_good h _ _ _ _ _ _ _ _ (by decide) (fun _ h => by cases h) hp
      split
      · exact Low.refl s
      · rename_i last hl
        have hm : last ∈ way := by
          unfold standsP at hl
          split at hl
          · cases hl
          · rename_i l2 hl2
            split at hl
            · injection hl with hl
              subst hl
              exact List.mem_of_getLast? hl2
            · cases hl
        split
        · exact Low.refl s
        · have hP : Low s (if last.nd.kids.length = 0 then pruneP ⟨s, []⟩ way else (s, 6)).1 := by
            split
            · exact low_pruneP s h way hg
            · exact Low.refl s
          split
          rename_i s1 e hs
          rw [hs] at hP
          split
          · exact hP.trans (low_valueP s1 last (hg last hm).1 0)
          · split
            · exact hP
            · exact hP
end Go.Proofs.YtdjfbnoolfpcnaaGreatDoor
