import Derived.Test.YtjcppneoncpdbaaGreatDoorG04
import Derived.Test.YtjcppneoncpdbaaGreatDoorG08
import Derived.Test.YtjcppneoncpdbaaGreatDoorG12
namespace Go.Proofs.YtjcppneoncpdbaaGreatDoor
theorem kidItems_app(pre:List UInt8):∀(a b:List UInt8)(c d:List Part),a.length=c.length→kidItems pre (a++b) (c++d)=kidItems pre a c++kidItems pre b d
 | [],b,[],d,_=>by simp [kidItems]
 | [],b,_::_,d,h=>by simp at h
 | _::_,b,[],d,h=>by simp at h
 | x::a,b,p::c,d,h=>by
   simp only [List.cons_append,kidItems,kidItems_app pre a b c d (by simpa using h),List.append_assoc]
theorem kidItems_split(pre:List UInt8)(ls:List UInt8)(ps:List Part)(i:Nat)(h:ls.length=ps.length):kidItems pre ls ps=kidItems pre (ls.take i) (ps.take i)++kidItems pre (ls.drop i) (ps.drop i):=by
 rw [←kidItems_app _ _ _ _ _ (by simp [h]),List.take_append_drop,List.take_append_drop]
theorem kidBlocks_app(a b:List Part):kidBlocks (a++b)=kidBlocks a++kidBlocks b:=by simp [kidBlocks]
theorem kidBlocks_split(ps:List Part)(i:Nat):kidBlocks ps=kidBlocks (ps.take i)++kidBlocks (ps.drop i):=by rw [←kidBlocks_app,List.take_append_drop]
theorem getD8{l:List UInt8}{k:Nat}(h:k<l.length):l.getD k 0=l[k]:=by rw [List.getD_eq_getElem?_getD,List.getElem?_eq_getElem h];rfl
theorem cut8{l:List UInt8}{k:Nat}(h:k<l.length):l.take k++l.getD k 0::l.drop (k+1)=l:=by
 rw [getD8 h,←List.drop_eq_getElem_cons h,List.take_append_drop]
theorem u64_ne{x:UInt64}(h:x≠0):x.toNat≠0:=fun e=>h (UInt64.toNat_inj.1 (by simpa using e))
section
variable{L:Nat}{s0:St}{j:Jb}{B:List Nat}
theorem above_ok (g : Grown L s0 j B) {x : Nd} (hx : rightB x = true) {parts : List Part} (hlen : parts.length = x.kids.length) {label : UInt8} (h16 : isNib label = true) (hno : hasLb x.labels label = false) {kid : UInt64} (hk0 : kid ≠ 0) {r : Nat} (hr : x.pre.length + 1 ≤ r)
    (hk : ∀ i (h1 : i < x.kids.length) (h2 : i < parts.length), TreeAt j.s (r - x.pre.length - 1) x.kids[i] parts[i].items parts[i].blocks) {il : List Kv} {bl : List Nat} (ht : TreeAt j.s (r - x.pre.length - 1) kid il bl) :
    aboveP j x label kid 0 = (j, 0, 6) ∨ ∃ j' name o, aboveP j x label kid 0 = (j', name, 0) ∧ Grown L s0 j' (B ++ [o]) ∧ KeepT j.s j'.s (fun _ => True) ∧ name ≠ 0 ∧ ∃ il' bl', TreeAt j'.s r name il' bl' ∧ bl'.Perm (o :: bl ++ kidBlocks parts) ∧
      ∀ kv, kv ∈ il' ↔ kv ∈ ownItems x ++ kidItems x.pre x.labels parts ∨ kv ∈ underI x.pre label il := by
  have hok : withOkP x label kid = true := (withOkP_iff _ _ _).2 ⟨hx, by simpa [isNib] using h16, u64_ne hk0, hno⟩
  have F := withP_facts x label kid hok
  have hxr := (rightB_iff x).1 hx
  unfold aboveP
  rw [if_neg (by simp), if_pos hok]
  rcases build_ok g F.right with e | ⟨j', name, o, e, ho, g', hoff, hn0, hrd, hkp⟩
  · exact .inl e
  · right
    obtain ⟨p, hp⟩ : ∃ p, p = placeSP x.labels label := ⟨_, rfl⟩
    have hpl : p ≤ x.labels.length := hp ▸ F.place
    have hll : x.labels.length = x.kids.length := hxr.2.2.1
    have T := TreeAt.mk r name (withP x label kid) (insP parts p ⟨il, bl⟩) hrd (by show x.pre.length ≤ r; omega) (fun _ => hr) (by rw [insP_length _ _ _ (by omega), F.lenk, hlen]) (fun i h1 h2 => by
      have e1 := insP_get x.kids p kid (by omega) i
      have e2 := insP_get parts p ⟨il, bl⟩ (by omega) i
      have e1' : (insP x.kids p kid)[i]? = some (withP x label kid).kids[i] := (congrArg (fun l => l[i]?) (show insP x.kids p kid = (withP x label kid).kids by rw [hp]; rfl)).trans (List.getElem?_eq_getElem h1)
      rw [List.getElem?_eq_getElem h2] at e2
      rw [e1] at e1'
      show TreeAt j'.s (r - x.pre.length - 1) (withP x label kid).kids[i] _ _
      have hlen2 : (withP x label kid).kids.length = x.kids.length + 1 := F.lenk
      by_cases h3 : i < p
      · rw [if_pos h3] at e1' e2
        rw [List.getElem?_eq_getElem (by omega)] at e1' e2
        injection e1' with e1'
        injection e2 with e2
        rw [e2]
        have := (hk i (by omega) (by omega)).keep g.ok g'.ok hkp (fun _ _ => trivial)
        simp only [e1'] at this ⊢
        first | exact this | (rw [← e1']; exact this)
      · rw [if_neg h3] at e1' e2
        by_cases h4 : i = p
        · rw [if_pos h4] at e1' e2
          injection e1' with e1'
          injection e2 with e2
          rw [e2]
          have := ht.keep g.ok g'.ok hkp (fun _ _ => trivial)
          first | exact e1' ▸ this | (rw [← e1']; exact this)
        · rw [if_neg h4] at e1' e2
          rw [List.getElem?_eq_getElem (by omega)] at e1' e2
          injection e1' with e1'
          injection e2 with e2
          rw [e2]
          have := (hk (i - 1) (by omega) (by omega)).keep g.ok g'.ok hkp (fun _ _ => trivial)
          first | exact e1' ▸ this | (rw [← e1']; exact this))
    rw [hoff, Int.toNat_natCast] at T
    refine ⟨j', name, o, e, g', hkp, hn0, _, _, T, ?_, fun kv => ?_⟩
    · refine List.Perm.cons _ ?_
      unfold insP
      rw [kidBlocks_app, kidBlocks_split parts p]
      show (kidBlocks (parts.take p) ++ (bl ++ kidBlocks (parts.drop p))).Perm (bl ++ (kidBlocks (parts.take p) ++ kidBlocks (parts.drop p)))
      rw [← List.append_assoc, ← List.append_assoc]
      exact List.Perm.append_right _ List.perm_append_comm
    · have e1 : kidItems x.pre (insP x.labels p label) (insP parts p ⟨il, bl⟩) = kidItems x.pre (x.labels.take p) (parts.take p) ++ (underI x.pre label il ++ kidItems x.pre (x.labels.drop p) (parts.drop p)) := by
        unfold insP
        rw [kidItems_app _ _ _ _ _ (by simp; omega)]
        rfl
      rw [show (withP x label kid).labels = insP x.labels p label by rw [hp]; rfl, show (withP x label kid).pre = x.pre from rfl, show ownItems (withP x label kid) = ownItems x from rfl, e1, kidItems_split x.pre x.labels parts p (by omega)]
      simp only [List.mem_append]
      grind
theorem under_low(x:Nd)(k:Nat)(hk:k<x.pre.length):∀(parts:List Part),underI (x.pre.take k) (x.pre.getD k 0) (ownItems {x with pre:=x.pre.drop (k+1)}++kidItems (x.pre.drop (k+1)) x.labels parts)=ownItems x++kidItems x.pre x.labels parts:=by
 have e:∀t,x.pre.take k++x.pre.getD k 0::(x.pre.drop (k+1)++t)=x.pre++t:=fun t=>by
  rw [←List.cons_append,←List.append_assoc,cut8 hk]
 have e0:x.pre.take k++x.pre.getD k 0::x.pre.drop (k+1)=x.pre:=by simpa using e []
 have h:∀(ls:List UInt8)(ps:List Part),underI (x.pre.take k) (x.pre.getD k 0) (kidItems (x.pre.drop (k+1)) ls ps)=kidItems x.pre ls ps:=by
  intro ls
  induction ls with
  | nil=>intro ps;simp [kidItems,underI]
  | cons lb ls ih=>
    intro ps
    cases ps with
    | nil=>simp [kidItems,underI]
    | cons p ps=>
      have:=ih ps
      unfold underI at this⊢
      simp only [kidItems,List.map_append,this]
      congr 1
      unfold underI
      rw [List.map_map]
      refine List.map_congr_left fun kv _=> ?_
      simp only [Function.comp_apply]
      rw [e]
 intro parts
 have h2:=h x.labels parts
 unfold underI at h2⊢
 rw [List.map_append,h2]
 congr 1
 unfold ownItems
 dsimp only
 split
 ·simp only [List.map_cons,List.map_nil]
  rw [e0]
 ·rfl
def GrowPost(L:Nat)(s0:St)(r:Nat)(x:Nd)(parts:List Part)(rest:List UInt8)(value:UInt64)(res:Jb×UInt64×Int):Prop:=
 (res.2.2=6∧∃B',Grown L s0 res.1 B')∨
 (res.2.2=0∧∃C il' bl',Grown L s0 res.1 C∧res.2.1≠0∧TreeAt res.1.s r res.2.1 il' bl'∧bl'.Perm (C++kidBlocks parts)∧∀kv,kv∈il'↔kv∈ownItems x++kidItems x.pre x.labels parts∨kv=(rest,value))
theorem grow_ok(ok:PoolOk L s0)(nh:∀o d,¬HeldAt s0 o d){x:Nd}(hx:rightB x=true){parts:List Part}(hlen:parts.length=x.kids.length){r:Nat}(hpre:x.pre.length≤r)(hkid:x.kids≠[]→x.pre.length+1≤r)
 (hk:∀i(h1:i<x.kids.length)(h2:i<parts.length),TreeAt s0 (r-x.pre.length-1) x.kids[i] parts[i].items parts[i].blocks){rest:List UInt8}{value:UInt64}(hrl:rest.length≤r)(hrn:rest.all isNib=true)(hv:value≠0)(hne:x.pre≠rest)
 (hno:common x.pre rest=x.pre.length→hasLb x.labels (rest.getD (common x.pre rest) 0)=false):GrowPost L s0 r x parts rest value (growP ⟨s0,[]⟩ x rest value):=by
 have g0:=Grown.start ok nh
 have hxr:=(rightB_iff x).1 hx
 have hcl:=common_le_left x.pre rest
 have hcr:=common_le_right x.pre rest
 have hct:=common_take x.pre rest
 unfold growP
 by_cases hc:common x.pre rest=x.pre.length
 ·rw [if_pos hc]
  have hlt:x.pre.length<rest.length:=by
   rcases Nat.lt_or_ge x.pre.length rest.length with h| h
   ·exact h
   ·exfalso
    refine hne ?_
    rw [hc,List.take_length,List.take_of_length_le (by omega)]at hct
    exact hct
  have hno':=hno hc
  rw [hc]at hno' hct⊢
  rw [List.take_length]at hct
  have hcut:=cut8 hlt
  rw [←hct]at hcut
  have hlab:isNib (rest.getD x.pre.length 0)=true:=by rw [getD8 hlt];exact List.all_eq_true.1 hrn _ (List.getElem_mem _)
  have hL:=leaf_ok (rest.length+1) g0 (r-x.pre.length-1) (rest.drop (x.pre.length+1)) value (by rw [List.length_drop];omega) (by rw [List.length_drop];omega) (all_drop _ _ _ hrn) hv
  generalize leafP (rest.length+1) ⟨s0,[]⟩ (rest.drop (x.pre.length+1)) value=res at hL
  obtain⟨j1,kid,e⟩:=res
  rcases hL with⟨e1,B',g1⟩| ⟨e1,C,bl,g1,hk1,hn1,ht1,hp1⟩
  ·simp only at e1 g1
   subst e1
   simp only
   unfold aboveP
   rw [if_pos (by decide)]
   exact .inl ⟨rfl,B',g1⟩
  ·simp only at e1 g1 hk1 hn1 ht1
   subst e1
   simp only
   rw [List.nil_append]at g1
   rcases above_ok (r:=r) g1 hx hlen hlab hno' hn1 (by omega) (fun i h1 h2=>(hk i h1 h2).keep ok g1.ok hk1 (fun _ _=>trivial)) ht1 with e| ⟨j',name,o,e,g',hkp,hn0,il',bl',T,hp,hm⟩
   ·rw [e];exact .inl ⟨rfl,_,g1⟩
   ·rw [e]
    refine .inr ⟨rfl,C++[o],il',bl',g',hn0,T,hp.trans ?_,fun kv=> ?_⟩
    ·rw [List.append_assoc]
     refine List.Perm.trans (l₂:=o::(C++kidBlocks parts)) (List.Perm.cons _ (List.Perm.append_right _ hp1)) ?_
     exact List.perm_middle.symm
    ·rw [hm kv]
     unfold underI
     simp only [List.map_cons,List.map_nil,List.mem_singleton,hcut]
 ·rw [if_neg hc]
  have hlt:common x.pre rest<x.pre.length:=by omega
  obtain⟨k,hkk⟩:∃k,k=common x.pre rest:=⟨_,rfl⟩
  have hst:=common_stop x.pre rest
  rw [←hkk]at hlt hct hcr hst⊢
  have hlab:isNib (x.pre.getD k 0)=true:=by rw [getD8 hlt];exact List.all_eq_true.1 hxr.2.1 _ (List.getElem_mem _)
  have htl:(x.pre.take k).length=k:=by simp;omega
  have hlow:rightB {x with pre:=x.pre.drop (k+1)}=true:=by
   rw [rightB_iff]
   exact⟨by simp only [List.length_drop];omega,all_drop _ _ _ hxr.2.1,hxr.2.2.1,hxr.2.2.2.1,hxr.2.2.2.2.1,hxr.2.2.2.2.2⟩
  rcases build_ok g0 hlow with e| ⟨j1,kid,o1,e,ho1,g1,hoff1,hn1,hrd1,hkp1⟩
  ·rw [e]
   simp only
   split
   ·unfold aboveP
    rw [if_pos (by decide)]
    exact .inl ⟨rfl,_,g0⟩
   ·rw [if_pos (by decide)]
    exact .inl ⟨rfl,_,g0⟩
  ·rw [e]
   simp only
   rw [List.nil_append]at g1
   have T1:=TreeAt.mk (r-k-1) kid {x with pre:=x.pre.drop (k+1)} parts hrd1 (by simp only [List.length_drop];omega) (fun h=>by have:=hkid h;simp only [List.length_drop];omega) hlen (fun i h1 h2=>by
    have:=(hk i h1 h2).keep ok g1.ok hkp1 (fun _ _=>trivial)
    have e2:r-k-1- ({x with pre:=x.pre.drop (k+1)}:Nd).pre.length-1=r-x.pre.length-1:=by simp only [List.length_drop];omega
    rw [e2];exact this)
   rw [hoff1,Int.toNat_natCast]at T1
   by_cases hr:k=rest.length
   ·rw [if_pos hr]
    have hrest:rest=x.pre.take k:=by rw [hct,hr,List.take_length]
    obtain⟨w1,w2,w3,_⟩:=withOne_ok (pre:=x.pre.take k) (val:=value) (by rw [htl];omega) (all_take _ _ _ hxr.2.1) hlab hn1
    unfold aboveP
    rw [if_neg (by simp),if_pos w1,w2]
    rcases build_ok g1 w3 with e| ⟨j2,name,o2,e,ho2,g2,hoff2,hn2,hrd2,hkp2⟩
    ·rw [e];exact .inl ⟨rfl,_,g1⟩
    ·rw [e]
     have T2:=tree_one (r:=r) hrd2 hoff2 (by rw [htl];omega) (by rw [htl];exact T1.keep g1.ok g2.ok hkp2 (fun _ _=>trivial))
     rw [under_low x k hlt parts,if_pos hv]at T2
     refine .inr ⟨rfl,[o1]++[o2],_,_,g2,hn2,T2,?_,fun kv=> ?_⟩
     ·exact(List.Perm.swap o1 o2 _)
     ·rw [hrest]
      simp only [List.cons_append,List.nil_append,List.mem_cons]
      exact Or.comm
   ·rw [if_neg hr,if_neg (by simp)]
    have hltr:k<rest.length:=by omega
    obtain⟨w1,w2,w3,_⟩:=withOne_ok (pre:=x.pre.take k) (val:=0) (by rw [htl];omega) (all_take _ _ _ hxr.2.1) hlab hn1
    rw [if_pos w1,w2]
    have hlab2:isNib (rest.getD k 0)=true:=by rw [getD8 hltr];exact List.all_eq_true.1 hrn _ (List.getElem_mem _)
    have hL:=leaf_ok (rest.length+1) g1 (r-k-1) (rest.drop (k+1)) value (by rw [List.length_drop];omega) (by rw [List.length_drop];omega) (all_drop _ _ _ hrn) hv
    generalize leafP (rest.length+1) j1 (rest.drop (k+1)) value=res at hL
    obtain⟨j2,kid2,e⟩:=res
    rcases hL with⟨e1,B',g2⟩| ⟨e1,C,bl,g2,hk2,hn2,ht2,hp2⟩
    ·simp only at e1 g2
     subst e1
     simp only
     unfold aboveP
     rw [if_pos (by decide)]
     exact .inl ⟨rfl,B',g2⟩
    ·simp only at e1 g2 hk2 hn2 ht2
     subst e1
     simp only
     have hdiff:hasLb [x.pre.getD k 0] (rest.getD k 0)=false:=by
      have h1:=hst hlt hltr
      unfold hasLb
      simp only [List.any_cons,List.any_nil,Bool.or_false,beq_eq_false_iff_ne]
      rw [getD8 hlt,getD8 hltr]
      exact fun e=>h1 (UInt8.toNat_inj.1 e)
     rcases above_ok (r:=r) (parts:=[⟨_,_⟩]) g2 w3 rfl hlab2 hdiff hn2 (by rw [htl];omega) (fun i h1 h2=>by
      simp only [List.length_cons,List.length_nil]at h1
      have:i=0:=by omega
      subst this
      rw [show(⟨x.pre.take k,0,[x.pre.getD k 0],[kid]⟩:Nd).pre.length=k from htl]
      exact T1.keep g1.ok g2.ok hk2 (fun _ _=>trivial)) (by rw [show(⟨x.pre.take k,0,[x.pre.getD k 0],[kid]⟩:Nd).pre.length=k from htl];exact ht2)with e| ⟨j',name,o,e,g',hkp,hn0,il',bl',T,hp,hm⟩
     ·rw [e];exact .inl ⟨rfl,_,g2⟩
     ·rw [e]
      refine .inr ⟨rfl,[o1]++C++[o],il',bl',g',hn0,T,hp.trans ?_,fun kv=> ?_⟩
      ·have e3:kidBlocks [⟨ownItems {x with pre:=x.pre.drop (k+1)}++kidItems (x.pre.drop (k+1)) x.labels parts,o1::kidBlocks parts⟩]=o1::kidBlocks parts:=by simp [kidBlocks]
       rw [e3]
       have p1:(o::bl++o1::kidBlocks parts).Perm (o::C++o1::kidBlocks parts):=List.Perm.append_right _ (List.Perm.cons _ hp2)
       refine p1.trans ?_
       have e4:[o1]++C++[o]++kidBlocks parts=o1::(C++o::kidBlocks parts):=by simp
       rw [e4]
       refine(List.perm_middle (a:=o1) (l₁:=o::C) (l₂:=kidBlocks parts)).trans (List.Perm.cons _ ?_)
       exact(List.perm_middle (a:=o) (l₁:=C) (l₂:=kidBlocks parts)).symm
      ·rw [hm kv]
       have e3:ownItems (⟨x.pre.take k,0,[x.pre.getD k 0],[kid]⟩:Nd)++kidItems (x.pre.take k) [x.pre.getD k 0] [⟨ownItems {x with pre:=x.pre.drop (k+1)}++kidItems (x.pre.drop (k+1)) x.labels parts,o1::kidBlocks parts⟩]=ownItems x++kidItems x.pre x.labels parts:=by
        rw [←under_low x k hlt parts]
        simp [ownItems,kidItems]
       rw [e3]
       have e4:x.pre.take k++rest.getD k 0::rest.drop (k+1)=rest:=by rw [hct];exact cut8 hltr
       unfold underI
       simp only [List.map_cons,List.map_nil,List.mem_singleton,e4]
end
theorem wordsAt_get(ws:Nat→UInt64)(j n t:Nat)(h:t<(wordsAt ws j n).length):(wordsAt ws j n)[t]=ws (j+t):=by
 simp [wordsAt]
theorem putKids_set:∀(ls:List UInt8)(ks:List UInt64)(row:List UInt64)(j:Nat)(k:UInt64),(∀b∈ls,4+b.toNat≠j)→putKids (row.set j k) ls ks=(putKids row ls ks).set j k
 | [],ks,row,j,k,_=>by cases ks<;>simp [putKids]
 | a::ls,[],row,j,k,_=>by simp [putKids]
 | a::ls,k0::ks,row,j,k,h=>by
   rw [putKids,putKids,←List.set_comm _ _ (h a (List.mem_cons_self ..)),putKids_set ls ks _ j k (fun b hb=>h b (List.mem_cons_of_mem _ hb))]
theorem putKids_setKid:∀(ls:List UInt8)(ks:List UInt64)(row:List UInt64)(i:Nat)(k:UInt64)(h1:i<ls.length),ls.length=ks.length→risingB ls=true→putKids row ls (ks.set i k)=(putKids row ls ks).set (4+ls[i].toNat) k
 | a::ls,k0::ks,row,0,k,_,_,hr=>by
   obtain⟨_,h2⟩:=rising_tail hr
   rw [List.set_cons_zero,putKids,putKids]
   have h3:∀b∈ls,4+b.toNat≠4+a.toNat:=fun b hb=>by have:=h2 b hb;omega
   rw [putKids_set ls ks row _ k h3,putKids_set ls ks row _ k0 h3]
   simp only [List.getElem_cons_zero,List.set_set]
 | a::ls,k0::ks,row,i+1,k,h1,hl,hr=>by
   obtain⟨h3,_⟩:=rising_tail hr
   rw [List.set_cons_succ,putKids,putKids,putKids_setKid ls ks _ i k (by simpa using h1) (by simpa using hl) h3]
   rfl
def ndKid(x:Nd)(i:Nat)(k:UInt64):Nd:={x with kids:=x.kids.set i k}
theorem ndKid_right{x:Nd}(h:rightB x=true)(i:Nat){k:UInt64}(hk:k≠0):rightB (ndKid x i k)=true:=by
 obtain⟨h1,h2,h3,h4,h5,h6⟩:=(rightB_iff x).1 h
 rw [rightB_iff]
 have aux:∀j(hj:j<(x.kids.set i k).length),(x.kids.set i k)[j].toNat≠0:=fun j hj=>by
  rw [List.getElem_set]
  split
  ·exact u64_ne hk
  ·exact h6 j (by rwa [List.length_set]at hj)
 exact⟨h1,h2,by show _=(x.kids.set i k).length;rw [List.length_set];exact h3,h4,h5,aux⟩
theorem ndKid_class(x:Nd)(i:Nat)(k:UInt64):classN (ndKid x i k)=classN x:=by
 unfold classN ndKid
 rw [List.length_set]
theorem ndKid_enc{x:Nd}(h:rightB x=true){i:Nat}(hi:i<x.kids.length)(k:UInt64):encW (ndKid x i k)=(encW x).set (posN x i) k:=by
 obtain⟨h1,h2,h3,h4,h5,h6⟩:=(rightB_iff x).1 h
 unfold encW posN
 rw [show(ndKid x i k).kids=x.kids.set i k from rfl,List.length_set]
 by_cases h4':x.kids.length≤4
 ·rw [if_pos h4',if_pos h4',if_pos h4']
  unfold encS
  rw [show(ndKid x i k).kids=x.kids.set i k from rfl,show(ndKid x i k).pre=x.pre from rfl,show(ndKid x i k).val=x.val from rfl,show(ndKid x i k).labels=x.labels from rfl,List.length_set]
  rw [List.set_append_left _ _ (by simp;omega),List.set_append_right _ _ (by simp)]
  simp
 ·rw [if_neg h4',if_neg h4',if_neg h4']
  unfold encB
  rw [show headB (ndKid x i k)=headB x by unfold headB;rw [show(ndKid x i k).kids=x.kids.set i k from rfl,List.length_set];rfl,show(ndKid x i k).labels=x.labels from rfl,show(ndKid x i k).kids=x.kids.set i k from rfl]
  rw [putKids_setKid x.labels x.kids (headB x) i k (by omega) h3 h5,getD8 (by omega)]
theorem kidP_some{x:Nd}(h:rightB x=true){lab:UInt8}{kid:UInt64}{number:Nat}(hk:kidP x lab=some (kid,number)):∃(i:Nat)(h1:i<x.kids.length)(h2:i<x.labels.length),x.labels[i]=lab∧kid=x.kids[i]∧number=posN x i:=by
 have hl:=((rightB_iff x).1 h).2.2.1
 unfold kidP at hk
 split at hk
 ·rename_i i hf
  rw [if_pos h]at hk
  simp only [Option.some.injEq,Prod.mk.injEq]at hk
  unfold findLb at hf
  obtain⟨hi,hp,_⟩:=List.findIdx?_eq_some_iff_getElem.1 hf
  have he:x.labels[i]=lab:=UInt8.toNat_inj.1 (by simpa using hp)
  refine⟨i,by omega,hi,he,?_,?_⟩
  ·rw [←hk.1,List.getD_eq_getElem?_getD,List.getElem?_eq_getElem (by omega)];rfl
  ·rw [←hk.2]
   unfold posN
   rw [getD8 hi,he]
 ·cases hk
theorem kidP_none{x:Nd}(h:rightB x=true){lab:UInt8}(hk:kidP x lab=none):hasLb x.labels lab=false:=by
 unfold kidP at hk
 split at hk
 ·rw [if_pos h]at hk;cases hk
 ·rename_i hf
  unfold findLb at hf
  rw [List.findIdx?_eq_none_iff]at hf
  unfold hasLb
  rw [List.any_eq_false]
  intro y hy
  have:=hf y hy
  simpa using this
theorem kidItems_at(pre:List UInt8)(ls:List UInt8)(ps:List Part)(i:Nat)(h1:i<ls.length)(h2:i<ps.length)(h:ls.length=ps.length):
 kidItems pre ls ps=kidItems pre (ls.take i) (ps.take i)++(underI pre ls[i] ps[i].items++kidItems pre (ls.drop (i+1)) (ps.drop (i+1))):=by
 rw [kidItems_split pre ls ps i h,List.drop_eq_getElem_cons h1,List.drop_eq_getElem_cons h2]
 rfl
theorem kidBlocks_at(ps:List Part)(i:Nat)(h2:i<ps.length):kidBlocks ps=kidBlocks (ps.take i)++(ps[i].blocks++kidBlocks (ps.drop (i+1))):=by
 rw [kidBlocks_split ps i,List.drop_eq_getElem_cons h2]
 rfl
def mapQ(q:List UInt8)(l:List Kv):List Kv:=l.map fun kv=>(q++kv.1,kv.2)
theorem mapQ_nil(l:List Kv):mapQ [] l=l:=by simp [mapQ]
theorem underI_mapQ(pre:List UInt8)(lb:UInt8)(q:List UInt8)(A l B:List Kv):underI pre lb (A++mapQ q l++B)=underI pre lb A++mapQ (pre++lb::q) l++underI pre lb B:=by
 unfold underI mapQ
 simp [List.map_map,Function.comp_def,List.append_assoc]
structure Spot0(L:Nat)(s:St)(r:Nat)(name:UInt64)(items:List Kv)(blocks:List Nat)(word:Int)(rest:List UInt8)(last:Pl)(rest' q:List UInt8)(rl:Nat)(nl:UInt64)(parts:List Part)(A B:List Kv)(b1 b2:List Nat):Prop where
 rd:readP s nl=some last.nd
 off:offOf nl=last.off
 pre:last.nd.pre.length≤rl
 kid:last.nd.kids≠[]→last.nd.pre.length+1≤rl
 len:parts.length=last.nd.kids.length
 sub:∀i(h1:i<last.nd.kids.length)(h2:i<parts.length),TreeAt s (rl-last.nd.pre.length-1) last.nd.kids[i] parts[i].items parts[i].blocks
 cut:rest=q++rest'
 lens:q.length+rl=r
 its:items=A++mapQ q (ownItems last.nd++kidItems last.nd.pre last.nd.labels parts)++B
 bls:blocks=b1++(last.off.toNat::kidBlocks parts)++b2
 lo:∀kv∈A,∀t,Op.bytesLess kv.1 (q++t)=true
 hi:∀kv∈B,∀t,Op.bytesLess (q++t) kv.1=true
 wd:(q=[]∧last.word=word∧nl=name)∨(q≠[]∧∃p c j,p∈b1∧TakenAt s p c∧inBlk p c j∧last.word=((8*j:Nat):Int)∧s.ws j=nl)
 swap:∀(s':St)(name':UInt64)(il':List Kv)(bl':List Nat),PoolOk L s'→name'≠0→TreeAt s' rl name' il' bl'→(∀o c,(o∈b1∨o∈b2)→TakenAt s o c→TakenAt s' o c∧∀j,inBlk o c j→s'.ws j=if((8*j:Nat):Int)=last.word then name' else s.ws j)→
  TreeAt s' r (if q=[]then name' else name) (A++mapQ q il'++B) (b1++bl'++b2)
structure Spot(L:Nat)(s:St)(r:Nat)(name:UInt64)(items:List Kv)(blocks:List Nat)(word:Int)(rest:List UInt8)(last:Pl)(rest' q:List UInt8)(rl:Nat)(nl:UInt64)(parts:List Part)(A B:List Kv)(b1 b2:List Nat):Prop extends Spot0 L s r name items blocks word rest last rest' q rl nl parts A B b1 b2 where
 stop:common last.nd.pre rest'<last.nd.pre.length∨common last.nd.pre rest'=rest'.length∨kidP last.nd (rest'.getD (common last.nd.pre rest') 0)=none
section
variable{L:Nat}{s:St}
theorem inBlk_ne(ok:PoolOk L s){o p c d j k:Nat}(h:TakenAt s o c)(k1:TakenAt s p d)(hne:o≠p)(hj:inBlk o c j)(hk:inBlk p d k):j≠k:=fun e=>by
 subst e
 exact apart_words (taken_apart ok h k1 hne) (h.bounds ok).2.2 (k1.bounds ok).2.2 hj hk
theorem spot_lift(ok:PoolOk L s){r:Nat}{name:UInt64}{nd:Nd}{parts:List Part}{o:Nat}{rest rest2:List UInt8}{word:Int}{i:Nat}(ho:offOf name=o)(htk:TakenAt s o (classN nd))(hr:rightB nd=true)(hw:wordsAt s.ws (o/8) (8*linesN (classN nd))=encW nd)
 (hpre:nd.pre.length≤r)(hlen:parts.length=nd.kids.length)
 (hk:∀i(h1:i<nd.kids.length)(h2:i<parts.length),TreeAt s (r-nd.pre.length-1) nd.kids[i] parts[i].items parts[i].blocks)(hnd:((offOf name).toNat::kidBlocks parts).Nodup)(hi1:i<nd.kids.length)(hi2:i<nd.labels.length)(hi3:i<parts.length)(hkr:nd.pre.length+1≤r)(hcut:nd.pre++nd.labels[i]::rest2=rest)
 {last:Pl}{rest' q0:List UInt8}{rl:Nat}{nl:UInt64}{parts0:List Part}{A0 B0:List Kv}{b10 b20:List Nat}
 (S:Spot0 L s (r-nd.pre.length-1) nd.kids[i] parts[i].items parts[i].blocks (offOf name+8*(posN nd i:Nat)) rest2 last rest' q0 rl nl parts0 A0 B0 b10 b20):
 Spot0 L s r name (ownItems nd++kidItems nd.pre nd.labels parts) ((offOf name).toNat::kidBlocks parts) word rest last rest' (nd.pre++nd.labels[i]::q0) rl nl parts0 (ownItems nd++kidItems nd.pre (nd.labels.take i) (parts.take i)++underI nd.pre nd.labels[i] A0) (underI nd.pre nd.labels[i] B0++kidItems nd.pre (nd.labels.drop (i+1)) (parts.drop (i+1))) (o::kidBlocks (parts.take i)++b10) (b20++kidBlocks (parts.drop (i+1))):=by
 have hr':=(rightB_iff nd).1 hr
 obtain⟨hnd1,hnd2⟩:=List.nodup_cons.1 hnd
 have hkb:=kidBlocks_at parts i hi3
 have hnd2':=hnd2
 rw [hkb]at hnd2'
 obtain⟨n1,n2,n3⟩:=List.nodup_append.1 hnd2'
 obtain⟨n4,n5,n6⟩:=List.nodup_append.1 n2
 rw [ho]at hnd1
 rw [Int.toNat_natCast]at hnd1
 obtain⟨pf1,pf2,_⟩:=posN_facts nd hr i hi1
 have hpos:(encW nd)[posN nd i]? =some nd.kids[i]:=enc_pos nd hr i hi1
 have hbo:=htk.bounds ok
 have hlw:=encW_lines' nd
 have hpw:inBlk o (classN nd) (o/8+posN nd i):=⟨by omega,by omega⟩
 have hwp:s.ws (o/8+posN nd i)=nd.kids[i]:=by
  rw [←hw]at hpos
  unfold wordsAt at hpos
  rw [List.getElem?_map,List.getElem?_range (by omega)]at hpos
  simpa using hpos
 have hword:∃p c j,(p=o∨p∈b10)∧TakenAt s p c∧inBlk p c j∧last.word=((8*j:Nat):Int)∧s.ws j=nl:=by
  rcases S.wd with⟨e1,e2,e3⟩| ⟨_,p,c,j,h1,h2,h3,h4,h5⟩
  ·refine⟨o,_,_,.inl rfl,htk,hpw,?_,by rw [hwp,e3]⟩
   rw [e2,ho]
   omega
  ·exact⟨p,c,j,.inr h1,h2,h3,h4,h5⟩
 have hb10:∀p∈b10,p∈parts[i].blocks:=fun p hp=>by rw [S.bls];simp [hp]
 have hb20:∀p∈b20,p∈parts[i].blocks:=fun p hp=>by rw [S.bls];simp [hp]
 have hlabr:∀j(h:j<nd.labels.length),j<i→nd.labels[j].toNat<nd.labels[i].toNat:=fun j h hji=>rising_lt' _ hr'.2.2.2.2.1 j i hji hi2
 have hlabr2:∀j(h:j<nd.labels.length),i<j→nd.labels[i].toNat<nd.labels[j].toNat:=fun j h hji=>rising_lt' _ hr'.2.2.2.2.1 i j hji h
 refine⟨S.rd,S.off,S.pre,S.kid,S.len,S.sub,?_,?_,?_,?_,?_,?_,?_,?_⟩
 ·rw [List.append_assoc,List.cons_append,←S.cut]
  exact hcut.symm
 ·have:=S.lens
  simp only [List.length_append,List.length_cons]
  omega
 ·rw [kidItems_at nd.pre nd.labels parts i hi2 hi3 (by omega),S.its,underI_mapQ]
  simp only [List.append_assoc]
 ·rw [ho,Int.toNat_natCast,hkb,S.bls]
  simp only [List.append_assoc,List.cons_append]
 ·intro kv hkv t
  rw [List.append_assoc,List.cons_append]
  rcases List.mem_append.1 hkv with h| h
  ·rcases List.mem_append.1 h with h| h
   ·obtain⟨rfl,_⟩:=ownItems_mem h
    exact bless_pre _ _ _
   ·obtain⟨j,j1,j2,kv',_,rfl⟩:=kidItems_mem h
    simp only [List.length_take]at j1
    rw [List.getElem_take,bless_app]
    exact bless_head (hlabr j (by omega) (by omega)) _ _
  ·obtain⟨kv',h',rfl⟩:=List.mem_map.1 h
   have:=S.lo kv' h' t
   show Op.bytesLess (nd.pre++nd.labels[i]::kv'.1) _=true
   rw [bless_app]
   simp [Op.bytesLess,this]
 ·intro kv hkv t
  rw [List.append_assoc,List.cons_append]
  rcases List.mem_append.1 hkv with h| h
  ·obtain⟨kv',h',rfl⟩:=List.mem_map.1 h
   have:=S.hi kv' h' t
   show Op.bytesLess _ (nd.pre++nd.labels[i]::kv'.1)=true
   rw [bless_app]
   simp [Op.bytesLess,this]
  ·obtain⟨j,j1,j2,kv',_,rfl⟩:=kidItems_mem h
   simp only [List.length_drop]at j1
   rw [List.getElem_drop,bless_app]
   exact bless_head (hlabr2 _ (by omega) (by omega)) _ _
 ·right
  refine⟨by simp,?_⟩
  obtain⟨p,c,j,h1,h2⟩:=hword
  refine⟨p,c,j,?_,h2⟩
  rcases h1 with rfl| h1
  ·simp
  ·simp [h1]
 ·intro s' name' il' bl' ok' hn' T' hkeep
  obtain⟨pw,cw,jw,hpw1,hpw2,hpw3,hpw4,hpw5⟩:=hword
  have hne_word:∀p c j,p≠pw→TakenAt s p c→inBlk p c j→¬((8*j:Nat):Int)=last.word:=fun p c j hp ht hj e=>by
   have:=inBlk_ne ok ht hpw2 hp hj hpw3
   rw [hpw4]at e
   omega
  have T0:=S.swap s' name' il' bl' ok' hn' T' (fun p c hp ht=>hkeep p c (by
   rcases hp with hp| hp
   ·left;simp [hp]
   ·right;simp [hp]) ht)
  obtain⟨kid',hkid'⟩:∃k,k=(if q0=[]then name' else nd.kids[i]):=⟨_,rfl⟩
  rw [←hkid']at T0
  have hk0':kid'≠0:=by
   rw [hkid']
   split
   ·exact hn'
   ·exact fun e=>hr'.2.2.2.2.2 i hi1 (by rw [e];rfl)
  obtain⟨t1,t2⟩:=hkeep o _ (by left;simp) htk
  have hread:readP s' name=some (ndKid nd i kid'):=by
   refine read_of ok' ho (by rw [ndKid_class];exact t1) (ndKid_right hr i hk0') ?_
   rw [ndKid_class,ndKid_enc hr hi1 kid']
   refine List.ext_getElem (by simp [wordsAt,hlw]) fun t g1 g2=> ?_
   have htl:t<8*linesN (classN nd):=by simpa [wordsAt]using g1
   have hold:s.ws (o/8+t)=(encW nd)[t]'(by omega):=by
    have:(wordsAt s.ws (o/8) (8*linesN (classN nd)))[t]? =(encW nd)[t]? :=by rw [hw]
    unfold wordsAt at this
    rw [List.getElem?_map,List.getElem?_range htl,List.getElem?_eq_getElem (by omega)]at this
    simpa using this
   have hib:inBlk o (classN nd) (o/8+t):=⟨by omega,by omega⟩
   rw [wordsAt_get,t2 _ hib,List.getElem_set]
   rcases S.wd with⟨e1,e2,e3⟩| ⟨e1,p,c,j,p1,p2,p3,p4,p5⟩
   ·have hkn:kid'=name':=by rw [hkid',if_pos e1]
    by_cases e:t=posN nd i
    ·rw [if_pos (by rw [e2,ho];omega),if_pos e.symm,hkn]
    ·rw [if_neg (by rw [e2,ho];omega),if_neg (fun h=>e h.symm)]
     exact hold
   ·have hkn:kid'=nd.kids[i]:=by rw [hkid',if_neg e1]
    have hpo:p≠o:=fun e=>hnd1 (by rw [←e,hkb];simp [hb10 p p1])
    have:¬((8*(o/8+t):Nat):Int)=last.word:=fun e=>by
     have:=inBlk_ne ok htk p2 (fun e=>hpo e.symm) hib p3
     rw [p4]at e
     omega
    rw [if_neg this]
    by_cases e:posN nd i=t
    ·subst e
     rw [if_pos rfl,hkn,hwp]
    ·rw [if_neg e]
     exact hold
  have T2:=TreeAt.mk (s:=s') r name (ndKid nd i kid') (parts.set i ⟨A0++mapQ q0 il'++B0,b10++bl'++b20⟩) hread hpre (fun _=>hkr) (by show _=(nd.kids.set i kid').length;rw [List.length_set,List.length_set];exact hlen) (fun t g1 g2=>by
   have g1':t<nd.kids.length:=by have:t<(nd.kids.set i kid').length:=g1;rwa [List.length_set]at this
   have g2':t<parts.length:=by rwa [List.length_set]at g2
   by_cases e:i=t
   ·subst e
    have e1:(ndKid nd i kid').kids[i]=kid':=by show(nd.kids.set i kid')[i]'(by rw [List.length_set];exact hi1)=kid';rw [List.getElem_set_self]
    have e2:(parts.set i ⟨A0++mapQ q0 il'++B0,b10++bl'++b20⟩)[i]=⟨A0++mapQ q0 il'++B0,b10++bl'++b20⟩:=by rw [List.getElem_set_self]
    rw [e1,e2]
    exact T0
   ·have e1:(ndKid nd i kid').kids[t]=nd.kids[t]:=by show(nd.kids.set i kid')[t]'(by rw [List.length_set];exact g1')=nd.kids[t];rw [List.getElem_set_ne e]
    have e2:(parts.set i ⟨A0++mapQ q0 il'++B0,b10++bl'++b20⟩)[t]=parts[t]:=by rw [List.getElem_set_ne e]
    rw [e1,e2]
    refine(hk t g1' g2').keep ok ok' (B:=fun p=>p∈parts[t].blocks) (fun p c hp ht=> ?_) (fun _ h=>h)
    have hpin:p∈kidBlocks (parts.take i)∨p∈kidBlocks (parts.drop (i+1)):=by
     unfold kidBlocks
     rcases Nat.lt_or_gt_of_ne e with h| h
     ·right
      exact List.mem_flatten.2 ⟨_,List.mem_map.2 ⟨parts[t],List.mem_drop_iff_getElem.2 ⟨t- (i+1),by omega,by simp only [show i+1+(t- (i+1))=t by omega]⟩,rfl⟩,hp⟩
     ·left
      exact List.mem_flatten.2 ⟨_,List.mem_map.2 ⟨parts[t],List.mem_take_iff_getElem.2 ⟨t,by omega,rfl⟩,rfl⟩,hp⟩
    obtain⟨u1,u2⟩:=hkeep p c (by
     rcases hpin with h| h
     ·left;simp [h]
     ·right;simp [h]) ht
    refine⟨u1,fun j hj=> ?_⟩
    rw [u2 j hj,if_neg]
    refine hne_word p c j (fun e'=> ?_) ht hj
    subst e'
    rcases hpw1 with h| h
    ·subst h
     refine hnd1 ?_
     rw [hkb]
     rcases hpin with h| h<;>simp [h]
    ·have h':=hb10 _ h
     rcases hpin with h2| h2
     ·exact n3 _ h2 _ (by simp [h']) rfl
     ·exact n6 _ h' _ h2 rfl)
  rw [if_neg (by simp)]
  have hl2:i<(parts.set i (⟨A0++mapQ q0 il'++B0,b10++bl'++b20⟩:Part)).length:=by rw [List.length_set];exact hi3
  rw [ho,Int.toNat_natCast,show(ndKid nd i kid').pre=nd.pre from rfl,show(ndKid nd i kid').labels=nd.labels from rfl,show ownItems (ndKid nd i kid')=ownItems nd from rfl,
   kidItems_at nd.pre nd.labels _ i hi2 hl2 (by rw [List.length_set];omega),kidBlocks_at _ i hl2]at T2
  simp only [List.getElem_set_self,List.take_set_of_le (Nat.le_refl i),List.drop_set_of_lt (Nat.lt_succ_self i)]at T2
  rw [underI_mapQ]at T2
  simpa only [List.append_assoc,List.cons_append]using T2
theorem spot_here{r:Nat}{name:UInt64}{nd:Nd}{parts:List Part}{rest:List UInt8}{label:UInt8}{word:Int}(hrd:readP s name=some nd)(hpre:nd.pre.length≤r)(hkid:nd.kids≠[]→nd.pre.length+1≤r)(hlen:parts.length=nd.kids.length)
 (hk:∀i(h1:i<nd.kids.length)(h2:i<parts.length),TreeAt s (r-nd.pre.length-1) nd.kids[i] parts[i].items parts[i].blocks):
 Spot0 L s r name (ownItems nd++kidItems nd.pre nd.labels parts) ((offOf name).toNat::kidBlocks parts) word rest ⟨nd,offOf name,label,word⟩ rest [] r name parts [] [] [] []:=
 ⟨hrd,rfl,hpre,hkid,hlen,hk,rfl,by simp,by simp [mapQ_nil],by simp,(fun _ h=>by cases h),(fun _ h=>by cases h),.inl ⟨rfl,rfl,rfl⟩,fun s' name' il' bl' _ _ T _=>by simpa [mapQ_nil]using T⟩
theorem path_down{nd:Nd}{rest:List UInt8}{kid:UInt64}{number:Nat}(hr:rightB nd=true)(h1:¬(common nd.pre rest<nd.pre.length∨common nd.pre rest=rest.length))(hkp:kidP nd (rest.getD (common nd.pre rest) 0)=some (kid,number)):
 common nd.pre rest=nd.pre.length∧nd.pre.length<rest.length∧∃(i:Nat)(hi1:i<nd.kids.length)(hi2:i<nd.labels.length),kid=nd.kids[i]∧number=posN nd i∧nd.labels[i]=rest.getD nd.pre.length 0∧nd.pre++nd.labels[i]::rest.drop (nd.pre.length+1)=rest:=by
 obtain⟨i,hi1,hi2,hlab,rfl,rfl⟩:=kidP_some hr hkp
 have hc:common nd.pre rest=nd.pre.length:=by have:=common_le_left nd.pre rest;omega
 have hlt:nd.pre.length<rest.length:=by have:=common_le_right nd.pre rest;omega
 have hct:=common_take nd.pre rest
 rw [hc]at hct hlab
 rw [List.take_length]at hct
 have hcut:=cut8 hlt
 rw [←hct,←hlab]at hcut
 exact⟨hc,hlt,i,hi1,hi2,rfl,rfl,hlab,hcut⟩
theorem path_spot(ok:PoolOk L s):∀(f r:Nat)(name:UInt64)(items:List Kv)(blocks:List Nat)(rest:List UInt8)(label:UInt8)(word:Int)(way:List Pl),TreeAt s r name items blocks→blocks.Nodup→rest.length<f→rest.length≤r→name≠0→
 ∃last rest' q rl nl parts A B b1 b2 way0,pathGo s f name rest label word way=some (way++way0++[last],rest')∧Spot L s r name items blocks word rest last rest' q rl nl parts A B b1 b2
 | 0,_,_,_,_,_,_,_,_,_,_,h,_,_=>absurd h (by omega)
 | f+1,r,name,items,blocks,rest,label,word,way,ht,hnd,hf,hrl,hn0=>by
   cases ht with
   | mk _ _ nd parts hrd hpre hkid hlen hk=>
     obtain⟨o,ho,htk,hr,hw⟩:=read_some ok hrd
     rw [pathGo,if_neg hn0,hrd]
     dsimp only
     by_cases h1:common nd.pre rest<nd.pre.length∨common nd.pre rest=rest.length
     ·rw [if_pos h1]
      exact⟨⟨nd,offOf name,label,word⟩,_,_,_,_,_,_,_,_,_,[],by simp,⟨spot_here hrd hpre hkid hlen hk,h1.imp id .inl⟩⟩
     ·rw [if_neg h1]
      cases hkp:kidP nd (rest.getD (common nd.pre rest) 0)with
      | none=>exact⟨⟨nd,offOf name,label,word⟩,_,_,_,_,_,_,_,_,_,[],by simp,⟨spot_here hrd hpre hkid hlen hk,.inr (.inr hkp)⟩⟩
      | some kn=>
        obtain⟨kid,number⟩:=kn
        obtain⟨hc,hlt,i,hi1,hi2,rfl,rfl,hlab,hcut⟩:=path_down hr h1 hkp
        have hi3:i<parts.length:=by omega
        have hkr:=hkid (fun e=>by rw [e]at hi1;simp at hi1)
        have hnd2:=(List.nodup_cons.1 hnd).2
        rw [kidBlocks_at parts i hi3]at hnd2
        have n4:=(List.nodup_append.1 (List.nodup_append.1 hnd2).2.1).1
        obtain⟨last,rest',q0,rl,nl,parts0,A0,B0,b10,b20,way0,hp,S⟩:=path_spot ok f (r-nd.pre.length-1) nd.kids[i] parts[i].items parts[i].blocks (rest.drop (nd.pre.length+1)) (rest.getD (common nd.pre rest) 0) (offOf name+8*(posN nd i:Nat)) (way++[⟨nd,offOf name,label,word⟩]) (hk i hi1 hi3) n4 (by rw [List.length_drop];omega) (by rw [List.length_drop];omega) (fun e=>((rightB_iff nd).1 hr).2.2.2.2.2 i hi1 (by rw [e];rfl))
        simp only
        rw [hc]at hp⊢
        exact⟨last,rest',_,rl,nl,parts0,_,_,_,_,⟨nd,offOf name,label,word⟩::way0,by rw [hp];simp,⟨spot_lift ok ho htk hr hw hpre hlen hk hnd hi1 hi2 hi3 hkr hcut S.toSpot0,S.stop⟩⟩
end
structure IxX(X:Nat→Prop)(L:Nat)(s:St)(items:List Kv):Prop where
 ok:PoolOk L s
 nh:∀o d,¬HeldAt s o d
 tree:(s.ws 9=0∧items=[]∧∀o,(∃d,TakenAt s o d)↔X o)∨(∃blocks,s.ws 9≠0∧TreeAt s 32 (s.ws 9) items blocks∧blocks.Nodup∧(∀o∈blocks,¬X o)∧∀o,(∃d,TakenAt s o d)↔o∈blocks∨X o)
 even:∀kv∈items,keyOk kv.1=true
abbrev IxOk:=IxX (fun _=>False)
structure KeepX(X:Nat→Prop)(s s':St):Prop where
 sh:s'.sh=s.sh
 low:∀j,j<16→j≠9→s'.ws j=s.ws j
 keep:KeepT s s' X
section
variable{X:Nat→Prop}{L:Nat}{s:St}
theorem held_same{s s':St}(h1:s'.hd=s.hd)(h2:s'.sh=s.sh)(o d:Nat):HeldAt s' o d↔HeldAt s o d:=by
 unfold HeldAt hdN
 rw [h1,h2]
theorem drops_ok:∀(l:List Nat){s:St}(_:PoolOk L s),l.Nodup→(∀o∈l,∃d,TakenAt s o d)→
 ∃s2,dropsP s (l.map Int.ofNat)=s2∧PoolOk L s2∧s2.sh=s.sh∧s2.hd=s.hd∧(∀j,(j<16∨16+s.sh.slabs≤j)→s2.ws j=s.ws j)∧∀o d,TakenAt s2 o d↔TakenAt s o d∧o∉l
 | [],s,ok,_,_=>⟨s,rfl,ok,rfl,rfl,fun _ _=>rfl,fun o d=>by simp⟩
 | o::l,s,ok,hn,ht=>by
   obtain⟨hn1,hn2⟩:=List.nodup_cons.1 hn
   obtain⟨d,hd⟩:=ht o (List.mem_cons_self ..)
   obtain⟨s1,e1,ok1,sh1,hd1,ws1,tk1⟩:=drop_ok ok hd
   obtain⟨s2,e2,ok2,sh2,hd2,ws2,tk2⟩:=drops_ok l ok1 hn2 (fun p hp=>by
    obtain⟨d',hd'⟩:=ht p (List.mem_cons_of_mem _ hp)
    exact⟨d',(tk1 p d').2 ⟨hd',fun e=>hn1 (e▸hp)⟩⟩)
   refine⟨s2,?_,ok2,sh2.trans sh1,hd2.trans hd1,fun j hj=>(ws2 j (by rw [sh1];exact hj)).trans (ws1 j hj),fun p c=> ?_⟩
   ·rw [←e2]
    unfold dropsP
    rw [List.map_cons,List.foldl_cons]
    show List.foldl _ (dropP s (Int.ofNat o)).1 _=_
    rw [show(Int.ofNat o)=(o:Int)from rfl,e1]
   ·rw [tk2,tk1,List.mem_cons,not_or]
    exact⟨fun h=>⟨h.1.1,h.1.2,h.2⟩,fun h=>⟨⟨h.1,h.2.1⟩,h.2.2⟩⟩
theorem drops_eq:∀(l:List Nat){s:St}(_:PoolOk L s),l.Nodup→(∀o∈l,∃d,TakenAt s o d)→dropsE s (l.map Int.ofNat) 0=(dropsP s (l.map Int.ofNat),0)
 | [],s,_,_,_=>rfl
 | o::l,s,ok,hn,ht=>by
   obtain⟨hn1,hn2⟩:=List.nodup_cons.1 hn
   obtain⟨d,hd⟩:=ht o (List.mem_cons_self ..)
   obtain⟨s1,e1,ok1,sh1,hd1,ws1,tk1⟩:=drop_ok ok hd
   have ih:=drops_eq l ok1 hn2 (fun p hp=>by
    obtain⟨d',hd'⟩:=ht p (List.mem_cons_of_mem _ hp)
    exact⟨d',(tk1 p d').2 ⟨hd',fun e=>hn1 (e▸hp)⟩⟩)
   unfold dropsP at ih⊢
   rw [List.map_cons,List.foldl_cons,dropsE,show(Int.ofNat o)=(o:Int)from rfl,e1]
   simpa using ih
theorem undo_ok{s0:St}{j:Jb}{B:List Nat}(_:PoolOk L s0)(g:Grown L s0 j B):∃s2,dropsP j.s j.made=s2∧PoolOk L s2∧(∀o d,¬HeldAt s2 o d)∧(∀o,(∃d,TakenAt s2 o d)↔∃d,TakenAt s0 o d)∧KeepT s0 s2 (fun _=>True)∧(∀i,i<16→s2.ws i=s0.ws i)∧s2.sh=s0.sh:=by
 obtain⟨s2,e2,ok2,sh2,hd2,ws2,tk2⟩:=drops_ok B g.ok g.nod (fun o ho=>(g.tk o).2 (.inr ho))
 refine⟨s2,by rw [g.made];exact e2,ok2,fun o d h=>g.nh o d ((held_same hd2 sh2 o d).1 h),fun o=> ?_,fun o c _ ht=> ?_,fun i hi=>(ws2 i (.inl hi)).trans (g.low i hi),sh2.trans g.sh⟩
 ·constructor
  ·rintro⟨d,h⟩
   obtain⟨h1,h2⟩:=(tk2 o d).1 h
   exact((g.tk o).1 ⟨d,h1⟩).resolve_right h2
  ·rintro⟨d,h⟩
   obtain⟨h1,_⟩:=g.keep o d trivial h
   exact⟨d,(tk2 o d).2 ⟨h1,fun hB=>g.new o hB d h⟩⟩
 ·obtain⟨h1,h2⟩:=g.keep o c trivial ht
  refine⟨(tk2 o c).2 ⟨h1,fun hB=>g.new o hB c ht⟩,fun j hj=> ?_⟩
  rw [ws2 j (.inr ?_),h2 j hj]
  have:=g.ok.table_words (h1.bounds g.ok).1 hj
  exact this
theorem IxX.same{s':St}{items:List Kv}(h:IxX X L s items)(ok':PoolOk L s')(nh':∀o d,¬HeldAt s' o d)(htk:∀o,(∃d,TakenAt s' o d)↔∃d,TakenAt s o d)(hk:KeepT s s' (fun _=>True))(h9:s'.ws 9=s.ws 9):IxX X L s' items:=by
 refine⟨ok',nh',?_,h.even⟩
 rcases h.tree with⟨h1,h2,h3⟩| ⟨bl,h1,h2,h3,hX,h4⟩
 ·exact .inl ⟨by rw [h9,h1],h2,fun o=>(htk o).trans (h3 o)⟩
 ·exact .inr ⟨bl,by rw [h9];exact h1,by rw [h9];exact h2.keep h.ok ok' hk (fun _ _=>trivial),h3,hX,fun o=>(htk o).trans (h4 o)⟩
theorem bless_ne{a b:List UInt8}(h:Op.bytesLess a b=true):a≠b:=fun e=>by rw [e,bless_irrefl]at h;cases h
theorem mapQ_mem{q:List UInt8}{l:List Kv}{kv:Kv}:kv∈mapQ q l↔∃k,(k,kv.2)∈l∧kv.1=q++k:=by
 unfold mapQ
 rw [List.mem_map]
 constructor
 ·rintro⟨kv',h,rfl⟩;exact⟨kv'.1,h,rfl⟩
 ·rintro⟨k,h,e⟩;exact⟨(k,kv.2),h,by cases kv;simp only at e;subst e;rfl⟩
def PutIs(items items':List Kv)(k:List UInt8)(v:UInt64):Prop:=∀kv,kv∈items'↔kv=(k,v)∨(kv∈items∧kv.1≠k)
def PutOk(X:Nat→Prop)(L:Nat)(s:St)(items:List Kv)(k:List UInt8)(v:UInt64)(r:St×Int):Prop:=
 KeepX X s r.1∧((r.2=6∧IxX X L r.1 items∧∀kv∈items,kv.1≠k)∨(r.2=0∧∃items',IxX X L r.1 items'∧PutIs items items' k v))
theorem keyOk_nib(k:List UInt8):keyOk (nibs k)=true:=keyOk_nibs k
theorem put_empty{items:List Kv}(h:IxX X L s items)(h0:s.ws 9=0)(key:List UInt8)(hk:key.length≤16)(value:UInt64)(hv:value≠0):PutOk X L s items (nibs key) value (putK s key value):=by
 have hi:items=[]∧∀o,(∃d,TakenAt s o d)↔X o:=by
  rcases h.tree with⟨_,h2,h3⟩| ⟨_,h1,_⟩
  ·exact⟨h2,h3⟩
  ·exact absurd h0 h1
 have hlen:=nibs_length key
 have hp:pathP s key=some ([],nibs key):=by
  unfold pathP
  rw [h0,pathGo,if_pos rfl]
 have hL:=leaf_ok ((nibs key).length+1) (Grown.start h.ok h.nh) 32 (nibs key) value (by omega) (by omega) (nibs_nib key) hv
 unfold putK
 rw [if_neg (by omega),if_neg hv,hp]
 simp only [standsP,List.getLast?_nil]
 generalize leafP ((nibs key).length+1) ⟨s,[]⟩ (nibs key) value=res at hL
 obtain⟨j,name,e⟩:=res
 rcases hL with⟨e1,B',g⟩| ⟨e1,C,bl,g,hkp,hn,T,hp⟩
 ·simp only at e1 g
  subst e1
  simp only [finishP]
  rw [if_pos (by decide)]
  obtain⟨s2,e2,ok2,nh2,tk2,kp2,lo2,sh2⟩:=undo_ok h.ok g
  rw [e2]
  refine⟨⟨sh2,fun j hj _=>lo2 j hj,fun o c _ ht=>kp2 o c trivial ht⟩,?_⟩
  exact .inl ⟨rfl,h.same ok2 nh2 tk2 kp2 (lo2 9 (by decide)),fun kv hkv=>by rw [hi.1]at hkv;cases hkv⟩
 ·simp only at e1 g hkp hn T
  subst e1
  rw [List.nil_append]at g
  simp only [finishP,dropsE]
  rw [if_neg (by simp)]
  obtain⟨s',hs'⟩:∃s',s'=({j.s with ws:=put1 j.s.ws ((72:Int).toNat/8) name}:St):=⟨_,rfl⟩
  rw [←hs']
  have hw:∀i,s'.ws i=if i=9 then name else j.s.ws i:=fun i=>by rw [hs'];rfl
  have ok':PoolOk L s':=hs'▸g.ok.words (fun i hi=>by
   show put1 j.s.ws 9 name (16+i)=_
   unfold put1
   rw [if_neg (by omega)])
  have htk:∀o d,TakenAt s' o d↔TakenAt j.s o d:=fun o d=>by rw [hs'];exact Iff.rfl
  have hk':KeepT j.s s' (fun _=>True):=fun o c _ ht=>⟨(htk o c).2 ht,fun i hi=>by
   rw [hw,if_neg]
   have:=g.ok.table_words (ht.bounds g.ok).1 hi
   omega⟩
  have hCX:∀o∈bl,¬X o:=fun o ho hx=>by
   obtain⟨d,hd⟩:=(hi.2 o).2 hx
   exact g.new o (hp.mem_iff.1 ho) d hd
  refine⟨⟨by rw [hs'];exact g.sh,fun j hj hj9=>by rw [hw,if_neg hj9,g.low j hj],fun o c _ ht=> ?_⟩,?_⟩
  ·obtain⟨u1,u2⟩:=g.keep o c trivial ht
   obtain⟨u3,u4⟩:=hk' o c trivial u1
   exact⟨u3,fun j hj=>(u4 j hj).trans (u2 j hj)⟩
  right
  refine⟨rfl,[(nibs key,value)],?_,fun kv=>by rw [hi.1];simp⟩
  refine⟨ok',fun o d hh=>g.nh o d (by rw [hs']at hh;exact hh),.inr ⟨bl,by rw [hw,if_pos rfl];exact hn,by rw [hw,if_pos rfl];exact T.keep g.ok ok' hk' (fun _ _=>trivial),hp.nodup_iff.2 g.nod,hCX,fun o=> ?_⟩,fun kv hkv=>by rw [List.mem_singleton]at hkv;subst hkv;exact keyOk_nib key⟩
  rw [show(∃d,TakenAt s' o d)↔∃d,TakenAt j.s o d from exists_congr (htk o),g.tk o,hp.mem_iff,hi.2 o]
  exact or_comm
end
theorem ndVal_enc(x:Nd)(v:UInt64):encW {x with val:=v}=(encW x).set 2 v:=by
 have hl:(encW {x with val:=v}).length=(encW x).length:=by rw [encW_length,encW_length]
 refine List.ext_getElem? fun i=> ?_
 rw [List.getElem?_set]
 by_cases h:2=i
 ·subst h
  rw [encW_at2,if_pos rfl,if_pos]
  rw [encW_length];split<;>omega
 ·rw [if_neg h,encW_val x v i (fun e=>h e.symm)]
section
variable{X:Nat→Prop}{L:Nat}{s:St}
structure Around0(L:Nat)(s:St)(items:List Kv)(blocks:List Nat)(key:List UInt8)(last:Pl)(rest' q:List UInt8)(rl:Nat)(nl:UInt64)(parts:List Part)(A B:List Kv)(b1 b2:List Nat)(o:Nat):Prop where
 spot:Spot0 L s 32 (s.ws 9) items blocks 72 (nibs key) last rest' q rl nl parts A B b1 b2
 off:last.off=o
 tk:TakenAt s o (classN last.nd)
 right:rightB last.nd=true
 words:wordsAt s.ws (o/8) (8*linesN (classN last.nd))=encW last.nd
 n1:o∉b1
 n2:o∉b2
 n3:o∉kidBlocks parts
 d1:∀p∈b1,p∉kidBlocks parts
 d2:∀p∈b2,p∉kidBlocks parts
 d3:∀p∈b1,p∉b2
 m1:b1.Nodup
 m2:b2.Nodup
 m3:(kidBlocks parts).Nodup
 bls:blocks=b1++(o::kidBlocks parts)++b2
structure Around(L:Nat)(s:St)(items:List Kv)(blocks:List Nat)(key:List UInt8)(last:Pl)(rest' q:List UInt8)(rl:Nat)(nl:UInt64)(parts:List Part)(A B:List Kv)(b1 b2:List Nat)(o:Nat):Prop extends Around0 L s items blocks key last rest' q rl nl parts A B b1 b2 o where
 stop:common last.nd.pre rest'<last.nd.pre.length∨common last.nd.pre rest'=rest'.length∨kidP last.nd (rest'.getD (common last.nd.pre rest') 0)=none
theorem around0(h:PoolOk L s){items:List Kv}{blocks:List Nat}{key rest' q:List UInt8}{last:Pl}{rl:Nat}{nl:UInt64}{parts:List Part}{A B:List Kv}{b1 b2:List Nat}(hnd:blocks.Nodup)(S:Spot0 L s 32 (s.ws 9) items blocks 72 (nibs key) last rest' q rl nl parts A B b1 b2):
 ∃o,Around0 L s items blocks key last rest' q rl nl parts A B b1 b2 o:=by
 obtain⟨o,ho,ht,hr,hw⟩:=read_some h S.rd
 have hoff:last.off=o:=S.off.symm.trans ho
 have hb:=S.bls
 rw [hoff,Int.toNat_natCast]at hb
 have hnd':=hnd
 rw [hb]at hnd'
 obtain⟨x1,x2,x3⟩:=List.nodup_append.1 hnd'
 obtain⟨y1,y2,y3⟩:=List.nodup_append.1 x1
 obtain⟨z1,z2⟩:=List.nodup_cons.1 y2
 exact⟨o,⟨S,hoff,ht,hr,hw,fun h=>y3 _ h _ (List.mem_cons_self ..) rfl,fun h=>x3 _ (by simp) _ h rfl,z1,fun p hp hk=>y3 _ hp _ (List.mem_cons_of_mem _ hk) rfl,fun p hp hk=>x3 _ (by simp [hk]) _ hp rfl,fun p hp hk=>x3 _ (by simp [hp]) _ hk rfl,y1,x2,z2,hb⟩⟩
theorem around(h:PoolOk L s){items:List Kv}{blocks:List Nat}(hn0:s.ws 9≠0)(T:TreeAt s 32 (s.ws 9) items blocks)(hnd:blocks.Nodup)(key:List UInt8)(hk:key.length≤16):
 ∃way last rest' q rl nl parts A B b1 b2 o,pathP s key=some (way++[last],rest')∧Around L s items blocks key last rest' q rl nl parts A B b1 b2 o:=by
 have hlen:=nibs_length key
 obtain⟨last,rest',q,rl,nl,parts,A,B,b1,b2,way0,hp,S⟩:=path_spot h (2*key.length+1) 32 (s.ws 9) items blocks (nibs key) 0 72 [] T hnd (by omega) (by omega) hn0
 obtain⟨o,a⟩:=around0 h hnd S.toSpot0
 exact⟨way0,last,rest',q,rl,nl,parts,A,B,b1,b2,o,by unfold pathP;rw [hp];simp,⟨a,S.stop⟩⟩
variable{items:List Kv}{blocks:List Nat}{key:List UInt8}{last:Pl}{rest' q:List UInt8}{rl:Nat}{nl:UInt64}{parts:List Part}{A B:List Kv}{b1 b2:List Nat}{o:Nat}
theorem Around0.word(ok:PoolOk L s)(a:Around0 L s items blocks key last rest' q rl nl parts A B b1 b2 o):∃jw:Nat,last.word=((8*jw:Nat):Int)∧s.ws jw=nl∧(jw<16∨16+s.sh.slabs≤jw)∧((q=[]∧jw=9)∨(q≠[]∧∃p c,p∈b1∧TakenAt s p c∧inBlk p c jw)):=by
 rcases a.spot.wd with⟨h1,h2,h3⟩| ⟨h1,p,c,j,h2,h3,h4,h5,h6⟩
 ·exact⟨9,by rw [h2];rfl,h3.symm,.inl (by decide),.inl ⟨h1,rfl⟩⟩
 ·exact⟨j,h5,h6,.inr (ok.table_words (h3.bounds ok).1 h4),.inr ⟨h1,p,c,h2,h3,h4⟩⟩
theorem Around0.other(a:Around0 L s items blocks key last rest' q rl nl parts A B b1 b2 o)(kv:Kv)(h:kv∈A∨kv∈B):kv.1≠nibs key:=by
 rw [a.spot.cut]
 rcases h with h| h
 ·exact bless_ne (a.spot.lo kv h rest')
 ·exact fun e=>bless_ne (a.spot.hi kv h rest') e.symm
theorem value_ok{items:List Kv}{blocks:List Nat}(h:IxX X L s items)(hn0:s.ws 9≠0)(htk:∀o,(∃d,TakenAt s o d)↔o∈blocks∨X o)(hX:∀o∈blocks,¬X o)(hnd:blocks.Nodup)(a:Around0 L s items blocks key last rest' q rl nl parts A B b1 b2 o)(hp:last.nd.pre=rest')(value:UInt64):
 KeepX X s (valueP s last value)∧IxX X L (valueP s last value) (A++mapQ q (ownItems {last.nd with val:=value}++kidItems last.nd.pre last.nd.labels parts)++B):=by
 have ok:=h.ok
 obtain⟨jw,hj1,hj2,hj3,hj4⟩:=a.word ok
 have hbo:=a.tk.bounds ok
 have S:=a.spot
 obtain⟨s',hs'⟩:∃s',s'=valueP s last value:=⟨_,rfl⟩
 have hw:∀i,s'.ws i=if i=o/8+2 then value else s.ws i:=fun i=>by
  rw [hs']
  show put1 s.ws (last.off.toNat/8+2) value i=_
  rw [a.off,Int.toNat_natCast];rfl
 have hin:inBlk o (classN last.nd) (o/8+2):=⟨by omega,by
  have:=(lines_blocks (classN_12 last.nd)).2.1
  omega⟩
 have hout:=ok.table_words hbo.1 hin
 have ok':PoolOk L s':=by
  rw [hs']
  exact ok.words (fun i hi=>by
   show put1 s.ws (last.off.toNat/8+2) value (16+i)=_
   rw [a.off,Int.toNat_natCast]
   unfold put1
   rw [if_neg (by omega)])
 have htk':∀p d,TakenAt s' p d↔TakenAt s p d:=fun p d=>by rw [hs'];exact Iff.rfl
 have hkeep:KeepT s s' (fun p=>p≠o):=fun p c hp ht=>⟨(htk' p c).2 ht,fun j hj=>by
  rw [hw,if_neg (inBlk_ne ok ht a.tk hp hj hin)]⟩
 have hrd:readP s' nl=some {last.nd with val:=value}:=by
  refine read_of ok' (S.off.trans a.off) ((htk' _ _).2 a.tk) (by rw [rightB_val];exact a.right) ?_
  rw [show classN {last.nd with val:=value}=classN last.nd from rfl,ndVal_enc]
  refine List.ext_getElem (by simp [wordsAt,encW_lines']) fun t g1 g2=> ?_
  have htl:t<8*linesN (classN last.nd):=by simpa [wordsAt]using g1
  have hold:s.ws (o/8+t)=(encW last.nd)[t]'(by rw [encW_lines'];exact htl):=by
   have:(wordsAt s.ws (o/8) (8*linesN (classN last.nd)))[t]? =(encW last.nd)[t]? :=by rw [a.words]
   unfold wordsAt at this
   rw [List.getElem?_map,List.getElem?_range htl,List.getElem?_eq_getElem (by rw [encW_lines'];exact htl)]at this
   simpa using this
  rw [wordsAt_get,hw,List.getElem_set]
  by_cases e:t=2
  ·rw [if_pos (by omega),if_pos e.symm]
  ·rw [if_neg (by omega),if_neg (fun h=>e h.symm)]
   exact hold
 have T:=TreeAt.mk (s:=s') rl nl {last.nd with val:=value} parts hrd S.pre S.kid S.len (fun i h1 h2=>(S.sub i h1 h2).keep ok ok' hkeep (fun p hp e=>a.n3 (e▸kidBlocks_mem h2 hp)))
 rw [S.off,a.off,Int.toNat_natCast]at T
 have T2:=S.swap s' nl _ _ ok' (fun e=>by
  rcases hj4 with⟨h1,h2⟩| ⟨h1,h2⟩
  ·rw [h2]at hj2;exact hn0 (hj2.trans e)
  ·have:=S.rd
   rw [e]at this
   obtain⟨o',ho',ht',_⟩:=read_some ok this
   have:=(ht'.bounds ok).1
   have hz:offOf 0=0:=by decide
   rw [hz]at ho'
   have:=ok.sh.tfits
   omega) T (fun p c hp ht=>by
  have hpo:p≠o:=fun e=>by subst e;exact hp.elim a.n1 a.n2
  obtain⟨u1,u2⟩:=hkeep p c hpo ht
  refine⟨u1,fun j hj=> ?_⟩
  rw [u2 j hj]
  split
  ·rename_i e
   rw [hj1]at e
   rw [←hj2]
   congr 1
   omega
  ·rfl)
 have h9:s'.ws 9=s.ws 9:=by rw [hw,if_neg (by omega)]
 have hname:(if q=[]then nl else s.ws 9)=s.ws 9:=by
  split
  ·rename_i e
   rcases hj4 with⟨_,h2⟩| ⟨h1,_⟩
   ·rw [←hj2,h2]
   ·exact absurd e h1
  ·rfl
 rw [hname]at T2
 have hkey:nibs key=q++last.nd.pre:=by rw [hp];exact S.cut
 refine⟨⟨by rfl,fun j hj _=>by rw [←hs',hw,if_neg (by omega)],fun p c hp ht=>by rw [←hs'];exact hkeep p c (fun e=>hX o (by rw [a.bls];simp) (e▸hp)) ht⟩,?_⟩
 refine⟨by rw [←hs'];exact ok',fun p d hh=>h.nh p d ((held_same (by rfl) (by rfl) p d).1 hh),.inr ⟨blocks,by rw [←hs',h9];exact hn0,?_,hnd,hX,fun p=> ?_⟩,?_⟩
 ·rw [←hs',h9,a.bls]
  exact T2
 ·rw [←hs',show(∃d,TakenAt s' p d)↔∃d,TakenAt s p d from exists_congr (htk' p)]
  exact htk p
 ·intro kv hkv
  rw [List.append_assoc]at hkv
  rcases List.mem_append.1 hkv with h1| h1
  ·exact h.even kv (by rw [S.its];simp [h1])
  ·rcases List.mem_append.1 h1 with h1| h1
   ·obtain⟨k,h2,h3⟩:=mapQ_mem.1 h1
    rcases List.mem_append.1 h2 with h4| h4
    ·obtain⟨e,_⟩:=ownItems_mem h4
     rw [h3]
     have e1:k=last.nd.pre:=congrArg Prod.fst e
     rw [e1,←hkey]
     exact keyOk_nib key
    ·refine h.even kv ?_
     rw [S.its,List.append_assoc]
     exact List.mem_append_right _ (List.mem_append_left _ (mapQ_mem.2 ⟨k,List.mem_append_right _ h4,h3⟩))
   ·exact h.even kv (by rw [S.its];simp [h1])
theorem put_there{items:List Kv}{blocks:List Nat}(h:IxX X L s items)(hn0:s.ws 9≠0)(htk:∀o,(∃d,TakenAt s o d)↔o∈blocks∨X o)(hX:∀o∈blocks,¬X o)(hnd:blocks.Nodup)(a:Around L s items blocks key last rest' q rl nl parts A B b1 b2 o)(hp:last.nd.pre=rest')(value:UInt64)(hv:value≠0):
 PutOk X L s items (nibs key) value (valueP s last value,0):=by
 have S:=a.spot
 have hkey:nibs key=q++last.nd.pre:=by rw [hp];exact S.cut
 obtain⟨hK,hV⟩:=value_ok h hn0 htk hX hnd a.toAround0 hp value
 refine⟨hK,?_⟩
 right
 refine⟨rfl,_,hV,?_⟩
 intro kv
 have hkid:∀k,(k,kv.2)∈kidItems last.nd.pre last.nd.labels parts→q++k≠nibs key:=fun k hk e=>by
  obtain⟨i,h1,h2,kv',_,e2⟩:=kidItems_mem hk
  rw [hkey]at e
  have:=List.append_cancel_left e
  have e3:k=last.nd.pre++last.nd.labels[i]::kv'.1:=congrArg Prod.fst e2
  rw [e3]at this
  have:=congrArg List.length this
  simp at this
 constructor
 ·intro hkv
  rw [List.append_assoc]at hkv
  rcases List.mem_append.1 hkv with h1| h1
  ·exact .inr ⟨by rw [S.its];simp [h1],a.other kv (.inl h1)⟩
  ·rcases List.mem_append.1 h1 with h1| h1
   ·obtain⟨k,h2,h3⟩:=mapQ_mem.1 h1
    rcases List.mem_append.1 h2 with h4| h4
    ·obtain⟨e,_⟩:=ownItems_mem h4
     left
     have e1:k=last.nd.pre:=congrArg Prod.fst e
     have e2:kv.2=value:=congrArg Prod.snd e
     refine Prod.ext ?_ e2
     rw [h3,e1,hkey]
    ·refine .inr ⟨?_,by rw [h3];exact hkid k h4⟩
     rw [S.its,List.append_assoc]
     exact List.mem_append_right _ (List.mem_append_left _ (mapQ_mem.2 ⟨k,List.mem_append_right _ h4,h3⟩))
   ·exact .inr ⟨by rw [S.its];simp [h1],a.other kv (.inr h1)⟩
 ·rintro(rfl| ⟨h1,h2⟩)
  ·rw [List.append_assoc]
   refine List.mem_append_right _ (List.mem_append_left _ (mapQ_mem.2 ⟨last.nd.pre,List.mem_append_left _ ?_,hkey⟩))
   unfold ownItems
   rw [if_pos hv]
   exact List.mem_singleton.2 rfl
  ·rw [S.its,List.append_assoc]at h1
   rw [List.append_assoc]
   rcases List.mem_append.1 h1 with h3| h3
   ·exact List.mem_append_left _ h3
   ·rcases List.mem_append.1 h3 with h3| h3
    ·obtain⟨k,h4,h5⟩:=mapQ_mem.1 h3
     rcases List.mem_append.1 h4 with h6| h6
     ·obtain⟨e,_⟩:=ownItems_mem h6
      have e1:k=last.nd.pre:=congrArg Prod.fst e
      exact absurd (by rw [h5,e1,hkey]) h2
     ·exact List.mem_append_right _ (List.mem_append_left _ (mapQ_mem.2 ⟨k,List.mem_append_right _ h6,h5⟩))
    ·exact List.mem_append_right _ (List.mem_append_right _ h3)
end
section
variable{X:Nat→Prop}{L:Nat}{s:St}{items:List Kv}{blocks:List Nat}{key:List UInt8}{last:Pl}{rest' q:List UInt8}{rl:Nat}{nl:UInt64}{parts:List Part}{A B:List Kv}{b1 b2:List Nat}{o:Nat}
theorem finish_ok (h : IxX X L s items) (hn0 : s.ws 9 ≠ 0) (htk : ∀ o, (∃ d, TakenAt s o d) ↔ o ∈ blocks ∨ X o) (hX : ∀ o ∈ blocks, ¬ X o) (a : Around0 L s items blocks key last rest' q rl nl parts A B b1 b2 o) {j : Jb} {C : List Nat} (g : Grown L s j C) {name : UInt64} (hn : name ≠ 0) {il' : List Kv} {bl' : List Nat}
    (T : TreeAt j.s rl name il' bl') {K D dl : List Nat} (hperm : (kidBlocks parts).Perm (K ++ D)) (hpm : bl'.Perm (C ++ K)) (hdl : dl.Perm (D ++ [o])) (hev : ∀ kv ∈ il', keyOk (q ++ kv.1) = true) :
    ∃ s2, finishP j 0 last.word name (dl.map Int.ofNat) = (s2, 0) ∧ KeepX X s s2 ∧ IxX X L s2 (A ++ mapQ q il' ++ B) := by
  have ok := h.ok
  obtain ⟨jw, hj1, hj2, hj3, hj4⟩ := a.word ok
  have S := a.spot
  obtain ⟨s1, hs1⟩ : ∃ s1, s1 = ({ j.s with ws := put1 j.s.ws (last.word.toNat / 8) name } : St) := ⟨_, rfl⟩
  have hjw : last.word.toNat / 8 = jw := by rw [hj1, Int.toNat_natCast]; omega
  have hw1 : ∀ i, s1.ws i = if i = jw then name else j.s.ws i := fun i => by rw [hs1, ← hjw]; rfl
  have hshj := g.sh
  have ok1 : PoolOk L s1 := by
    rw [hs1]
    refine g.ok.words (fun i hi => ?_)
    show put1 j.s.ws (last.word.toNat / 8) name (16 + i) = _
    rw [hjw]
    unfold put1
    rw [if_neg]
    rw [hshj] at hi
    omega
  have htk1 : ∀ p d, TakenAt s1 p d ↔ TakenAt j.s p d := fun p d => by rw [hs1]; exact Iff.rfl
  have hCs : ∀ p ∈ C, ∀ d, ¬ TakenAt s p d := g.new
  have hbt : ∀ p ∈ blocks, ∃ d, TakenAt s p d := fun p hp => (htk p).2 (.inl hp)
  have hoC : o ∉ C := fun hc => hCs o hc _ a.tk
  have hKD := hperm.nodup_iff.1 a.m3
  obtain ⟨mK, mD, mKD⟩ := List.nodup_append.1 hKD
  have hDk : ∀ p ∈ D, p ∈ kidBlocks parts := fun p hp => hperm.mem_iff.2 (List.mem_append_right _ hp)
  have hKk : ∀ p ∈ K, p ∈ kidBlocks parts := fun p hp => hperm.mem_iff.2 (List.mem_append_left _ hp)
  have hkb : ∀ p ∈ kidBlocks parts, p ∈ blocks := fun p hp => by rw [a.bls]; simp [hp]
  have hmd : ∀ p, p ∈ dl ↔ p ∈ D ∨ p = o := fun p => by rw [hdl.mem_iff]; simp
  have hdn : dl.Nodup := hdl.nodup_iff.2 (List.nodup_append.2 ⟨mD, by simp, fun x hx y hy e => by rw [List.mem_singleton] at hy; exact a.n3 (hy ▸ e ▸ hDk x hx)⟩)
  have hdt : ∀ p ∈ dl, ∃ d, TakenAt s1 p d := fun p hp => by
    have hs : ∃ d, TakenAt s p d := ((hmd p).1 hp).elim (fun hd => hbt p (hkb p (hDk p hd))) (fun e => ⟨_, e ▸ a.tk⟩)
    obtain ⟨d, hd⟩ := hs
    exact ⟨d, (htk1 p d).2 (g.keep p d trivial hd).1⟩
  obtain ⟨s2, ed, ok2, sh2, hd2, ws2, tk2⟩ := drops_ok dl ok1 hdn hdt
  have ee := drops_eq dl ok1 hdn hdt
  rw [ed] at ee
  have hsh1 : s1.sh = s.sh := by rw [hs1]; exact hshj
  refine ⟨s2, by unfold finishP; rw [if_neg (by simp), ← hs1]; exact ee, ?_⟩
  have hw2 : ∀ i, (i < 16 ∨ 16 + s.sh.slabs ≤ i) → s2.ws i = if i = jw then name else j.s.ws i := fun i hi => by
    rw [ws2 i (by rw [hsh1]; exact hi), hw1]
  have hbd : ∀ p ∈ bl', p ∉ dl := fun p hb hd => by
    rcases (hmd p).1 hd with h1 | h1
    · rcases List.mem_append.1 (hpm.mem_iff.1 hb) with h2 | h2
      · obtain ⟨d, hd⟩ := hbt p (hkb p (hDk p h1))
        exact hCs p h2 d hd
      · exact mKD p h2 p h1 rfl
    · subst h1
      rcases List.mem_append.1 (hpm.mem_iff.1 hb) with h2 | h2
      · exact hoC h2
      · exact a.n3 (hKk _ h2)
  have hbx : ∀ p, p ∈ b1 ∨ p ∈ b2 → p ∉ dl := fun p hp hd => by
    rcases (hmd p).1 hd with h1 | h1
    · exact hp.elim (fun h => a.d1 p h (hDk p h1)) (fun h => a.d2 p h (hDk p h1))
    · subst h1; exact hp.elim a.n1 a.n2
  -- the new tree stands behind the word and the Drops
  have hkeep2 : ∀ p c, p ∈ bl' → TakenAt j.s p c → TakenAt s2 p c ∧ ∀ i, inBlk p c i → s2.ws i = j.s.ws i := fun p c hp ht => by
    refine ⟨(tk2 p c).2 ⟨(htk1 p c).2 ht, hbd p hp⟩, fun i hi => ?_⟩
    have hi16 := g.ok.table_words (ht.bounds g.ok).1 hi
    rw [hshj] at hi16
    rw [hw2 i (.inr hi16), if_neg]
    intro e
    subst e
    rcases hj4 with ⟨_, h2⟩ | ⟨_, pp, cc, h2, h3, h4⟩
    · omega
    · obtain ⟨h3', _⟩ := g.keep pp cc trivial h3
      refine inBlk_ne g.ok ht h3' (fun e => ?_) hi h4 rfl
      subst e
      rcases List.mem_append.1 (hpm.mem_iff.1 hp) with h5 | h5
      · exact hCs p h5 cc h3
      · exact a.d1 p h2 (hKk p h5)
  have T2 : TreeAt s2 rl name il' bl' := T.keep g.ok ok2 (B := fun p => p ∈ bl') hkeep2 (fun _ h => h)
  have T3 := S.swap s2 name il' bl' ok2 hn T2 (fun p c hp ht => by
    obtain ⟨u1, u2⟩ := g.keep p c trivial ht
    refine ⟨(tk2 p c).2 ⟨(htk1 p c).2 u1, hbx p hp⟩, fun i hi => ?_⟩
    have hi16 := ok.table_words (ht.bounds ok).1 hi
    rw [hw2 i (.inr hi16), hj1]
    by_cases e : i = jw
    · rw [if_pos e, if_pos (by omega)]
    · rw [if_neg e, if_neg (by omega), u2 i hi])
  have h9 : s2.ws 9 = if q = [] then name else s.ws 9 := by
    rw [hw2 9 (.inl (by decide))]
    rcases hj4 with ⟨h1, h2⟩ | ⟨h1, pp, cc, h2, h3, h4⟩
    · rw [if_pos h2.symm, if_pos h1]
    · have := ok.table_words (h3.bounds ok).1 h4
      rw [if_neg (by omega), if_neg h1, g.low 9 (by decide)]
  rw [← h9] at T3
  have h90 : s2.ws 9 ≠ 0 := by
    rw [h9]
    split
    · exact hn
    · exact hn0
  have hdb : ∀ p ∈ dl, p ∈ blocks := fun p hp => ((hmd p).1 hp).elim (fun h => hkb p (hDk p h)) (fun e => by rw [e, a.bls]; simp)
  have hXk : KeepX X s s2 := ⟨sh2.trans hsh1, fun i hi hi9 => by
      rw [hw2 i (.inl hi), if_neg, g.low i hi]
      rcases hj4 with ⟨_, h2⟩ | ⟨_, pp, cc, h2, h3, h4⟩
      · omega
      · have := ok.table_words (h3.bounds ok).1 h4
        omega, fun p c hp ht => by
      obtain ⟨u1, u2⟩ := g.keep p c trivial ht
      refine ⟨(tk2 p c).2 ⟨(htk1 p c).2 u1, fun hd => hX p (hdb p hd) hp⟩, fun i hi => ?_⟩
      have hi16 := ok.table_words (ht.bounds ok).1 hi
      rw [hw2 i (.inr hi16), if_neg, u2 i hi]
      intro e
      subst e
      rcases hj4 with ⟨_, h2⟩ | ⟨_, pp, cc, h2, h3, h4⟩
      · omega
      · refine inBlk_ne ok ht h3 (fun e => ?_) hi h4 rfl
        subst e
        exact hX p (by rw [a.bls]; simp [h2]) hp⟩
  refine ⟨hXk, ok2, fun p d hh => g.nh p d ((held_same (by rw [hd2, hs1]) (by rw [sh2, hs1]) p d).1 hh), .inr ⟨b1 ++ bl' ++ b2, h90, T3, ?_, fun p hp hpX => ?_, fun p => ?_⟩, ?_⟩
  · have hp2 : (b1 ++ bl' ++ b2).Perm (b1 ++ (C ++ K) ++ b2) := List.Perm.append_right _ (List.Perm.append_left _ hpm)
    rw [hp2.nodup_iff]
    have hC1 : ∀ p ∈ C, p ∉ blocks := fun p hp hb => by
      obtain ⟨d, hd⟩ := hbt p hb
      exact hCs p hp d hd
    rw [a.bls] at hC1
    refine List.nodup_append.2 ⟨List.nodup_append.2 ⟨a.m1, List.nodup_append.2 ⟨g.nod, mK, fun x hx y hy e => ?_⟩, fun x hx y hy e => ?_⟩, a.m2, fun x hx y hy e => ?_⟩
    · subst e
      exact hC1 x hx (by simp [hKk x hy])
    · subst e
      rcases List.mem_append.1 hy with h1 | h1
      · exact hC1 x h1 (by simp [hx])
      · exact a.d1 x hx (hKk x h1)
    · subst e
      rcases List.mem_append.1 hx with h1 | h1
      · exact a.d3 x h1 hy
      · rcases List.mem_append.1 h1 with h1 | h1
        · exact hC1 x h1 (by simp [hy])
        · exact a.d2 x hy (hKk x h1)
  · rcases List.mem_append.1 hp with h1 | h1
    · rcases List.mem_append.1 h1 with h1 | h1
      · exact hX p (by rw [a.bls]; simp [h1]) hpX
      · rcases List.mem_append.1 (hpm.mem_iff.1 h1) with h2 | h2
        · obtain ⟨d, hd⟩ := (htk p).2 (.inr hpX)
          exact hCs p h2 d hd
        · exact hX p (hkb p (hKk p h2)) hpX
    · exact hX p (by rw [a.bls]; simp [h1]) hpX
  · have h1 : (∃ d, TakenAt s2 p d) ↔ (∃ d, TakenAt j.s p d) ∧ p ∉ dl := by
      constructor
      · rintro ⟨d, hd⟩
        obtain ⟨h1, h2⟩ := (tk2 p d).1 hd
        exact ⟨⟨d, (htk1 p d).1 h1⟩, h2⟩
      · rintro ⟨⟨d, hd⟩, h2⟩
        exact ⟨d, (tk2 p d).2 ⟨(htk1 p d).2 hd, h2⟩⟩
    rw [h1, g.tk p, htk p, hmd p, a.bls]
    simp only [List.mem_append, List.mem_cons, hpm.mem_iff, hperm.mem_iff]
    constructor
    · rintro ⟨h1 | h1, h2⟩
      · rcases h1 with ((h1 | h1 | h1 | h1) | h1) | h1
        · exact .inl (.inl (.inl h1))
        · exact absurd (.inr h1) h2
        · exact .inl (.inl (.inr (.inr h1)))
        · exact absurd (.inl h1) h2
        · exact .inl (.inr h1)
        · exact .inr h1
      · exact .inl (.inl (.inr (.inl h1)))
    · have hno : ∀ p, p ∈ b1 ∨ p ∈ b2 ∨ p ∈ C ∨ p ∈ K → ¬ (p ∈ D ∨ p = o) := fun p hp hd => by
        have hd' := (hmd p).2 hd
        rcases hp with h | h | h | h
        · exact hbx p (.inl h) hd'
        · exact hbx p (.inr h) hd'
        · exact hbd p (hpm.mem_iff.2 (List.mem_append_left _ h)) hd'
        · exact hbd p (hpm.mem_iff.2 (List.mem_append_right _ h)) hd'
      rintro (((h1 | h1 | h1) | h1) | h1)
      · exact ⟨.inl (.inl (.inl (.inl h1))), hno p (.inl h1)⟩
      · exact ⟨.inr h1, hno p (.inr (.inr (.inl h1)))⟩
      · exact ⟨.inl (.inl (.inl (.inr (.inr (.inl h1))))), hno p (.inr (.inr (.inr h1)))⟩
      · exact ⟨.inl (.inl (.inr h1)), hno p (.inr (.inl h1))⟩
      · exact ⟨.inl (.inr h1), fun hd => hX p (hdb p ((hmd p).2 hd)) h1⟩
  · intro kv hkv
    rw [List.append_assoc] at hkv
    rcases List.mem_append.1 hkv with h1 | h1
    · exact h.even kv (by rw [S.its]; simp [h1])
    · rcases List.mem_append.1 h1 with h1 | h1
      · obtain ⟨k, h2, h3⟩ := mapQ_mem.1 h1
        rw [h3]
        exact hev _ h2
      · exact h.even kv (by rw [S.its]; simp [h1])
theorem Around.below(a:Around L s items blocks key last rest' q rl nl parts A B b1 b2 o)(hp:last.nd.pre≠rest'):∀kv,kv∈ownItems last.nd++kidItems last.nd.pre last.nd.labels parts→kv.1≠rest':=fun kv hkv e=>by
 rcases List.mem_append.1 hkv with h1| h1
 ·obtain⟨rfl,_⟩:=ownItems_mem h1
  exact hp e
 ·obtain⟨i,i1,i2,kv',_,rfl⟩:=kidItems_mem h1
  simp only at e
  have hc:common last.nd.pre rest'=last.nd.pre.length:=by rw [←e,common_append]
  have:hasLb last.nd.labels (rest'.getD (common last.nd.pre rest') 0)=false:=by
   rcases a.stop with h1| h1| h1
   ·omega
   ·exact absurd (common_full _ _ hc h1) hp
   ·exact kidP_none a.right h1
  rw [hc,←e,List.getD_eq_getElem?_getD,List.getElem?_append_right (Nat.le_refl _),Nat.sub_self]at this
  exact hasLb_false_at _ _ this i i1 rfl
theorem put_new(h:IxX X L s items)(hn0:s.ws 9≠0)(htk:∀o,(∃d,TakenAt s o d)↔o∈blocks∨X o)(hX:∀o∈blocks,¬X o)(_:blocks.Nodup)(hk16:key.length≤16)(a:Around L s items blocks key last rest' q rl nl parts A B b1 b2 o)(hp:last.nd.pre≠rest')(value:UInt64)(hv:value≠0):
 PutOk X L s items (nibs key) value (match growP ⟨s,[]⟩ last.nd rest' value with| (j,name,e)=>finishP j e last.word name [last.off]):=by
 have ok:=h.ok
 have S:=a.spot
 have hlen:=nibs_length key
 have hcutl:q.length+rest'.length=(nibs key).length:=by rw [S.cut,List.length_append]
 have hnib:rest'.all isNib=true:=by
  have:=nibs_nib key
  rw [S.cut,List.all_append,Bool.and_eq_true]at this
  exact this.2
 have hno:common last.nd.pre rest'=last.nd.pre.length→hasLb last.nd.labels (rest'.getD (common last.nd.pre rest') 0)=false:=fun hc=>by
  rcases a.stop with h1| h1| h1
  ·omega
  ·exfalso
   refine hp ?_
   exact common_full _ _ hc h1
  ·exact kidP_none a.right h1
 have hG:=grow_ok ok h.nh a.right S.len S.pre S.kid S.sub (by have:=S.lens;omega) hnib hv hp hno
 generalize growP ⟨s,[]⟩ last.nd rest' value=res at hG
 obtain⟨j,name,e⟩:=res
 simp only
 rcases hG with⟨e1,B',g⟩| ⟨e1,C,il',bl',g,hn,T,hpm,hmem⟩
 ·simp only at e1 g
  subst e1
  simp only [finishP]
  rw [if_pos (by decide)]
  obtain⟨s2,e2,ok2,nh2,tk2,kp2,lo2,sh2⟩:=undo_ok ok g
  rw [e2]
  refine⟨⟨sh2,fun j hj _=>lo2 j hj,fun o c _ ht=>kp2 o c trivial ht⟩,?_⟩
  refine .inl ⟨rfl,h.same ok2 nh2 tk2 kp2 (lo2 9 (by decide)),fun kv hkv e=> ?_⟩
  rw [S.its,List.append_assoc]at hkv
  rcases List.mem_append.1 hkv with g1| g1
  ·exact a.other kv (.inl g1) e
  ·rcases List.mem_append.1 g1 with g1| g1
   ·obtain⟨k,g2,g3⟩:=mapQ_mem.1 g1
    rw [g3,S.cut]at e
    exact a.below hp _ g2 (List.append_cancel_left e)
   ·exact a.other kv (.inr g1) e
 ·simp only at e1 g hn T
  subst e1
  have hkey:nibs key=q++rest':=S.cut
  have hin:∀k v,(k,v)∈ownItems last.nd++kidItems last.nd.pre last.nd.labels parts→(q++k,v)∈items:=fun k v h4=>by
   rw [S.its,List.append_assoc]
   exact List.mem_append_right _ (List.mem_append_left _ (mapQ_mem.2 ⟨k,h4,rfl⟩))
  obtain⟨s2,e2,kx2,ix2⟩:=finish_ok h hn0 htk hX a.toAround0 g hn T (K:=kidBlocks parts) (D:=[]) (dl:=[o]) (by simp) hpm (by simp) (fun kv hkv=>by
   obtain⟨k,v⟩:=kv
   rcases(hmem _).1 hkv with h4| h4
   ·exact h.even _ (hin k v h4)
   ·have e1:k=rest':=congrArg Prod.fst h4
    show keyOk (q++k)=true
    rw [e1,←hkey]
    exact keyOk_nib key)
  rw [a.off,show [(o:Int)]=[o].map Int.ofNat from rfl,e2]
  refine⟨kx2,?_⟩
  right
  refine⟨rfl,_,ix2,?_⟩
  intro kv
  constructor
  ·intro hkv
   rw [List.append_assoc]at hkv
   rcases List.mem_append.1 hkv with h1| h1
   ·exact .inr ⟨by rw [S.its];simp [h1],a.other kv (.inl h1)⟩
   ·rcases List.mem_append.1 h1 with h1| h1
    ·obtain⟨k,h2,h3⟩:=mapQ_mem.1 h1
     rcases(hmem _).1 h2 with h4| h4
     ·refine .inr ⟨?_,?_⟩
      ·have:=hin k kv.2 h4
       rwa [←h3]at this
      ·rw [h3,hkey]
       intro e
       exact a.below hp _ h4 (List.append_cancel_left e)
     ·left
      have e1:k=rest':=congrArg Prod.fst h4
      have e2:kv.2=value:=congrArg Prod.snd h4
      exact Prod.ext (by rw [h3,e1,hkey]) e2
    ·exact .inr ⟨by rw [S.its];simp [h1],a.other kv (.inr h1)⟩
  ·rintro(rfl| ⟨h1,h2⟩)
   ·rw [List.append_assoc]
    exact List.mem_append_right _ (List.mem_append_left _ (mapQ_mem.2 ⟨rest',(hmem _).2 (.inr rfl),hkey⟩))
   ·rw [S.its,List.append_assoc]at h1
    rw [List.append_assoc]
    rcases List.mem_append.1 h1 with h3| h3
    ·exact List.mem_append_left _ h3
    ·rcases List.mem_append.1 h3 with h3| h3
     ·obtain⟨k,h4,h5⟩:=mapQ_mem.1 h3
      exact List.mem_append_right _ (List.mem_append_left _ (mapQ_mem.2 ⟨k,(hmem _).2 (.inl h4),h5⟩))
     ·exact List.mem_append_right _ (List.mem_append_right _ h3)
theorem put_ok(h:IxX X L s items)(key:List UInt8)(hk:key.length≤16)(value:UInt64)(hv:value≠0):PutOk X L s items (nibs key) value (putK s key value):=by
 by_cases h0:s.ws 9=0
 ·exact put_empty h h0 key hk value hv
 ·rcases h.tree with⟨h1,_⟩| ⟨blocks,h1,T,hnd,hX,htk⟩
  ·exact absurd h1 h0
  ·obtain⟨way,last,rest',q,rl,nl,parts,A,B,b1,b2,o,hp,a⟩:=around h.ok h1 T hnd key hk
   unfold putK
   rw [if_neg (by omega),if_neg hv,hp]
   have hgl:(way++[last]).getLast? =some last:=by simp
   simp only [standsP,hgl]
   by_cases hpr:last.nd.pre=rest'
   ·rw [if_pos hpr]
    exact put_there h h1 htk hX hnd a hpr value hv
   ·rw [if_neg hpr]
    exact put_new h h1 htk hX hnd hk a hpr value hv
theorem survey_x(h:IxX X L s items):∃met:List Nat,surveyP s=some (items.map (fun kv=>(pairs kv.1,kv.2)),met.map Int.ofNat)∧met.Nodup∧(∀o∈met,¬X o)∧∀o,(∃d,TakenAt s o d)↔o∈met∨X o:=by
 rcases h.tree with⟨h1,h2,h3⟩| ⟨blocks,h1,T,hnd,hX,htk⟩
 ·refine⟨[],?_,List.nodup_nil,(fun _ h=>nomatch h),fun o=>by simp [h3 o]⟩
  unfold surveyP
  rw [if_pos h1,h2]
  rfl
 ·refine⟨blocks,?_,hnd,hX,htk⟩
  unfold surveyP
  rw [if_neg h1]
  have:=T.survey h.ok 34 [] [] [] (by decide) (by decide) hnd (fun _ _ h=>by cases h) (fun kv hkv=>h.even kv hkv)
  simpa using this
end
section
variable{L:Nat}{s:St}
end
section
variable{X:Nat→Prop}{L:Nat}{s:St}{items:List Kv}{blocks:List Nat}{key:List UInt8}
end
open Go.RowKit
theorem Tryz.imgTyK:RowTyK Tryz.prog 39 5 (.int .u8 0) 1 1:=⟨Tryz.underlying39,by kernel_rfl,rfl⟩
def imgB(ws:Nat→UInt64)(k:Nat):List UInt8:=((List.range k).map fun i=>leBytes (lineW ws i)).flatten
theorem imgB_succ(ws:Nat→UInt64)(k:Nat):imgB ws (k+1)=imgB ws k++leBytes (lineW ws k):=by
 unfold imgB
 rw [List.range_succ,List.map_append,List.flatten_append]
 simp
theorem imgB_len(ws:Nat→UInt64):∀k,(imgB ws k).length=64*k
 | 0=>rfl
 | k+1=>by
   rw [imgB_succ,List.length_append,imgB_len ws k,leBytes_length,lineW_length]
   omega
set_option maxHeartbeats 4000000 in
set_option maxRecDepth 100000 in
theorem image_dev{w:World}{d L:Nat}{ws:Nat→UInt64}{len mark:Nat→Nat}{own:Nat→Prop}(h:Dev w d L ws len mark own)(hL0:0<L)(hL:L≤1024):
 Calls Tryz.prog 14 #[.pointer (some ⟨d,0,none⟩)] w fun e w'=>∃v,e= .returned v∧w'.ownsRow w.heap.size 5 1 v (64*L) ((imgB ws L).map bv)∧Below w.heap.size w w':=by
 have HSz:=Lib.hid (fun W(k:Below w.heap.size w W)=>(h.below k).size hL)
 obtain⟨g,hb0,hr,ho⟩:=h
 obtain⟨st,hbx⟩:=hr.box
 have HD:=Lib.hid (fun W(k:Below w.heap.size w W)=>(hbx.below k hbx.lt).cell 0)
 have HLn:=Lib.hid (fun W(k:Below w.heap.size w W)i(hi:i<L)=>Bs.below (hr.line i hi) k)
 obtain⟨sz,hsz⟩:∃sz,sz=L*64:=⟨_,rfl⟩
 have hsz1:sz≤65536:=by omega
 have t0:((sz:Int)==0)=false:=by rw [beq_eq_false_iff_ne];omega
 obtain⟨i0,hi,hz0,hz1,hz2⟩:=info_parts Tryz.imgTyK.hi
 have hmk:∀W:World,(Instr.makeSlice 39 (.int .i64 0) (.int .i64 (sz:Int))).run Tryz.prog W= .ok (.slice (some ⟨W.heap.size,0,none⟩) 0 sz) (W.alloc (.cells (madeCells (Value.int .u8 0).cells (sz*1)) 5)):=fun W=>by
  have:=run_make (P:=Tryz.prog) (w:=W) 39 5 i0 (.int .u8 0) Tryz.underlying39 hi hz0 .i64 .i64 0 (sz:Int) (by omega) (by omega) (by rw [hz2];omega) (by omega)
  rw [hz1]at this
  simpa using this
 obtain⟨zc,hzc⟩:∃zc,madeCells (Value.int .u8 0).cells (sz*1)=zc:=⟨_,rfl⟩
 have hzs:zc.size=sz:=by rw [←hzc];simp [madeCells]
 have HOw:Hid (∀W:World,(W.alloc (.cells zc 5)).ownsRow W.heap.size 5 1 (.slice (some ⟨W.heap.size,0,none⟩) 0 sz) 0 []):=Lib.hid (fun W=>⟨by simp,.inr ⟨W.heap.size,sz,zc,rfl,Nat.le_refl _,heap_alloc_new _ _,Nat.zero_le _,Nat.le_trans hsz1 (by decide),by omega,by simp⟩⟩)
 rw [hzc]at hmk
 rw [←hsz]at HSz
 have HS:=Lib.hid hsz
 have d0:=HD.out w (Below.refl _ _)
 simp only [List.getElem?_cons_zero]at d0
 clear hbx hr ho hi hz0 hz1 hz2 hzc hsz
 go_enter Tryz.func14,Tryz.ntmps14
 go_wp2_with fail
 refine(HSz.out w (Below.refl _ _)).mono ?_
 rintro e w1⟨rfl,rfl⟩
 go_wp2_with fail
 refine(HSz.out w (Below.refl _ _)).mono ?_
 rintro e w1⟨rfl,rfl⟩
 obtain⟨w2,hw2⟩:∃w2,w2=w.alloc (.cells zc 5):=⟨_,rfl⟩
 have hb2:Below w.heap.size w w2:=hw2▸(Below.refl _ _).alloc (Nat.le_refl _) _
 have HO2:Hid (w2.ownsRow w.heap.size 5 1 (.slice (some ⟨w.heap.size,0,none⟩) 0 sz) 0 []):=Lib.hid (hw2▸HOw.out w)
 have HB2:=Lib.hid hb2
 have HW2:=Lib.hid hw2
 replace d0:=HD.out w2 hb2
 simp only [List.getElem?_cons_zero]at d0
 rw [hw2]at d0
 clear hw2 hb2
 go_wp2_with fail
 rw [←HW2.out]
 go_loopw [3,16](fun u i wr=>∃k:Nat,k≤L∧i= .int .i64 (k:Nat)∧wr.ownsRow w.heap.size 5 1 u (64*k) ((imgB ws k).map bv)∧Below w.heap.size w wr)(fun _ i _=>L- (intOf i).toNat)
 case atStart=>exact⟨0,Nat.zero_le _,rfl,HO2.out,HB2.out⟩
 case round=>
  obtain⟨k,hk,rfl,hown,hb⟩:=hrel
  have HO:=Lib.hid hown
  have HB:=Lib.hid hb
  have d1:=HD.out wr hb
  simp only [List.getElem?_cons_zero]at d1
  clear hown hb HO2 HB2 d0
  by_cases hlt:k<L
  ·have hx1:(k:Int)<(L:Int):=by omega
   have hx2:decide ((k:Int)<(L:Int))=true:=decide_eq_true hx1
   have hx5:decide (k<L)=true:=decide_eq_true hlt
   have hwk:IntKind.i64.wrap ((k:Int)+1)=(k:Int)+1:=IntWalk.i64_in _ (by omega)
   have hln:=HLn.out wr HB.out k hlt
   rw [show 66*k=k*66 by omega]at hln
   have HLk:=Lib.hid hln
   have HIm:Hid ((imgB ws (k+1)).map bv=(imgB ws k).map bv++(leBytes (lineW ws k)).map bv):=Lib.hid (by rw [imgB_succ,List.map_append])
   clear hln
   go_wp2_with(at_builtin;refine wpList_app_rows rfl (.tmp 19) (.tmp 27) 39 rfl Tryz.imgTyK (by decide) w.heap.size u3 (64*k) ((imgB ws k).map bv) rfl HO.out (some ⟨g,k*66,none⟩) 64 64 ((leBytes (lineW ws k)).map bv) rfl (by have:=HLk.out;exact this) (oneCell_bv _) (by omega) (by decide) HB.out.size ?_;intro v6 w6 hO6 hB6 hK6)
   have HO6:=Lib.hid hO6
   have HB6:=Lib.hid (HB.out.trans hB6)
   clear hO6 hB6 hK6 HLk
   go_wp2_with fail
   go_roundw
   case rel=>exact⟨k+1,by omega,by go_num,by rw [HIm.out,show 64*(k+1)=64*k+64 by omega];exact HO6.out,HB6.out⟩
   case measure=>simp [intOf];omega
  ·have hkn:k=L:=by omega
   subst hkn
   go_wp2_with fail
   go_ret
   exact⟨_,rfl,HO.out,HB.out⟩
end Go.Proofs.YtjcppneoncpdbaaGreatDoor
