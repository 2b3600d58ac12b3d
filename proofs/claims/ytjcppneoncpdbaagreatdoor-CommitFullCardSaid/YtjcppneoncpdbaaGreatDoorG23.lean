import Derived.Test.YtjcppneoncpdbaaGreatDoorG04
import Derived.Test.YtjcppneoncpdbaaGreatDoorG11
import Derived.Test.YtjcppneoncpdbaaGreatDoorG12
set_option maxHeartbeats 32000000
set_option maxRecDepth 100000
open List renaming cons_append->BI,append_assoc->AA,take_append_drop->Hm,getD_eq_getElem?_getD->AZ,getElem?_eq_getElem->Af,drop_eq_getElem_cons->EG,perm_append_comm->jU,mem_append->LU,map_append->DR,map_map->FM,map_cons->Bo,map_nil->Em,take_length->KA,take_of_length_le->DV,getElem_mem->BD,length_drop->Au,nil_append->DN,mem_singleton->BM,mem_cons->La,length_cons->Bh,perm_middle->xk,mem_cons_self->Be,mem_cons_of_mem->Bi,getElem_set->Je,length_set->BZ,getElem?_map->BC,getElem?_range->QO,length_append->Az,length_take->Dt,getElem_drop->Vj,ext_getElem->DX,getElem_set_self->P7,getElem_set_ne->pq,foldl_cons->Ql,mem_append_right->Bc,mem_append_left->Bl,append_cancel_left->Dk,length->Ju,getElem?_append_right->BX,getLast?_singleton->dA,append_nil->Ye,take_succ_eq_append_getElem->C9,getElem?_drop->Cf,reverse_perm->wK,map_reverse->xm,drop_append_of_le_length->V6,range->Dn,range_succ->Aa0,length_filter_le->KO,length_map->CO
open Int renaming toNat_natCast->Bq,ofNat->CV
open Nat renaming lt_or_gt_of_ne->wJ,le_refl->Ad,zero_le->BA,le_trans->AL
open Option renaming map_some->Dh
open Go.Lib renaming hid->Aa
namespace Go.Proofs.YtjcppneoncpdbaaGreatDoor
theorem Lu(pre:List UInt8):∀(a b:List UInt8)(c d:List Part),a.length=c.length->Bd pre (a++b) (c++d)=Bd pre a c++Bd pre b d
 | [],b,[],d,_=>by simp [Bd]
 | [],b,_::_,d,h=>by simp at h
 | _::_,b,[],d,h=>by simp at h
 | x::a,b,p::c,d,h=>by
   simp only [BI,Bd,Lu pre a b c d (by simpa using h),AA]
theorem PY(pre:List UInt8)(ls:List UInt8)(ps:List Part)(i:Nat)(h:ls.length=ps.length):Bd pre ls ps=Bd pre (ls.take i) (ps.take i)++Bd pre (ls.drop i) (ps.drop i):=by
 rw [<-Lu _ _ _ _ _ (by simp [h]),Hm,Hm]
theorem N7(a b:List Part):AP (a++b)=AP a++AP b:=by simp [AP]
theorem Pg(ps:List Part)(i:Nat):AP ps=AP (ps.take i)++AP (ps.drop i):=by rw [<-N7,Hm]
theorem UU{l:List UInt8}{k:Nat}(h:k<l.length):l.getD k 0=l[k]:=by rw [AZ,Af h];rfl
theorem Acu{l:List UInt8}{k:Nat}(h:k<l.length):l.take k++l.getD k 0::l.drop (k+1)=l:=by
 rw [UU h,<-EG h,Hm]
theorem zx{x:UInt64}(h:x≠0):x.toNat≠0:=fun e=>h (UInt64.toNat_inj.1 (by simpa using e))
section
variable{L:Nat}{s0:St}{j:Jb}{B:List Nat}
theorem ja (g : Grown L s0 j B) {x : Nd} (hx : BG x = true) {parts : List Part} (hlen : parts.length = x.kids.length) {label : UInt8} (h16 : Df label = true) (hno : NH x.labels label = false) {kid : UInt64} (hk0 : kid ≠ 0) {r : Nat} (hr : x.pre.length + 1 <= r)
    (hk : ∀ i (h1 : i < x.kids.length) (h2 : i < parts.length), Dw j.s (r - x.pre.length - 1) x.kids[i] parts[i].items parts[i].blocks) {il : List Kv} {bl : List Nat} (ht : Dw j.s (r - x.pre.length - 1) kid il bl) :
    Ey j x label kid 0 = (j, 0, 6) \/ ∃ j' name o, Ey j x label kid 0 = (j', name, 0) /\ Grown L s0 j' (B ++ [o]) /\ EX j.s j'.s (fun _ => True) /\ name ≠ 0 /\ ∃ Ut RQ, Dw j'.s r name Ut RQ /\ RQ.Perm (o :: bl ++ AP parts) /\
      ∀ kv, kv ∈ Ut <-> kv ∈ BB x ++ Bd x.pre x.labels parts \/ kv ∈ E5 x.pre label il := by
  have hok : Jk x label kid = true := (PK _ _ _).2 ⟨hx, by simpa [Df] using h16, zx hk0, hno⟩
  have F := eF x label kid hok
  have hxr := (AY x).1 hx
  unfold Ey
  rw [if_neg (by simp), if_pos hok]
  rcases Oa g F.right with e | ⟨j', name, o, e, ho, g', hoff, hn0, hrd, hkp⟩
  · exact .inl e
  · right
    obtain ⟨p, hp⟩ : ∃ p, p = EM x.labels label := ⟨_, rfl⟩
    have hpl : p <= x.labels.length := hp ▸ F.place
    have hll : x.labels.length = x.kids.length := hxr.2.2.1
    have T := Dw.mk r name (GG x label kid) (Iu parts p ⟨il, bl⟩) hrd (by show x.pre.length <= r; omega) (fun _ => hr) (by rw [MS _ _ _ (by omega), F.Agp, hlen]) (fun i h1 h2 => by
      have e1 := Iw x.kids p kid (by omega) i
      have e2 := Iw parts p ⟨il, bl⟩ (by omega) i
      have e1' : (Iu x.kids p kid)[i]? = some (GG x label kid).kids[i] := (congrArg (fun l => l[i]?) (show Iu x.kids p kid = (GG x label kid).kids by rw [hp]; rfl)).trans (Af h1)
      rw [Af h2] at e2
      rw [e1] at e1'
      show Dw j'.s (r - x.pre.length - 1) (GG x label kid).kids[i] _ _
      have hlen2 : (GG x label kid).kids.length = x.kids.length + 1 := F.Agp
      by_cases h3 : i < p
      · rw [if_pos h3] at e1' e2
        rw [Af (by omega)] at e1' e2
        injection e1' with e1'
        injection e2 with e2
        rw [e2]
        have := (hk i (by omega) (by omega)).keep g.ok g'.ok hkp (fun _ _ => trivial)
        simp only [e1'] at this ⊢
        first | exact this | (rw [<- e1']; exact this)
      · rw [if_neg h3] at e1' e2
        by_cases h4 : i = p
        · rw [if_pos h4] at e1' e2
          injection e1' with e1'
          injection e2 with e2
          rw [e2]
          have := ht.keep g.ok g'.ok hkp (fun _ _ => trivial)
          first | exact e1' ▸ this | (rw [<- e1']; exact this)
        · rw [if_neg h4] at e1' e2
          rw [Af (by omega)] at e1' e2
          injection e1' with e1'
          injection e2 with e2
          rw [e2]
          have := (hk (i - 1) (by omega) (by omega)).keep g.ok g'.ok hkp (fun _ _ => trivial)
          first | exact e1' ▸ this | (rw [<- e1']; exact this))
    rw [hoff, Bq] at T
    refine ⟨j', name, o, e, g', hkp, hn0, _, _, T, ?_, fun kv => ?_⟩
    · refine List.Perm.cons _ ?_
      unfold Iu
      rw [N7, Pg parts p]
      show (AP (parts.take p) ++ (bl ++ AP (parts.drop p))).Perm (bl ++ (AP (parts.take p) ++ AP (parts.drop p)))
      rw [<- AA, <- AA]
      exact List.Perm.append_right _ jU
    · have e1 : Bd x.pre (Iu x.labels p label) (Iu parts p ⟨il, bl⟩) = Bd x.pre (x.labels.take p) (parts.take p) ++ (E5 x.pre label il ++ Bd x.pre (x.labels.drop p) (parts.drop p)) := by
        unfold Iu
        rw [Lu _ _ _ _ _ (by simp; omega)]
        rfl
      rw [show (GG x label kid).labels = Iu x.labels p label by rw [hp]; rfl, show (GG x label kid).pre = x.pre from rfl, show BB (GG x label kid) = BB x from rfl, e1, PY x.pre x.labels parts p (by omega)]
      simp only [LU]
      grind
theorem Zm(x:Nd)(k:Nat)(hk:k<x.pre.length):∀(parts:List Part),E5 (x.pre.take k) (x.pre.getD k 0) (BB {x with pre:=x.pre.drop (k+1)}++Bd (x.pre.drop (k+1)) x.labels parts)=BB x++Bd x.pre x.labels parts:=by
 have e:∀t,x.pre.take k++x.pre.getD k 0::(x.pre.drop (k+1)++t)=x.pre++t:=fun t=>by
  rw [<-BI,<-AA,Acu hk]
 have e0:x.pre.take k++x.pre.getD k 0::x.pre.drop (k+1)=x.pre:=by simpa using e []
 have h:∀(ls:List UInt8)(ps:List Part),E5 (x.pre.take k) (x.pre.getD k 0) (Bd (x.pre.drop (k+1)) ls ps)=Bd x.pre ls ps:=by
  intro ls;induction ls with
  | nil=>intro ps;simp [Bd,E5]
  | cons lb ls ih=>
    intro ps;cases ps with
    | nil=>simp [Bd,E5]
    | cons p ps=>
      have:=ih ps;unfold E5 at this⊢;simp only [Bd,DR,this];congr 1;unfold E5;rw [FM];refine List.map_congr_left fun kv _=> ?_
      simp only [Function.comp_apply];rw [e]
 intro parts;have h2:=h x.labels parts;unfold E5 at h2⊢;rw [DR,h2];congr 1;unfold BB
 dsimp only
 split
 ·simp only [Bo,Em];rw [e0]
 ·rfl
def zy(L:Nat)(s0:St)(r:Nat)(x:Nd)(parts:List Part)(rest:List UInt8)(value:UInt64)(res:Jb×UInt64×Int):Prop:=
 (res.2.2=6/\∃B',Grown L s0 res.1 B')\/
 (res.2.2=0/\∃C Ut RQ,Grown L s0 res.1 C/\res.2.1≠0/\Dw res.1.s r res.2.1 Ut RQ/\RQ.Perm (C++AP parts)/\∀kv,kv∈Ut<->kv∈BB x++Bd x.pre x.labels parts\/kv=(rest,value))
theorem Acv(ok:Bz L s0)(nh:∀o d,¬EP s0 o d){x:Nd}(hx:BG x=true){parts:List Part}(hlen:parts.length=x.kids.length){r:Nat}(hpre:x.pre.length<=r)(MO:x.kids≠[]->x.pre.length+1<=r)
 (hk:∀i(h1:i<x.kids.length)(h2:i<parts.length),Dw s0 (r-x.pre.length-1) x.kids[i] parts[i].items parts[i].blocks){rest:List UInt8}{value:UInt64}(hrl:rest.length<=r)(hrn:rest.all Df=true)(hv:value≠0)(hne:x.pre≠rest)
 (hno:common x.pre rest=x.pre.length->NH x.labels (rest.getD (common x.pre rest) 0)=false):zy L s0 r x parts rest value (GZ ⟨s0,[]⟩ x rest value):=by
 have g0:=Grown.start ok nh;have hxr:=(AY x).1 hx;have hcl:=Ho x.pre rest;have hcr:=Es x.pre rest;have hct:=PD x.pre rest;unfold GZ;by_cases hc:common x.pre rest=x.pre.length
 ·rw [if_pos hc];have hlt:x.pre.length<rest.length:=by
   rcases Nat.lt_or_ge x.pre.length rest.length with h| h
   ·exact h
   ·exfalso;refine hne ?_;rw [hc,KA,DV (by omega)]at hct;exact hct
  have hno':=hno hc;rw [hc]at hno' hct⊢;rw [KA]at hct;have hcut:=Acu hlt;rw [<-hct]at hcut;have hlab:Df (rest.getD x.pre.length 0)=true:=by rw [UU hlt];exact List.all_eq_true.1 hrn _ (BD _)
  have hL:=VF (rest.length+1) g0 (r-x.pre.length-1) (rest.drop (x.pre.length+1)) value (by rw [Au];omega) (by rw [Au];omega) (Su _ _ _ hrn) hv;generalize Ii (rest.length+1) ⟨s0,[]⟩ (rest.drop (x.pre.length+1)) value=res at hL;obtain⟨j1,kid,e⟩:=res;rcases hL with⟨e1,B',g1⟩| ⟨e1,C,bl,g1,hk1,hn1,ht1,hp1⟩
  ·simp only at e1 g1;subst e1;simp only;unfold Ey;rw [if_pos (by decide)];exact .inl ⟨rfl,B',g1⟩
  ·simp only at e1 g1 hk1 hn1 ht1;subst e1;simp only;rw [DN]at g1;rcases ja (r:=r) g1 hx hlen hlab hno' hn1 (by omega) (fun i h1 h2=>(hk i h1 h2).keep ok g1.ok hk1 (fun _ _=>trivial)) ht1 with e| ⟨j',name,o,e,g',hkp,hn0,Ut,RQ,T,hp,hm⟩
   ·rw [e];exact .inl ⟨rfl,_,g1⟩
   ·rw [e];refine .inr ⟨rfl,C++[o],Ut,RQ,g',hn0,T,hp.trans ?_,fun kv=> ?_⟩
    ·rw [AA];refine List.Perm.trans (l₂:=o::(C++AP parts)) (List.Perm.cons _ (List.Perm.append_right _ hp1)) ?_;exact List.perm_middle.symm
    ·rw [hm kv];unfold E5;simp only [Bo,Em,BM,hcut]
 ·rw [if_neg hc];have hlt:common x.pre rest<x.pre.length:=by omega
  obtain⟨k,hkk⟩:∃k,k=common x.pre rest:=⟨_,rfl⟩;have hst:=U7 x.pre rest;rw [<-hkk]at hlt hct hcr hst⊢;have hlab:Df (x.pre.getD k 0)=true:=by rw [UU hlt];exact List.all_eq_true.1 hxr.2.1 _ (BD _)
  have htl:(x.pre.take k).length=k:=by simp;omega
  have hlow:BG {x with pre:=x.pre.drop (k+1)}=true:=by
   rw [AY];exact⟨by simp only [Au];omega,Su _ _ _ hxr.2.1,hxr.2.2.1,hxr.2.2.2.1,hxr.2.2.2.2.1,hxr.2.2.2.2.2⟩
  rcases Oa g0 hlow with e| ⟨j1,kid,o1,e,ho1,g1,Ai3,hn1,Ak6,Ak7⟩
  ·rw [e];simp only;split
   ·unfold Ey;rw [if_pos (by decide)];exact .inl ⟨rfl,_,g0⟩
   ·rw [if_pos (by decide)];exact .inl ⟨rfl,_,g0⟩
  ·rw [e];simp only;rw [DN]at g1;have T1:=Dw.mk (r-k-1) kid {x with pre:=x.pre.drop (k+1)} parts Ak6 (by simp only [Au];omega) (fun h=>by have:=MO h;simp only [Au];omega) hlen (fun i h1 h2=>by
    have:=(hk i h1 h2).keep ok g1.ok Ak7 (fun _ _=>trivial);have e2:r-k-1- ({x with pre:=x.pre.drop (k+1)}:Nd).pre.length-1=r-x.pre.length-1:=by simp only [Au];omega
    rw [e2];exact this)
   rw [Ai3,Bq]at T1;by_cases hr:k=rest.length
   ·rw [if_pos hr];have hrest:rest=x.pre.take k:=by rw [hct,hr,KA]
    obtain⟨w1,w2,w3,_⟩:=RD (pre:=x.pre.take k) (val:=value) (by rw [htl];omega) (Sr _ _ _ hxr.2.1) hlab hn1;unfold Ey;rw [if_neg (by simp),if_pos w1,w2];rcases Oa g1 w3 with e| ⟨j2,name,o2,e,ho2,g2,Ai4,hn2,Ak8,Ak9⟩
    ·rw [e];exact .inl ⟨rfl,_,g1⟩
    ·rw [e];have T2:=iC (r:=r) Ak8 Ai4 (by rw [htl];omega) (by rw [htl];exact T1.keep g1.ok g2.ok Ak9 (fun _ _=>trivial));rw [Zm x k hlt parts,if_pos hv]at T2;refine .inr ⟨rfl,[o1]++[o2],_,_,g2,hn2,T2,?_,fun kv=> ?_⟩
     ·exact(List.Perm.swap o1 o2 _)
     ·rw [hrest];simp only [BI,DN,La];exact Or.comm
   ·rw [if_neg hr,if_neg (by simp)];have Acw:k<rest.length:=by omega
    obtain⟨w1,w2,w3,_⟩:=RD (pre:=x.pre.take k) (val:=0) (by rw [htl];omega) (Sr _ _ _ hxr.2.1) hlab hn1;rw [if_pos w1,w2];have Ai5:Df (rest.getD k 0)=true:=by rw [UU Acw];exact List.all_eq_true.1 hrn _ (BD _)
    have hL:=VF (rest.length+1) g1 (r-k-1) (rest.drop (k+1)) value (by rw [Au];omega) (by rw [Au];omega) (Su _ _ _ hrn) hv;generalize Ii (rest.length+1) j1 (rest.drop (k+1)) value=res at hL;obtain⟨j2,ZO,e⟩:=res;rcases hL with⟨e1,B',g2⟩| ⟨e1,C,bl,g2,hk2,hn2,ht2,hp2⟩
    ·simp only at e1 g2;subst e1;simp only;unfold Ey;rw [if_pos (by decide)];exact .inl ⟨rfl,B',g2⟩
    ·simp only at e1 g2 hk2 hn2 ht2;subst e1;simp only;have hdiff:NH [x.pre.getD k 0] (rest.getD k 0)=false:=by
      have h1:=hst hlt Acw;unfold NH;simp only [List.any_cons,List.any_nil,Bool.or_false,beq_eq_false_iff_ne];rw [UU hlt,UU Acw];exact fun e=>h1 (UInt8.toNat_inj.1 e)
     rcases ja (r:=r) (parts:=[⟨_,_⟩]) g2 w3 rfl Ai5 hdiff hn2 (by rw [htl];omega) (fun i h1 h2=>by
      simp only [Bh,List.length_nil]at h1;have:i=0:=by omega
      subst this;rw [show(⟨x.pre.take k,0,[x.pre.getD k 0],[kid]⟩:Nd).pre.length=k from htl];exact T1.keep g1.ok g2.ok hk2 (fun _ _=>trivial)) (by rw [show(⟨x.pre.take k,0,[x.pre.getD k 0],[kid]⟩:Nd).pre.length=k from htl];exact ht2)with e| ⟨j',name,o,e,g',hkp,hn0,Ut,RQ,T,hp,hm⟩
     ·rw [e];exact .inl ⟨rfl,_,g2⟩
     ·rw [e];refine .inr ⟨rfl,[o1]++C++[o],Ut,RQ,g',hn0,T,hp.trans ?_,fun kv=> ?_⟩
      ·have e3:AP [⟨BB {x with pre:=x.pre.drop (k+1)}++Bd (x.pre.drop (k+1)) x.labels parts,o1::AP parts⟩]=o1::AP parts:=by simp [AP]
       rw [e3];have p1:(o::bl++o1::AP parts).Perm (o::C++o1::AP parts):=List.Perm.append_right _ (List.Perm.cons _ hp2);refine p1.trans ?_;have e4:[o1]++C++[o]++AP parts=o1::(C++o::AP parts):=by simp
       rw [e4];refine(xk (a:=o1) (l₁:=o::C) (l₂:=AP parts)).trans (List.Perm.cons _ ?_);exact(xk (a:=o) (l₁:=C) (l₂:=AP parts)).symm
      ·rw [hm kv];have e3:BB (⟨x.pre.take k,0,[x.pre.getD k 0],[kid]⟩:Nd)++Bd (x.pre.take k) [x.pre.getD k 0] [⟨BB {x with pre:=x.pre.drop (k+1)}++Bd (x.pre.drop (k+1)) x.labels parts,o1::AP parts⟩]=BB x++Bd x.pre x.labels parts:=by
        rw [<-Zm x k hlt parts];simp [BB,Bd]
       rw [e3];have e4:x.pre.take k++rest.getD k 0::rest.drop (k+1)=rest:=by rw [hct];exact Acu Acw
       unfold E5;simp only [Bo,Em,BM,e4]
end
theorem PZ(ws:Nat->UInt64)(j n t:Nat)(h:t<(wordsAt ws j n).length):(wordsAt ws j n)[t]=ws (j+t):=by
 simp [wordsAt]
theorem Qa:∀(ls:List UInt8)(ks:List UInt64)(row:List UInt64)(j:Nat)(k:UInt64),(∀b∈ls,4+b.toNat≠j)->BO (row.set j k) ls ks=(BO row ls ks).set j k
 | [],ks,row,j,k,_=>by cases ks<;>simp [BO]
 | a::ls,[],row,j,k,_=>by simp [BO]
 | a::ls,k0::ks,row,j,k,h=>by
   rw [BO,BO,<-List.set_comm _ _ (h a (Be ..)),Qa ls ks _ j k (fun b hb=>h b (Bi _ hb))]
theorem Qb:∀(ls:List UInt8)(ks:List UInt64)(row:List UInt64)(i:Nat)(k:UInt64)(h1:i<ls.length),ls.length=ks.length->Dp ls=true->BO row ls (ks.set i k)=(BO row ls ks).set (4+ls[i].toNat) k
 | a::ls,k0::ks,row,0,k,_,_,hr=>by
   obtain⟨_,h2⟩:=IV hr;rw [List.set_cons_zero,BO,BO];have h3:∀b∈ls,4+b.toNat≠4+a.toNat:=fun b hb=>by have:=h2 b hb;omega
   rw [Qa ls ks row _ k h3,Qa ls ks row _ k0 h3];simp only [List.getElem_cons_zero,List.set_set]
 | a::ls,k0::ks,row,i+1,k,h1,hl,hr=>by
   obtain⟨h3,_⟩:=IV hr;rw [List.set_cons_succ,BO,BO,Qb ls ks _ i k (by simpa using h1) (by simpa using hl) h3];rfl
def Jd(x:Nd)(i:Nat)(k:UInt64):Nd:={x with kids:=x.kids.set i k}
theorem jc{x:Nd}(h:BG x=true)(i:Nat){k:UInt64}(hk:k≠0):BG (Jd x i k)=true:=by
 obtain⟨h1,h2,h3,h4,h5,h6⟩:=(AY x).1 h;rw [AY];have aux:∀j(hj:j<(x.kids.set i k).length),(x.kids.set i k)[j].toNat≠0:=fun j hj=>by
  rw [Je];split
  ·exact zx hk
  ·exact h6 j (by rwa [BZ]at hj)
 exact⟨h1,h2,by show _=(x.kids.set i k).length;rw [BZ];exact h3,h4,h5,aux⟩
theorem UW(x:Nd)(i:Nat)(k:UInt64):CU (Jd x i k)=CU x:=by
 unfold CU Jd;rw [BZ]
theorem uP{x:Nd}(h:BG x=true){i:Nat}(hi:i<x.kids.length)(k:UInt64):Du (Jd x i k)=(Du x).set (Nr x i) k:=by
 obtain⟨h1,h2,h3,h4,h5,h6⟩:=(AY x).1 h;unfold Du Nr;rw [show(Jd x i k).kids=x.kids.set i k from rfl,BZ];by_cases h4':x.kids.length<=4
 ·rw [if_pos h4',if_pos h4',if_pos h4'];unfold encS;rw [show(Jd x i k).kids=x.kids.set i k from rfl,show(Jd x i k).pre=x.pre from rfl,show(Jd x i k).val=x.val from rfl,show(Jd x i k).labels=x.labels from rfl,BZ];rw [List.set_append_left _ _ (by simp;omega),List.set_append_right _ _ (by simp)];simp
 ·rw [if_neg h4',if_neg h4',if_neg h4'];unfold PE;rw [show headB (Jd x i k)=headB x by unfold headB;rw [show(Jd x i k).kids=x.kids.set i k from rfl,BZ];rfl,show(Jd x i k).labels=x.labels from rfl,show(Jd x i k).kids=x.kids.set i k from rfl];rw [Qb x.labels x.kids (headB x) i k (by omega) h3 h5,UU (by omega)]
theorem uQ{x:Nd}(h:BG x=true){lab:UInt8}{kid:UInt64}{number:Nat}(hk:Nq x lab=some (kid,number)):∃(i:Nat)(h1:i<x.kids.length)(h2:i<x.labels.length),x.labels[i]=lab/\kid=x.kids[i]/\number=Nr x i:=by
 have hl:=((AY x).1 h).2.2.1;unfold Nq at hk;split at hk
 ·rename_i i hf;rw [if_pos h]at hk;simp only [Option.some.injEq,Prod.mk.injEq]at hk;unfold Jj at hf;obtain⟨hi,hp,_⟩:=List.findIdx?_eq_some_iff_getElem.1 hf;have he:x.labels[i]=lab:=UInt8.toNat_inj.1 (by simpa using hp);refine⟨i,by omega,hi,he,?_,?_⟩
  ·rw [<-hk.1,AZ,Af (by omega)];rfl
  ·rw [<-hk.2];unfold Nr;rw [UU hi,he]
 ·cases hk
theorem Zn{x:Nd}(h:BG x=true){lab:UInt8}(hk:Nq x lab=none):NH x.labels lab=false:=by
 unfold Nq at hk;split at hk
 ·rw [if_pos h]at hk;cases hk
 ·rename_i hf;unfold Jj at hf;rw [List.findIdx?_eq_none_iff]at hf;unfold NH;rw [List.any_eq_false];intro y hy;have:=hf y hy;simpa using this
theorem Qc(pre:List UInt8)(ls:List UInt8)(ps:List Part)(i:Nat)(h1:i<ls.length)(h2:i<ps.length)(h:ls.length=ps.length):
 Bd pre ls ps=Bd pre (ls.take i) (ps.take i)++(E5 pre ls[i] ps[i].items++Bd pre (ls.drop (i+1)) (ps.drop (i+1))):=by
 rw [PY pre ls ps i h,EG h1,EG h2];rfl
theorem Jt(ps:List Part)(i:Nat)(h2:i<ps.length):AP ps=AP (ps.take i)++(ps[i].blocks++AP (ps.drop (i+1))):=by
 rw [Pg ps i,EG h2];rfl
def QB(q:List UInt8)(l:List Kv):List Kv:=l.map fun kv=>(q++kv.1,kv.2)
theorem jd(l:List Kv):QB [] l=l:=by simp [QB]
theorem UX(pre:List UInt8)(lb:UInt8)(q:List UInt8)(A l B:List Kv):E5 pre lb (A++QB q l++B)=E5 pre lb A++QB (pre++lb::q) l++E5 pre lb B:=by
 unfold E5 QB;simp [FM,Function.comp_def,AA]
structure UY(L:Nat)(s:St)(r:Nat)(name:UInt64)(items:List Kv)(blocks:List Nat)(word:Int)(rest:List UInt8)(last:Pl)(rest' q:List UInt8)(rl:Nat)(nl:UInt64)(parts:List Part)(A B:List Kv)(b1 b2:List Nat):Prop where
 rd:Et s nl=some last.nd
 off:AX nl=last.off
 pre:last.nd.pre.length<=rl
 kid:last.nd.kids≠[]->last.nd.pre.length+1<=rl
 len:parts.length=last.nd.kids.length
 sub:∀i(h1:i<last.nd.kids.length)(h2:i<parts.length),Dw s (rl-last.nd.pre.length-1) last.nd.kids[i] parts[i].items parts[i].blocks
 cut:rest=q++rest'
 lens:q.length+rl=r
 its:items=A++QB q (BB last.nd++Bd last.nd.pre last.nd.labels parts)++B
 qF:blocks=b1++(last.off.toNat::AP parts)++b2
 lo:∀kv∈A,∀t,Op.bytesLess kv.1 (q++t)=true
 hi:∀kv∈B,∀t,Op.bytesLess (q++t) kv.1=true
 wd:(q=[]/\last.word=word/\nl=name)\/(q≠[]/\∃p c j,p∈b1/\AO s p c/\FY p c j/\last.word=((8*j:Nat):Int)/\s.ws j=nl)
 swap:∀(s':St)(name':UInt64)(Ut:List Kv)(RQ:List Nat),Bz L s'->name'≠0->Dw s' rl name' Ut RQ->(∀o c,(o∈b1\/o∈b2)->AO s o c->AO s' o c/\∀j,FY o c j->s'.ws j=if((8*j:Nat):Int)=last.word then name' else s.ws j)->
  Dw s' r (if q=[]then name' else name) (A++QB q Ut++B) (b1++RQ++b2)
structure Ala(L:Nat)(s:St)(r:Nat)(name:UInt64)(items:List Kv)(blocks:List Nat)(word:Int)(rest:List UInt8)(last:Pl)(rest' q:List UInt8)(rl:Nat)(nl:UInt64)(parts:List Part)(A B:List Kv)(b1 b2:List Nat):Prop extends UY L s r name items blocks word rest last rest' q rl nl parts A B b1 b2 where
 stop:common last.nd.pre rest'<last.nd.pre.length\/common last.nd.pre rest'=rest'.length\/Nq last.nd (rest'.getD (common last.nd.pre rest') 0)=none
section
variable{L:Nat}{s:St}
theorem Qd(ok:Bz L s){o p c d j k:Nat}(h:AO s o c)(k1:AO s p d)(hne:o≠p)(hj:FY o c j)(hk:FY p d k):j≠k:=fun e=>by
 subst e;exact PR (gz ok h k1 hne) (h.bounds ok).2.2 (k1.bounds ok).2.2 hj hk
theorem Zo(ok:Bz L s){r:Nat}{name:UInt64}{nd:Nd}{parts:List Part}{o:Nat}{rest Ad2:List UInt8}{word:Int}{i:Nat}(ho:AX name=o)(htk:AO s o (CU nd))(hr:BG nd=true)(hw:wordsAt s.ws (o/8) (8*AQ (CU nd))=Du nd)
 (hpre:nd.pre.length<=r)(hlen:parts.length=nd.kids.length)
 (hk:∀i(h1:i<nd.kids.length)(h2:i<parts.length),Dw s (r-nd.pre.length-1) nd.kids[i] parts[i].items parts[i].blocks)(hnd:((AX name).toNat::AP parts).Nodup)(hi1:i<nd.kids.length)(hi2:i<nd.labels.length)(hi3:i<parts.length)(hkr:nd.pre.length+1<=r)(hcut:nd.pre++nd.labels[i]::Ad2=rest)
 {last:Pl}{rest' q0:List UInt8}{rl:Nat}{nl:UInt64}{Uu:List Part}{A0 B0:List Kv}{b10 b20:List Nat}
 (S:UY L s (r-nd.pre.length-1) nd.kids[i] parts[i].items parts[i].blocks (AX name+8*(Nr nd i:Nat)) Ad2 last rest' q0 rl nl Uu A0 B0 b10 b20):
 UY L s r name (BB nd++Bd nd.pre nd.labels parts) ((AX name).toNat::AP parts) word rest last rest' (nd.pre++nd.labels[i]::q0) rl nl Uu (BB nd++Bd nd.pre (nd.labels.take i) (parts.take i)++E5 nd.pre nd.labels[i] A0) (E5 nd.pre nd.labels[i] B0++Bd nd.pre (nd.labels.drop (i+1)) (parts.drop (i+1))) (o::AP (parts.take i)++b10) (b20++AP (parts.drop (i+1))):=by
 have hr':=(AY nd).1 hr;obtain⟨hnd1,Y4⟩:=List.nodup_cons.1 hnd;have hkb:=Jt parts i hi3;have Ad3:=Y4;rw [hkb]at Ad3;obtain⟨n1,n2,n3⟩:=List.nodup_append.1 Ad3;obtain⟨n4,n5,n6⟩:=List.nodup_append.1 n2;rw [ho]at hnd1;rw [Bq]at hnd1;obtain⟨pf1,pf2,_⟩:=kT nd hr i hi1;have hpos:(Du nd)[Nr nd i]? =some nd.kids[i]:=pJ nd hr i hi1;have fH:=htk.bounds ok;have hlw:=Jc nd;have hpw:FY o (CU nd) (o/8+Nr nd i):=⟨by omega,by omega⟩;have hwp:s.ws (o/8+Nr nd i)=nd.kids[i]:=by
  rw [<-hw]at hpos;unfold wordsAt at hpos;rw [BC,QO (by omega)]at hpos;simpa using hpos
 have hword:∃p c j,(p=o\/p∈b10)/\AO s p c/\FY p c j/\last.word=((8*j:Nat):Int)/\s.ws j=nl:=by
  rcases S.wd with⟨e1,e2,e3⟩| ⟨_,p,c,j,h1,h2,h3,h4,h5⟩
  ·refine⟨o,_,_,.inl rfl,htk,hpw,?_,by rw [hwp,e3]⟩;rw [e2,ho];omega
  ·exact⟨p,c,j,.inr h1,h2,h3,h4,h5⟩
 have MI:∀p∈b10,p∈parts[i].blocks:=fun p hp=>by rw [S.qF];simp [hp]
 have Aem:∀p∈b20,p∈parts[i].blocks:=fun p hp=>by rw [S.qF];simp [hp]
 have Ai6:∀j(h:j<nd.labels.length),j<i->nd.labels[j].toNat<nd.labels[i].toNat:=fun j h hji=>Gs _ hr'.2.2.2.2.1 j i hji hi2
 have Afm:∀j(h:j<nd.labels.length),i<j->nd.labels[i].toNat<nd.labels[j].toNat:=fun j h hji=>Gs _ hr'.2.2.2.2.1 i j hji h
 refine⟨S.rd,S.off,S.pre,S.kid,S.len,S.sub,?_,?_,?_,?_,?_,?_,?_,?_⟩
 ·rw [AA,BI,<-S.cut];exact hcut.symm
 ·have:=S.lens;simp only [Az,Bh];omega
 ·rw [Qc nd.pre nd.labels parts i hi2 hi3 (by omega),S.its,UX];simp only [AA]
 ·rw [ho,Bq,hkb,S.qF];simp only [AA,BI]
 ·intro kv hkv t;rw [AA,BI];rcases List.mem_append.1 hkv with h| h
  ·rcases List.mem_append.1 h with h| h
   ·obtain⟨rfl,_⟩:=EF h;exact Zg _ _ _
   ·obtain⟨j,j1,j2,kv',_,rfl⟩:=Ei h;simp only [Dt]at j1;rw [List.getElem_take,LM];exact Ry (Ai6 j (by omega) (by omega)) _ _
  ·obtain⟨kv',h',rfl⟩:=List.mem_map.1 h;have:=S.lo kv' h' t;show Op.bytesLess (nd.pre++nd.labels[i]::kv'.1) _=true;rw [LM];simp [Op.bytesLess,this]
 ·intro kv hkv t;rw [AA,BI];rcases List.mem_append.1 hkv with h| h
  ·obtain⟨kv',h',rfl⟩:=List.mem_map.1 h;have:=S.hi kv' h' t;show Op.bytesLess _ (nd.pre++nd.labels[i]::kv'.1)=true;rw [LM];simp [Op.bytesLess,this]
  ·obtain⟨j,j1,j2,kv',_,rfl⟩:=Ei h;simp only [Au]at j1;rw [Vj,LM];exact Ry (Afm _ (by omega) (by omega)) _ _
 ·right;refine⟨by simp,?_⟩;obtain⟨p,c,j,h1,h2⟩:=hword;refine⟨p,c,j,?_,h2⟩;rcases h1 with rfl| h1
  ·simp
  ·simp [h1]
 ·intro s' name' Ut RQ ok' hn' T' hkeep;obtain⟨pw,cw,jw,Alb,Alc,Ald,Ale,Amx⟩:=hword;have zA:∀p c j,p≠pw->AO s p c->FY p c j->¬((8*j:Nat):Int)=last.word:=fun p c j hp ht hj e=>by
   have:=Qd ok ht Alc hp hj Ald;rw [Ale]at e;omega
  have T0:=S.swap s' name' Ut RQ ok' hn' T' (fun p c hp ht=>hkeep p c (by
   rcases hp with hp| hp
   ·left;simp [hp]
   ·right;simp [hp]) ht)
  obtain⟨Qe,qG⟩:∃k,k=(if q0=[]then name' else nd.kids[i]):=⟨_,rfl⟩;rw [<-qG]at T0;have hk0':Qe≠0:=by
   rw [qG];split
   ·exact hn'
   ·exact fun e=>hr'.2.2.2.2.2 i hi1 (by rw [e];rfl)
  obtain⟨t1,t2⟩:=hkeep o _ (by left;simp) htk;have hread:Et s' name=some (Jd nd i Qe):=by
   refine VE ok' ho (by rw [UW];exact t1) (jc hr i hk0') ?_;rw [UW,uP hr hi1 Qe];refine DX (by simp [wordsAt,hlw]) fun t g1 g2=> ?_
   have htl:t<8*AQ (CU nd):=by simpa [wordsAt]using g1
   have hold:s.ws (o/8+t)=(Du nd)[t]'(by omega):=by
    have:(wordsAt s.ws (o/8) (8*AQ (CU nd)))[t]? =(Du nd)[t]? :=by rw [hw]
    unfold wordsAt at this;rw [BC,QO htl,Af (by omega)]at this;simpa using this
   have hib:FY o (CU nd) (o/8+t):=⟨by omega,by omega⟩;rw [PZ,t2 _ hib,Je];rcases S.wd with⟨e1,e2,e3⟩| ⟨e1,p,c,j,p1,p2,p3,p4,p5⟩
   ·have hkn:Qe=name':=by rw [qG,if_pos e1]
    by_cases e:t=Nr nd i
    ·rw [if_pos (by rw [e2,ho];omega),if_pos e.symm,hkn]
    ·rw [if_neg (by rw [e2,ho];omega),if_neg (fun h=>e h.symm)];exact hold
   ·have hkn:Qe=nd.kids[i]:=by rw [qG,if_neg e1]
    have hpo:p≠o:=fun e=>hnd1 (by rw [<-e,hkb];simp [MI p p1])
    have:¬((8*(o/8+t):Nat):Int)=last.word:=fun e=>by
     have:=Qd ok htk p2 (fun e=>hpo e.symm) hib p3;rw [p4]at e;omega
    rw [if_neg this];by_cases e:Nr nd i=t
    ·subst e;rw [if_pos rfl,hkn,hwp]
    ·rw [if_neg e];exact hold
  have T2:=Dw.mk (s:=s') r name (Jd nd i Qe) (parts.set i ⟨A0++QB q0 Ut++B0,b10++RQ++b20⟩) hread hpre (fun _=>hkr) (by show _=(nd.kids.set i Qe).length;rw [BZ,BZ];exact hlen) (fun t g1 g2=>by
   have g1':t<nd.kids.length:=by have:t<(nd.kids.set i Qe).length:=g1;rwa [BZ]at this
   have g2':t<parts.length:=by rwa [BZ]at g2
   by_cases e:i=t
   ·subst e;have e1:(Jd nd i Qe).kids[i]=Qe:=by show(nd.kids.set i Qe)[i]'(by rw [BZ];exact hi1)=Qe;rw [P7]
    have e2:(parts.set i ⟨A0++QB q0 Ut++B0,b10++RQ++b20⟩)[i]=⟨A0++QB q0 Ut++B0,b10++RQ++b20⟩:=by rw [P7]
    rw [e1,e2];exact T0
   ·have e1:(Jd nd i Qe).kids[t]=nd.kids[t]:=by show(nd.kids.set i Qe)[t]'(by rw [BZ];exact g1')=nd.kids[t];rw [pq e]
    have e2:(parts.set i ⟨A0++QB q0 Ut++B0,b10++RQ++b20⟩)[t]=parts[t]:=by rw [pq e]
    rw [e1,e2];refine(hk t g1' g2').keep ok ok' (B:=fun p=>p∈parts[t].blocks) (fun p c hp ht=> ?_) (fun _ h=>h);have Afn:p∈AP (parts.take i)\/p∈AP (parts.drop (i+1)):=by
     unfold AP;rcases wJ e with h| h
     ·right;exact List.mem_flatten.2 ⟨_,List.mem_map.2 ⟨parts[t],List.mem_drop_iff_getElem.2 ⟨t- (i+1),by omega,by simp only [show i+1+(t- (i+1))=t by omega]⟩,rfl⟩,hp⟩
     ·left;exact List.mem_flatten.2 ⟨_,List.mem_map.2 ⟨parts[t],List.mem_take_iff_getElem.2 ⟨t,by omega,rfl⟩,rfl⟩,hp⟩
    obtain⟨u1,u2⟩:=hkeep p c (by
     rcases Afn with h| h
     ·left;simp [h]
     ·right;simp [h]) ht
    refine⟨u1,fun j hj=> ?_⟩;rw [u2 j hj,if_neg];refine zA p c j (fun e'=> ?_) ht hj;subst e';rcases Alb with h| h
    ·subst h;refine hnd1 ?_;rw [hkb];rcases Afn with h| h<;>simp [h]
    ·have h':=MI _ h;rcases Afn with h2| h2
     ·exact n3 _ h2 _ (by simp [h']) rfl
     ·exact n6 _ h' _ h2 rfl)
  rw [if_neg (by simp)];have hl2:i<(parts.set i (⟨A0++QB q0 Ut++B0,b10++RQ++b20⟩:Part)).length:=by rw [BZ];exact hi3
  rw [ho,Bq,show(Jd nd i Qe).pre=nd.pre from rfl,show(Jd nd i Qe).labels=nd.labels from rfl,show BB (Jd nd i Qe)=BB nd from rfl,
   Qc nd.pre nd.labels _ i hi2 hl2 (by rw [BZ];omega),Jt _ i hl2]at T2
  simp only [P7,List.take_set_of_le (Ad i),List.drop_set_of_lt (Nat.lt_succ_self i)]at T2;rw [UX]at T2;simpa only [AA,BI]using T2
theorem Uw{r:Nat}{name:UInt64}{nd:Nd}{parts:List Part}{rest:List UInt8}{label:UInt8}{word:Int}(hrd:Et s name=some nd)(hpre:nd.pre.length<=r)(MO:nd.kids≠[]->nd.pre.length+1<=r)(hlen:parts.length=nd.kids.length)
 (hk:∀i(h1:i<nd.kids.length)(h2:i<parts.length),Dw s (r-nd.pre.length-1) nd.kids[i] parts[i].items parts[i].blocks):
 UY L s r name (BB nd++Bd nd.pre nd.labels parts) ((AX name).toNat::AP parts) word rest ⟨nd,AX name,label,word⟩ rest [] r name parts [] [] [] []:=
 ⟨hrd,rfl,hpre,MO,hlen,hk,rfl,by simp,by simp [jd],by simp,(fun _ h=>by cases h),(fun _ h=>by cases h),.inl ⟨rfl,rfl,rfl⟩,fun s' name' Ut RQ _ _ T _=>by simpa [jd]using T⟩
theorem Ux{nd:Nd}{rest:List UInt8}{kid:UInt64}{number:Nat}(hr:BG nd=true)(h1:¬(common nd.pre rest<nd.pre.length\/common nd.pre rest=rest.length))(hkp:Nq nd (rest.getD (common nd.pre rest) 0)=some (kid,number)):
 common nd.pre rest=nd.pre.length/\nd.pre.length<rest.length/\∃(i:Nat)(hi1:i<nd.kids.length)(hi2:i<nd.labels.length),kid=nd.kids[i]/\number=Nr nd i/\nd.labels[i]=rest.getD nd.pre.length 0/\nd.pre++nd.labels[i]::rest.drop (nd.pre.length+1)=rest:=by
 obtain⟨i,hi1,hi2,hlab,rfl,rfl⟩:=uQ hr hkp;have hc:common nd.pre rest=nd.pre.length:=by have:=Ho nd.pre rest;omega
 have hlt:nd.pre.length<rest.length:=by have:=Es nd.pre rest;omega
 have hct:=PD nd.pre rest;rw [hc]at hct hlab;rw [KA]at hct;have hcut:=Acu hlt;rw [<-hct,<-hlab]at hcut;exact⟨hc,hlt,i,hi1,hi2,rfl,rfl,hlab,hcut⟩
theorem Zp(ok:Bz L s):∀(f r:Nat)(name:UInt64)(items:List Kv)(blocks:List Nat)(rest:List UInt8)(label:UInt8)(word:Int)(way:List Pl),Dw s r name items blocks->blocks.Nodup->rest.length<f->rest.length<=r->name≠0->
 ∃last rest' q rl nl parts A B b1 b2 zB,DD s f name rest label word way=some (way++zB++[last],rest')/\Ala L s r name items blocks word rest last rest' q rl nl parts A B b1 b2
 | 0,_,_,_,_,_,_,_,_,_,_,h,_,_=>absurd h (by omega)
 | f+1,r,name,items,blocks,rest,label,word,way,ht,hnd,hf,hrl,hn0=>by
   cases ht with
   | mk _ _ nd parts hrd hpre MO hlen hk=>
     obtain⟨o,ho,htk,hr,hw⟩:=Ie ok hrd;rw [DD,if_neg hn0,hrd]
     dsimp only
     by_cases h1:common nd.pre rest<nd.pre.length\/common nd.pre rest=rest.length
     ·rw [if_pos h1];exact⟨⟨nd,AX name,label,word⟩,_,_,_,_,_,_,_,_,_,[],by simp,⟨Uw hrd hpre MO hlen hk,h1.imp id .inl⟩⟩
     ·rw [if_neg h1];cases hkp:Nq nd (rest.getD (common nd.pre rest) 0)with
      | none=>exact⟨⟨nd,AX name,label,word⟩,_,_,_,_,_,_,_,_,_,[],by simp,⟨Uw hrd hpre MO hlen hk,.inr (.inr hkp)⟩⟩
      | some kn=>
        obtain⟨kid,number⟩:=kn;obtain⟨hc,hlt,i,hi1,hi2,rfl,rfl,hlab,hcut⟩:=Ux hr h1 hkp;have hi3:i<parts.length:=by omega
        have hkr:=MO (fun e=>by rw [e]at hi1;simp at hi1);have Y4:=(List.nodup_cons.1 hnd).2;rw [Jt parts i hi3]at Y4;have n4:=(List.nodup_append.1 (List.nodup_append.1 Y4).2.1).1;obtain⟨last,rest',q0,rl,nl,Uu,A0,B0,b10,b20,zB,hp,S⟩:=Zp ok f (r-nd.pre.length-1) nd.kids[i] parts[i].items parts[i].blocks (rest.drop (nd.pre.length+1)) (rest.getD (common nd.pre rest) 0) (AX name+8*(Nr nd i:Nat)) (way++[⟨nd,AX name,label,word⟩]) (hk i hi1 hi3) n4 (by rw [Au];omega) (by rw [Au];omega) (fun e=>((AY nd).1 hr).2.2.2.2.2 i hi1 (by rw [e];rfl));simp only;rw [hc]at hp⊢;exact⟨last,rest',_,rl,nl,Uu,_,_,_,_,⟨nd,AX name,label,word⟩::zB,by rw [hp];simp,⟨Zo ok ho htk hr hw hpre hlen hk hnd hi1 hi2 hi3 hkr hcut S.toUY,S.stop⟩⟩
end
structure Ph(X:Nat->Prop)(L:Nat)(s:St)(items:List Kv):Prop where
 ok:Bz L s
 nh:∀o d,¬EP s o d
 tree:(s.ws 9=0/\items=[]/\∀o,(∃d,AO s o d)<->X o)\/(∃blocks,s.ws 9≠0/\Dw s 32 (s.ws 9) items blocks/\blocks.Nodup/\(∀o∈blocks,¬X o)/\∀o,(∃d,AO s o d)<->o∈blocks\/X o)
 even:∀kv∈items,KE kv.1=true
abbrev Alf:=Ph (fun _=>False)
structure Qg(X:Nat->Prop)(s s':St):Prop where
 sh:s'.sh=s.sh
 low:∀j,j<16->j≠9->s'.ws j=s.ws j
 keep:EX s s' X
section
variable{X:Nat->Prop}{L:Nat}{s:St}
theorem Oe{s s':St}(h1:s'.hd=s.hd)(h2:s'.sh=s.sh)(o d:Nat):EP s' o d<->EP s o d:=by
 unfold EP hdN;rw [h1,h2]
theorem Tv:∀(l:List Nat){s:St}(_:Bz L s),l.Nodup->(∀o∈l,∃d,AO s o d)->
 ∃s2,KW s (l.map CV)=s2/\Bz L s2/\s2.sh=s.sh/\s2.hd=s.hd/\(∀j,(j<16\/16+s.sh.BQ<=j)->s2.ws j=s.ws j)/\∀o d,AO s2 o d<->AO s o d/\o∉l
 | [],s,ok,_,_=>⟨s,rfl,ok,rfl,rfl,fun _ _=>rfl,fun o d=>by simp⟩
 | o::l,s,ok,hn,ht=>by
   obtain⟨hn1,hn2⟩:=List.nodup_cons.1 hn;obtain⟨d,hd⟩:=ht o (Be ..);obtain⟨s1,e1,ok1,sh1,hd1,ws1,tk1⟩:=aQ ok hd;obtain⟨s2,e2,ok2,jZ,hd2,ws2,bH⟩:=Tv l ok1 hn2 (fun p hp=>by
    obtain⟨d',hd'⟩:=ht p (Bi _ hp);exact⟨d',(tk1 p d').2 ⟨hd',fun e=>hn1 (e▸hp)⟩⟩)
   refine⟨s2,?_,ok2,jZ.trans sh1,hd2.trans hd1,fun j hj=>(ws2 j (by rw [sh1];exact hj)).trans (ws1 j hj),fun p c=> ?_⟩
   ·rw [<-e2];unfold KW;rw [Bo,Ql];show List.foldl _ (EJ s (CV o)).1 _=_;rw [show(CV o)=(o:Int)from rfl,e1]
   ·rw [bH,tk1,La,not_or];exact⟨fun h=>⟨h.1.1,h.1.2,h.2⟩,fun h=>⟨⟨h.1,h.2.1⟩,h.2.2⟩⟩
theorem XD:∀(l:List Nat){s:St}(_:Bz L s),l.Nodup->(∀o∈l,∃d,AO s o d)->LX s (l.map CV) 0=(KW s (l.map CV),0)
 | [],s,_,_,_=>rfl
 | o::l,s,ok,hn,ht=>by
   obtain⟨hn1,hn2⟩:=List.nodup_cons.1 hn;obtain⟨d,hd⟩:=ht o (Be ..);obtain⟨s1,e1,ok1,sh1,hd1,ws1,tk1⟩:=aQ ok hd;have ih:=XD l ok1 hn2 (fun p hp=>by
    obtain⟨d',hd'⟩:=ht p (Bi _ hp);exact⟨d',(tk1 p d').2 ⟨hd',fun e=>hn1 (e▸hp)⟩⟩)
   unfold KW at ih⊢;rw [Bo,Ql,LX,show(CV o)=(o:Int)from rfl,e1];simpa using ih
theorem qH{s0:St}{j:Jb}{B:List Nat}(_:Bz L s0)(g:Grown L s0 j B):∃s2,KW j.s j.made=s2/\Bz L s2/\(∀o d,¬EP s2 o d)/\(∀o,(∃d,AO s2 o d)<->∃d,AO s0 o d)/\EX s0 s2 (fun _=>True)/\(∀i,i<16->s2.ws i=s0.ws i)/\s2.sh=s0.sh:=by
 obtain⟨s2,e2,ok2,jZ,hd2,ws2,bH⟩:=Tv B g.ok g.nC (fun o ho=>(g.tk o).2 (.inr ho));refine⟨s2,by rw [g.made];exact e2,ok2,fun o d h=>g.nh o d ((Oe hd2 jZ o d).1 h),fun o=> ?_,fun o c _ ht=> ?_,fun i hi=>(ws2 i (.inl hi)).trans (g.low i hi),jZ.trans g.sh⟩
 ·constructor
  ·rintro⟨d,h⟩;obtain⟨h1,h2⟩:=(bH o d).1 h;exact((g.tk o).1 ⟨d,h1⟩).resolve_right h2
  ·rintro⟨d,h⟩;obtain⟨h1,_⟩:=g.keep o d trivial h;exact⟨d,(bH o d).2 ⟨h1,fun hB=>g.new o hB d h⟩⟩
 ·obtain⟨h1,h2⟩:=g.keep o c trivial ht;refine⟨(bH o c).2 ⟨h1,fun hB=>g.new o hB c ht⟩,fun j hj=> ?_⟩;rw [ws2 j (.inr ?_),h2 j hj];have:=g.ok.Dz (h1.bounds g.ok).1 hj;exact this
theorem Ph.same{s':St}{items:List Kv}(h:Ph X L s items)(ok':Bz L s')(nh':∀o d,¬EP s' o d)(htk:∀o,(∃d,AO s' o d)<->∃d,AO s o d)(hk:EX s s' (fun _=>True))(h9:s'.ws 9=s.ws 9):Ph X L s' items:=by
 refine⟨ok',nh',?_,h.even⟩;rcases h.tree with⟨h1,h2,h3⟩| ⟨bl,h1,h2,h3,hX,h4⟩
 ·exact .inl ⟨by rw [h9,h1],h2,fun o=>(htk o).trans (h3 o)⟩
 ·exact .inr ⟨bl,by rw [h9];exact h1,by rw [h9];exact h2.keep h.ok ok' hk (fun _ _=>trivial),h3,hX,fun o=>(htk o).trans (h4 o)⟩
theorem je{a b:List UInt8}(h:Op.bytesLess a b=true):a≠b:=fun e=>by rw [e,Fa]at h;cases h
theorem DC{q:List UInt8}{l:List Kv}{kv:Kv}:kv∈QB q l<->∃k,(k,kv.2)∈l/\kv.1=q++k:=by
 unfold QB;rw [List.mem_map];constructor
 ·rintro⟨kv',h,rfl⟩;exact⟨kv'.1,h,rfl⟩
 ·rintro⟨k,h,e⟩;exact⟨(k,kv.2),h,by cases kv;simp only at e;subst e;rfl⟩
def jf(items items':List Kv)(k:List UInt8)(v:UInt64):Prop:=∀kv,kv∈items'<->kv=(k,v)\/(kv∈items/\kv.1≠k)
def qI(X:Nat->Prop)(L:Nat)(s:St)(items:List Kv)(k:List UInt8)(v:UInt64)(r:St×Int):Prop:=
 Qg X s r.1/\((r.2=6/\Ph X L r.1 items/\∀kv∈items,kv.1≠k)\/(r.2=0/\∃items',Ph X L r.1 items'/\jf items items' k v))
theorem Uy(k:List UInt8):KE (CQ k)=true:=kG k
theorem uS{items:List Kv}(h:Ph X L s items)(h0:s.ws 9=0)(key:List UInt8)(hk:key.length<=16)(value:UInt64)(hv:value≠0):qI X L s items (CQ key) value (FZ s key value):=by
 have hi:items=[]/\∀o,(∃d,AO s o d)<->X o:=by
  rcases h.tree with⟨_,h2,h3⟩| ⟨_,h1,_⟩
  ·exact⟨h2,h3⟩
  ·exact absurd h0 h1
 have hlen:=KD key;have hp:Fj s key=some ([],CQ key):=by
  unfold Fj;rw [h0,DD,if_pos rfl]
 have hL:=VF ((CQ key).length+1) (Grown.start h.ok h.nh) 32 (CQ key) value (by omega) (by omega) (VR key) hv;unfold FZ;rw [if_neg (by omega),if_neg hv,hp];simp only [CB,List.getLast?_nil];generalize Ii ((CQ key).length+1) ⟨s,[]⟩ (CQ key) value=res at hL;obtain⟨j,name,e⟩:=res;rcases hL with⟨e1,B',g⟩| ⟨e1,C,bl,g,hkp,hn,T,hp⟩
 ·simp only at e1 g;subst e1;simp only [Dx];rw [if_pos (by decide)];obtain⟨s2,e2,ok2,nh2,bH,kp2,lo2,jZ⟩:=qH h.ok g;rw [e2];refine⟨⟨jZ,fun j hj _=>lo2 j hj,fun o c _ ht=>kp2 o c trivial ht⟩,?_⟩;exact .inl ⟨rfl,h.same ok2 nh2 bH kp2 (lo2 9 (by decide)),fun kv hkv=>by rw [hi.1]at hkv;cases hkv⟩
 ·simp only at e1 g hkp hn T;subst e1;rw [DN]at g;simp only [Dx,LX];rw [if_neg (by simp)];obtain⟨s',hs'⟩:∃s',s'=({j.s with ws:=FH j.s.ws ((72:Int).toNat/8) name}:St):=⟨_,rfl⟩;rw [<-hs'];have hw:∀i,s'.ws i=if i=9 then name else j.s.ws i:=fun i=>by rw [hs'];rfl
  have ok':Bz L s':=hs'▸g.ok.words (fun i hi=>by
   show FH j.s.ws 9 name (16+i)=_;unfold FH;rw [if_neg (by omega)])
  have htk:∀o d,AO s' o d<->AO j.s o d:=fun o d=>by rw [hs'];exact Iff.rfl
  have hk':EX j.s s' (fun _=>True):=fun o c _ ht=>⟨(htk o c).2 ht,fun i hi=>by
   rw [hw,if_neg];have:=g.ok.Dz (ht.bounds g.ok).1 hi;omega⟩
  have hCX:∀o∈bl,¬X o:=fun o ho hx=>by
   obtain⟨d,hd⟩:=(hi.2 o).2 hx;exact g.new o (hp.mem_iff.1 ho) d hd
  refine⟨⟨by rw [hs'];exact g.sh,fun j hj hj9=>by rw [hw,if_neg hj9,g.low j hj],fun o c _ ht=> ?_⟩,?_⟩
  ·obtain⟨u1,u2⟩:=g.keep o c trivial ht;obtain⟨u3,u4⟩:=hk' o c trivial u1;exact⟨u3,fun j hj=>(u4 j hj).trans (u2 j hj)⟩
  right;refine⟨rfl,[(CQ key,value)],?_,fun kv=>by rw [hi.1];simp⟩;refine⟨ok',fun o d hh=>g.nh o d (by rw [hs']at hh;exact hh),.inr ⟨bl,by rw [hw,if_pos rfl];exact hn,by rw [hw,if_pos rfl];exact T.keep g.ok ok' hk' (fun _ _=>trivial),hp.nodup_iff.2 g.nC,hCX,fun o=> ?_⟩,fun kv hkv=>by rw [BM]at hkv;subst hkv;exact Uy key⟩;rw [show(∃d,AO s' o d)<->∃d,AO j.s o d from exists_congr (htk o),g.tk o,hp.mem_iff,hi.2 o];exact or_comm
end
theorem uT(x:Nd)(v:UInt64):Du {x with val:=v}=(Du x).set 2 v:=by
 have hl:(Du {x with val:=v}).length=(Du x).length:=by rw [DY,DY]
 refine List.ext_getElem? fun i=> ?_
 rw [List.getElem?_set];by_cases h:2=i
 ·subst h;rw [xB,if_pos rfl,if_pos];rw [DY];split<;>omega
 ·rw [if_neg h,xA x v i (fun e=>h e.symm)]
section
variable{X:Nat->Prop}{L:Nat}{s:St}
structure Nj(L:Nat)(s:St)(items:List Kv)(blocks:List Nat)(key:List UInt8)(last:Pl)(rest' q:List UInt8)(rl:Nat)(nl:UInt64)(parts:List Part)(A B:List Kv)(b1 b2:List Nat)(o:Nat):Prop where
 spot:UY L s 32 (s.ws 9) items blocks 72 (CQ key) last rest' q rl nl parts A B b1 b2
 off:last.off=o
 tk:AO s o (CU last.nd)
 right:BG last.nd=true
 words:wordsAt s.ws (o/8) (8*AQ (CU last.nd))=Du last.nd
 n1:o∉b1
 n2:o∉b2
 n3:o∉AP parts
 d1:∀p∈b1,p∉AP parts
 d2:∀p∈b2,p∉AP parts
 d3:∀p∈b1,p∉b2
 m1:b1.Nodup
 m2:b2.Nodup
 m3:(AP parts).Nodup
 qF:blocks=b1++(o::AP parts)++b2
structure Uz(L:Nat)(s:St)(items:List Kv)(blocks:List Nat)(key:List UInt8)(last:Pl)(rest' q:List UInt8)(rl:Nat)(nl:UInt64)(parts:List Part)(A B:List Kv)(b1 b2:List Nat)(o:Nat):Prop extends Nj L s items blocks key last rest' q rl nl parts A B b1 b2 o where
 stop:common last.nd.pre rest'<last.nd.pre.length\/common last.nd.pre rest'=rest'.length\/Nq last.nd (rest'.getD (common last.nd.pre rest') 0)=none
theorem qJ(h:Bz L s){items:List Kv}{blocks:List Nat}{key rest' q:List UInt8}{last:Pl}{rl:Nat}{nl:UInt64}{parts:List Part}{A B:List Kv}{b1 b2:List Nat}(hnd:blocks.Nodup)(S:UY L s 32 (s.ws 9) items blocks 72 (CQ key) last rest' q rl nl parts A B b1 b2):
 ∃o,Nj L s items blocks key last rest' q rl nl parts A B b1 b2 o:=by
 obtain⟨o,ho,ht,hr,hw⟩:=Ie h S.rd;have hoff:last.off=o:=S.off.symm.trans ho;have hb:=S.qF;rw [hoff,Bq]at hb;have hnd':=hnd;rw [hb]at hnd';obtain⟨x1,x2,x3⟩:=List.nodup_append.1 hnd';obtain⟨y1,y2,y3⟩:=List.nodup_append.1 x1;obtain⟨z1,z2⟩:=List.nodup_cons.1 y2;exact⟨o,⟨S,hoff,ht,hr,hw,fun h=>y3 _ h _ (Be ..) rfl,fun h=>x3 _ (by simp) _ h rfl,z1,fun p hp hk=>y3 _ hp _ (Bi _ hk) rfl,fun p hp hk=>x3 _ (by simp [hk]) _ hp rfl,fun p hp hk=>x3 _ (by simp [hp]) _ hk rfl,y1,x2,z2,hb⟩⟩
theorem around(h:Bz L s){items:List Kv}{blocks:List Nat}(hn0:s.ws 9≠0)(T:Dw s 32 (s.ws 9) items blocks)(hnd:blocks.Nodup)(key:List UInt8)(hk:key.length<=16):
 ∃way last rest' q rl nl parts A B b1 b2 o,Fj s key=some (way++[last],rest')/\Uz L s items blocks key last rest' q rl nl parts A B b1 b2 o:=by
 have hlen:=KD key;obtain⟨last,rest',q,rl,nl,parts,A,B,b1,b2,zB,hp,S⟩:=Zp h (2*key.length+1) 32 (s.ws 9) items blocks (CQ key) 0 72 [] T hnd (by omega) (by omega) hn0;obtain⟨o,a⟩:=qJ h hnd S.toUY;exact⟨zB,last,rest',q,rl,nl,parts,A,B,b1,b2,o,by unfold Fj;rw [hp];simp,⟨a,S.stop⟩⟩
variable{items:List Kv}{blocks:List Nat}{key:List UInt8}{last:Pl}{rest' q:List UInt8}{rl:Nat}{nl:UInt64}{parts:List Part}{A B:List Kv}{b1 b2:List Nat}{o:Nat}
theorem Nj.word(ok:Bz L s)(a:Nj L s items blocks key last rest' q rl nl parts A B b1 b2 o):∃jw:Nat,last.word=((8*jw:Nat):Int)/\s.ws jw=nl/\(jw<16\/16+s.sh.BQ<=jw)/\((q=[]/\jw=9)\/(q≠[]/\∃p c,p∈b1/\AO s p c/\FY p c jw)):=by
 rcases a.spot.wd with⟨h1,h2,h3⟩| ⟨h1,p,c,j,h2,h3,h4,h5,h6⟩
 ·exact⟨9,by rw [h2];rfl,h3.symm,.inl (by decide),.inl ⟨h1,rfl⟩⟩
 ·exact⟨j,h5,h6,.inr (ok.Dz (h3.bounds ok).1 h4),.inr ⟨h1,p,c,h2,h3,h4⟩⟩
theorem Nj.other(a:Nj L s items blocks key last rest' q rl nl parts A B b1 b2 o)(kv:Kv)(h:kv∈A\/kv∈B):kv.1≠CQ key:=by
 rw [a.spot.cut];rcases h with h| h
 ·exact je (a.spot.lo kv h rest')
 ·exact fun e=>je (a.spot.hi kv h rest') e.symm
theorem jg{items:List Kv}{blocks:List Nat}(h:Ph X L s items)(hn0:s.ws 9≠0)(htk:∀o,(∃d,AO s o d)<->o∈blocks\/X o)(hX:∀o∈blocks,¬X o)(hnd:blocks.Nodup)(a:Nj L s items blocks key last rest' q rl nl parts A B b1 b2 o)(hp:last.nd.pre=rest')(value:UInt64):
 Qg X s (Jl s last value)/\Ph X L (Jl s last value) (A++QB q (BB {last.nd with val:=value}++Bd last.nd.pre last.nd.labels parts)++B):=by
 have ok:=h.ok;obtain⟨jw,hj1,hj2,hj3,hj4⟩:=a.word ok;have fH:=a.tk.bounds ok;have S:=a.spot;obtain⟨s',hs'⟩:∃s',s'=Jl s last value:=⟨_,rfl⟩;have hw:∀i,s'.ws i=if i=o/8+2 then value else s.ws i:=fun i=>by
  rw [hs'];show FH s.ws (last.off.toNat/8+2) value i=_;rw [a.off,Bq];rfl
 have hin:FY o (CU last.nd) (o/8+2):=⟨by omega,by
  have:=(Eh (NZ last.nd)).2.1;omega⟩
 have hout:=ok.Dz fH.1 hin;have ok':Bz L s':=by
  rw [hs'];exact ok.words (fun i hi=>by
   show FH s.ws (last.off.toNat/8+2) value (16+i)=_;rw [a.off,Bq];unfold FH;rw [if_neg (by omega)])
 have Afo:∀p d,AO s' p d<->AO s p d:=fun p d=>by rw [hs'];exact Iff.rfl
 have hkeep:EX s s' (fun p=>p≠o):=fun p c hp ht=>⟨(Afo p c).2 ht,fun j hj=>by
  rw [hw,if_neg (Qd ok ht a.tk hp hj hin)]⟩
 have hrd:Et s' nl=some {last.nd with val:=value}:=by
  refine VE ok' (S.off.trans a.off) ((Afo _ _).2 a.tk) (by rw [kM];exact a.right) ?_;rw [show CU {last.nd with val:=value}=CU last.nd from rfl,uT];refine DX (by simp [wordsAt,Jc]) fun t g1 g2=> ?_
  have htl:t<8*AQ (CU last.nd):=by simpa [wordsAt]using g1
  have hold:s.ws (o/8+t)=(Du last.nd)[t]'(by rw [Jc];exact htl):=by
   have:(wordsAt s.ws (o/8) (8*AQ (CU last.nd)))[t]? =(Du last.nd)[t]? :=by rw [a.words]
   unfold wordsAt at this;rw [BC,QO htl,Af (by rw [Jc];exact htl)]at this;simpa using this
  rw [PZ,hw,Je];by_cases e:t=2
  ·rw [if_pos (by omega),if_pos e.symm]
  ·rw [if_neg (by omega),if_neg (fun h=>e h.symm)];exact hold
 have T:=Dw.mk (s:=s') rl nl {last.nd with val:=value} parts hrd S.pre S.kid S.len (fun i h1 h2=>(S.sub i h1 h2).keep ok ok' hkeep (fun p hp e=>a.n3 (e▸QL h2 hp)));rw [S.off,a.off,Bq]at T;have T2:=S.swap s' nl _ _ ok' (fun e=>by
  rcases hj4 with⟨h1,h2⟩| ⟨h1,h2⟩
  ·rw [h2]at hj2;exact hn0 (hj2.trans e)
  ·have:=S.rd;rw [e]at this;obtain⟨o',ho',ht',_⟩:=Ie ok this;have:=(ht'.bounds ok).1;have hz:AX 0=0:=by decide
   rw [hz]at ho';have:=ok.sh.NR;omega) T (fun p c hp ht=>by
  have hpo:p≠o:=fun e=>by subst e;exact hp.elim a.n1 a.n2
  obtain⟨u1,u2⟩:=hkeep p c hpo ht;refine⟨u1,fun j hj=> ?_⟩;rw [u2 j hj];split
  ·rename_i e;rw [hj1]at e;rw [<-hj2];congr 1;omega
  ·rfl)
 have h9:s'.ws 9=s.ws 9:=by rw [hw,if_neg (by omega)]
 have hname:(if q=[]then nl else s.ws 9)=s.ws 9:=by
  split
  ·rename_i e;rcases hj4 with⟨_,h2⟩| ⟨h1,_⟩
   ·rw [<-hj2,h2]
   ·exact absurd e h1
  ·rfl
 rw [hname]at T2;have hkey:CQ key=q++last.nd.pre:=by rw [hp];exact S.cut
 refine⟨⟨by rfl,fun j hj _=>by rw [<-hs',hw,if_neg (by omega)],fun p c hp ht=>by rw [<-hs'];exact hkeep p c (fun e=>hX o (by rw [a.qF];simp) (e▸hp)) ht⟩,?_⟩;refine⟨by rw [<-hs'];exact ok',fun p d hh=>h.nh p d ((Oe (by rfl) (by rfl) p d).1 hh),.inr ⟨blocks,by rw [<-hs',h9];exact hn0,?_,hnd,hX,fun p=> ?_⟩,?_⟩
 ·rw [<-hs',h9,a.qF];exact T2
 ·rw [<-hs',show(∃d,AO s' p d)<->∃d,AO s p d from exists_congr (Afo p)];exact htk p
 ·intro kv hkv;rw [AA]at hkv;rcases List.mem_append.1 hkv with h1| h1
  ·exact h.even kv (by rw [S.its];simp [h1])
  ·rcases List.mem_append.1 h1 with h1| h1
   ·obtain⟨k,h2,h3⟩:=DC.1 h1;rcases List.mem_append.1 h2 with h4| h4
    ·obtain⟨e,_⟩:=EF h4;rw [h3];have e1:k=last.nd.pre:=congrArg Prod.fst e;rw [e1,<-hkey];exact Uy key
    ·refine h.even kv ?_;rw [S.its,AA];exact Bc _ (Bl _ (DC.2 ⟨k,Bc _ h4,h3⟩))
   ·exact h.even kv (by rw [S.its];simp [h1])
theorem uU{items:List Kv}{blocks:List Nat}(h:Ph X L s items)(hn0:s.ws 9≠0)(htk:∀o,(∃d,AO s o d)<->o∈blocks\/X o)(hX:∀o∈blocks,¬X o)(hnd:blocks.Nodup)(a:Uz L s items blocks key last rest' q rl nl parts A B b1 b2 o)(hp:last.nd.pre=rest')(value:UInt64)(hv:value≠0):
 qI X L s items (CQ key) value (Jl s last value,0):=by
 have S:=a.spot;have hkey:CQ key=q++last.nd.pre:=by rw [hp];exact S.cut
 obtain⟨hK,hV⟩:=jg h hn0 htk hX hnd a.toNj hp value;refine⟨hK,?_⟩;right;refine⟨rfl,_,hV,?_⟩;intro kv;have MO:∀k,(k,kv.2)∈Bd last.nd.pre last.nd.labels parts->q++k≠CQ key:=fun k hk e=>by
  obtain⟨i,h1,h2,kv',_,e2⟩:=Ei hk;rw [hkey]at e;have:=Dk e;have e3:k=last.nd.pre++last.nd.labels[i]::kv'.1:=congrArg Prod.fst e2;rw [e3]at this;have:=congrArg Ju this;simp at this
 constructor
 ·intro hkv;rw [AA]at hkv;rcases List.mem_append.1 hkv with h1| h1
  ·exact .inr ⟨by rw [S.its];simp [h1],a.other kv (.inl h1)⟩
  ·rcases List.mem_append.1 h1 with h1| h1
   ·obtain⟨k,h2,h3⟩:=DC.1 h1;rcases List.mem_append.1 h2 with h4| h4
    ·obtain⟨e,_⟩:=EF h4;left;have e1:k=last.nd.pre:=congrArg Prod.fst e;have e2:kv.2=value:=congrArg Prod.snd e;refine Prod.ext ?_ e2;rw [h3,e1,hkey]
    ·refine .inr ⟨?_,by rw [h3];exact MO k h4⟩;rw [S.its,AA];exact Bc _ (Bl _ (DC.2 ⟨k,Bc _ h4,h3⟩))
   ·exact .inr ⟨by rw [S.its];simp [h1],a.other kv (.inr h1)⟩
 ·rintro(rfl| ⟨h1,h2⟩)
  ·rw [AA];refine Bc _ (Bl _ (DC.2 ⟨last.nd.pre,Bl _ ?_,hkey⟩));unfold BB;rw [if_pos hv];exact List.mem_singleton.2 rfl
  ·rw [S.its,AA]at h1;rw [AA];rcases List.mem_append.1 h1 with h3| h3
   ·exact Bl _ h3
   ·rcases List.mem_append.1 h3 with h3| h3
    ·obtain⟨k,h4,h5⟩:=DC.1 h3;rcases List.mem_append.1 h4 with h6| h6
     ·obtain⟨e,_⟩:=EF h6;have e1:k=last.nd.pre:=congrArg Prod.fst e;exact absurd (by rw [h5,e1,hkey]) h2
     ·exact Bc _ (Bl _ (DC.2 ⟨k,Bc _ h6,h5⟩))
    ·exact Bc _ (Bc _ h3)
end
section
variable{X:Nat->Prop}{L:Nat}{s:St}{items:List Kv}{blocks:List Nat}{key:List UInt8}{last:Pl}{rest' q:List UInt8}{rl:Nat}{nl:UInt64}{parts:List Part}{A B:List Kv}{b1 b2:List Nat}{o:Nat}
theorem Zr (h : Ph X L s items) (hn0 : s.ws 9 ≠ 0) (htk : ∀ o, (∃ d, AO s o d) <-> o ∈ blocks \/ X o) (hX : ∀ o ∈ blocks, ¬ X o) (a : Nj L s items blocks key last rest' q rl nl parts A B b1 b2 o) {j : Jb} {C : List Nat} (g : Grown L s j C) {name : UInt64} (hn : name ≠ 0) {Ut : List Kv} {RQ : List Nat}
    (T : Dw j.s rl name Ut RQ) {K D dl : List Nat} (hperm : (AP parts).Perm (K ++ D)) (hpm : RQ.Perm (C ++ K)) (hdl : dl.Perm (D ++ [o])) (hev : ∀ kv ∈ Ut, KE (q ++ kv.1) = true) :
    ∃ s2, Dx j 0 last.word name (dl.map CV) = (s2, 0) /\ Qg X s s2 /\ Ph X L s2 (A ++ QB q Ut ++ B) := by
  have ok := h.ok
  obtain ⟨jw, hj1, hj2, hj3, hj4⟩ := a.word ok
  have S := a.spot
  obtain ⟨s1, hs1⟩ : ∃ s1, s1 = ({ j.s with ws := FH j.s.ws (last.word.toNat / 8) name } : St) := ⟨_, rfl⟩
  have uK : last.word.toNat / 8 = jw := by rw [hj1, Bq]; omega
  have hw1 : ∀ i, s1.ws i = if i = jw then name else j.s.ws i := fun i => by rw [hs1, <- uK]; rfl
  have Afp := g.sh
  have ok1 : Bz L s1 := by
    rw [hs1]
    refine g.ok.words (fun i hi => ?_)
    show FH j.s.ws (last.word.toNat / 8) name (16 + i) = _
    rw [uK]
    unfold FH
    rw [if_neg]
    rw [Afp] at hi
    omega
  have Tj : ∀ p d, AO s1 p d <-> AO j.s p d := fun p d => by rw [hs1]; exact Iff.rfl
  have hCs : ∀ p ∈ C, ∀ d, ¬ AO s p d := g.new
  have hbt : ∀ p ∈ blocks, ∃ d, AO s p d := fun p hp => (htk p).2 (.inl hp)
  have hoC : o ∉ C := fun hc => hCs o hc _ a.tk
  have hKD := hperm.nodup_iff.1 a.m3
  obtain ⟨mK, mD, mKD⟩ := List.nodup_append.1 hKD
  have hDk : ∀ p ∈ D, p ∈ AP parts := fun p hp => hperm.mem_iff.2 (Bc _ hp)
  have hKk : ∀ p ∈ K, p ∈ AP parts := fun p hp => hperm.mem_iff.2 (Bl _ hp)
  have hkb : ∀ p ∈ AP parts, p ∈ blocks := fun p hp => by rw [a.qF]; simp [hp]
  have hmd : ∀ p, p ∈ dl <-> p ∈ D \/ p = o := fun p => by rw [hdl.mem_iff]; simp
  have hdn : dl.Nodup := hdl.nodup_iff.2 (List.nodup_append.2 ⟨mD, by simp, fun x hx y hy e => by rw [BM] at hy; exact a.n3 (hy ▸ e ▸ hDk x hx)⟩)
  have hdt : ∀ p ∈ dl, ∃ d, AO s1 p d := fun p hp => by
    have hs : ∃ d, AO s p d := ((hmd p).1 hp).elim (fun hd => hbt p (hkb p (hDk p hd))) (fun e => ⟨_, e ▸ a.tk⟩)
    obtain ⟨d, hd⟩ := hs
    exact ⟨d, (Tj p d).2 (g.keep p d trivial hd).1⟩
  obtain ⟨s2, ed, ok2, jZ, hd2, ws2, bH⟩ := Tv dl ok1 hdn hdt
  have ee := XD dl ok1 hdn hdt
  rw [ed] at ee
  have nD : s1.sh = s.sh := by rw [hs1]; exact Afp
  refine ⟨s2, by unfold Dx; rw [if_neg (by simp), <- hs1]; exact ee, ?_⟩
  have hw2 : ∀ i, (i < 16 \/ 16 + s.sh.BQ <= i) -> s2.ws i = if i = jw then name else j.s.ws i := fun i hi => by
    rw [ws2 i (by rw [nD]; exact hi), hw1]
  have hbd : ∀ p ∈ RQ, p ∉ dl := fun p hb hd => by
    rcases (hmd p).1 hd with h1 | h1
    · rcases List.mem_append.1 (hpm.mem_iff.1 hb) with h2 | h2
      · obtain ⟨d, hd⟩ := hbt p (hkb p (hDk p h1))
        exact hCs p h2 d hd
      · exact mKD p h2 p h1 rfl
    · subst h1
      rcases List.mem_append.1 (hpm.mem_iff.1 hb) with h2 | h2
      · exact hoC h2
      · exact a.n3 (hKk _ h2)
  have hbx : ∀ p, p ∈ b1 \/ p ∈ b2 -> p ∉ dl := fun p hp hd => by
    rcases (hmd p).1 hd with h1 | h1
    · exact hp.elim (fun h => a.d1 p h (hDk p h1)) (fun h => a.d2 p h (hDk p h1))
    · subst h1; exact hp.elim a.n1 a.n2
  -- the new tree stands behind the word and the Amc
  have Afq : ∀ p c, p ∈ RQ -> AO j.s p c -> AO s2 p c /\ ∀ i, FY p c i -> s2.ws i = j.s.ws i := fun p c hp ht => by
    refine ⟨(bH p c).2 ⟨(Tj p c).2 ht, hbd p hp⟩, fun i hi => ?_⟩
    have uV := g.ok.Dz (ht.bounds g.ok).1 hi
    rw [Afp] at uV
    rw [hw2 i (.inr uV), if_neg]
    intro e
    subst e
    rcases hj4 with ⟨_, h2⟩ | ⟨_, pp, cc, h2, h3, h4⟩
    · omega
    · obtain ⟨h3', _⟩ := g.keep pp cc trivial h3
      refine Qd g.ok ht h3' (fun e => ?_) hi h4 rfl
      subst e
      rcases List.mem_append.1 (hpm.mem_iff.1 hp) with h5 | h5
      · exact hCs p h5 cc h3
      · exact a.d1 p h2 (hKk p h5)
  have T2 : Dw s2 rl name Ut RQ := T.keep g.ok ok2 (B := fun p => p ∈ RQ) Afq (fun _ h => h)
  have T3 := S.swap s2 name Ut RQ ok2 hn T2 (fun p c hp ht => by
    obtain ⟨u1, u2⟩ := g.keep p c trivial ht
    refine ⟨(bH p c).2 ⟨(Tj p c).2 u1, hbx p hp⟩, fun i hi => ?_⟩
    have uV := ok.Dz (ht.bounds ok).1 hi
    rw [hw2 i (.inr uV), hj1]
    by_cases e : i = jw
    · rw [if_pos e, if_pos (by omega)]
    · rw [if_neg e, if_neg (by omega), u2 i hi])
  have h9 : s2.ws 9 = if q = [] then name else s.ws 9 := by
    rw [hw2 9 (.inl (by decide))]
    rcases hj4 with ⟨h1, h2⟩ | ⟨h1, pp, cc, h2, h3, h4⟩
    · rw [if_pos h2.symm, if_pos h1]
    · have := ok.Dz (h3.bounds ok).1 h4
      rw [if_neg (by omega), if_neg h1, g.low 9 (by decide)]
  rw [<- h9] at T3
  have h90 : s2.ws 9 ≠ 0 := by
    rw [h9]
    split
    · exact hn
    · exact hn0
  have hdb : ∀ p ∈ dl, p ∈ blocks := fun p hp => ((hmd p).1 hp).elim (fun h => hkb p (hDk p h)) (fun e => by rw [e, a.qF]; simp)
  have hXk : Qg X s s2 := ⟨jZ.trans nD, fun i hi hi9 => by
      rw [hw2 i (.inl hi), if_neg, g.low i hi]
      rcases hj4 with ⟨_, h2⟩ | ⟨_, pp, cc, h2, h3, h4⟩
      · omega
      · have := ok.Dz (h3.bounds ok).1 h4
        omega, fun p c hp ht => by
      obtain ⟨u1, u2⟩ := g.keep p c trivial ht
      refine ⟨(bH p c).2 ⟨(Tj p c).2 u1, fun hd => hX p (hdb p hd) hp⟩, fun i hi => ?_⟩
      have uV := ok.Dz (ht.bounds ok).1 hi
      rw [hw2 i (.inr uV), if_neg, u2 i hi]
      intro e
      subst e
      rcases hj4 with ⟨_, h2⟩ | ⟨_, pp, cc, h2, h3, h4⟩
      · omega
      · refine Qd ok ht h3 (fun e => ?_) hi h4 rfl
        subst e
        exact hX p (by rw [a.qF]; simp [h2]) hp⟩
  refine ⟨hXk, ok2, fun p d hh => g.nh p d ((Oe (by rw [hd2, hs1]) (by rw [jZ, hs1]) p d).1 hh), .inr ⟨b1 ++ RQ ++ b2, h90, T3, ?_, fun p hp hpX => ?_, fun p => ?_⟩, ?_⟩
  · have hp2 : (b1 ++ RQ ++ b2).Perm (b1 ++ (C ++ K) ++ b2) := List.Perm.append_right _ (List.Perm.append_left _ hpm)
    rw [hp2.nodup_iff]
    have hC1 : ∀ p ∈ C, p ∉ blocks := fun p hp hb => by
      obtain ⟨d, hd⟩ := hbt p hb
      exact hCs p hp d hd
    rw [a.qF] at hC1
    refine List.nodup_append.2 ⟨List.nodup_append.2 ⟨a.m1, List.nodup_append.2 ⟨g.nC, mK, fun x hx y hy e => ?_⟩, fun x hx y hy e => ?_⟩, a.m2, fun x hx y hy e => ?_⟩
    · subst e
      exact hC1 x hx (by simp [hKk x hy])
    · subst e
      rcases List.mem_append.1 hy with h1 | h1
      · exact hC1 x h1 (by simp [hx])
      · exact a.d1 x hx (hKk x h1)
    · subst e
      rcases List.mem_append.1 hx with h1 | h1
      · exact a.d3 x h1 hy
      · rcases List.mem_append.1 h1 with h1 | h1
        · exact hC1 x h1 (by simp [hy])
        · exact a.d2 x hy (hKk x h1)
  · rcases List.mem_append.1 hp with h1 | h1
    · rcases List.mem_append.1 h1 with h1 | h1
      · exact hX p (by rw [a.qF]; simp [h1]) hpX
      · rcases List.mem_append.1 (hpm.mem_iff.1 h1) with h2 | h2
        · obtain ⟨d, hd⟩ := (htk p).2 (.inr hpX)
          exact hCs p h2 d hd
        · exact hX p (hkb p (hKk p h2)) hpX
    · exact hX p (by rw [a.qF]; simp [h1]) hpX
  · have h1 : (∃ d, AO s2 p d) <-> (∃ d, AO j.s p d) /\ p ∉ dl := by
      constructor
      · rintro ⟨d, hd⟩
        obtain ⟨h1, h2⟩ := (bH p d).1 hd
        exact ⟨⟨d, (Tj p d).1 h1⟩, h2⟩
      · rintro ⟨⟨d, hd⟩, h2⟩
        exact ⟨d, (bH p d).2 ⟨(Tj p d).2 hd, h2⟩⟩
    rw [h1, g.tk p, htk p, hmd p, a.qF]
    simp only [LU, La, hpm.mem_iff, hperm.mem_iff]
    constructor
    · rintro ⟨h1 | h1, h2⟩
      · rcases h1 with ((h1 | h1 | h1 | h1) | h1) | h1
        · exact .inl (.inl (.inl h1))
        · exact absurd (.inr h1) h2
        · exact .inl (.inl (.inr (.inr h1)))
        · exact absurd (.inl h1) h2
        · exact .inl (.inr h1)
        · exact .inr h1
      · exact .inl (.inl (.inr (.inl h1)))
    · have hno : ∀ p, p ∈ b1 \/ p ∈ b2 \/ p ∈ C \/ p ∈ K -> ¬ (p ∈ D \/ p = o) := fun p hp hd => by
        have hd' := (hmd p).2 hd
        rcases hp with h | h | h | h
        · exact hbx p (.inl h) hd'
        · exact hbx p (.inr h) hd'
        · exact hbd p (hpm.mem_iff.2 (Bl _ h)) hd'
        · exact hbd p (hpm.mem_iff.2 (Bc _ h)) hd'
      rintro (((h1 | h1 | h1) | h1) | h1)
      · exact ⟨.inl (.inl (.inl (.inl h1))), hno p (.inl h1)⟩
      · exact ⟨.inr h1, hno p (.inr (.inr (.inl h1)))⟩
      · exact ⟨.inl (.inl (.inl (.inr (.inr (.inl h1))))), hno p (.inr (.inr (.inr h1)))⟩
      · exact ⟨.inl (.inl (.inr h1)), hno p (.inr (.inl h1))⟩
      · exact ⟨.inl (.inr h1), fun hd => hX p (hdb p ((hmd p).2 hd)) h1⟩
  · intro kv hkv
    rw [AA] at hkv
    rcases List.mem_append.1 hkv with h1 | h1
    · exact h.even kv (by rw [S.its]; simp [h1])
    · rcases List.mem_append.1 h1 with h1 | h1
      · obtain ⟨k, h2, h3⟩ := DC.1 h1
        rw [h3]
        exact hev _ h2
      · exact h.even kv (by rw [S.its]; simp [h1])
theorem Uz.below(a:Uz L s items blocks key last rest' q rl nl parts A B b1 b2 o)(hp:last.nd.pre≠rest'):∀kv,kv∈BB last.nd++Bd last.nd.pre last.nd.labels parts->kv.1≠rest':=fun kv hkv e=>by
 rcases List.mem_append.1 hkv with h1| h1
 ·obtain⟨rfl,_⟩:=EF h1;exact hp e
 ·obtain⟨i,i1,i2,kv',_,rfl⟩:=Ei h1;simp only at e;have hc:common last.nd.pre rest'=last.nd.pre.length:=by rw [<-e,QF]
  have:NH last.nd.labels (rest'.getD (common last.nd.pre rest') 0)=false:=by
   rcases a.stop with h1| h1| h1
   ·omega
   ·exact absurd (PV _ _ hc h1) hp
   ·exact Zn a.right h1
  rw [hc,<-e,AZ,BX (Ad _),Nat.sub_self]at this;exact PI _ _ this i i1 rfl
theorem Acy(h:Ph X L s items)(hn0:s.ws 9≠0)(htk:∀o,(∃d,AO s o d)<->o∈blocks\/X o)(hX:∀o∈blocks,¬X o)(_:blocks.Nodup)(Ai1:key.length<=16)(a:Uz L s items blocks key last rest' q rl nl parts A B b1 b2 o)(hp:last.nd.pre≠rest')(value:UInt64)(hv:value≠0):
 qI X L s items (CQ key) value (match GZ ⟨s,[]⟩ last.nd rest' value with| (j,name,e)=>Dx j e last.word name [last.off]):=by
 have ok:=h.ok;have S:=a.spot;have hlen:=KD key;have Amd:q.length+rest'.length=(CQ key).length:=by rw [S.cut,Az]
 have QR:rest'.all Df=true:=by
  have:=VR key;rw [S.cut,List.all_append,Bool.and_eq_true]at this;exact this.2
 have hno:common last.nd.pre rest'=last.nd.pre.length->NH last.nd.labels (rest'.getD (common last.nd.pre rest') 0)=false:=fun hc=>by
  rcases a.stop with h1| h1| h1
  ·omega
  ·exfalso;refine hp ?_;exact PV _ _ hc h1
  ·exact Zn a.right h1
 have hG:=Acv ok h.nh a.right S.len S.pre S.kid S.sub (by have:=S.lens;omega) QR hv hp hno;generalize GZ ⟨s,[]⟩ last.nd rest' value=res at hG;obtain⟨j,name,e⟩:=res;simp only;rcases hG with⟨e1,B',g⟩| ⟨e1,C,Ut,RQ,g,hn,T,hpm,hmem⟩
 ·simp only at e1 g;subst e1;simp only [Dx];rw [if_pos (by decide)];obtain⟨s2,e2,ok2,nh2,bH,kp2,lo2,jZ⟩:=qH ok g;rw [e2];refine⟨⟨jZ,fun j hj _=>lo2 j hj,fun o c _ ht=>kp2 o c trivial ht⟩,?_⟩;refine .inl ⟨rfl,h.same ok2 nh2 bH kp2 (lo2 9 (by decide)),fun kv hkv e=> ?_⟩;rw [S.its,AA]at hkv;rcases List.mem_append.1 hkv with g1| g1
  ·exact a.other kv (.inl g1) e
  ·rcases List.mem_append.1 g1 with g1| g1
   ·obtain⟨k,g2,g3⟩:=DC.1 g1;rw [g3,S.cut]at e;exact a.below hp _ g2 (Dk e)
   ·exact a.other kv (.inr g1) e
 ·simp only at e1 g hn T;subst e1;have hkey:CQ key=q++rest':=S.cut;have hin:∀k v,(k,v)∈BB last.nd++Bd last.nd.pre last.nd.labels parts->(q++k,v)∈items:=fun k v h4=>by
   rw [S.its,AA];exact Bc _ (Bl _ (DC.2 ⟨k,h4,rfl⟩))
  obtain⟨s2,e2,kx2,nT⟩:=Zr h hn0 htk hX a.toNj g hn T (K:=AP parts) (D:=[]) (dl:=[o]) (by simp) hpm (by simp) (fun kv hkv=>by
   obtain⟨k,v⟩:=kv;rcases(hmem _).1 hkv with h4| h4
   ·exact h.even _ (hin k v h4)
   ·have e1:k=rest':=congrArg Prod.fst h4;show KE (q++k)=true;rw [e1,<-hkey];exact Uy key)
  rw [a.off,show [(o:Int)]=[o].map CV from rfl,e2];refine⟨kx2,?_⟩;right;refine⟨rfl,_,nT,?_⟩;intro kv;constructor
  ·intro hkv;rw [AA]at hkv;rcases List.mem_append.1 hkv with h1| h1
   ·exact .inr ⟨by rw [S.its];simp [h1],a.other kv (.inl h1)⟩
   ·rcases List.mem_append.1 h1 with h1| h1
    ·obtain⟨k,h2,h3⟩:=DC.1 h1;rcases(hmem _).1 h2 with h4| h4
     ·refine .inr ⟨?_,?_⟩
      ·have:=hin k kv.2 h4
       rwa [<-h3]at this
      ·rw [h3,hkey];intro e;exact a.below hp _ h4 (Dk e)
     ·left;have e1:k=rest':=congrArg Prod.fst h4;have e2:kv.2=value:=congrArg Prod.snd h4;exact Prod.ext (by rw [h3,e1,hkey]) e2
    ·exact .inr ⟨by rw [S.its];simp [h1],a.other kv (.inr h1)⟩
  ·rintro(rfl| ⟨h1,h2⟩)
   ·rw [AA];exact Bc _ (Bl _ (DC.2 ⟨rest',(hmem _).2 (.inr rfl),hkey⟩))
   ·rw [S.its,AA]at h1;rw [AA];rcases List.mem_append.1 h1 with h3| h3
    ·exact Bl _ h3
    ·rcases List.mem_append.1 h3 with h3| h3
     ·obtain⟨k,h4,h5⟩:=DC.1 h3;exact Bc _ (Bl _ (DC.2 ⟨k,(hmem _).2 (.inl h4),h5⟩))
     ·exact Bc _ (Bc _ h3)
theorem nU(h:Ph X L s items)(key:List UInt8)(hk:key.length<=16)(value:UInt64)(hv:value≠0):qI X L s items (CQ key) value (FZ s key value):=by
 by_cases h0:s.ws 9=0
 ·exact uS h h0 key hk value hv
 ·rcases h.tree with⟨h1,_⟩| ⟨blocks,h1,T,hnd,hX,htk⟩
  ·exact absurd h1 h0
  ·obtain⟨way,last,rest',q,rl,nl,parts,A,B,b1,b2,o,hp,a⟩:=around h.ok h1 T hnd key hk;unfold FZ;rw [if_neg (by omega),if_neg hv,hp];have hgl:(way++[last]).getLast? =some last:=by simp
   simp only [CB,hgl];by_cases hpr:last.nd.pre=rest'
   ·rw [if_pos hpr];exact uU h h1 htk hX hnd a hpr value hv
   ·rw [if_neg hpr];exact Acy h h1 htk hX hnd hk a hpr value hv
theorem jh(h:Ph X L s items):∃met:List Nat,ED s=some (items.map (fun kv=>(pairs kv.1,kv.2)),met.map CV)/\met.Nodup/\(∀o∈met,¬X o)/\∀o,(∃d,AO s o d)<->o∈met\/X o:=by
 rcases h.tree with⟨h1,h2,h3⟩| ⟨blocks,h1,T,hnd,hX,htk⟩
 ·refine⟨[],?_,List.nodup_nil,(fun _ h=>nomatch h),fun o=>by simp [h3 o]⟩;unfold ED;rw [if_pos h1,h2];rfl
 ·refine⟨blocks,?_,hnd,hX,htk⟩;unfold ED;rw [if_neg h1];have:=T.Ae8 h.ok 34 [] [] [] (by decide) (by decide) hnd (fun _ _ h=>by cases h) (fun kv hkv=>h.even kv hkv);simpa using this
end
section
variable{L:Nat}{s:St}
theorem MK:∀(f:Nat)(name:UInt64)(rest:List UInt8)(label:UInt8)(word:Int)(way:List Pl),DD s f name rest label word way=(DD s f name rest label word []).map fun p=>(way++p.1,p.2)
 | 0,_,_,_,_,way=>by simp [DD]
 | f+1,name,rest,label,word,way=>by
   rw [DD,DD];split
   ·simp
   ·split
    ·rfl
    ·rename_i x _;split
     ·simp
     ·split
      ·simp
      ·rename_i kid number _;rw [MK f kid _ _ _ (way++_),MK f kid _ _ _ ([]++_)];cases DD s f kid (rest.drop (common x.pre rest+1)) (rest.getD (common x.pre rest) 0) (AX name+8*number) []<;>simp
theorem Zt{f:Nat}{name:UInt64}{rest:List UInt8}{label:UInt8}{word:Int}{W:List Pl}{rf:List UInt8}(h:DD s (f+1) name rest label word []=some (W,rf))(hn:name≠0):∃x W',W=x::W'/\x.label=label/\x.word=word:=by
 rw [DD,if_neg hn]at h;split at h
 ·cases h
 ·rename_i x _;split at h
  ·injection h with h;injection h with h1 h2
   exact⟨_,_,h1.symm,rfl,rfl⟩
  ·split at h
   ·injection h with h;injection h with h1 h2
    exact⟨_,_,h1.symm,rfl,rfl⟩
   ·rw [MK]at h;obtain⟨p,_,h2⟩:=Option.map_eq_some_iff.1 h;injection h2 with h3 h4
    exact⟨_,_,h3.symm,rfl,rfl⟩
theorem qK(ok:Bz L s):∀(m f r:Nat)(name:UInt64)(items:List Kv)(blocks:List Nat)(rest:List UInt8)(label:UInt8)(word:Int),Dw s r name items blocks->blocks.Nodup->rest.length<f->rest.length<=r->name≠0->
 ∀(W:List Pl)(rf:List UInt8),DD s f name rest label word []=some (W,rf)->m+1<W.length->
 ∃up rest' q rl nl parts A B b1 b2 i f' w',W[m]? =some up/\UY L s r name items blocks word rest up rest' q rl nl parts A B b1 b2/\∃(h1:i<up.nd.kids.length)(h2:i<up.nd.labels.length),
  up.nd.pre++up.nd.labels[i]::rest'.drop (up.nd.pre.length+1)=rest'/\(rest'.drop (up.nd.pre.length+1)).length<f'/\up.nd.kids[i]≠0/\DD s f' up.nd.kids[i] (rest'.drop (up.nd.pre.length+1)) up.nd.labels[i] w' []=some (W.drop (m+1),rf)
 | m,0,_,_,_,_,_,_,_,_,_,h,_,_,_,_,_,_=>absurd h (by omega)
 | m,f+1,r,name,items,blocks,rest,label,word,ht,hnd,hf,hrl,hn0,W,rf,hW,hm=>by
   cases ht with
   | mk _ _ nd parts hrd hpre MO hlen hk=>
     obtain⟨o,ho,htk,hr,hw⟩:=Ie ok hrd;rw [DD,if_neg hn0,hrd]at hW
     dsimp only at hW
     by_cases h1:common nd.pre rest<nd.pre.length\/common nd.pre rest=rest.length
     ·rw [if_pos h1]at hW;injection hW with hW;injection hW with hW _
      rw [<-hW]at hm;simp at hm
     ·rw [if_neg h1]at hW;cases hkp:Nq nd (rest.getD (common nd.pre rest) 0)with
      | none=>
        rw [hkp]at hW;injection hW with hW;injection hW with hW _
        rw [<-hW]at hm;simp at hm
      | some kn=>
        obtain⟨kid,number⟩:=kn;obtain⟨hc,hlt,i,hi1,hi2,rfl,rfl,hlab,hcut⟩:=Ux hr h1 hkp;rw [hkp]at hW;simp only at hW;rw [hc,<-hlab,MK]at hW;obtain⟨p,hp,h2⟩:=Option.map_eq_some_iff.1 hW;obtain⟨W2,r2⟩:=p;injection h2 with h3 h4
        simp only at h3 h4;subst h4;subst h3;have hi3:i<parts.length:=by omega
        have hkr:=MO (fun e=>by rw [e]at hi1;simp at hi1);have hk0:nd.kids[i]≠0:=fun e=>((AY nd).1 hr).2.2.2.2.2 i hi1 (by rw [e];rfl)
        have Y4:=(List.nodup_cons.1 hnd).2;rw [Jt parts i hi3]at Y4;have n4:=(List.nodup_append.1 (List.nodup_append.1 Y4).2.1).1
        match m,hm with
        | 0,hm=>exact⟨⟨nd,AX name,label,word⟩,rest,[],r,name,parts,[],[],[],[],i,f,_,by simp,Uw hrd hpre MO hlen hk,hi1,hi2,hcut,by rw [Au];show rest.length- (nd.pre.length+1)<f;omega,hk0,by simpa using hp⟩
        | m+1,hm=>
          obtain⟨up,rest',q,rl,nl,Uu,A,B,b1,b2,i',f',w',e1,S,g1,g2,g3,g4,g5,g6⟩:=qK ok m f (r-nd.pre.length-1) nd.kids[i] parts[i].items parts[i].blocks (rest.drop (nd.pre.length+1)) nd.labels[i] (AX name+8*(Nr nd i:Nat)) (hk i hi1 hi3) n4 (by rw [Au];omega) (by rw [Au];omega) hk0 W2 r2 hp (by simpa using hm);exact⟨up,rest',_,rl,nl,Uu,_,_,_,_,i',f',w',by simpa using e1,Zo ok ho htk hr hw hpre hlen hk hnd hi1 hi2 hi3 hkr hcut S,g1,g2,g3,g4,g5,by simpa using g6⟩
theorem U0 (ok : Bz L s) : ∀ (f r : Nat) (name : UInt64) (items : List Kv) (blocks : List Nat) (rest : List UInt8) (label : UInt8) (word : Int), Dw s r name items blocks -> rest.length < f -> name ≠ 0 ->
    ∀ (W : List Pl) (rf : List UInt8) (last : Pl), DD s f name rest label word [] = some (W, rf) -> CB W rf = some last -> last.nd.kids.length = 0 -> last.nd.val ≠ 0 ->
    (∀ i up, i + 1 < W.length -> W[i]? = some up -> up.nd.val = 0 /\ up.nd.kids.length = 1) -> items = [(rest, last.nd.val)] /\ blocks.map CV = W.map (·.off)
  | 0, _, _, _, _, _, _, _, _, h, _, _, _, _, _, _, _, _, _ => absurd h (by omega)
  | f + 1, r, name, items, blocks, rest, label, word, ht, hf, hn0, W, rf, last, hW, hst, hk0, hv0, hup => by
    cases ht with
    | mk _ _ nd parts hrd hpre MO hlen hk =>
      obtain ⟨o, ho, htk, hr, hw⟩ := Ie ok hrd
      rw [DD, if_neg hn0, hrd] at hW
      dsimp only at hW
      have hoff : CV (AX name).toNat = AX name := by rw [ho, Bq]; rfl
      have one : [(⟨nd, AX name, label, word⟩ : Pl)] = W -> rest = rf -> BB nd ++ Bd nd.pre nd.labels parts = [(rest, last.nd.val)] /\ ((AX name).toNat :: AP parts).map CV = W.map (·.off) := fun e1 e2 => by
        subst e1
        subst e2
        unfold CB at hst
        simp only [dA] at hst
        split at hst
        · rename_i hpr
          injection hst with hst
          subst hst
          simp only at hk0 hv0 hpr ⊢
          have hp0 : parts = [] := List.length_eq_zero_iff.1 (by omega)
          subst hp0
          unfold BB
          rw [if_pos hv0, hpr]
          have : Bd rest nd.labels [] = [] := by cases nd.labels <;> rfl
          rw [this]
          exact ⟨rfl, by rw [Bo, hoff]; rfl⟩
        · cases hst
      by_cases h1 : common nd.pre rest < nd.pre.length \/ common nd.pre rest = rest.length
      · rw [if_pos h1] at hW
        injection hW with hW; injection hW with e1 e2
        exact one (by simpa using e1) e2
      · rw [if_neg h1] at hW
        cases hkp : Nq nd (rest.getD (common nd.pre rest) 0) with
        | none =>
          rw [hkp] at hW
          injection hW with hW; injection hW with e1 e2
          exact one (by simpa using e1) e2
        | some kn =>
          obtain ⟨kid, number⟩ := kn
          obtain ⟨hc, hlt, i, hi1, hi2, rfl, rfl, hlab, hcut⟩ := Ux hr h1 hkp
          rw [hkp] at hW
          simp only at hW
          rw [hc, <- hlab, MK] at hW
          obtain ⟨p, hp, h2⟩ := Option.map_eq_some_iff.1 hW
          obtain ⟨W2, r2⟩ := p
          injection h2 with h3 h4
          simp only at h3 h4
          subst h4
          subst h3
          have hk1 : nd.kids[i] ≠ 0 := fun e => ((AY nd).1 hr).2.2.2.2.2 i hi1 (by rw [e]; rfl)
          obtain ⟨f', rfl⟩ : ∃ f', f = f' + 1 := ⟨f - 1, by omega⟩
          obtain ⟨x, W3, rfl, _, _⟩ := Zt hp hk1
          obtain ⟨hv, hl1⟩ := hup 0 ⟨nd, AX name, label, word⟩ (by simp) (by simp)
          simp only at hv hl1
          obtain rfl : i = 0 := by omega
          have hll : nd.labels.length = 1 := by have := ((AY nd).1 hr).2.2.1; omega
          obtain ⟨p, hp0⟩ : ∃ p, parts = [p] := List.length_eq_one_iff.1 (by omega)
          subst hp0
          obtain ⟨lb, hlb⟩ : ∃ lb, nd.labels = [lb] := List.length_eq_one_iff.1 hll
          have hst2 : CB (x :: W3) r2 = some last := by
            unfold CB at hst ⊢
            simpa using hst
          have ih := U0 ok (f' + 1) (r - nd.pre.length - 1) nd.kids[0] p.items p.blocks (rest.drop (nd.pre.length + 1)) nd.labels[0] _ (hk 0 hi1 (by simp)) (by rw [Au]; omega) hk1 (x :: W3) r2 last hp hst2 hk0 hv0 (fun t up ht hup' => hup (t + 1) up (by simpa using ht) (by simpa using hup'))
          refine ⟨?_, ?_⟩
          · have hcut' : nd.pre ++ lb :: rest.drop (nd.pre.length + 1) = rest := by
              have : nd.labels[0] = lb := by simp [hlb]
              rw [this] at hcut; exact hcut
            rw [hlb]
            unfold BB
            rw [if_neg (by simp [hv])]
            simp only [Bd, DN, Ye, ih.1, E5, Bo, Em]
            rw [hcut']
          · simp only [AP, Bo, Em, List.flatten_cons, List.flatten_nil, Ye]
            rw [ih.2, hoff]
            rfl
theorem XE(W:List Pl):∀(m:Nat)(_:m<W.length)(old:List Int),∃a,a<=m/\Ha W m old=(a,old++(((W.drop a).take (m-a)).map (·.off)).reverse)/\∀i up,a<=i->i<m->W[i]? =some up->up.nd.val=0/\up.nd.kids.length=1
 | 0,_,old=>⟨0,Ad _,by simp [Ha],fun i up h1 h2=>absurd h2 (by omega)⟩
 | m+1,h,old=>by
   have hm:m<W.length:=by omega
   rw [Ha,Af hm,Af h]
   dsimp only
   split
   ·rename_i hu;obtain⟨a,h1,h2,h3⟩:=XE W m hm (old++[W[m].off]);refine⟨a,by omega,?_,fun i up g1 g2 g3=> ?_⟩
    ·rw [h2,show m+1-a=(m-a)+1 by omega,C9 (by rw [Au];omega),DR,List.reverse_append];have:(W.drop a)[m-a]'(by rw [Au];omega)=W[m]:=by rw [Vj];congr 1;omega
     simp [this]
    ·by_cases e:i=m
     ·subst e;rw [Af hm]at g3;injection g3 with g3
      exact g3▸hu
     ·exact h3 i up g1 (by omega) g3
   ·exact⟨m+1,Ad _,by simp,fun i up g1 g2=>absurd g2 (by omega)⟩
end
theorem zC{α:Type}(xs:List α)(i t:Nat)(h:i<=xs.length):(Il xs i)[t]? =if t<i then xs[t]? else xs[t+1]? :=by
 unfold Il;have hl:(xs.take i).length=i:=by simp;omega
 split
 ·rename_i ht;rw [List.getElem?_append_left (by omega),List.getElem?_take,if_pos ht]
 ·rw [BX (by omega),hl,Cf];congr 1;omega
theorem Qh{α:Type}(xs:List α)(i:Nat)(h:i<xs.length):(Il xs i).length+1=xs.length:=by unfold Il;simp;omega
theorem Q8{α:Type}(xs:List α)(i t:Nat)(h:i<xs.length)(ht:t<(Il xs i).length):∃(h2:(if t<i then t else t+1)<xs.length),(Il xs i)[t]=xs[if t<i then t else t+1]:=by
 have hl:=Qh xs i h;have h2:(if t<i then t else t+1)<xs.length:=by split<;>omega
 refine⟨h2,?_⟩;have:=zC xs i t (by omega);rw [Af ht]at this;have e:(if t<i then xs[t]? else xs[t+1]?)=xs[if t<i then t else t+1]? :=by split<;>rfl
 rw [e,Af h2]at this;exact Option.some.inj this
theorem zD{α:Type}{xs:List α}{i:Nat}{x:α}(h:x∈Il xs i):x∈xs:=by
 unfold Il at h;rcases List.mem_append.1 h with h| h
 ·exact List.mem_of_mem_take h
 ·exact List.mem_of_mem_drop h
theorem uX{x:Nd}(h:BG x=true){i:Nat}(hi:i<x.kids.length):BG (Vo x i)=true:=by
 obtain⟨h1,h2,h3,h4,h5,h6⟩:=(AY x).1 h;have hil:i<x.labels.length:=by omega
 have e1:=Qh x.labels i hil;have e2:=Qh x.kids i hi;refine(AY _).2 ⟨h1,h2,by show(Il x.labels i).length=(Il x.kids i).length;omega,?_,?_,fun t ht=> ?_⟩
 ·rw [List.all_eq_true]at h4⊢;exact fun y hy=>h4 y (zD hy)
 ·show Dp (Il x.labels i)=true;rw [FP];intro t ht;obtain⟨g1,g2⟩:=Q8 x.labels i t hil (by omega);obtain⟨g3,g4⟩:=Q8 x.labels i (t+1) hil ht;rw [g2,g4];exact Gs _ h5 _ _ (by split<;>split<;>omega) g3
 ·obtain⟨g1,g2⟩:=Q8 x.kids i t hi ht;show(Il x.kids i)[t].toNat≠0;rw [g2];exact h6 _ g1
theorem Acz{l:List UInt8}(hr:Dp l=true){i:Nat}(hi:i<l.length):Jj l l[i]=some i:=by
 unfold Jj;rw [List.findIdx?_eq_some_iff_getElem];refine⟨hi,by simp,fun j hj=> ?_⟩;have:=Gs _ hr j i hj hi;simp;intro e;rw [e]at this;omega
def zF(items items':List Kv)(k:List UInt8):Prop:=∀kv,kv∈items'<->kv∈items/\kv.1≠k
def Ai7(X:Nat->Prop)(L:Nat)(s:St)(items:List Kv)(k:List UInt8)(r:St×UInt64×Int):Prop:=
 (r=(s,0,7)/\∀kv∈items,kv.1≠k)\/(Qg X s r.1/\r.2.2=0/\(k,r.2.1)∈items/\∃items',Ph X L r.1 items'/\zF items items' k)
section
variable{X:Nat->Prop}{L:Nat}{s:St}{items:List Kv}{blocks:List Nat}{key:List UInt8}
theorem Afr(h:Ph X L s items)(hn0:s.ws 9≠0)(htk:∀o,(∃d,AO s o d)<->o∈blocks\/X o)(hX:∀o∈blocks,¬X o)(hnd:blocks.Nodup){up:Pl}{ru q:List UInt8}{rl:Nat}{nl:UInt64}{parts:List Part}{A B:List Kv}{b1 b2:List Nat}
 (S:UY L s 32 (s.ws 9) items blocks 72 (CQ key) up ru q rl nl parts A B b1 b2){i:Nat}(h1:i<up.nd.kids.length)(h2:i<up.nd.labels.length)(h3:i<parts.length){r2:List UInt8}(hcut:up.nd.pre++up.nd.labels[i]::r2=ru){v:UInt64}(hpi:parts[i].items=[(r2,v)]):
 (CQ key,v)∈items/\∃s1 er,(match D5 ⟨s,[]⟩ (Vo up.nd i)with| (j1,name,e)=>Dx j1 e up.word name ((parts[i].blocks.map CV).reverse++[up.off]))=(s1,er)/\
  ((er=6/\s1=s)\/(er=0/\Qg X s s1/\∃items',Ph X L s1 items'/\zF items items' (CQ key))):=by
 obtain⟨o,a⟩:=qJ h.ok hnd S;have hr':=(AY up.nd).1 a.right;have hkey:CQ key=q++ru:=S.cut;have hki:=Qc up.nd.pre up.nd.labels parts i h2 h3 (by have:=S.len;omega);rw [hpi]at hki;have hun:E5 up.nd.pre up.nd.labels[i] [(r2,v)]=[(ru,v)]:=by unfold E5;simp [hcut]
 have hkd:Bd up.nd.pre (Il up.nd.labels i) (Il parts i)=Bd up.nd.pre (up.nd.labels.take i) (parts.take i)++Bd up.nd.pre (up.nd.labels.drop (i+1)) (parts.drop (i+1)):=by
  unfold Il;exact Lu _ _ _ _ _ (by simp;omega)
 have hbd:AP (Il parts i)=AP (parts.take i)++AP (parts.drop (i+1)):=by
  unfold Il;exact N7 _ _
 have hmem:∀k x,(k,x)∈BB up.nd++Bd up.nd.pre up.nd.labels parts<->(k,x)∈BB up.nd++Bd up.nd.pre (Il up.nd.labels i) (Il parts i)\/(k,x)=(ru,v):=fun k x=>by
  rw [hki,hkd,hun];simp only [LU,BM];constructor
  ·rintro(g| g| g| g)
   ·exact .inl (.inl g)
   ·exact .inl (.inr (.inl g))
   ·exact .inr g
   ·exact .inl (.inr (.inr g))
  ·rintro((g| g| g)| g)
   ·exact .inl g
   ·exact .inr (.inl g)
   ·exact .inr (.inr (.inr g))
   ·exact .inr (.inr (.inl g))
 have hne:∀k x,(k,x)∈BB up.nd++Bd up.nd.pre (Il up.nd.labels i) (Il parts i)->k≠ru:=fun k x hk e=>by
  have hlab:∀t(g:t<up.nd.labels.length),t≠i->up.nd.labels[t]≠up.nd.labels[i]:=fun t g hti e=>by
   rcases wJ hti with g2| g2
   ·have:=Gs _ hr'.2.2.2.2.1 t i g2 h2;rw [e]at this;omega
   ·have:=Gs _ hr'.2.2.2.2.1 i t g2 g;rw [e]at this;omega
  rcases List.mem_append.1 hk with g| g
  ·obtain⟨g,_⟩:=EF g;injection g with g _
   rw [g,<-hcut]at e;have:=congrArg Ju e;simp at this
  ·obtain⟨t,t1,t2,kv',_,g⟩:=Ei g;injection g with g _
   rw [g,<-hcut]at e;have e2:=Dk e;injection e2 with e2 _
   obtain⟨g1,g2⟩:=Q8 up.nd.labels i t h2 t1;rw [g2]at e2;exact hlab _ g1 (by split<;>omega) e2
 have hin:∀k x,(k,x)∈BB up.nd++Bd up.nd.pre up.nd.labels parts->(q++k,x)∈items:=fun k x h4=>by
  rw [S.its,AA];exact Bc _ (Bl _ (DC.2 ⟨k,h4,rfl⟩))
 refine⟨by rw [hkey];exact hin ru v ((hmem ru v).2 (.inr rfl)),?_⟩;rcases Oa (Grown.start h.ok h.nh) (uX a.right h1)with e| ⟨j',name,o',e,_,g,ho',hn,hrd,_⟩
 ·rw [e];exact⟨s,6,rfl,.inl ⟨rfl,rfl⟩⟩
 ·rw [e];simp only;have T:=Dw.mk (s:=j'.s) rl name (Vo up.nd i) (Il parts i) hrd S.pre (fun _=>S.kid (fun e=>by rw [e]at h1;exact absurd h1 (by simp))) (by
   have:=Qh parts i h3;have:=Qh up.nd.kids i h1;show(Il parts i).length=(Il up.nd.kids i).length;have:=S.len;omega) (fun t g1 g2=>by
   obtain⟨u1,u2⟩:=Q8 up.nd.kids i t h1 g1;obtain⟨u3,u4⟩:=Q8 parts i t h3 g2;have e1:(Vo up.nd i).kids[t]=up.nd.kids[if t<i then t else t+1]:=u2;rw [e1,u4];exact(S.sub _ u1 u3).keep h.ok g.ok g.keep (fun _ _=>trivial))
  rw [ho',Bq]at T;have hown:BB (Vo up.nd i)=BB up.nd:=rfl;rw [hown]at T;obtain⟨s2,e2,kx2,nT⟩:=Zr h hn0 htk hX a g hn T (K:=AP (Il parts i)) (D:=parts[i].blocks) (dl:=parts[i].blocks.reverse++[o])
   (by
    rw [Jt parts i h3,hbd];have:(AP (parts.take i)++(parts[i].blocks++AP (parts.drop (i+1)))).Perm (AP (parts.take i)++(AP (parts.drop (i+1))++parts[i].blocks)):=List.Perm.append_left _ jU;simpa [AA]using this)
   (by simp) (List.Perm.append_right _ (wK _)) (fun kv hkv=>by
    obtain⟨k,x⟩:=kv;exact h.even _ (hin k x ((hmem k x).2 (.inl hkv))))
  refine⟨s2,0,?_,.inr ⟨rfl,kx2,_,nT,fun kv=> ?_⟩⟩
  ·rw [a.off,<-e2,DR,xm];rfl
  ·constructor
   ·intro hkv;rw [AA]at hkv;rcases List.mem_append.1 hkv with g1| g1
    ·exact⟨by rw [S.its];simp [g1],a.other kv (.inl g1)⟩
    ·rcases List.mem_append.1 g1 with g1| g1
     ·obtain⟨k,g2,g3⟩:=DC.1 g1;have:=hin k kv.2 ((hmem k kv.2).2 (.inl g2));refine⟨by rw [<-g3]at this;exact this,fun e=> ?_⟩;rw [g3,hkey]at e;exact hne k kv.2 g2 (Dk e)
     ·exact⟨by rw [S.its];simp [g1],a.other kv (.inr g1)⟩
   ·rintro⟨g1,g2⟩;rw [S.its,AA]at g1;rw [AA];rcases List.mem_append.1 g1 with g3| g3
    ·exact Bl _ g3
    ·rcases List.mem_append.1 g3 with g3| g3
     ·obtain⟨k,g4,g5⟩:=DC.1 g3;rcases(hmem k kv.2).1 g4 with g6| g6
      ·exact Bc _ (Bl _ (DC.2 ⟨k,g6,g5⟩))
      ·injection g6 with g6 _
       exact absurd (by rw [g5,g6,hkey]) g2
     ·exact Bc _ (Bc _ g3)
theorem uY(h:Ph X L s items)(hn0:s.ws 9≠0)(htk:∀o,(∃d,AO s o d)<->o∈blocks\/X o)(hX:∀o∈blocks,¬X o)(hnd:blocks.Nodup){last:Pl}{rest' q:List UInt8}{rl:Nat}{nl:UInt64}{parts:List Part}{A B:List Kv}{b1 b2:List Nat}{o:Nat}
 (a:Uz L s items blocks key last rest' q rl nl parts A B b1 b2 o)(hp:last.nd.pre=rest'):Qg X s (Jl s last 0)/\∃items',Ph X L (Jl s last 0) items'/\zF items items' (CQ key):=by
 obtain⟨hK,hV⟩:=jg h hn0 htk hX hnd a.toNj hp 0;refine⟨hK,_,hV,fun kv=> ?_⟩;have S:=a.spot;have hkey:CQ key=q++last.nd.pre:=by rw [hp];exact S.cut
 have hz:BB {last.nd with val:=0}=[]:=rfl;have MO:∀k,(k,kv.2)∈Bd last.nd.pre last.nd.labels parts->q++k≠CQ key:=fun k hk e=>by
  obtain⟨i,g1,g2,kv',_,e2⟩:=Ei hk;rw [hkey]at e;have:=Dk e;have e3:k=last.nd.pre++last.nd.labels[i]::kv'.1:=congrArg Prod.fst e2;rw [e3]at this;have:=congrArg Ju this;simp at this
 rw [hz,DN,S.its];simp only [LU,DC];constructor
 ·rintro((g| ⟨k,g1,g2⟩)| g)
  ·exact⟨.inl (.inl g),a.other kv (.inl g)⟩
  ·exact⟨.inl (.inr ⟨k,.inr g1,g2⟩),by rw [g2];exact MO k g1⟩
  ·exact⟨.inr g,a.other kv (.inr g)⟩
 ·rintro⟨(g| ⟨k,g1,g2⟩)| g,hne⟩
  ·exact .inl (.inl g)
  ·rcases g1 with g1| g1
   ·obtain⟨e,_⟩:=EF g1;injection e with e _
    exact absurd (by rw [g2,e,hkey]) hne
   ·exact .inl (.inr ⟨k,g1,g2⟩)
  ·exact .inr g
theorem Afs (h : Ph X L s items) (key : List UInt8) (hk : key.length <= 16) : Ai7 X L s items (CQ key) (LY s key) := by
  by_cases h0 : s.ws 9 = 0
  · have hi : items = [] := by
      rcases h.tree with ⟨_, h2, _⟩ | ⟨_, h1, _⟩
      · exact h2
      · exact absurd h0 h1
    subst hi
    refine .inl ⟨?_, fun _ h => nomatch h⟩
    unfold LY Fj
    rw [if_neg (by omega), h0, DD, if_pos rfl]
    rfl
  · rcases h.tree with ⟨h1, _⟩ | ⟨blocks, h1, T, hnd, hX, htk⟩
    · exact absurd h1 h0
    · obtain ⟨way, last, rest', q, rl, nl, parts, A, B, b1, b2, o, hp, a⟩ := around h.ok h1 T hnd key hk
      have S := a.spot
      have hgl : (way ++ [last]).getLast? = some last := by simp
      have hmem : ∀ kv ∈ items, kv ∈ A \/ kv ∈ B \/ ∃ k, (k, kv.2) ∈ BB last.nd ++ Bd last.nd.pre last.nd.labels parts /\ kv.1 = q ++ k := fun kv hkv => by
        rw [S.its, AA] at hkv
        rcases List.mem_append.1 hkv with g | g
        · exact .inl g
        · rcases List.mem_append.1 g with g | g
          · exact .inr (.inr (DC.1 g))
          · exact .inr (.inl g)
      unfold LY
      rw [if_neg (by omega), hp]
      simp only
      by_cases hpr : last.nd.pre = rest'
      · have hst : CB (way ++ [last]) rest' = some last := by unfold CB; rw [hgl]; simp only; rw [if_pos hpr]
        rw [hst]
        simp only
        have hkey : CQ key = q ++ last.nd.pre := by rw [hpr]; exact S.cut
        by_cases hv : last.nd.val = 0
        · rw [if_pos hv]
          refine .inl ⟨rfl, fun kv hkv e => ?_⟩
          rcases hmem kv hkv with g | g | ⟨k, g1, g2⟩
          · exact a.other kv (.inl g) e
          · exact a.other kv (.inr g) e
          · rcases List.mem_append.1 g1 with g1 | g1
            · exact (EF g1).2 hv
            · obtain ⟨i, i1, i2, kv', _, e2⟩ := Ei g1
              rw [g2, hkey] at e
              have e3 := Dk e
              have e4 : k = last.nd.pre ++ last.nd.labels[i] :: kv'.1 := congrArg Prod.fst e2
              rw [e4] at e3
              have := congrArg Ju e3
              simp at this
        · rw [if_neg hv]
          right
          have bI : (CQ key, last.nd.val) ∈ items := by
            rw [S.its, AA]
            refine Bc _ (Bl _ (DC.2 ⟨last.nd.pre, Bl _ ?_, hkey⟩))
            unfold BB
            rw [if_pos hv]
            exact List.mem_singleton.2 rfl
          have hct := uY h h1 htk hX hnd a hpr
          by_cases hk0 : last.nd.kids.length = 0
          · rw [if_pos hk0]
            have hlen : (way ++ [last]).length - 1 = way.length := by simp
            obtain ⟨m, ha, e, hu⟩ := XE (way ++ [last]) way.length (by simp) [last.off]
            have hpg : DD s (2 * key.length + 1) (s.ws 9) (CQ key) 0 72 [] = some (way ++ [last], rest') := hp
            have hnl := KD key
            have hW : ∀ i, i <= way.length -> [last.off] ++ (((( way ++ [last]).drop i).take (way.length - i)).map (·.off)).reverse = (((way ++ [last]).drop i).map (·.off)).reverse := fun i hi => by
              rw [V6 hi, List.take_append_of_le_length (by simp), DV (by simp)]
              simp
            rw [hW m ha] at e
            unfold Ox
            rw [hlen, hgl]
            simp only [Dh, Option.getD_some]
            rw [e]
            cases m with
            | zero =>
              simp only [List.drop_zero]
              obtain ⟨e1, e2⟩ := U0 h.ok (2 * key.length + 1) 32 (s.ws 9) items blocks (CQ key) 0 72 T (by omega) h1 (way ++ [last]) rest' last hpg hst hk0 hv (fun i up g1 g2 => hu i up (BA _) (by simp at g1; omega) g2)
              have e3 : ((way ++ [last]).map (·.off)).reverse = blocks.reverse.map CV := by rw [<- e2, xm]
              obtain ⟨s1, hs1⟩ : ∃ s1, s1 = ({ s with ws := FH s.ws 9 0 } : St) := ⟨_, rfl⟩
              have ok1 : Bz L s1 := by
                rw [hs1]
                exact h.ok.words (fun i hi => by unfold FH; rw [if_neg (by omega)])
              have Tj : ∀ p d, AO s1 p d <-> AO s p d := fun p d => by rw [hs1]; exact Iff.rfl
              have hdn : blocks.reverse.Nodup := (wK _).nodup_iff.2 hnd
              have hdt : ∀ p ∈ blocks.reverse, ∃ d, AO s1 p d := fun p hp => by
                obtain ⟨d, hd⟩ := (htk p).2 (.inl (List.mem_reverse.1 hp))
                exact ⟨d, (Tj p d).2 hd⟩
              obtain ⟨s2, ed, ok2, jZ, hd2, ws2, bH⟩ := Tv blocks.reverse ok1 hdn hdt
              have ee := XD blocks.reverse ok1 hdn hdt
              rw [ed] at ee
              have hfin : Dx ⟨s, []⟩ 0 72 0 ((way ++ [last]).map (·.off)).reverse = (s2, 0) := by
                unfold Dx
                rw [if_neg (by simp), e3, <- ee, hs1]
                rfl
              rw [hfin]
              simp only
              rw [if_neg (by decide)]
              simp only [if_true]
              have hXk : Qg X s s2 := ⟨jZ.trans (by rw [hs1]), fun j hj hj9 => by
                  rw [ws2 j (.inl hj), hs1]
                  show FH s.ws 9 0 j = _
                  unfold FH
                  rw [if_neg hj9], fun p c hp ht => ⟨(bH p c).2 ⟨(Tj p c).2 ht, fun hm => hX p (List.mem_reverse.1 hm) hp⟩, fun j hj => by
                  have Alg := h.ok.Dz (ht.bounds h.ok).1 hj
                  rw [ws2 j (.inr (by rw [hs1]; exact Alg)), hs1]
                  show FH s.ws 9 0 j = _
                  unfold FH
                  rw [if_neg (by omega)]⟩⟩
              refine ⟨hXk, trivial, bI, [], ⟨ok2, fun p d hh => h.nh p d ((Oe (by rw [hd2, hs1]) (by rw [jZ, hs1]) p d).1 hh), .inl ⟨?_, rfl, fun p => ?_⟩, fun _ h => nomatch h⟩, fun kv => ?_⟩
              · rw [ws2 9 (.inl (by decide)), hs1]; rfl
              · constructor
                · rintro ⟨d, hd⟩
                  obtain ⟨g1, g2⟩ := (bH p d).1 hd
                  exact ((htk p).1 ⟨d, (Tj p d).1 g1⟩).resolve_left (fun hb => g2 (List.mem_reverse.2 hb))
                · intro hx
                  obtain ⟨d, hd⟩ := (htk p).2 (.inr hx)
                  exact ⟨d, (bH p d).2 ⟨(Tj p d).2 hd, fun hm => hX p (List.mem_reverse.1 hm) hx⟩⟩
              · rw [e1]
                exact ⟨fun h => (nomatch h), fun ⟨g, hne⟩ => absurd (by rw [List.mem_singleton.1 g]) hne⟩
            | succ m =>
              simp only
              have hml : m + 1 < (way ++ [last]).length := by simp; omega
              obtain ⟨up, ru, q', rl', nl', parts', A', B', b1', b2', i, f', w', g1, S', g2, g3, g4, g5, g6, g7⟩ := qK h.ok m (2 * key.length + 1) 32 (s.ws 9) items blocks (CQ key) 0 72 T hnd (by omega) (by omega) h1 (way ++ [last]) rest' hpg hml
              have hi3 : i < parts'.length := by have := S'.len; omega
              have Ai8 : BG up.nd = true := by
                obtain ⟨_, _, _, hr, _⟩ := Ie h.ok S'.rd
                exact hr
              have hst2 : CB ((way ++ [last]).drop (m + 1)) rest' = some last := by
                unfold CB
                rw [V6 (by omega)]
                simp only [List.getLast?_append, dA, Option.some_or]
                rw [if_pos hpr]
              obtain ⟨e1, e2⟩ := U0 h.ok f' _ _ _ _ _ _ _ (S'.sub i g2 hi3) g5 g6 _ rest' last g7 hst2 hk0 hv (fun t u t1 t2 => hu (m + 1 + t) u (by omega) (by simp at t1; omega) (by rw [Cf] at t2; exact t2))
              obtain ⟨f'', rfl⟩ : ∃ f'', f' = f'' + 1 := ⟨f' - 1, by omega⟩
              obtain ⟨x, W', hx, hxl, _⟩ := Zt g7 g6
              have hx1 : (way ++ [last])[m + 1]? = some x := by
                have := congrArg (fun l => l[0]?) hx
                simpa [Cf] using this
              rw [g1, hx1]
              simp only
              rw [hxl, Acz ((AY up.nd).1 Ai8).2.2.2.2.1 g3]
              simp only
              rw [if_pos Ai8]
              obtain ⟨_, s1, er, hfin, hcase⟩ := Afr h h1 htk hX hnd S' g2 g3 hi3 g4 e1
              simp only at hfin
              rw [<- e2, hfin]
              simp only
              rcases hcase with ⟨rfl, rfl⟩ | ⟨rfl, kx', items', ix', ci⟩
              · simp only [if_true]
                exact ⟨hct.1, trivial, bI, hct.2⟩
              · rw [if_neg (by decide)]
                simp only [if_true]
                exact ⟨kx', trivial, bI, items', ix', ci⟩
          · rw [if_neg hk0]
            simp only [if_true]
            exact ⟨hct.1, trivial, bI, hct.2⟩
      · have hst : CB (way ++ [last]) rest' = none := by unfold CB; rw [hgl]; simp only; rw [if_neg hpr]
        rw [hst]
        refine .inl ⟨rfl, fun kv hkv e => ?_⟩
        rcases hmem kv hkv with g | g | ⟨k, g1, g2⟩
        · exact a.other kv (.inl g) e
        · exact a.other kv (.inr g) e
        · rw [g2, S.cut] at e
          exact a.below hpr _ g1 (Dk e)
end
open Go.RowKit
theorem Tryz.bJ:IE Tryz.prog 59 3 (.int .i64 0) 1 8:=⟨Tryz.underlying59,by kernel_rfl,rfl⟩
def nV(l:List Nat):List Value:=l.map fun a=> .int .i64 ((a:Nat):Int)
theorem qL(l:List Nat)(a:Nat):nV (l++[a])=nV l++[.int .i64 (a:Int)]:=by simp [nV]
theorem Zu(x:Nat)(w:World)(hx:x<18446744073709551616):Calls Tryz.prog 55 #[.int .u64 (x:Int)] w fun e w'=>∃v,e= .returned v/\w'.ownsRow w.heap.size 3 1 v (GX x).length (nV (GX x))/\Below w.heap.size w w':=by
 have HC:=Aa (FT x w hx);have aJ:=Aa (fun W=>Fv (AU x) W (by have:=LH x;omega));have hbl:=Fq (AU x);have HHs:=Aa (fun W a(ha:a<16)=>PN x a W hx (by omega));have hdef:GX x=(Dn (Ba (AU x))).filter (En x):=rfl;rw [hdef];clear hdef;generalize Ba (AU x)=nb at*;generalize AU x=cl at*;go_enter Tryz.func55,Tryz.ntmps55
 go_wp2_with fail
 refine HC.out.mono ?_;rintro e w1⟨rfl,hd1⟩;have HD1:=Aa (hd1.below w.heap.size);clear HC hd1
 go_wp2_with fail
 refine(aJ.out w1).mono ?_;rintro e w2⟨rfl,rfl⟩;clear aJ
 go_wp2_with fail
 go_loopw [3,8](fun u i wr=>∃k:Nat,k<=nb/\i= .int .i64 (k:Nat)/\wr.ownsRow w.heap.size 3 1 u ((Dn k).filter (En x)).length (nV ((Dn k).filter (En x)))/\Below w.heap.size w wr)(fun _ i _=>nb- (intOf i).toNat)
 case atStart=>exact⟨0,BA _,rfl,World.ownsRow_nil _ _ _ _,HD1.out⟩
 case round=>
  obtain⟨k,hk,rfl,hown,hb⟩:=hrel;have HO:=Aa hown;have HB:=Aa hb;clear hown hb;by_cases hlt:k<nb
  ·have hx1:(k:Int)<(nb:Int):=by omega
   have hx2:decide ((k:Int)<(nb:Int))=true:=decide_eq_true hx1;have hx5:decide (k<nb)=true:=decide_eq_true hlt;have hwk:IntKind.i64.wrap ((k:Int)+1)=(k:Int)+1:=wrap64 _ (by omega) (by omega);have UL:Hid ((Dn (k+1)).filter (En x)=if En x k then(Dn k).filter (En x)++[k]else(Dn k).filter (En x)):=Aa (by
    rw [Aa0,List.filter_append];simp only [List.filter_cons,List.filter_nil];split<;>simp)
   have hfl:((Dn k).filter (En x)).length<=16:=AL (KO _ _) (by simp;omega);have HH:=Aa (HHs.out wr k (by omega));generalize(Dn k).filter (En x)=M at*
   go_wp2_with fail
   refine HH.out.mono ?_;rintro e w3⟨rfl,hd3⟩;have HB3:=Aa (HB.out.trans (hd3.below w.heap.size));have jX:=Aa (Ed HO.out (Kept.of_below (r:=none) (hd3.below _)) (by
    rcases HO.out.2 with⟨h1,_⟩| ⟨g,cap,cur,h1,_⟩
    ·exact .inr (by subst h1;rfl)
    ·exact .inl (by subst h1;exact fun e=>nomatch e)))
   clear HH hd3 HO HB;cases hh:En x k with
   | true=>
     rw [hh,if_pos rfl]at UL
     go_wp2_with(at_builtin;refine DT rfl (.tmp 14) (.tmp 16) 59 rfl Tryz.bJ w3 w.heap.size u3 M.length (nV M) [.int .i64 (k:Int)] rfl (by exact jX.out) rfl w3.heap.size 1 rfl rfl rfl (by decide) (by intro u hu;simp at hu;subst hu;rfl) (by omega) (by decide) (by exact HB3.out.size) ?_;intro g6 c6 w6 WV TM hK6 dE)
     have uC:=Aa WV;have Qs:=Aa (HB3.out.trans TM);clear WV TM hK6 dE
     go_wp2_with fail
     go_roundw
     case rel=>exact⟨k+1,by omega,by go_num,by rw [UL.out,Az,qL];exact uC.out,Qs.out⟩
     case measure=>simp [intOf];omega
   | false=>
     rw [hh]at UL
     go_wp2_with fail
     go_roundw
     case rel=>exact⟨k+1,by omega,by go_num,by rw [UL.out];exact jX.out,HB3.out⟩
     case measure=>simp [intOf];omega
  ·have hx2:decide ((k:Int)<(nb:Int))=false:=decide_eq_false (by omega);have hx5:decide (k<nb)=false:=decide_eq_false hlt;have hkn:k=nb:=by omega
   subst hkn
   go_wp2_with fail
   go_ret;exact⟨_,rfl,HO.out,HB.out⟩
section
variable{w w':World}{d p L:Nat}{s:St}{tb hb n cT cH:Nat}
def VH(s:St)(i:Nat):List Nat:=(GX (Gl s i)).map fun a=>Ce s.sh i (AU (Gl s i)) a
def Pj(s:St)(i:Nat):List Nat:=(Dn i).flatMap (VH s)
theorem XF(s:St)(i:Nat):Pj s (i+1)=Pj s i++VH s i:=by simp [Pj,Aa0]
theorem ji(s:St)(i:Nat):(VH s i).length<=16:=by
 unfold VH;rw [CO];exact AL (KO _ _) (by simp [Fq])
theorem Zv(s:St):∀i,(Pj s i).length<=16*i
 | 0=>by simp [Pj]
 | i+1=>by rw [XF,Az];have:=Zv s i;have:=ji s i;omega
theorem zG(h:Gg w d p L s tb hb n cT cH):Calls Tryz.prog 22 #[.pointer (some ⟨p,0,none⟩)] w fun e w'=>∃v,e= .returned v/\w'.ownsRow w.heap.size 3 1 v (IB s).length (nV (IB s))/\Below w.heap.size w w':=by
 have RY:=Aa (Ff h);have HP:=Aa h;have y5:=h.y5;have Abx:n<=64:=by have:=h.ok.fits;have:=h.L1;have:=h.YS;omega
 have hall:IB s=Pj s n:=by unfold IB Pj;rw [h.Pn];rfl
 rw [hall];clear h hall;go_enter Tryz.func22,Tryz.ntmps22
 go_wp2_with fail
 refine RY.out.mono ?_;rintro e w1⟨rfl,rfl⟩;clear RY
 go_wp2_with fail
 go_loopw [3,15](fun u i wr=>∃k:Nat,k<=n/\i= .int .i64 (k:Nat)/\wr.ownsRow w.heap.size 3 1 u (Pj s k).length (nV (Pj s k))/\Below w.heap.size w wr)(fun _ i _=>n- (intOf i).toNat)
 case atStart=>exact⟨0,BA _,rfl,World.ownsRow_nil _ _ _ _,Below.refl _ _⟩
 case round=>
  obtain⟨k,hk,rfl,hown,hb⟩:=hrel;have HO:=Aa hown;have HB:=Aa hb;clear hown hb;by_cases hlt:k<n
  ·have hx1:(k:Int)<(n:Int):=by omega
   have hx2:decide ((k:Int)<(n:Int))=true:=decide_eq_true hx1;have hx5:decide (k<n)=true:=decide_eq_true hlt;have hwk:IntKind.i64.wrap ((k:Int)+1)=(k:Int)+1:=wrap64 _ (by omega) (by omega);have z1:=(HP.out.below HB.out).tk k hlt;have hx:=O6 s k;have hcl:=LH (Gl s k);have hal:=Zv s k;have XX:=Aa (Zu (Gl s k) wr hx);have TP:=Aa (fun W=>FT (Gl s k) W hx);have iU:=Aa (fun(W:World)a(hW:Below w.heap.size w W)(ha:a<=16)=>Rk (HP.out.below hW) k (AU (Gl s k)) a hlt hcl ha);have UL:Hid (Pj s (k+1)=Pj s k++(GX (Gl s k)).map fun a=>Ce s.sh k (AU (Gl s k)) a):=Aa (XF s k);have hls:∀a∈GX (Gl s k),a<=16:=fun a ha=>by
    have:=List.mem_range.1 (List.mem_filter.1 ha).1;have:=Fq (AU (Gl s k));omega
   have hll:(GX (Gl s k)).length<=16:=AL (KO _ _) (by simp [Fq]);generalize GX (Gl s k)=l at*;generalize AU (Gl s k)=cl at*;generalize Gl s k=x at*;generalize Pj s k=M at*
   go_wp2_with fail
   refine XX.out.mono ?_;rintro e w3⟨v3,rfl,ho3,hb3⟩;have hA3:∀A c,v3= .slice A l.length c->∀a,A=some a->wr.heap.size<=a.block/\a.block<w3.heap.size:=fun A c e a ea=>by
    rcases ho3.2 with⟨h1,_⟩| ⟨g,cap,cur,h1,h2,h3,_⟩
    ·rw [h1,ea]at e;cases e
    ·rw [h1,ea]at e;injection e with e
     injection e with e
     rw [<-e];exact⟨h2,(Array.getElem?_eq_some_iff.1 h3).1⟩
   obtain⟨A3,c3,rfl,hc3,hr3⟩:=BU ho3;have hap:∀a,A3=some a->a.block<w3.heap.size/\u3.ownBlock≠some a.block:=fun a ea=>by
    obtain⟨h1,h2⟩:=hA3 A3 c3 rfl a ea;refine⟨h2,fun e=> ?_⟩;rcases HO.out.2 with⟨h3,_⟩| ⟨g,cap,cur,h3,_,h4,_⟩
    ·rw [h3]at e;cases e
    ·rw [h3]at e;injection e with e
     have:=(Array.getElem?_eq_some_iff.1 h4).1;simp only at e;omega
   have HAp:=Aa hap;clear hA3 hap;have HR3:=Aa hr3;have HB3:=Aa (HB.out.trans (hb3.mono HB.out.size));have jX:=Aa (Ed HO.out (Kept.of_below (r:=none) hb3) (by
    rcases HO.out.2 with⟨h1,_⟩| ⟨g,cap,cur,h1,_⟩
    ·exact .inr (by subst h1;rfl)
    ·exact .inl (by subst h1;exact fun e=>nomatch e)))
   clear XX ho3 hb3 hr3 HO HB
   go_wp2_with fail
   go_loopw [3,23](fun u i wr=>∃j:Nat,j<=l.length/\i= .int .i64 (j:Nat)/\wr.ownsRow w.heap.size 3 1 u (M++(l.take j).map fun a=>Ce s.sh k cl a).length (nV (M++(l.take j).map fun a=>Ce s.sh k cl a))/\Below w.heap.size w wr/\Rd wr A3 l.length (nV l)/\∀a,A3=some a->a.block<wr.heap.size/\u.ownBlock≠some a.block)(fun _ i _=>l.length- (intOf i).toNat)
   case atStart=>exact⟨0,BA _,rfl,by simpa using jX.out,HB3.out,HR3.out,HAp.out⟩
   case round=>
    obtain⟨j,hj,rfl,hown,hb,hrd,hap⟩:=hrel;have eY:=Aa hown;have HB4:=Aa hb;have HR4:=Aa hrd;have Ai9:=Aa hap;clear hown hb hrd hap HAp;by_cases hjl:j<l.length
    ·have hy1:(j:Int)<(l.length:Int):=by omega
     have hy2:decide ((j:Int)<(l.length:Int))=true:=decide_eq_true hy1;have hy5:decide (j<l.length)=true:=decide_eq_true hjl;have hwj:IntKind.i64.wrap ((j:Int)+1)=(j:Int)+1:=wrap64 _ (by omega) (by omega);obtain⟨b,off,rfl,hbw,hcc⟩:=HR4.out.2 (by omega);have z2:=hcc j hjl;rw [nV,BC,Af hjl]at z2;simp only [Dh]at z2;clear hcc;have ha16:=hls l[j] (BD hjl);have HTj:Hid (M++(l.take (j+1)).map (fun a=>Ce s.sh k cl a)=M++(l.take j).map (fun a=>Ce s.sh k cl a)++[Ce s.sh k cl l[j]]):=Aa (by
      rw [C9 hjl,DR,AA];rfl)
     have hml:(M++(l.take j).map fun a=>Ce s.sh k cl a).length<=2000:=by
      simp only [Az,CO,Dt];omega
     generalize l[j]=a at*;generalize(M++(l.take j).map fun a=>Ce s.sh k cl a)=Q at*
     go_wp2_with fail
     refine(TP.out wr).mono ?_;rintro e w5⟨rfl,hd5⟩;have Aft:=hd5.below w.heap.size;have MF:=Aa (HB4.out.trans (hd5.below w.heap.size));have Aja:=Aa (iU.out w5 a MF.out ha16);have fA:=Aa (Ed eY.out (Kept.of_below (r:=none) (hd5.below _)) (by
      rcases eY.out.2 with⟨h1,_⟩| ⟨g,cap,cur,h1,_⟩
      ·exact .inr (by subst h1;rfl)
      ·exact .inl (by subst h1;exact fun e=>nomatch e)))
     clear eY HB4
     go_wp2_with fail
     refine Aja.out.mono ?_;rintro e w6⟨rfl,hd6⟩;have Qs:=Aa (MF.out.trans (hd6.below w.heap.size));have uC:=Aa (Ed fA.out (Kept.of_below (r:=none) (hd6.below _)) (by
      rcases fA.out.2 with⟨h1,_⟩| ⟨g,cap,cur,h1,_⟩
      ·exact .inr (by subst h1;rfl)
      ·exact .inl (by subst h1;exact fun e=>nomatch e)))
     have HT6:=Qs;have hs6:wr.heap.size<=w6.heap.size:=AL (Aft.size) (hd6.below w.heap.size).size;have Ya:Rd w6 (some ⟨b,off,none⟩) l.length (nV l):=Rd.below HR4.out ((hd5.below _).trans ((hd6.below _).mono Aft.size));have HR6:=Aa Ya;clear Aja hd6 fA MF Ya hd5 Aft
     go_wp2_with(at_builtin;refine DT rfl (.tmp 27) (.tmp 34) 59 rfl Tryz.bJ w6 w.heap.size u3 Q.length (nV Q) [.int .i64 ((Ce s.sh k cl a:Nat):Int)] rfl (by exact uC.out) rfl w6.heap.size 1 rfl rfl rfl (by decide) (by intro u hu;simp at hu;subst hu;rfl) (by omega) (by decide) (by exact HT6.out.size) ?_;intro g8 c8 w8 hO8 Jf hK8 hg8)
     have HO8:=Aa hO8;have JM:=Aa (HT6.out.trans Jf);have hne:=(Ai9.out _ rfl).2;have hbl:=(Ai9.out _ rfl).1;simp only at hne hbl;have HR8:Hid (Rd w8 (some ⟨b,off,none⟩) l.length (nV l)):=Aa (by
      refine⟨HR6.out.1,fun hn=> ?_⟩;obtain⟨b',off',e',hb',Alh⟩:=HR6.out.2 hn;injection e' with e'
      injection e' with e1 e2
      subst e1 e2;exact⟨b,off,rfl,Nat.lt_of_lt_of_le hb' hK8.1,fun j hj=>(World.cell?_of_block (w:=w6) (hK8.2 b hb' (fun e=>hne e.symm))).trans (Alh j hj)⟩)
     have HA8:Hid (b<w8.heap.size/\some g8≠some b):=Aa (by
      refine⟨by have:=hK8.1;omega,fun e=> ?_⟩;injection e with e
      rcases hg8 with h| h
      ·exact hne (by rw [h,e])
      ·omega)
     clear hO8 Jf hK8 hg8 hne hbl HR6
     go_wp2_with fail
     go_roundw
     case rel=>exact⟨j+1,by omega,by go_num,by rw [HTj.out,Az,qL];exact HO8.out,JM.out,HR8.out,fun a ea=>by injection ea with ea;subst ea;exact HA8.out⟩
     case measure=>simp [intOf];omega
    ·have hy2:decide ((j:Int)<(l.length:Int))=false:=decide_eq_false (by omega);have hy5:decide (j<l.length)=false:=decide_eq_false hjl;have hjn:j=l.length:=by omega
     subst hjn;have fA:Hid (wr.ownsRow w.heap.size 3 1 u3 (M++l.map fun a=>Ce s.sh k cl a).length (nV (M++l.map fun a=>Ce s.sh k cl a))):=Aa (by have:=eY.out;rwa [KA]at this);have HT5:=HB4;clear eY
     go_wp2_with fail
     go_roundw
     case rel=>exact⟨k+1,by omega,by go_num,by rw [UL.out];exact fA.out,HT5.out⟩
     case measure=>simp [intOf];omega
  ·have hx2:decide ((k:Int)<(n:Int))=false:=decide_eq_false (by omega);have hx5:decide (k<n)=false:=decide_eq_false hlt;have hkn:k=n:=by omega
   subst hkn
   go_wp2_with fail
   go_ret;exact⟨_,rfl,HO.out,HB.out⟩
end
theorem bK(a b:ByteArray):(a==b)=decide (a=b):=by
 cases a with| mk x=>cases b with| mk y=>
 have h:((⟨x⟩:ByteArray)==⟨y⟩)=(x==y):=rfl;rw [h,Bool.eq_iff_iff,beq_iff_eq,decide_eq_true_eq,ByteArray.mk.injEq]
section
variable{P:Program}{t kt et:TypeId}
theorem Og(hk:P.underlying kt=some .string)(b:Bool)(n:Nat)(k:ByteArray)(w:World):(Instr.checkKey b (n+1) kt (.string k)).run P w= .ok () w:=by
 simp [Instr.checkKey,run_underlying hk,Result.andThen]
end
end Go.Proofs.YtjcppneoncpdbaaGreatDoor
