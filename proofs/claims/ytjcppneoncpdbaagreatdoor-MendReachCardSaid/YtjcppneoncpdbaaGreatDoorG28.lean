import Derived.Test.YtjcppneoncpdbaaGreatDoorG26
open List renaming getElem?_drop->Dp,getElem?_eq_getElem->Ag,mem_append->AL,mem_singleton->BD,length->OU,append_cancel_left->Ec,append_assoc->AV,mem_append_right->Bo,mem_append_left->BB,reverse_perm->zf,map_reverse->zN,drop_append_of_le_length->WE,mem_reverse->OW
namespace Go.Proofs.YtjcppneoncpdbaaGreatDoor
theorem Ab6{α:Type}(xs:List α)(i t:Nat)(h:i<=xs.length):(Ji xs i)[t]? =if t<i then xs[t]? else xs[t+1]? :=by
 unfold Ji;have hl:(xs.take i).length=i:=by simp;omega
 split
 ·rename_i ht;rw [List.getElem?_append_left (by omega),List.getElem?_take,if_pos ht]
 ·rw [List.getElem?_append_right (by omega),hl,Dp];congr 1;omega
theorem QP{α:Type}(xs:List α)(i:Nat)(h:i<xs.length):(Ji xs i).length+1=xs.length:=by unfold Ji;simp;omega
theorem Rk{α:Type}(xs:List α)(i t:Nat)(h:i<xs.length)(ht:t<(Ji xs i).length):∃(h2:(if t<i then t else t+1)<xs.length),(Ji xs i)[t]=xs[if t<i then t else t+1]:=by
 have hl:=QP xs i h;have h2:(if t<i then t else t+1)<xs.length:=by split<;>omega
 refine⟨h2,?_⟩;have:=Ab6 xs i t (by omega);rw [Ag ht]at this;have e:(if t<i then xs[t]? else xs[t+1]?)=xs[if t<i then t else t+1]? :=by split<;>rfl
 rw [e,Ag h2]at this;exact Option.some.inj this
theorem Ab7{α:Type}{xs:List α}{i:Nat}{x:α}(h:x∈Ji xs i):x∈xs:=by
 unfold Ji at h;rcases AL.1 h with h| h
 ·exact List.mem_of_mem_take h
 ·exact List.mem_of_mem_drop h
theorem yt{x:Nd}(h:Cc x=true){i:Nat}(hi:i<x.kids.length):Cc (Wl x i)=true:=by
 obtain⟨h1,h2,h3,h4,h5,h6⟩:=(Bg x).1 h;have hil:i<x.labels.length:=by omega
 have e1:=QP x.labels i hil;have e2:=QP x.kids i hi;refine(Bg _).2 ⟨h1,h2,by show(Ji x.labels i).length=(Ji x.kids i).length;omega,?_,?_,fun t ht=> ?_⟩
 ·rw [List.all_eq_true]at h4⊢;exact fun y hy=>h4 y (Ab7 hy)
 ·show DD (Ji x.labels i)=true;rw [GH];intro t ht;obtain⟨g1,g2⟩:=Rk x.labels i t hil (by omega);obtain⟨g3,g4⟩:=Rk x.labels i (t+1) hil ht;rw [g2,g4];exact Ic _ h5 _ _ (by split<;>split<;>omega) g3
 ·obtain⟨g1,g2⟩:=Rk x.kids i t hi ht;show(Ji x.kids i)[t].toNat≠0;rw [g2];exact h6 _ g1
theorem Ae8{l:List UInt8}(hr:DD l=true){i:Nat}(hi:i<l.length):JR l l[i]=some i:=by
 unfold JR;rw [List.findIdx?_eq_some_iff_getElem];refine⟨hi,by simp,fun j hj=> ?_⟩;have:=Ic _ hr j i hj hi;simp;intro e;rw [e]at this;omega
def Ab8(items items':List Kv)(k:List UInt8):Prop:=∀kv,kv∈items'<->kv∈items/\kv.1≠k
def Alm(X:Nat->Prop)(L:Nat)(s:St)(items:List Kv)(k:List UInt8)(r:St×UInt64×Int):Prop:=
 (r=(s,0,7)/\∀kv∈items,kv.1≠k)\/(QM X s r.1/\r.2.2=0/\(k,r.2.1)∈items/\∃items',QL X L r.1 items'/\Ab8 items items' k)
section
variable{X:Nat->Prop}{L:Nat}{s:St}{items:List Kv}{blocks:List Nat}{key:List UInt8}
theorem Ah4(h:QL X L s items)(hn0:s.ws 9≠0)(htk:∀o,(∃d,Ba s o d)<->o∈blocks\/X o)(hX:∀o∈blocks,¬X o)(hnd:blocks.Nodup){up:Pl}{ru q:List UInt8}{rl:Nat}{nl:UInt64}{parts:List Part}{A B:List Kv}{b1 b2:List Nat}
 (S:VR L s 32 (s.ws 9) items blocks 72 (Di key) up ru q rl nl parts A B b1 b2){i:Nat}(h1:i<up.nd.kids.length)(h2:i<up.nd.labels.length)(h3:i<parts.length){r2:List UInt8}(hcut:up.nd.pre++up.nd.labels[i]::r2=ru){v:UInt64}(hpi:parts[i].items=[(r2,v)]):
 (Di key,v)∈items/\∃s1 er,(match DT ⟨s,[]⟩ (Wl up.nd i)with| (j1,name,e)=>DK j1 e up.word name ((parts[i].blocks.map Int.ofNat).reverse++[up.off]))=(s1,er)/\
  ((er=6/\s1=s)\/(er=0/\QM X s s1/\∃items',QL X L s1 items'/\Ab8 items items' (Di key))):=by
 obtain⟨o,a⟩:=uP h.ok hnd S;have hr':=(Bg up.nd).1 a.right;have hkey:Di key=q++ru:=S.cut;have hki:=QI up.nd.pre up.nd.labels parts i h2 h3 (by have:=S.len;omega);rw [hpi]at hki;have hun:Fa up.nd.pre up.nd.labels[i] [(r2,v)]=[(ru,v)]:=by unfold Fa;simp [hcut]
 have hkd:Bj up.nd.pre (Ji up.nd.labels i) (Ji parts i)=Bj up.nd.pre (up.nd.labels.take i) (parts.take i)++Bj up.nd.pre (up.nd.labels.drop (i+1)) (parts.drop (i+1)):=by
  unfold Ji;exact MM _ _ _ _ _ (by simp;omega)
 have hbd:Bc (Ji parts i)=Bc (parts.take i)++Bc (parts.drop (i+1)):=by
  unfold Ji;exact Oo _ _
 have hmem:∀k x,(k,x)∈BZ up.nd++Bj up.nd.pre up.nd.labels parts<->(k,x)∈BZ up.nd++Bj up.nd.pre (Ji up.nd.labels i) (Ji parts i)\/(k,x)=(ru,v):=fun k x=>by
  rw [hki,hkd,hun];simp only [AL,BD];constructor
  ·rintro(g| g| g| g)
   ·exact .inl (.inl g)
   ·exact .inl (.inr (.inl g))
   ·exact .inr g
   ·exact .inl (.inr (.inr g))
  ·rintro((g| g| g)| g)
   ·exact .inl g
   ·exact .inr (.inl g)
   ·exact .inr (.inr (.inr g))
   ·exact .inr (.inr (.inl g))
 have hne:∀k x,(k,x)∈BZ up.nd++Bj up.nd.pre (Ji up.nd.labels i) (Ji parts i)->k≠ru:=fun k x hk e=>by
  have hlab:∀t(g:t<up.nd.labels.length),t≠i->up.nd.labels[t]≠up.nd.labels[i]:=fun t g hti e=>by
   rcases Nat.lt_or_gt_of_ne hti with g2| g2
   ·have:=Ic _ hr'.2.2.2.2.1 t i g2 h2;rw [e]at this;omega
   ·have:=Ic _ hr'.2.2.2.2.1 i t g2 g;rw [e]at this;omega
  rcases AL.1 hk with g| g
  ·obtain⟨g,_⟩:=Fe g;injection g with g _
   rw [g,<-hcut]at e;have:=congrArg OU e;simp at this
  ·obtain⟨t,t1,t2,kv',_,g⟩:=EJ g;injection g with g _
   rw [g,<-hcut]at e;have e2:=Ec e;injection e2 with e2 _
   obtain⟨g1,g2⟩:=Rk up.nd.labels i t h2 t1;rw [g2]at e2;exact hlab _ g1 (by split<;>omega) e2
 have hin:∀k x,(k,x)∈BZ up.nd++Bj up.nd.pre up.nd.labels parts->(q++k,x)∈items:=fun k x h4=>by
  rw [S.its,AV];exact Bo _ (BB _ (Eb.2 ⟨k,h4,rfl⟩))
 refine⟨by rw [hkey];exact hin ru v ((hmem ru v).2 (.inr rfl)),?_⟩;rcases OM (Grown.start h.ok h.nh) (yt a.right h1)with e| ⟨j',name,o',e,_,g,ho',hn,hrd,_⟩
 ·rw [e];exact⟨s,6,rfl,.inl ⟨rfl,rfl⟩⟩
 ·rw [e];simp only;have T:=DJ.mk (s:=j'.s) rl name (Wl up.nd i) (Ji parts i) hrd S.pre (fun _=>S.kid (fun e=>by rw [e]at h1;exact absurd h1 (by simp))) (by
   have:=QP parts i h3;have:=QP up.nd.kids i h1;show(Ji parts i).length=(Ji up.nd.kids i).length;have:=S.len;omega) (fun t g1 g2=>by
   obtain⟨u1,u2⟩:=Rk up.nd.kids i t h1 g1;obtain⟨u3,u4⟩:=Rk parts i t h3 g2;have e1:(Wl up.nd i).kids[t]=up.nd.kids[if t<i then t else t+1]:=u2;rw [e1,u4];exact(S.sub _ u1 u3).keep h.ok g.ok g.keep (fun _ _=>trivial))
  rw [ho',Int.toNat_natCast]at T;have hown:BZ (Wl up.nd i)=BZ up.nd:=rfl;rw [hown]at T;obtain⟨s2,e2,kx2,qU⟩:=aK h hn0 htk hX a g hn T (K:=Bc (Ji parts i)) (D:=parts[i].blocks) (dl:=parts[i].blocks.reverse++[o])
   (by
    rw [Ku parts i h3,hbd];have:(Bc (parts.take i)++(parts[i].blocks++Bc (parts.drop (i+1)))).Perm (Bc (parts.take i)++(Bc (parts.drop (i+1))++parts[i].blocks)):=List.Perm.append_left _ List.perm_append_comm;simpa [AV]using this)
   (by simp) (List.Perm.append_right _ (zf _)) (fun kv hkv=>by
    obtain⟨k,x⟩:=kv;exact h.even _ (hin k x ((hmem k x).2 (.inl hkv))))
  refine⟨s2,0,?_,.inr ⟨rfl,kx2,_,qU,fun kv=> ?_⟩⟩
  ·rw [a.off,<-e2,List.map_append,zN];rfl
  ·constructor
   ·intro hkv;rw [AV]at hkv;rcases AL.1 hkv with g1| g1
    ·exact⟨by rw [S.its];simp [g1],a.other kv (.inl g1)⟩
    ·rcases AL.1 g1 with g1| g1
     ·obtain⟨k,g2,g3⟩:=Eb.1 g1;have:=hin k kv.2 ((hmem k kv.2).2 (.inl g2));refine⟨by rw [<-g3]at this;exact this,fun e=> ?_⟩;rw [g3,hkey]at e;exact hne k kv.2 g2 (Ec e)
     ·exact⟨by rw [S.its];simp [g1],a.other kv (.inr g1)⟩
   ·rintro⟨g1,g2⟩;rw [S.its,AV]at g1;rw [AV];rcases AL.1 g1 with g3| g3
    ·exact BB _ g3
    ·rcases AL.1 g3 with g3| g3
     ·obtain⟨k,g4,g5⟩:=Eb.1 g3;rcases(hmem k kv.2).1 g4 with g6| g6
      ·exact Bo _ (BB _ (Eb.2 ⟨k,g6,g5⟩))
      ·injection g6 with g6 _
       exact absurd (by rw [g5,g6,hkey]) g2
     ·exact Bo _ (Bo _ g3)
theorem yu(h:QL X L s items)(hn0:s.ws 9≠0)(htk:∀o,(∃d,Ba s o d)<->o∈blocks\/X o)(hX:∀o∈blocks,¬X o)(hnd:blocks.Nodup){last:Pl}{rest' q:List UInt8}{rl:Nat}{nl:UInt64}{parts:List Part}{A B:List Kv}{b1 b2:List Nat}{o:Nat}
 (a:Vl L s items blocks key last rest' q rl nl parts A B b1 b2 o)(hp:last.nd.pre=rest'):QM X s (JU s last 0)/\∃items',QL X L (JU s last 0) items'/\Ab8 items items' (Di key):=by
 obtain⟨hK,hV⟩:=kW h hn0 htk hX hnd a.toOc hp 0;refine⟨hK,_,hV,fun kv=> ?_⟩;have S:=a.spot;have hkey:Di key=q++last.nd.pre:=by rw [hp];exact S.cut
 have hz:BZ {last.nd with val:=0}=[]:=rfl;have NI:∀k,(k,kv.2)∈Bj last.nd.pre last.nd.labels parts->q++k≠Di key:=fun k hk e=>by
  obtain⟨i,g1,g2,kv',_,e2⟩:=EJ hk;rw [hkey]at e;have:=Ec e;have e3:k=last.nd.pre++last.nd.labels[i]::kv'.1:=congrArg Prod.fst e2;rw [e3]at this;have:=congrArg OU this;simp at this
 rw [hz,List.nil_append,S.its];simp only [AL,Eb];constructor
 ·rintro((g| ⟨k,g1,g2⟩)| g)
  ·exact⟨.inl (.inl g),a.other kv (.inl g)⟩
  ·exact⟨.inl (.inr ⟨k,.inr g1,g2⟩),by rw [g2];exact NI k g1⟩
  ·exact⟨.inr g,a.other kv (.inr g)⟩
 ·rintro⟨(g| ⟨k,g1,g2⟩)| g,hne⟩
  ·exact .inl (.inl g)
  ·rcases g1 with g1| g1
   ·obtain⟨e,_⟩:=Fe g1;injection e with e _
    exact absurd (by rw [g2,e,hkey]) hne
   ·exact .inl (.inr ⟨k,g1,g2⟩)
  ·exact .inr g
theorem Ah5 (h : QL X L s items) (key : List UInt8) (hk : key.length <= 16) : Alm X L s items (Di key) (Nh s key) := by
  by_cases h0 : s.ws 9 = 0
  · have hi : items = [] := by
      rcases h.tree with ⟨_, h2, _⟩ | ⟨_, h1, _⟩
      · exact h2
      · exact absurd h0 h1
    subst hi
    refine .inl ⟨?_, fun _ h => nomatch h⟩
    unfold Nh Gi
    rw [if_neg (by omega), h0, Ee, if_pos rfl]
    rfl
  · rcases h.tree with ⟨h1, _⟩ | ⟨blocks, h1, T, hnd, hX, htk⟩
    · exact absurd h1 h0
    · obtain ⟨way, last, rest', q, rl, nl, parts, A, B, b1, b2, o, hp, a⟩ := around h.ok h1 T hnd key hk
      have S := a.spot
      have hgl : (way ++ [last]).getLast? = some last := by simp
      have hmem : ∀ kv ∈ items, kv ∈ A \/ kv ∈ B \/ ∃ k, (k, kv.2) ∈ BZ last.nd ++ Bj last.nd.pre last.nd.labels parts /\ kv.1 = q ++ k := fun kv hkv => by
        rw [S.its, AV] at hkv
        rcases AL.1 hkv with g | g
        · exact .inl g
        · rcases AL.1 g with g | g
          · exact .inr (.inr (Eb.1 g))
          · exact .inr (.inl g)
      unfold Nh
      rw [if_neg (by omega), hp]
      simp only
      by_cases hpr : last.nd.pre = rest'
      · have hst : Dj (way ++ [last]) rest' = some last := by unfold Dj; rw [hgl]; simp only; rw [if_pos hpr]
        rw [hst]
        simp only
        have hkey : Di key = q ++ last.nd.pre := by rw [hpr]; exact S.cut
        by_cases hv : last.nd.val = 0
        · rw [if_pos hv]
          refine .inl ⟨rfl, fun kv hkv e => ?_⟩
          rcases hmem kv hkv with g | g | ⟨k, g1, g2⟩
          · exact a.other kv (.inl g) e
          · exact a.other kv (.inr g) e
          · rcases AL.1 g1 with g1 | g1
            · exact (Fe g1).2 hv
            · obtain ⟨i, i1, i2, kv', _, e2⟩ := EJ g1
              rw [g2, hkey] at e
              have e3 := Ec e
              have e4 : k = last.nd.pre ++ last.nd.labels[i] :: kv'.1 := congrArg Prod.fst e2
              rw [e4] at e3
              have := congrArg OU e3
              simp at this
        · rw [if_neg hv]
          right
          have fJ : (Di key, last.nd.val) ∈ items := by
            rw [S.its, AV]
            refine Bo _ (BB _ (Eb.2 ⟨last.nd.pre, BB _ ?_, hkey⟩))
            unfold BZ
            rw [if_pos hv]
            exact BD.2 rfl
          have hct := yu h h1 htk hX hnd a hpr
          by_cases hk0 : last.nd.kids.length = 0
          · rw [if_pos hk0]
            have hlen : (way ++ [last]).length - 1 = way.length := by simp
            obtain ⟨m, ha, e, hu⟩ := Y5 (way ++ [last]) way.length (by simp) [last.off]
            have hpg : Ee s (2 * key.length + 1) (s.ws 9) (Di key) 0 72 [] = some (way ++ [last], rest') := hp
            have hnl := L8 key
            have hW : ∀ i, i <= way.length -> [last.off] ++ (((( way ++ [last]).drop i).take (way.length - i)).map (·.off)).reverse = (((way ++ [last]).drop i).map (·.off)).reverse := fun i hi => by
              rw [WE hi, List.take_append_of_le_length (by simp), List.take_of_length_le (by simp)]
              simp
            rw [hW m ha] at e
            unfold Pj
            rw [hlen, hgl]
            simp only [Option.map_some, Option.getD_some]
            rw [e]
            cases m with
            | zero =>
              simp only [List.drop_zero]
              obtain ⟨e1, e2⟩ := Vm h.ok (2 * key.length + 1) 32 (s.ws 9) items blocks (Di key) 0 72 T (by omega) h1 (way ++ [last]) rest' last hpg hst hk0 hv (fun i up g1 g2 => hu i up (Nat.zero_le _) (by simp at g1; omega) g2)
              have e3 : ((way ++ [last]).map (·.off)).reverse = blocks.reverse.map Int.ofNat := by rw [<- e2, zN]
              obtain ⟨s1, hs1⟩ : ∃ s1, s1 = ({ s with ws := FO s.ws 9 0 } : St) := ⟨_, rfl⟩
              have ok1 : BG L s1 := by
                rw [hs1]
                exact h.ok.words (fun i hi => by unfold FO; rw [if_neg (by omega)])
              have Tj : ∀ p d, Ba s1 p d <-> Ba s p d := fun p d => by rw [hs1]; exact Iff.rfl
              have hdn : blocks.reverse.Nodup := (zf _).nodup_iff.2 hnd
              have hdt : ∀ p ∈ blocks.reverse, ∃ d, Ba s1 p d := fun p hp => by
                obtain ⟨d, hd⟩ := (htk p).2 (.inl (OW.1 hp))
                exact ⟨d, (Tj p d).2 hd⟩
              obtain ⟨s2, ed, ok2, mZ, hd2, ws2, fG⟩ := Us blocks.reverse ok1 hdn hdt
              have ee := Y4 blocks.reverse ok1 hdn hdt
              rw [ed] at ee
              have hfin : DK ⟨s, []⟩ 0 72 0 ((way ++ [last]).map (·.off)).reverse = (s2, 0) := by
                unfold DK
                rw [if_neg (by simp), e3, <- ee, hs1]
                rfl
              rw [hfin]
              simp only
              rw [if_neg (by decide)]
              simp only [if_true]
              have hXk : QM X s s2 := ⟨mZ.trans (by rw [hs1]), fun j hj hj9 => by
                  rw [ws2 j (.inl hj), hs1]
                  show FO s.ws 9 0 j = _
                  unfold FO
                  rw [if_neg hj9], fun p c hp ht => ⟨(fG p c).2 ⟨(Tj p c).2 ht, fun hm => hX p (OW.1 hm) hp⟩, fun j hj => by
                  have An5 := h.ok.DC (ht.bounds h.ok).1 hj
                  rw [ws2 j (.inr (by rw [hs1]; exact An5)), hs1]
                  show FO s.ws 9 0 j = _
                  unfold FO
                  rw [if_neg (by omega)]⟩⟩
              refine ⟨hXk, trivial, fJ, [], ⟨ok2, fun p d hh => h.nh p d ((OO (by rw [hd2, hs1]) (by rw [mZ, hs1]) p d).1 hh), .inl ⟨?_, rfl, fun p => ?_⟩, fun _ h => nomatch h⟩, fun kv => ?_⟩
              · rw [ws2 9 (.inl (by decide)), hs1]; rfl
              · constructor
                · rintro ⟨d, hd⟩
                  obtain ⟨g1, g2⟩ := (fG p d).1 hd
                  exact ((htk p).1 ⟨d, (Tj p d).1 g1⟩).resolve_left (fun hb => g2 (OW.2 hb))
                · intro hx
                  obtain ⟨d, hd⟩ := (htk p).2 (.inr hx)
                  exact ⟨d, (fG p d).2 ⟨(Tj p d).2 hd, fun hm => hX p (OW.1 hm) hx⟩⟩
              · rw [e1]
                exact ⟨fun h => (nomatch h), fun ⟨g, hne⟩ => absurd (by rw [BD.1 g]) hne⟩
            | succ m =>
              simp only
              have hml : m + 1 < (way ++ [last]).length := by simp; omega
              obtain ⟨up, ru, q', rl', nl', parts', A', B', b1', b2', i, f', w', g1, S', g2, g3, g4, g5, g6, g7⟩ := uQ h.ok m (2 * key.length + 1) 32 (s.ws 9) items blocks (Di key) 0 72 T hnd (by omega) (by omega) h1 (way ++ [last]) rest' hpg hml
              have hi3 : i < parts'.length := by have := S'.len; omega
              have Aln : Cc up.nd = true := by
                obtain ⟨_, _, _, hr, _⟩ := IZ h.ok S'.rd
                exact hr
              have hst2 : Dj ((way ++ [last]).drop (m + 1)) rest' = some last := by
                unfold Dj
                rw [WE (by omega)]
                simp only [List.getLast?_append, List.getLast?_singleton, Option.some_or]
                rw [if_pos hpr]
              obtain ⟨e1, e2⟩ := Vm h.ok f' _ _ _ _ _ _ _ (S'.sub i g2 hi3) g5 g6 _ rest' last g7 hst2 hk0 hv (fun t u t1 t2 => hu (m + 1 + t) u (by omega) (by simp at t1; omega) (by rw [Dp] at t2; exact t2))
              obtain ⟨f'', rfl⟩ : ∃ f'', f' = f'' + 1 := ⟨f' - 1, by omega⟩
              obtain ⟨x, W', hx, hxl, _⟩ := aN g7 g6
              have hx1 : (way ++ [last])[m + 1]? = some x := by
                have := congrArg (fun l => l[0]?) hx
                simpa [Dp] using this
              rw [g1, hx1]
              simp only
              rw [hxl, Ae8 ((Bg up.nd).1 Aln).2.2.2.2.1 g3]
              simp only
              rw [if_pos Aln]
              obtain ⟨_, s1, er, hfin, hcase⟩ := Ah4 h h1 htk hX hnd S' g2 g3 hi3 g4 e1
              simp only at hfin
              rw [<- e2, hfin]
              simp only
              rcases hcase with ⟨rfl, rfl⟩ | ⟨rfl, kx', items', ix', ci⟩
              · simp only [if_true]
                exact ⟨hct.1, trivial, fJ, hct.2⟩
              · rw [if_neg (by decide)]
                simp only [if_true]
                exact ⟨kx', trivial, fJ, items', ix', ci⟩
          · rw [if_neg hk0]
            simp only [if_true]
            exact ⟨hct.1, trivial, fJ, hct.2⟩
      · have hst : Dj (way ++ [last]) rest' = none := by unfold Dj; rw [hgl]; simp only; rw [if_neg hpr]
        rw [hst]
        refine .inl ⟨rfl, fun kv hkv e => ?_⟩
        rcases hmem kv hkv with g | g | ⟨k, g1, g2⟩
        · exact a.other kv (.inl g) e
        · exact a.other kv (.inr g) e
        · rw [g2, S.cut] at e
          exact a.below hpr _ g1 (Ec e)
end
end Go.Proofs.YtjcppneoncpdbaaGreatDoor
