import Derived.Test.YtkimaejoeapmnaaGreatDoorG32
open List renaming getElem?_drop->Dl,getElem?_eq_getElem->Af,mem_append->AL,mem_singleton->BC,length->Lr,append_cancel_left->Em,append_assoc->AX,mem_append_right->Bj,mem_append_left->BD,reverse_perm->Adr,map_reverse->Ad1,drop_append_of_le_length->XL,mem_reverse->P8,getD_eq_getElem?_getD->Bh
namespace Go.Proofs.YtkimaejoeapmnaaGreatDoor
theorem Agi{α:Type}(xs:List α)(i t:Nat)(h:i<=xs.length):(Js xs i)[t]? =if t<i then xs[t]? else xs[t+1]? :=by
 unfold Js;have hl:(xs.take i).length=i:=by simp;omega
 split
 ·rename_i ht;rw [List.getElem?_append_left (by omega),List.getElem?_take,if_pos ht]
 ·rw [List.getElem?_append_right (by omega),hl,Dl];congr 1;omega
theorem RU{α:Type}(xs:List α)(i:Nat)(h:i<xs.length):(Js xs i).length+1=xs.length:=by unfold Js;simp;omega
theorem SI{α:Type}(xs:List α)(i t:Nat)(h:i<xs.length)(ht:t<(Js xs i).length):∃(h2:(if t<i then t else t+1)<xs.length),(Js xs i)[t]=xs[if t<i then t else t+1]:=by
 have hl:=RU xs i h;have h2:(if t<i then t else t+1)<xs.length:=by split<;>omega
 refine⟨h2,?_⟩;have:=Agi xs i t (by omega);rw [Af ht]at this;have e:(if t<i then xs[t]? else xs[t+1]?)=xs[if t<i then t else t+1]? :=by split<;>rfl
 rw [e,Af h2]at this;exact Option.some.inj this
theorem Agj{α:Type}{xs:List α}{i:Nat}{x:α}(h:x∈Js xs i):x∈xs:=by
 unfold Js at h;rcases AL.1 h with h| h
 ·exact List.mem_of_mem_take h
 ·exact List.mem_of_mem_drop h
theorem Ack{x:Nd}(h:Ci x=true){i:Nat}(hi:i<x.kids.length):Ci (V5 x i)=true:=by
 obtain⟨h1,h2,h3,h4,h5,h6⟩:=(Bo x).1 h;have hil:i<x.labels.length:=by omega
 have e1:=RU x.labels i hil;have e2:=RU x.kids i hi;refine(Bo _).2 ⟨h1,h2,by show(Js x.labels i).length=(Js x.kids i).length;omega,?_,?_,fun t ht=> ?_⟩
 ·rw [List.all_eq_true]at h4⊢;exact fun y hy=>h4 y (Agj hy)
 ·show DT (Js x.labels i)=true;rw [Ha];intro t ht;obtain⟨g1,g2⟩:=SI x.labels i t hil (by omega);obtain⟨g3,g4⟩:=SI x.labels i (t+1) hil ht;rw [g2,g4];exact Iq _ h5 _ _ (by split<;>split<;>omega) g3
 ·obtain⟨g1,g2⟩:=SI x.kids i t hi ht;show(Js x.kids i)[t].toNat≠0;rw [g2];exact h6 _ g1
theorem Ajq{l:List UInt8}(hr:DT l=true){i:Nat}(hi:i<l.length):Jr l l[i]=some i:=by
 unfold Jr;rw [List.findIdx?_eq_some_iff_getElem];refine⟨hi,by simp,fun j hj=> ?_⟩;have:=Iq _ hr j i hj hi;simp;intro e;rw [e]at this;omega
def Agk(items items':List Kv)(k:List UInt8):Prop:=∀kv,kv∈items'<->kv∈items/\kv.1≠k
def Arl(X:Nat->Prop)(L:Nat)(s:St)(items:List Kv)(k:List UInt8)(r:St×UInt64×Int):Prop:=
 (r=(s,0,7)/\∀kv∈items,kv.1≠k)\/(RN X s r.1/\r.2.2=0/\(k,r.2.1)∈items/\∃items',P5 X L r.1 items'/\Agk items items' k)
section
variable{X:Nat->Prop}{L:Nat}{s:St}{items:List Kv}{blocks:List Nat}{key:List UInt8}
theorem Am7(h:P5 X L s items)(hn0:s.ws 9≠0)(htk:∀o,(∃d,AP s o d)<->o∈blocks\/X o)(hX:∀o∈blocks,¬X o)(hnd:blocks.Nodup){up:Pl}{ru q:List UInt8}{rl:Nat}{nl:UInt64}{parts:List Part}{A B:List Kv}{b1 b2:List Nat}
 (S:Xn L s 32 (s.ws 9) items blocks 72 (DR key) up ru q rl nl parts A B b1 b2){i:Nat}(h1:i<up.nd.kids.length)(h2:i<up.nd.labels.length)(h3:i<parts.length){r2:List UInt8}(hcut:up.nd.pre++up.nd.labels[i]::r2=ru){v:UInt64}(hpi:parts[i].items=[(r2,v)]):
 (DR key,v)∈items/\∃s1 er,(match MI ⟨s,[]⟩ (V5 up.nd i)with| (j1,name,e)=>Hu j1 e up.word name ((parts[i].blocks.map Int.ofNat).reverse++[up.off]))=(s1,er)/\
  ((er=6/\s1=s)\/(er=0/\RN X s s1/\∃items',P5 X L s1 items'/\Agk items items' (DR key))):=by
 obtain⟨o,a⟩:=zG h.ok hnd S;have hr':=(Bo up.nd).1 a.right;have hkey:DR key=q++ru:=S.cut;have hki:=RH up.nd.pre up.nd.labels parts i h2 h3 (by have:=S.len;omega);rw [hpi]at hki;have hun:EJ up.nd.pre up.nd.labels[i] [(r2,v)]=[(ru,v)]:=by unfold EJ;simp [hcut]
 have hkd:Bl up.nd.pre (Js up.nd.labels i) (Js parts i)=Bl up.nd.pre (up.nd.labels.take i) (parts.take i)++Bl up.nd.pre (up.nd.labels.drop (i+1)) (parts.drop (i+1)):=by
  unfold Js;exact Nb _ _ _ _ _ (by simp;omega)
 have hbd:AY (Js parts i)=AY (parts.take i)++AY (parts.drop (i+1)):=by
  unfold Js;exact O9 _ _
 have hmem:∀k x,(k,x)∈BX up.nd++Bl up.nd.pre up.nd.labels parts<->(k,x)∈BX up.nd++Bl up.nd.pre (Js up.nd.labels i) (Js parts i)\/(k,x)=(ru,v):=fun k x=>by
  rw [hki,hkd,hun];simp only [AL,BC];constructor
  ·rintro(g| g| g| g)
   ·exact .inl (.inl g)
   ·exact .inl (.inr (.inl g))
   ·exact .inr g
   ·exact .inl (.inr (.inr g))
  ·rintro((g| g| g)| g)
   ·exact .inl g
   ·exact .inr (.inl g)
   ·exact .inr (.inr (.inr g))
   ·exact .inr (.inr (.inl g))
 have hne:∀k x,(k,x)∈BX up.nd++Bl up.nd.pre (Js up.nd.labels i) (Js parts i)->k≠ru:=fun k x hk e=>by
  have hlab:∀t(g:t<up.nd.labels.length),t≠i->up.nd.labels[t]≠up.nd.labels[i]:=fun t g hti e=>by
   rcases Nat.lt_or_gt_of_ne hti with g2| g2
   ·have:=Iq _ hr'.2.2.2.2.1 t i g2 h2;rw [e]at this;omega
   ·have:=Iq _ hr'.2.2.2.2.1 i t g2 g;rw [e]at this;omega
  rcases AL.1 hk with g| g
  ·obtain⟨g,_⟩:=Ff g;injection g with g _
   rw [g,<-hcut]at e;have:=congrArg Lr e;simp at this
  ·obtain⟨t,t1,t2,kv',_,g⟩:=EG g;injection g with g _
   rw [g,<-hcut]at e;have e2:=Em e;injection e2 with e2 _
   obtain⟨g1,g2⟩:=SI up.nd.labels i t h2 t1;rw [g2]at e2;exact hlab _ g1 (by split<;>omega) e2
 have hin:∀k x,(k,x)∈BX up.nd++Bl up.nd.pre up.nd.labels parts->(q++k,x)∈items:=fun k x h4=>by
  rw [S.its,AX];exact Bj _ (BD _ (Ei.2 ⟨k,h4,rfl⟩))
 refine⟨by rw [hkey];exact hin ru v ((hmem ru v).2 (.inr rfl)),?_⟩;rcases Po (Grown.start h.ok h.nh) (Ack a.right h1)with e| ⟨j',name,o',e,_,g,ho',hn,hrd,_⟩
 ·rw [e];exact⟨s,6,rfl,.inl ⟨rfl,rfl⟩⟩
 ·rw [e];simp only;have T:=DF.mk (s:=j'.s) rl name (V5 up.nd i) (Js parts i) hrd S.pre (fun _=>S.kid (fun e=>by rw [e]at h1;exact absurd h1 (by simp))) (by
   have:=RU parts i h3;have:=RU up.nd.kids i h1;show(Js parts i).length=(Js up.nd.kids i).length;have:=S.len;omega) (fun t g1 g2=>by
   obtain⟨u1,u2⟩:=SI up.nd.kids i t h1 g1;obtain⟨u3,u4⟩:=SI parts i t h3 g2;have e1:(V5 up.nd i).kids[t]=up.nd.kids[if t<i then t else t+1]:=u2;rw [e1,u4];exact(S.sub _ u1 u3).keep h.ok g.ok g.keep (fun _ _=>trivial))
  rw [ho',Int.toNat_natCast]at T;have hown:BX (V5 up.nd i)=BX up.nd:=rfl;rw [hown]at T;obtain⟨s2,e2,kx2,ix2⟩:=fE h hn0 htk hX a g hn T (K:=AY (Js parts i)) (D:=parts[i].blocks) (dl:=parts[i].blocks.reverse++[o])
   (by
    rw [Kz parts i h3,hbd];have:(AY (parts.take i)++(parts[i].blocks++AY (parts.drop (i+1)))).Perm (AY (parts.take i)++(AY (parts.drop (i+1))++parts[i].blocks)):=List.Perm.append_left _ List.perm_append_comm;simpa [AX]using this)
   (by simp) (List.Perm.append_right _ (Adr _)) (fun kv hkv=>by
    obtain⟨k,x⟩:=kv;exact h.even _ (hin k x ((hmem k x).2 (.inl hkv))))
  refine⟨s2,0,?_,.inr ⟨rfl,kx2,_,ix2,fun kv=> ?_⟩⟩
  ·rw [a.off,<-e2,List.map_append,Ad1];rfl
  ·constructor
   ·intro hkv;rw [AX]at hkv;rcases AL.1 hkv with g1| g1
    ·exact⟨by rw [S.its];simp [g1],a.other kv (.inl g1)⟩
    ·rcases AL.1 g1 with g1| g1
     ·obtain⟨k,g2,g3⟩:=Ei.1 g1;have:=hin k kv.2 ((hmem k kv.2).2 (.inl g2));refine⟨by rw [<-g3]at this;exact this,fun e=> ?_⟩;rw [g3,hkey]at e;exact hne k kv.2 g2 (Em e)
     ·exact⟨by rw [S.its];simp [g1],a.other kv (.inr g1)⟩
   ·rintro⟨g1,g2⟩;rw [S.its,AX]at g1;rw [AX];rcases AL.1 g1 with g3| g3
    ·exact BD _ g3
    ·rcases AL.1 g3 with g3| g3
     ·obtain⟨k,g4,g5⟩:=Ei.1 g3;rcases(hmem k kv.2).1 g4 with g6| g6
      ·exact Bj _ (BD _ (Ei.2 ⟨k,g6,g5⟩))
      ·injection g6 with g6 _
       exact absurd (by rw [g5,g6,hkey]) g2
     ·exact Bj _ (Bj _ g3)
theorem Acl(h:P5 X L s items)(hn0:s.ws 9≠0)(htk:∀o,(∃d,AP s o d)<->o∈blocks\/X o)(hX:∀o∈blocks,¬X o)(hnd:blocks.Nodup){last:Pl}{rest' q:List UInt8}{rl:Nat}{nl:UInt64}{parts:List Part}{A B:List Kv}{b1 b2:List Nat}{o:Nat}
 (a:Wu L s items blocks key last rest' q rl nl parts A B b1 b2 o)(hp:last.nd.pre=rest'):RN X s (PI s last 0)/\∃items',P5 X L (PI s last 0) items'/\Agk items items' (DR key):=by
 obtain⟨hK,hV⟩:=pU h hn0 htk hX hnd a.toOm hp 0;refine⟨hK,_,hV,fun kv=> ?_⟩;have S:=a.spot;have hkey:DR key=q++last.nd.pre:=by rw [hp];exact S.cut
 have hz:BX {last.nd with val:=0}=[]:=rfl;have Na:∀k,(k,kv.2)∈Bl last.nd.pre last.nd.labels parts->q++k≠DR key:=fun k hk e=>by
  obtain⟨i,g1,g2,kv',_,e2⟩:=EG hk;rw [hkey]at e;have:=Em e;have e3:k=last.nd.pre++last.nd.labels[i]::kv'.1:=congrArg Prod.fst e2;rw [e3]at this;have:=congrArg Lr this;simp at this
 rw [hz,List.nil_append,S.its];simp only [AL,Ei];constructor
 ·rintro((g| ⟨k,g1,g2⟩)| g)
  ·exact⟨.inl (.inl g),a.other kv (.inl g)⟩
  ·exact⟨.inl (.inr ⟨k,.inr g1,g2⟩),by rw [g2];exact Na k g1⟩
  ·exact⟨.inr g,a.other kv (.inr g)⟩
 ·rintro⟨(g| ⟨k,g1,g2⟩)| g,hne⟩
  ·exact .inl (.inl g)
  ·rcases g1 with g1| g1
   ·obtain⟨e,_⟩:=Ff g1;injection e with e _
    exact absurd (by rw [g2,e,hkey]) hne
   ·exact .inl (.inr ⟨k,g1,g2⟩)
  ·exact .inr g
theorem Am8 (h : P5 X L s items) (key : List UInt8) (hk : key.length <= 16) : Arl X L s items (DR key) (U7 s key) := by
  by_cases h0 : s.ws 9 = 0
  · have hi : items = [] := by
      rcases h.tree with ⟨_, h2, _⟩ | ⟨_, h1, _⟩
      · exact h2
      · exact absurd h0 h1
    subst hi
    refine .inl ⟨?_, fun _ h => nomatch h⟩
    unfold U7 FQ
    rw [if_neg (by omega), h0, Ep, if_pos rfl]
    rfl
  · rcases h.tree with ⟨h1, _⟩ | ⟨blocks, h1, T, hnd, hX, htk⟩
    · exact absurd h1 h0
    · obtain ⟨way, last, rest', q, rl, nl, parts, A, B, b1, b2, o, hp, a⟩ := around h.ok h1 T hnd key hk
      have S := a.spot
      have hgl : (way ++ [last]).getLast? = some last := by simp
      have hmem : ∀ kv ∈ items, kv ∈ A \/ kv ∈ B \/ ∃ k, (k, kv.2) ∈ BX last.nd ++ Bl last.nd.pre last.nd.labels parts /\ kv.1 = q ++ k := fun kv hkv => by
        rw [S.its, AX] at hkv
        rcases AL.1 hkv with g | g
        · exact .inl g
        · rcases AL.1 g with g | g
          · exact .inr (.inr (Ei.1 g))
          · exact .inr (.inl g)
      unfold U7
      rw [if_neg (by omega), hp]
      simp only
      by_cases hpr : last.nd.pre = rest'
      · have hst : CX (way ++ [last]) rest' = some last := by unfold CX; rw [hgl]; simp only; rw [if_pos hpr]
        rw [hst]
        simp only
        have hkey : DR key = q ++ last.nd.pre := by rw [hpr]; exact S.cut
        by_cases hv : last.nd.val = 0
        · rw [if_pos hv]
          refine .inl ⟨rfl, fun kv hkv e => ?_⟩
          rcases hmem kv hkv with g | g | ⟨k, g1, g2⟩
          · exact a.other kv (.inl g) e
          · exact a.other kv (.inr g) e
          · rcases AL.1 g1 with g1 | g1
            · exact (Ff g1).2 hv
            · obtain ⟨i, i1, i2, kv', _, e2⟩ := EG g1
              rw [g2, hkey] at e
              have e3 := Em e
              have e4 : k = last.nd.pre ++ last.nd.labels[i] :: kv'.1 := congrArg Prod.fst e2
              rw [e4] at e3
              have := congrArg Lr e3
              simp at this
        · rw [if_neg hv]
          right
          have jL : (DR key, last.nd.val) ∈ items := by
            rw [S.its, AX]
            refine Bj _ (BD _ (Ei.2 ⟨last.nd.pre, BD _ ?_, hkey⟩))
            unfold BX
            rw [if_pos hv]
            exact BC.2 rfl
          have hct := Acl h h1 htk hX hnd a hpr
          by_cases hk0 : last.nd.kids.length = 0
          · rw [if_pos hk0]
            have hlen : (way ++ [last]).length - 1 = way.length := by simp
            obtain ⟨m, ha, e, hu⟩ := ZN (way ++ [last]) way.length (by simp) [last.off]
            have hpg : Ep s (2 * key.length + 1) (s.ws 9) (DR key) 0 72 [] = some (way ++ [last], rest') := hp
            have hnl := LM key
            have hW : ∀ i, i <= way.length -> [last.off] ++ (((( way ++ [last]).drop i).take (way.length - i)).map (·.off)).reverse = (((way ++ [last]).drop i).map (·.off)).reverse := fun i hi => by
              rw [XL hi, List.take_append_of_le_length (by simp), List.take_of_length_le (by simp)]
              simp
            rw [hW m ha] at e
            unfold V6
            rw [hlen, hgl]
            simp only [Option.map_some, Option.getD_some]
            rw [e]
            cases m with
            | zero =>
              simp only [List.drop_zero]
              obtain ⟨e1, e2⟩ := Wv h.ok (2 * key.length + 1) 32 (s.ws 9) items blocks (DR key) 0 72 T (by omega) h1 (way ++ [last]) rest' last hpg hst hk0 hv (fun i up g1 g2 => hu i up (Nat.zero_le _) (by simp at g1; omega) g2)
              have e3 : ((way ++ [last]).map (·.off)).reverse = blocks.reverse.map Int.ofNat := by rw [<- e2, Ad1]
              obtain ⟨s1, hs1⟩ : ∃ s1, s1 = ({ s with ws := Gg s.ws 9 0 } : St) := ⟨_, rfl⟩
              have ok1 : BA L s1 := by
                rw [hs1]
                exact h.ok.words (fun i hi => by unfold Gg; rw [if_neg (by omega)])
              have UZ : ∀ p d, AP s1 p d <-> AP s p d := fun p d => by rw [hs1]; exact Iff.rfl
              have hdn : blocks.reverse.Nodup := (Adr _).nodup_iff.2 hnd
              have hdt : ∀ p ∈ blocks.reverse, ∃ d, AP s1 p d := fun p hp => by
                obtain ⟨d, hd⟩ := (htk p).2 (.inl (P8.1 hp))
                exact ⟨d, (UZ p d).2 hd⟩
              obtain ⟨s2, ed, ok2, sD, hd2, ws2, jJ⟩ := Va blocks.reverse ok1 hdn hdt
              have ee := ZM blocks.reverse ok1 hdn hdt
              rw [ed] at ee
              have hfin : Hu ⟨s, []⟩ 0 72 0 ((way ++ [last]).map (·.off)).reverse = (s2, 0) := by
                unfold Hu
                rw [if_neg (by simp), e3, <- ee, hs1]
                rfl
              rw [hfin]
              simp only
              rw [if_neg (by decide)]
              simp only [if_true]
              have hXk : RN X s s2 := ⟨sD.trans (by rw [hs1]), fun j hj hj9 => by
                  rw [ws2 j (.inl hj), hs1]
                  show Gg s.ws 9 0 j = _
                  unfold Gg
                  rw [if_neg hj9], fun p c hp ht => ⟨(jJ p c).2 ⟨(UZ p c).2 ht, fun hm => hX p (P8.1 hm) hp⟩, fun j hj => by
                  have Aur := h.ok.DJ (ht.bounds h.ok).1 hj
                  rw [ws2 j (.inr (by rw [hs1]; exact Aur)), hs1]
                  show Gg s.ws 9 0 j = _
                  unfold Gg
                  rw [if_neg (by omega)]⟩⟩
              refine ⟨hXk, trivial, jL, [], ⟨ok2, fun p d hh => h.nh p d ((Pq (by rw [hd2, hs1]) (by rw [sD, hs1]) p d).1 hh), .inl ⟨?_, rfl, fun p => ?_⟩, fun _ h => nomatch h⟩, fun kv => ?_⟩
              · rw [ws2 9 (.inl (by decide)), hs1]; rfl
              · constructor
                · rintro ⟨d, hd⟩
                  obtain ⟨g1, g2⟩ := (jJ p d).1 hd
                  exact ((htk p).1 ⟨d, (UZ p d).1 g1⟩).resolve_left (fun hb => g2 (P8.2 hb))
                · intro hx
                  obtain ⟨d, hd⟩ := (htk p).2 (.inr hx)
                  exact ⟨d, (jJ p d).2 ⟨(UZ p d).2 hd, fun hm => hX p (P8.1 hm) hx⟩⟩
              · rw [e1]
                exact ⟨fun h => (nomatch h), fun ⟨g, hne⟩ => absurd (by rw [BC.1 g]) hne⟩
            | succ m =>
              simp only
              have hml : m + 1 < (way ++ [last]).length := by simp; omega
              obtain ⟨up, ru, q', rl', nl', parts', A', B', b1', b2', i, f', w', g1, S', g2, g3, g4, g5, g6, g7⟩ := zH h.ok m (2 * key.length + 1) 32 (s.ws 9) items blocks (DR key) 0 72 T hnd (by omega) (by omega) h1 (way ++ [last]) rest' hpg hml
              have hi3 : i < parts'.length := by have := S'.len; omega
              have Arm : Ci up.nd = true := by
                obtain ⟨_, _, _, hr, _⟩ := H9 h.ok S'.rd
                exact hr
              have hst2 : CX ((way ++ [last]).drop (m + 1)) rest' = some last := by
                unfold CX
                rw [XL (by omega)]
                simp only [List.getLast?_append, List.getLast?_singleton, Option.some_or]
                rw [if_pos hpr]
              obtain ⟨e1, e2⟩ := Wv h.ok f' _ _ _ _ _ _ _ (S'.sub i g2 hi3) g5 g6 _ rest' last g7 hst2 hk0 hv (fun t u t1 t2 => hu (m + 1 + t) u (by omega) (by simp at t1; omega) (by rw [Dl] at t2; exact t2))
              obtain ⟨f'', rfl⟩ : ∃ f'', f' = f'' + 1 := ⟨f' - 1, by omega⟩
              obtain ⟨x, W', hx, hxl, _⟩ := fF g7 g6
              have hx1 : (way ++ [last])[m + 1]? = some x := by
                have := congrArg (fun l => l[0]?) hx
                simpa [Dl] using this
              rw [g1, hx1]
              simp only
              rw [hxl, Ajq ((Bo up.nd).1 Arm).2.2.2.2.1 g3]
              simp only
              rw [if_pos Arm]
              obtain ⟨_, s1, er, hfin, hcase⟩ := Am7 h h1 htk hX hnd S' g2 g3 hi3 g4 e1
              simp only at hfin
              rw [<- e2, hfin]
              simp only
              rcases hcase with ⟨rfl, rfl⟩ | ⟨rfl, kx', items', ix', ci⟩
              · simp only [if_true]
                exact ⟨hct.1, trivial, jL, hct.2⟩
              · rw [if_neg (by decide)]
                simp only [if_true]
                exact ⟨kx', trivial, jL, items', ix', ci⟩
          · rw [if_neg hk0]
            simp only [if_true]
            exact ⟨hct.1, trivial, jL, hct.2⟩
      · have hst : CX (way ++ [last]) rest' = none := by unfold CX; rw [hgl]; simp only; rw [if_neg hpr]
        rw [hst]
        refine .inl ⟨rfl, fun kv hkv e => ?_⟩
        rcases hmem kv hkv with g | g | ⟨k, g1, g2⟩
        · exact a.other kv (.inl g) e
        · exact a.other kv (.inr g) e
        · rw [g2, S.cut] at e
          exact a.below hpr _ g1 (Em e)
end
def Ee(ws:Nat->UInt64)(sh:Sh):St:={sh:=sh,ws:=ws,tk:=wordsAt ws (sh.table/8) sh.BI,hd:=List.replicate sh.BI 0}
def qf(s:St)(ws':Nat->UInt64):Prop:=∀j,(∀o c,EI s o c->¬H8 o c j)->ws' j=s.ws j
section
variable{X:Nat->Prop}{L:Nat}{s0 sF s:St}{items its:List Kv}{ws':Nat->UInt64}
theorem Yh(ws:Nat->UInt64)(sh:Sh)(i:Nat):hdN (Ee ws sh) i=0:=by
 unfold hdN Ee;simp only [Bh,List.getElem?_replicate];split<;>rfl
theorem Ajr(ws:Nat->UInt64)(sh:Sh)(o d:Nat):¬EI (Ee ws sh) o d:=by
 rintro⟨i,a,_,ha,_⟩;rw [Yh,EE]at ha;cases ha
theorem qf.low(ok:BA L s)(h:qf s ws'):∀j,j<16+s.sh.BI->ws' j=s.ws j:=fun j hj=>h j (fun o c hh hi=>by
 have:=ok.DJ (hh.bounds ok).1 hi;omega)
theorem jM(ok:BA L s)(h:qf s ws'):wordsAt ws' (s.sh.table/8) s.sh.BI=s.tk:=by
 apply List.ext_getElem
 ·simp [wordsAt,ok.NR]
 ·intro i h1 h2;have hi:i<s.sh.BI:=by rw [<-ok.NR];exact h2
  rw [Gn,ok.sh.table,show 128/8+i=16+i by omega,h.low ok (16+i) (by omega),ok.tab i hi,Bh,Af h2];rfl
theorem Acm(ok:BA L s)(h:qf s ws'):BA L (Ee ws' s.sh)/\(∀o d,AP (Ee ws' s.sh) o d<->AP s o d)/\FV s (Ee ws' s.sh) (fun _=>True):=by
 have htk:∀i,GR (Ee ws' s.sh) i=GR s i:=fun i=>by
  unfold GR;rw [show(Ee ws' s.sh).tk=s.tk from jM ok h]
 have ht:∀o d,AP (Ee ws' s.sh) o d<->AP s o d:=fun o d=>by
  unfold AP;simp only [htk];exact Iff.rfl
 refine⟨⟨ok.sh,ok.L1,by rw [show(Ee ws' s.sh).tk=s.tk from jM ok h];exact ok.NR,by simp [Ee],fun i hi=>by rw [htk];exact ok.tk i hi,fun i _=> .inl (Yh _ _ i),fun i _=> .inr (.inl (Yh _ _ i)),fun i a _ _=>by rw [Yh,EE],fun i hi=> ?_⟩,ht,fun o d _ hd=>⟨(ht o d).2 hd,fun j hj=>h j (fun o' c hh hi=> ?_)⟩⟩
 ·show ws' (16+i)=(Ee ws' s.sh).tk.getD i 0;rw [show(Ee ws' s.sh).tk=s.tk from jM ok h,h.low ok (16+i) (by have:i<s.sh.BI:=hi;omega)];exact ok.tab i hi
 ·obtain⟨_,hap⟩:=Ll ok hh hd;exact Md hap (hh.bounds ok).2.2 (hd.bounds ok).2.2 hi hj
theorem Acn(s:St):qf s s.ws:=fun _ _=>rfl
end
section
variable{Good Av3:(Nat->UInt64)->Prop}{q:Ms}{s:St}{lf:Int}
end
section
variable{X:Nat->Prop}{L:Nat}{s0 s:St}{items:List Kv}{j:Jb}{B:List Nat}
end
