import Derived.Test.YtkimaejoeapmnaaGreatDoorH32
set_option linter.defProp false
open List renaming getElem?_drop->Dl,getElem?_eq_getElem->Af,mem_append->AL,mem_singleton->BD,length->LU,append_cancel_left->Ey,append_assoc->AX,mem_append_right->Bl,mem_append_left->BG,reverse_perm->Ae1,map_reverse->Afc,drop_append_of_le_length->Y0,mem_reverse->PV,getD_eq_getElem?_getD->Bi
namespace Go.Proofs.YtkimaejoeapmnaaGreatDoor
def Ahv{α:Type}(xs:List α)(i t:Nat)(h:i<=xs.length):(J7 xs i)[t]? =if t<i then xs[t]? else xs[t+1]? :=by
 unfold J7;have hl:(xs.take i).length=i:=by simp;omega
 split
 ·rename_i ht;rw [List.getElem?_append_left O,List.getElem?_take,if_pos ht]
 ·rw [List.getElem?_append_right O,hl,Dl];congr 1;omega
def SH{α:Type}(xs:List α)(i:Nat)(h:i<xs.length):(J7 xs i).length+1=xs.length:=by unfold J7;simp;omega
def Tz{α:Type}(xs:List α)(i t:Nat)(h:i<xs.length)(ht:t<(J7 xs i).length):∃(h2:(if t<i then t else t+1)<xs.length),(J7 xs i)[t]=xs[if t<i then t else t+1]:=by
 have hl:=SH xs i h;have h2:(if t<i then t else t+1)<xs.length:=by split<;>omega
 refine⟨h2,?_⟩;have:=Ahv xs i t O;rw [Af ht]at this;have e:(if t<i then xs[t]? else xs[t+1]?)=xs[if t<i then t else t+1]? :=by split<;>rfl
 rw [e,Af h2]at this;exact Option.some.inj this
def Ahw{α:Type}{xs:List α}{i:Nat}{x:α}(h:x∈J7 xs i):x∈xs:=by
 unfold J7 at h;rcases AL.1 h with h| h
 ·exact List.mem_of_mem_take h
 ·exact List.mem_of_mem_drop h
def Ads{x:Nd}(h:C9 x=true){i:Nat}(hi:i<x.kids.length):C9 (Wl x i)=true:=by
 obtain⟨h1,h2,h3,h4,h5,h6⟩:=(Bq x).1 h;have hil:i<x.labels.length:=O
 have e1:=SH x.labels i hil;have e2:=SH x.kids i hi;refine(Bq _).2 ⟨h1,h2,by show(J7 x.labels i).length=(J7 x.kids i).length;omega,?_,?_,λt ht=> ?_⟩
 ·rw [List.all_eq_true]at h4⊢;exact λy hy=>h4 y (Ahw hy)
 ·show DW (J7 x.labels i)=true;rw [Ho];intro t ht;obtain⟨g1,g2⟩:=Tz x.labels i t hil O;obtain⟨g3,g4⟩:=Tz x.labels i (t+1) hil ht;rw [g2,g4];exact I8 _ h5 _ _ (by split<;>split<;>omega) g3
 ·obtain⟨g1,g2⟩:=Tz x.kids i t hi ht;show(J7 x.kids i)[t].toNat≠0;rw [g2];exact h6 _ g1
def Ak6{l:List UInt8}(hr:DW l=true){i:Nat}(hi:i<l.length):J6 l l[i]=some i:=by
 unfold J6;rw [List.findIdx?_eq_some_iff_getElem];refine⟨hi,by simp,λj hj=> ?_⟩;have:=I8 _ hr j i hj hi;simp;intro e;rw [e]at this;omega
def Ahx(items items':List Kv)(k:List UInt8):Prop:=∀kv,kv∈items'<->kv∈items/\kv.1≠k
def As8(X:Nat->Prop)(L:Nat)(s:St)(items:List Kv)(k:List UInt8)(r:St×UInt64×Int):Prop:=
 (r=(s,0,7)/\∀kv∈items,kv.1≠k)\/(QS X s r.1/\r.2.2=0/\(k,r.2.1)∈items/\∃items',Ox X L r.1 items'/\Ahx items items' k)
section
variable{X:Nat->Prop}{L:Nat}{s:St}{items:List Kv}{blocks:List Nat}{key:List UInt8}
def Aos(h:Ox X L s items)(hn0:s.ws 9≠0)(htk:∀o,(∃d,AO s o d)<->o∈blocks\/X o)(hX:∀o∈blocks,¬X o)(hnd:blocks.Nodup){up:Pl}{ru q:List UInt8}{rl:Nat}{nl:UInt64}{parts:List Part}{A B:List Kv}{b1 b2:List Nat}
 (S:XP L s 32 (s.ws 9) items blocks 72 (Dn key) up ru q rl nl parts A B b1 b2){i:Nat}(h1:i<up.nd.kids.length)(h2:i<up.nd.labels.length)(h3:i<parts.length){r2:List UInt8}(hcut:up.nd.pre++up.nd.labels[i]::r2=ru){v:UInt64}(hpi:parts[i].items=[(r2,v)]):
 (Dn key,v)∈items/\∃s1 er,(match Nj ⟨s,[]⟩ (Wl up.nd i)with| (j1,name,e)=>H7 j1 e up.word name ((parts[i].blocks.map Int.ofNat).reverse++[up.off]))=(s1,er)/\
  ((er=6/\s1=s)\/(er=0/\QS X s s1/\∃items',Ox X L s1 items'/\Ahx items items' (Dn key))):=by
 obtain⟨o,a⟩:=Aax h.ok hnd S;have hr':=(Bq up.nd).1 a.right;have hkey:Dn key=q++ru:=S.cut;have hki:=S9 up.nd.pre up.nd.labels parts i h2 h3 (Ω S.len);rw [hpi]at hki;have hun:EO up.nd.pre up.nd.labels[i] [(r2,v)]=[(ru,v)]:=by unfold EO;simp [hcut]
 have hkd:Bo up.nd.pre (J7 up.nd.labels i) (J7 parts i)=Bo up.nd.pre (up.nd.labels.take i) (parts.take i)++Bo up.nd.pre (up.nd.labels.drop (i+1)) (parts.drop (i+1)):=by
  unfold J7;exact NH _ _ _ _ _ (by simp;omega)
 have hbd:AY (J7 parts i)=AY (parts.take i)++AY (parts.drop (i+1)):=by
  unfold J7;exact OZ _ _
 have hmem:∀k x,(k,x)∈BX up.nd++Bo up.nd.pre up.nd.labels parts<->(k,x)∈BX up.nd++Bo up.nd.pre (J7 up.nd.labels i) (J7 parts i)\/(k,x)=(ru,v):=λk x=>by
  rw [hki,hkd,hun];simp only [AL,BD];constructor
  ·rintro(g| g| g| g)
   ·exact .inl (.inl g)
   ·exact .inl (.inr (.inl g))
   ·exact .inr g
   ·exact .inl (.inr (.inr g))
  ·rintro((g| g| g)| g)
   ·exact .inl g
   ·exact .inr (.inl g)
   ·exact .inr (.inr (.inr g))
   ·exact .inr (.inr (.inl g))
 have hne:∀k x,(k,x)∈BX up.nd++Bo up.nd.pre (J7 up.nd.labels i) (J7 parts i)->k≠ru:=λk x hk e=>by
  have hlab:∀t(g:t<up.nd.labels.length),t≠i->up.nd.labels[t]≠up.nd.labels[i]:=λt g hti e=>by
   rcases Nat.lt_or_gt_of_ne hti with g2| g2
   ·have:=I8 _ hr'.2.2.2.2.1 t i g2 h2;rw [e]at this;omega
   ·have:=I8 _ hr'.2.2.2.2.1 i t g2 g;rw [e]at this;omega
  rcases AL.1 hk with g| g
  ·obtain⟨g,_⟩:=FT g;injection g with g _
   rw [g,<-hcut]at e;have:=congrArg LU e;simp at this
  ·obtain⟨t,t1,t2,kv',_,g⟩:=Fg g;injection g with g _
   rw [g,<-hcut]at e;have e2:=Ey e;injection e2 with e2 _
   obtain⟨g1,g2⟩:=Tz up.nd.labels i t h2 t1;rw [g2]at e2;exact hlab _ g1 (by split<;>omega) e2
 have hin:∀k x,(k,x)∈BX up.nd++Bo up.nd.pre up.nd.labels parts->(q++k,x)∈items:=λk x h4=>by
  rw [S.its,AX];exact Bl _ (BG _ (Es.2 ⟨k,h4,rfl⟩))
 refine⟨by rw [hkey];exact hin ru v ((hmem ru v).2 (.inr rfl)),?_⟩;rcases PO (Grown.start h.ok h.nh) (Ads a.right h1)with e| ⟨j',name,o',e,_,g,ho',hn,hrd,_⟩
 ·rw [e];exact⟨s,6,rfl,.inl ⟨rfl,rfl⟩⟩
 ·rw [e];simp only;have T:=DV.mk (s:=j'.s) rl name (Wl up.nd i) (J7 parts i) hrd S.pre (λ_=>S.kid (λe=>by rw [e]at h1;exact absurd h1 Θ)) (by
   have:=SH parts i h3;have:=SH up.nd.kids i h1;show(J7 parts i).length=(J7 up.nd.kids i).length;have:=S.len;omega) (λt g1 g2=>by
   obtain⟨u1,u2⟩:=Tz up.nd.kids i t h1 g1;obtain⟨u3,u4⟩:=Tz parts i t h3 g2;have e1:(Wl up.nd i).kids[t]=up.nd.kids[if t<i then t else t+1]:=u2;rw [e1,u4];exact(S.sub _ u1 u3).keep h.ok g.ok g.keep (λ_ _=>trivial))
  rw [ho',Int.toNat_natCast]at T;have hown:BX (Wl up.nd i)=BX up.nd:=rfl;rw [hown]at T;obtain⟨s2,e2,kx2,dX⟩:=iO h hn0 htk hX a g hn T (K:=AY (J7 parts i)) (D:=parts[i].blocks) (dl:=parts[i].blocks.reverse++[o])
   (by
    rw [KR parts i h3,hbd];have:(AY (parts.take i)++(parts[i].blocks++AY (parts.drop (i+1)))).Perm (AY (parts.take i)++(AY (parts.drop (i+1))++parts[i].blocks)):=List.Perm.append_left _ List.perm_append_comm;simpa [AX]using this)
   Θ (List.Perm.append_right _ (Ae1 _)) (λkv hkv=>by
    obtain⟨k,x⟩:=kv;exact h.even _ (hin k x ((hmem k x).2 (.inl hkv))))
  refine⟨s2,0,?_,.inr ⟨rfl,kx2,_,dX,λkv=> ?_⟩⟩
  ·rw [a.off,<-e2,List.map_append,Afc];rfl
  ·constructor
   ·intro hkv;rw [AX]at hkv;rcases AL.1 hkv with g1| g1
    ·exact⟨by rw [S.its];simp [g1],a.other kv (.inl g1)⟩
    ·rcases AL.1 g1 with g1| g1
     ·obtain⟨k,g2,g3⟩:=Es.1 g1;have:=hin k kv.2 ((hmem k kv.2).2 (.inl g2));refine⟨by rw [<-g3]at this;exact this,λe=> ?_⟩;rw [g3,hkey]at e;exact hne k kv.2 g2 (Ey e)
     ·exact⟨by rw [S.its];simp [g1],a.other kv (.inr g1)⟩
   ·rintro⟨g1,g2⟩;rw [S.its,AX]at g1;rw [AX];rcases AL.1 g1 with g3| g3
    ·exact BG _ g3
    ·rcases AL.1 g3 with g3| g3
     ·obtain⟨k,g4,g5⟩:=Es.1 g3;rcases(hmem k kv.2).1 g4 with g6| g6
      ·exact Bl _ (BG _ (Es.2 ⟨k,g6,g5⟩))
      ·injection g6 with g6 _
       exact absurd (by rw [g5,g6,hkey]) g2
     ·exact Bl _ (Bl _ g3)
def Adt(h:Ox X L s items)(hn0:s.ws 9≠0)(htk:∀o,(∃d,AO s o d)<->o∈blocks\/X o)(hX:∀o∈blocks,¬X o)(hnd:blocks.Nodup){last:Pl}{rest' q:List UInt8}{rl:Nat}{nl:UInt64}{parts:List Part}{A B:List Kv}{b1 b2:List Nat}{o:Nat}
 (a:Xi L s items blocks key last rest' q rl nl parts A B b1 b2 o)(hp:last.nd.pre=rest'):QS X s (Qb s last 0)/\∃items',Ox X L (Qb s last 0) items'/\Ahx items items' (Dn key):=by
 obtain⟨hK,hV⟩:=rQ h hn0 htk hX hnd a.toOH hp 0;refine⟨hK,_,hV,λkv=> ?_⟩;have S:=a.spot;have hkey:Dn key=q++last.nd.pre:=by rw [hp];exact S.cut
 have hz:BX {last.nd with val:=0}=[]:=rfl;have Ov:∀k,(k,kv.2)∈Bo last.nd.pre last.nd.labels parts->q++k≠Dn key:=λk hk e=>by
  obtain⟨i,g1,g2,kv',_,e2⟩:=Fg hk;rw [hkey]at e;have:=Ey e;have e3:k=last.nd.pre++last.nd.labels[i]::kv'.1:=congrArg Prod.fst e2;rw [e3]at this;have:=congrArg LU this;simp at this
 rw [hz,List.nil_append,S.its];simp only [AL,Es];constructor
 ·rintro((g| ⟨k,g1,g2⟩)| g)
  ·exact⟨.inl (.inl g),a.other kv (.inl g)⟩
  ·exact⟨.inl (.inr ⟨k,.inr g1,g2⟩),by rw [g2];exact Ov k g1⟩
  ·exact⟨.inr g,a.other kv (.inr g)⟩
 ·rintro⟨(g| ⟨k,g1,g2⟩)| g,hne⟩
  ·exact .inl (.inl g)
  ·rcases g1 with g1| g1
   ·obtain⟨e,_⟩:=FT g1;injection e with e _
    exact absurd (by rw [g2,e,hkey]) hne
   ·exact .inl (.inr ⟨k,g1,g2⟩)
  ·exact .inr g
def Ahy (h : Ox X L s items) (key : List UInt8) (hk : key.length <= 16) : As8 X L s items (Dn key) (Ug s key) := by
  by_cases h0 : s.ws 9 = 0
  · have hi : items = [] := by
      rcases h.tree with ⟨_, h2, _⟩ | ⟨_, h1, _⟩
      · exact h2
      · exact absurd h0 h1
    subst hi
    refine .inl ⟨?_, λ_ h => nomatch h⟩
    unfold Ug FY
    rw [if_neg O, h0, Ez, if_pos rfl]
    rfl
  · rcases h.tree with ⟨h1, _⟩ | ⟨blocks, h1, T, hnd, hX, htk⟩
    · exact absurd h1 h0
    · obtain ⟨way, last, rest', q, rl, nl, parts, A, B, b1, b2, o, hp, a⟩ := around h.ok h1 T hnd key hk
      have S := a.spot
      have hgl : (way ++ [last]).getLast? = some last := by simp
      have hmem : ∀ kv ∈ items, kv ∈ A \/ kv ∈ B \/ ∃ k, (k, kv.2) ∈ BX last.nd ++ Bo last.nd.pre last.nd.labels parts /\ kv.1 = q ++ k := λkv hkv => by
        rw [S.its, AX] at hkv
        rcases AL.1 hkv with g | g
        · exact .inl g
        · rcases AL.1 g with g | g
          · exact .inr (.inr (Es.1 g))
          · exact .inr (.inl g)
      unfold Ug
      rw [if_neg O, hp]
      simp only
      by_cases hpr : last.nd.pre = rest'
      · have hst : CZ (way ++ [last]) rest' = some last := by unfold CZ; rw [hgl]; simp only; rw [if_pos hpr]
        rw [hst]
        simp only
        have hkey : Dn key = q ++ last.nd.pre := by rw [hpr]; exact S.cut
        by_cases hv : last.nd.val = 0
        · rw [if_pos hv]
          refine .inl ⟨rfl, λkv hkv e => ?_⟩
          rcases hmem kv hkv with g | g | ⟨k, g1, g2⟩
          · exact a.other kv (.inl g) e
          · exact a.other kv (.inr g) e
          · rcases AL.1 g1 with g1 | g1
            · exact (FT g1).2 hv
            · obtain ⟨i, i1, i2, kv', _, e2⟩ := Fg g1
              rw [g2, hkey] at e
              have e3 := Ey e
              have e4 : k = last.nd.pre ++ last.nd.labels[i] :: kv'.1 := congrArg Prod.fst e2
              rw [e4] at e3
              have := congrArg LU e3
              simp at this
        · rw [if_neg hv]
          right
          have lI : (Dn key, last.nd.val) ∈ items := by
            rw [S.its, AX]
            refine Bl _ (BG _ (Es.2 ⟨last.nd.pre, BG _ ?_, hkey⟩))
            unfold BX
            rw [if_pos hv]
            exact BD.2 rfl
          have hct := Adt h h1 htk hX hnd a hpr
          by_cases hk0 : last.nd.kids.length = 0
          · rw [if_pos hk0]
            have hlen : (way ++ [last]).length - 1 = way.length := by simp
            obtain ⟨m, ha, e, hu⟩ := bf (way ++ [last]) way.length Θ [last.off]
            have hpg : Ez s (2 * key.length + 1) (s.ws 9) (Dn key) 0 72 [] = some (way ++ [last], rest') := hp
            have hnl := MI key
            have hW : ∀ i, i <= way.length -> [last.off] ++ (((( way ++ [last]).drop i).take (way.length - i)).map (·.off)).reverse = (((way ++ [last]).drop i).map (·.off)).reverse := λi hi => by
              rw [Y0 hi, List.take_append_of_le_length Θ, List.take_of_length_le Θ]
              simp
            rw [hW m ha] at e
            unfold Wn
            rw [hlen, hgl]
            simp only [Option.map_some, Option.getD_some]
            rw [e]
            cases m with
            | zero =>
              simp only [List.drop_zero]
              obtain ⟨e1, e2⟩ := Xj h.ok (2 * key.length + 1) 32 (s.ws 9) items blocks (Dn key) 0 72 T O h1 (way ++ [last]) rest' last hpg hst hk0 hv (λi up g1 g2 => hu i up (Nat.zero_le _) (by simp at g1; omega) g2)
              have e3 : ((way ++ [last]).map (·.off)).reverse = blocks.reverse.map Int.ofNat := by rw [<- e2, Afc]
              obtain ⟨s1, hs1⟩ : ∃ s1, s1 = ({ s with ws := FN s.ws 9 0 } : St) := ⟨_, rfl⟩
              have ok1 : Bz L s1 := by
                rw [hs1]
                exact h.ok.words (λi hi => by unfold FN; rw [if_neg O])
              have TJ : ∀ p d, AO s1 p d <-> AO s p d := λp d => by rw [hs1]; exact Iff.rfl
              have hdn : blocks.reverse.Nodup := (Ae1 _).nodup_iff.2 hnd
              have hdt : ∀ p ∈ blocks.reverse, ∃ d, AO s1 p d := λp hp => by
                obtain ⟨d, hd⟩ := (htk p).2 (.inl (PV.1 hp))
                exact ⟨d, (TJ p d).2 hd⟩
              obtain ⟨s2, ed, ok2, nN, hd2, ws2, lD⟩ := VE blocks.reverse ok1 hdn hdt
              have ee := aZ blocks.reverse ok1 hdn hdt
              rw [ed] at ee
              have hfin : H7 ⟨s, []⟩ 0 72 0 ((way ++ [last]).map (·.off)).reverse = (s2, 0) := by
                unfold H7
                rw [if_neg Θ, e3, <- ee, hs1]
                rfl
              rw [hfin]
              simp only
              rw [if_neg U]
              simp only [if_true]
              have hXk : QS X s s2 := ⟨nN.trans (by rw [hs1]), λj hj hj9 => by
                  rw [ws2 j (.inl hj), hs1]
                  show FN s.ws 9 0 j = _
                  unfold FN
                  rw [if_neg hj9], λp c hp ht => ⟨(lD p c).2 ⟨(TJ p c).2 ht, λhm => hX p (PV.1 hm) hp⟩, λj hj => by
                  have Av3 := h.ok.DF (ht.bounds h.ok).1 hj
                  rw [ws2 j (.inr (by rw [hs1]; exact Av3)), hs1]
                  show FN s.ws 9 0 j = _
                  unfold FN
                  rw [if_neg O]⟩⟩
              refine ⟨hXk, trivial, lI, [], ⟨ok2, λp d hh => h.nh p d ((PQ (by rw [hd2, hs1]) (by rw [nN, hs1]) p d).1 hh), .inl ⟨?_, rfl, λp => ?_⟩, λ_ h => nomatch h⟩, λkv => ?_⟩
              · rw [ws2 9 (.inl U), hs1]; rfl
              · constructor
                · rintro ⟨d, hd⟩
                  obtain ⟨g1, g2⟩ := (lD p d).1 hd
                  exact ((htk p).1 ⟨d, (TJ p d).1 g1⟩).resolve_left (λhb => g2 (PV.2 hb))
                · intro hx
                  obtain ⟨d, hd⟩ := (htk p).2 (.inr hx)
                  exact ⟨d, (lD p d).2 ⟨(TJ p d).2 hd, λhm => hX p (PV.1 hm) hx⟩⟩
              · rw [e1]
                exact ⟨λh => (nomatch h), λ⟨g, hne⟩ => absurd (by rw [BD.1 g]) hne⟩
            | succ m =>
              simp only
              have hml : m + 1 < (way ++ [last]).length := by simp; omega
              obtain ⟨up, ru, q', rl', nl', parts', A', B', b1', b2', i, f', w', g1, S', g2, g3, g4, g5, g6, g7⟩ := Aay h.ok m (2 * key.length + 1) 32 (s.ws 9) items blocks (Dn key) 0 72 T hnd O O h1 (way ++ [last]) rest' hpg hml
              have hi3 : i < parts'.length := by have := S'.len; omega
              have As9 : C9 up.nd = true := by
                obtain ⟨_, _, _, hr, _⟩ := IQ h.ok S'.rd
                exact hr
              have hst2 : CZ ((way ++ [last]).drop (m + 1)) rest' = some last := by
                unfold CZ
                rw [Y0 O]
                simp only [List.getLast?_append, List.getLast?_singleton, Option.some_or]
                rw [if_pos hpr]
              obtain ⟨e1, e2⟩ := Xj h.ok f' _ _ _ _ _ _ _ (S'.sub i g2 hi3) g5 g6 _ rest' last g7 hst2 hk0 hv (λt u t1 t2 => hu (m + 1 + t) u O (by simp at t1; omega) (by rw [Dl] at t2; exact t2))
              obtain ⟨f'', rfl⟩ : ∃ f'', f' = f'' + 1 := ⟨f' - 1, O⟩
              obtain ⟨x, W', hx, hxl, _⟩ := iP g7 g6
              have hx1 : (way ++ [last])[m + 1]? = some x := by
                have := congrArg (λl => l[0]?) hx
                simpa [Dl] using this
              rw [g1, hx1]
              simp only
              rw [hxl, Ak6 ((Bq up.nd).1 As9).2.2.2.2.1 g3]
              simp only
              rw [if_pos As9]
              obtain ⟨_, s1, er, hfin, hcase⟩ := Aos h h1 htk hX hnd S' g2 g3 hi3 g4 e1
              simp only at hfin
              rw [<- e2, hfin]
              simp only
              rcases hcase with ⟨rfl, rfl⟩ | ⟨rfl, kx', items', ix', ci⟩
              · simp only [if_true]
                exact ⟨hct.1, trivial, lI, hct.2⟩
              · rw [if_neg U]
                simp only [if_true]
                exact ⟨kx', trivial, lI, items', ix', ci⟩
          · rw [if_neg hk0]
            simp only [if_true]
            exact ⟨hct.1, trivial, lI, hct.2⟩
      · have hst : CZ (way ++ [last]) rest' = none := by unfold CZ; rw [hgl]; simp only; rw [if_neg hpr]
        rw [hst]
        refine .inl ⟨rfl, λkv hkv e => ?_⟩
        rcases hmem kv hkv with g | g | ⟨k, g1, g2⟩
        · exact a.other kv (.inl g) e
        · exact a.other kv (.inr g) e
        · rw [g2, S.cut] at e
          exact a.below hpr _ g1 (Ey e)
end
def En(ws:Nat->UInt64)(sh:Sh):St:={sh:=sh,ws:=ws,tk:=wordsAt ws (sh.table/8) sh.BM,hd:=List.replicate sh.BM 0}
def rZ(s:St)(ws':Nat->UInt64):Prop:=∀j,(∀o c,EK s o c->¬GR o c j)->ws' j=s.ws j
section
variable{X:Nat->Prop}{L:Nat}{s0 sF s:St}{items its:List Kv}{ws':Nat->UInt64}
def YM(ws:Nat->UInt64)(sh:Sh)(i:Nat):hdN (En ws sh) i=0:=by
 unfold hdN En;simp only [Bi,List.getElem?_replicate];split<;>rfl
def Ak7(ws:Nat->UInt64)(sh:Sh)(o d:Nat):¬EK (En ws sh) o d:=by
 rintro⟨i,a,_,ha,_⟩;rw [YM,EJ]at ha;cases ha
def rZ.low(ok:Bz L s)(h:rZ s ws'):∀j,j<16+s.sh.BM->ws' j=s.ws j:=λj hj=>h j (λo c hh hi=>by
 have:=ok.DF (hh.bounds ok).1 hi;omega)
def lJ(ok:Bz L s)(h:rZ s ws'):wordsAt ws' (s.sh.table/8) s.sh.BM=s.tk:=by
 apply List.ext_getElem
 ·simp [wordsAt,ok.Oq]
 ·intro i h1 h2;have hi:i<s.sh.BM:=by rw [<-ok.Oq];exact h2
  rw [FC,ok.sh.table,show 128/8+i=16+i by omega,h.low ok (16+i) O,ok.tab i hi,Bi,Af h2];rfl
def Adu(ok:Bz L s)(h:rZ s ws'):Bz L (En ws' s.sh)/\(∀o d,AO (En ws' s.sh) o d<->AO s o d)/\FB s (En ws' s.sh) (λ_=>True):=by
 have htk:∀i,GY (En ws' s.sh) i=GY s i:=λi=>by
  unfold GY;rw [show(En ws' s.sh).tk=s.tk from lJ ok h]
 have ht:∀o d,AO (En ws' s.sh) o d<->AO s o d:=λo d=>by
  unfold AO;simp only [htk];exact Iff.rfl
 refine⟨⟨ok.sh,ok.L1,by rw [show(En ws' s.sh).tk=s.tk from lJ ok h];exact ok.Oq,by simp [En],λi hi=>by rw [htk];exact ok.tk i hi,λi _=> .inl (YM _ _ i),λi _=> .inr (.inl (YM _ _ i)),λi a _ _=>by rw [YM,EJ],λi hi=> ?_⟩,ht,λo d _ hd=>⟨(ht o d).2 hd,λj hj=>h j (λo' c hh hi=> ?_)⟩⟩
 ·show ws' (16+i)=(En ws' s.sh).tk.getD i 0;rw [show(En ws' s.sh).tk=s.tk from lJ ok h,h.low ok (16+i) (by have:i<s.sh.BM:=hi;omega)];exact ok.tab i hi
 ·obtain⟨_,hap⟩:=Kq ok hh hd;exact MS hap (hh.bounds ok).2.2 (hd.bounds ok).2.2 hi hj
def Adv(s:St):rZ s s.ws:=λ_ _=>rfl
end
section
variable{Good Axb:(Nat->UInt64)->Prop}{q:Ms}{s:St}{lf:Int}
end
section
variable{X:Nat->Prop}{L:Nat}{s0 s:St}{items:List Kv}{j:Jb}{B:List Nat}
end
