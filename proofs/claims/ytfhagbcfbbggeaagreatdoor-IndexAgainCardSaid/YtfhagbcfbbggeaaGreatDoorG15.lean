import Derived.Test.YtfhagbcfbbggeaaGreatDoorG04
import Derived.Test.YtfhagbcfbbggeaaGreatDoorG11
import Derived.Test.YtfhagbcfbbggeaaGreatDoorG12
import Derived.Test.YtfhagbcfbbggeaaGreatDoorG13
import Derived.Test.YtfhagbcfbbggeaaGreatDoorG14
namespace Go.Proofs.YtfhagbcfbbggeaaGreatDoor
theorem nib_less{a b c d:UInt8}(ha:a.toNat<16)(hb:b.toNat<16)(hc:c.toNat<16)(hd:d.toNat<16):(a*16+b<c*16+d)↔(a<c∨(a=c∧b<d)):=by
 have h1:(a*16+b).toNat=a.toNat*16+b.toNat:=by
  simp only [UInt8.toNat_add,UInt8.toNat_mul]
  have:(16:UInt8).toNat=16:=rfl
  rw [this];omega
 have h2:(c*16+d).toNat=c.toNat*16+d.toNat:=by
  simp only [UInt8.toNat_add,UInt8.toNat_mul]
  have:(16:UInt8).toNat=16:=rfl
  rw [this];omega
 rw [UInt8.lt_iff_toNat_lt,UInt8.lt_iff_toNat_lt,UInt8.lt_iff_toNat_lt,h1,h2,←UInt8.toNat_inj]
 omega
theorem nib_same{a b c d:UInt8}(ha:a.toNat<16)(hb:b.toNat<16)(hc:c.toNat<16)(hd:d.toNat<16):(a*16+b=c*16+d)↔(a=c∧b=d):=by
 constructor
 ·intro h
  have h1:=nib_pair a b ha hb
  have h2:=nib_pair c d hc hd
  rw [h]at h1
  exact⟨h1.1.symm.trans h2.1,h1.2.symm.trans h2.2⟩
 ·rintro⟨rfl,rfl⟩;rfl
theorem pairs_less:∀(a b:List UInt8),a.length%2=0→b.length%2=0→a.all isNib=true→b.all isNib=true→Op.bytesLess (pairs a) (pairs b)=Op.bytesLess a b
 | [],[],_,_,_,_=>rfl
 | [],[_],_,h,_,_=>by simp at h
 | [],_::_::_,_,_,_,_=>by simp [pairs,Op.bytesLess]
 | [_],_,h,_,_,_=>by simp at h
 | _::_::_,[],_,_,_,_=>by simp [pairs,Op.bytesLess]
 | _::_::_,[_],_,h,_,_=>by simp at h
 | x::y::a,z::u::b,h1,h2,h3,h4=>by
   simp only [List.all_cons,Bool.and_eq_true]at h3 h4
   have i1:x.toNat<16:=by simpa [isNib]using h3.1
   have i2:y.toNat<16:=by simpa [isNib]using h3.2.1
   have i3:z.toNat<16:=by simpa [isNib]using h4.1
   have i4:u.toNat<16:=by simpa [isNib]using h4.2.1
   have ih:=pairs_less a b (by simp only [List.length_cons]at h1;omega) (by simp only [List.length_cons]at h2;omega) h3.2.2 h4.2.2
   have e1:=nib_less i1 i2 i3 i4
   have e2:=nib_same i1 i2 i3 i4
   rw [Bool.eq_iff_iff]
   simp only [pairs,Op.bytesLess,ih,Bool.or_eq_true,Bool.and_eq_true,decide_eq_true_eq,beq_iff_eq,e1,e2]
   constructor
   ·rintro((h| ⟨h,k⟩)| ⟨⟨h,k⟩,l⟩)
    ·exact .inl h
    ·exact .inr ⟨h,.inl k⟩
    ·exact .inr ⟨h,.inr ⟨k,l⟩⟩
   ·rintro(h| ⟨h,k| ⟨k,l⟩⟩)
    ·exact .inl (.inl h)
    ·exact .inl (.inr ⟨h,k⟩)
    ·exact .inr ⟨⟨h,k⟩,l⟩
theorem nodup_sub_len{α:Type} [DecidableEq α]:∀(l1 l2:List α),l1.Nodup→(∀x∈l1,x∈l2)→l1.length≤l2.length
 | [],_,_,_=>by simp
 | a::t,l2,hn,hs=>by
   obtain⟨h1,h2⟩:=List.nodup_cons.1 hn
   have ha:=hs a (List.mem_cons_self ..)
   have ih:=nodup_sub_len t (l2.erase a) h2 (fun x hx=>(List.mem_erase_of_ne (fun e:x=a=>h1 (by rw [←e];exact hx))).2 (hs x (List.mem_cons_of_mem _ hx)))
   rw [List.length_erase_of_mem ha]at ih
   have:=List.length_pos_of_mem ha
   rw [List.length_cons]
   omega
section
variable{L:Nat}{s:St}{items:List Kv}
theorem IxOk.up(h:IxOk L s items):UpK items:=by
 rcases h.tree with⟨_,h2,_⟩| ⟨_,_,T,_⟩
 ·rw [h2];exact List.Pairwise.nil
 ·exact T.up h.ok
theorem upK_nodup{l:List Kv}(h:UpK l):l.Nodup:=h.imp fun{a b}hab e=>by rw [e,bless_irrefl]at hab;cases hab
theorem keyOk_parts{k:List UInt8}(h:keyOk k=true):k.length%2=0∧k.all isNib=true:=by
 unfold keyOk at h
 rw [Bool.and_eq_true,decide_eq_true_eq]at h
 exact h
def kvIt(kv:Kv):It:=toIt (pairs kv.1,kv.2)
theorem bytes_list(l:List UInt8):(⟨l.toArray⟩:ByteArray).toList=l:=by rw [ByteArray.toList_eq]
theorem kvIt_key(kv:Kv):(kvIt kv).k.toList=pairs kv.1:=bytes_list _
theorem all_ok(h:IxOk L s items):allK s=some (items.map kvIt):=by
 obtain⟨met,h1,_⟩:=survey_ok h
 unfold allK
 rw [h1]
 simp only [Option.map_some,List.map_map]
 rfl
theorem all_up(h:IxOk L s items):Up (items.map kvIt):=by
 unfold Up
 rw [List.pairwise_map]
 refine h.up.imp_of_mem fun{a b}ha hb hab=> ?_
 obtain⟨a1,a2⟩:=keyOk_parts (h.even a ha)
 obtain⟨b1,b2⟩:=keyOk_parts (h.even b hb)
 unfold lessK
 rw [kvIt_key,kvIt_key,pairs_less _ _ a1 b1 a2 b2]
 exact hab
theorem put_len{items':List Kv}{k:List UInt8}{v:UInt64}(h':UpK items')(hp:PutIs items items' k v):items'.length≤items.length+1:=by
 have:=nodup_sub_len items' ((k,v)::items) (upK_nodup h') (fun x hx=>by
  rcases(hp x).1 hx with rfl| h
  ·exact List.mem_cons_self ..
  ·exact List.mem_cons_of_mem _ h.1)
 simpa using this
theorem st0_ok{sh:Sh}(hL:L≤1024)(hs:shapeOf L=some sh):IxOk L (st0 sh) []:=by
 have hok:=shape_ok hs
 have htk:∀i,tkN (st0 sh) i=0:=fun i=>by
  unfold tkN st0
  simp only [List.getD_eq_getElem?_getD,List.getElem?_replicate]
  split<;>rfl
 have hhd:∀i,hdN (st0 sh) i=0:=fun i=>by
  unfold hdN st0
  simp only [List.getD_eq_getElem?_getD,List.getElem?_replicate]
  split<;>rfl
 have hws:∀i,8≤i→(st0 sh).ws i=0:=fun i hi=>by
  show putWs (fun _=>0) 0 (wordsOf sh) i=0
  unfold putWs
  rw [if_neg]
  simp [wordsOf,headW]
  omega
 have hnt:∀o d,¬TakenAt (st0 sh) o d:=fun o d=>by
  rintro⟨i,a,_,ha,_⟩
  rw [htk,has_zero]at ha
  cases ha
 refine⟨⟨hok,hL,by simp [st0],by simp [st0],fun i _=> .inl (htk i),fun i _=> .inl (hhd i),fun i _=> .inl (htk i),fun i a _ ha=> ?_,fun i _=> ?_⟩,fun o d=> ?_,.inl ⟨hws 9 (by decide),rfl,hnt⟩,fun _ h=>by cases h⟩
 ·rw [htk,has_zero]at ha;cases ha
 ·rw [hws _ (by omega)]
  show _=(List.replicate sh.slabs (0:UInt64)).getD i 0
  simp only [List.getD_eq_getElem?_getD,List.getElem?_replicate]
  split<;>rfl
 ·rintro⟨i,a,_,ha,_⟩
  rw [hhd,has_zero]at ha
  cases ha
end
theorem rise_ext{α:Type}{r:α→α→Prop}(hi:∀x,¬r x x)(hs:∀x y,r x y→¬r y x):∀(a b:List α),a.Pairwise r→b.Pairwise r→(∀x,x∈a↔x∈b)→a=b
 | [],[],_,_,_=>rfl
 | [],y::b,_,_,h=>absurd ((h y).2 (List.mem_cons_self ..)) (fun h=>nomatch h)
 | x::a,[],_,_,h=>absurd ((h x).1 (List.mem_cons_self ..)) (fun h=>nomatch h)
 | x::a,y::b,ha,hb,h=>by
   obtain⟨ha1,ha2⟩:=List.pairwise_cons.1 ha
   obtain⟨hb1,hb2⟩:=List.pairwise_cons.1 hb
   have e:x=y:=by
    rcases List.mem_cons.1 ((h x).1 (List.mem_cons_self ..))with e| h1
    ·exact e
    ·rcases List.mem_cons.1 ((h y).2 (List.mem_cons_self ..))with e| h2
     ·exact e.symm
     ·exact absurd (ha1 y h2) (hs y x (hb1 x h1))
   subst e
   refine congrArg (List.cons x) (rise_ext hi hs a b ha2 hb2 fun z=> ?_)
   constructor
   ·intro hz
    rcases List.mem_cons.1 ((h z).1 (List.mem_cons_of_mem _ hz))with e| h1
    ·subst e;exact absurd (ha1 z hz) (hi z)
    ·exact h1
   ·intro hz
    rcases List.mem_cons.1 ((h z).2 (List.mem_cons_of_mem _ hz))with e| h1
    ·subst e;exact absurd (hb1 z hz) (hi z)
    ·exact h1
def itP(x:It):List UInt8×UInt64:=(x.k.toList,x.v)
def lessP(a b:List UInt8×UInt64):Prop:=Op.bytesLess a.1 b.1=true
theorem lessP_irr(x:List UInt8×UInt64):¬lessP x x:=by unfold lessP;rw [bless_irrefl];decide
theorem lessP_asym(x y:List UInt8×UInt64)(h:lessP x y):¬lessP y x:=fun k=>lessP_irr x (bless_trans _ _ _ h k)
theorem up_itP{l:List It}(h:Up l):(l.map itP).Pairwise lessP:=by
 rw [List.pairwise_map]
 exact h
theorem itP_same{a b:List It}(h:a.map itP=b.map itP):a.length=b.length∧∀j(h1:j<a.length)(h2:j<b.length),(a[j].k.toList==b[j].k.toList)=true∧a[j].v.toNat=b[j].v.toNat:=by
 have hl:a.length=b.length:=by simpa using congrArg List.length h
 refine⟨hl,fun j h1 h2=> ?_⟩
 have:=congrArg (fun l=>l[j]?) h
 simp only [List.getElem?_map,List.getElem?_eq_getElem h1,List.getElem?_eq_getElem h2,Option.map_some,Option.some.injEq]at this
 injection this with e1 e2
 exact⟨by rw [e1];simp,by rw [e2]⟩
def cutR(l:List It)(key:ByteArray):List It×UInt64×Int:=
 if 16<key.size then(l,0,3)else if isR l key then(l.take (findR l key)++l.drop (findR l key+1),((l[findR l key]?).map (·.v)).getD 0,0)else(l,0,7)
section
variable{l:List It}{key:ByteArray}
theorem findR_less(j:Nat)(h:j<l.length)(hj:j<findR l key):Op.bytesLess l[j].k.toList key.toList=true:=by
 unfold findR at hj
 have:=List.not_of_lt_findIdx hj
 simpa using this
theorem findR_not(h:findR l key<l.length):Op.bytesLess l[findR l key].k.toList key.toList=false:=by
 have h1:=List.findIdx_getElem (xs:=l) (p:=fun x:It=> !Op.bytesLess x.k.toList key.toList) (w:=h)
 have h2:(!Op.bytesLess l[findR l key].k.toList key.toList)=true:=h1
 simpa using h2
theorem find_split (hu : Up l) : (∀ x ∈ l.take (findR l key), Op.bytesLess x.k.toList key.toList = true) ∧ (∀ x ∈ l.drop (findR l key + if isR l key then 1 else 0), Op.bytesLess key.toList x.k.toList = true) ∧
    (isR l key = true → ∃ (h : findR l key < l.length), l[findR l key].k.toList = key.toList) ∧ (isR l key = false → ∀ x ∈ l, x.k.toList ≠ key.toList) := by
  have hpw := List.pairwise_iff_getElem.1 hu
  have hlt : ∀ x ∈ l.take (findR l key), Op.bytesLess x.k.toList key.toList = true := fun x hx => by
    obtain ⟨j, hj, rfl⟩ := List.getElem_of_mem hx
    simp only [List.length_take] at hj
    rw [List.getElem_take]
    exact findR_less j (by omega) (by omega)
  have hge : ∀ j (h : j < l.length), findR l key < j → Op.bytesLess key.toList l[j].k.toList = true := fun j h hj => by
    have h1 := findR_not (l := l) (key := key) (by omega)
    have h2 : Op.bytesLess l[findR l key].k.toList l[j].k.toList = true := hpw (findR l key) j (by omega) h hj
    cases h3 : Op.bytesLess key.toList l[findR l key].k.toList with
    | true => exact bless_trans _ _ _ h3 h2
    | false => rw [← (bless_total _ _ h3).resolve_left (by rw [h1]; decide)] at h2; exact h2
  have his : isR l key = true → ∃ (h : findR l key < l.length), l[findR l key].k.toList = key.toList := fun h => by
    have hlt := isR_lt h
    refine ⟨hlt, ?_⟩
    unfold isR at h
    rw [List.getElem?_eq_getElem hlt] at h
    exact eq_of_beq h
  have hno : isR l key = false → ∀ (h : findR l key < l.length), l[findR l key].k.toList ≠ key.toList := fun h hlt e => by
    unfold isR at h
    rw [List.getElem?_eq_getElem hlt] at h
    simp [e] at h
  refine ⟨hlt, fun x hx => ?_, his, fun h x hx e => ?_⟩
  · obtain ⟨j, hj, rfl⟩ := List.getElem_of_mem hx
    simp only [List.length_drop] at hj
    rw [List.getElem_drop]
    by_cases hz : (findR l key + if isR l key then 1 else 0) + j = findR l key
    · have hf : isR l key = false := by
        cases h : isR l key with
        | false => rfl
        | true => rw [h, if_pos rfl] at hz; omega
      have hl : findR l key < l.length := by omega
      have h1 := findR_not (l := l) (key := key) hl
      have h2 := hno hf hl
      have : l[(findR l key + if isR l key then 1 else 0) + j]'(by omega) = l[findR l key] := by congr 1
      rw [this]
      cases h3 : Op.bytesLess key.toList l[findR l key].k.toList with
      | true => rfl
      | false => exact absurd ((bless_total _ _ h3).resolve_left (by rw [h1]; decide)).symm h2
    · exact hge _ (by omega) (by omega)
  · obtain ⟨j, hj, rfl⟩ := List.getElem_of_mem hx
    rcases Nat.lt_trichotomy j (findR l key) with g | g | g
    · have := findR_less j hj g
      rw [e, bless_irrefl] at this; cases this
    · subst g; exact hno h hj e
    · have := hge j hj g
      rw [e, bless_irrefl] at this; cases this
theorem cut_find(h:isR l key=true):l=l.take (findR l key)++l[findR l key]'(isR_lt h)::l.drop (findR l key+1):=by
 have:=(List.take_append_drop (findR l key) l).symm
 rw [List.drop_eq_getElem_cons (isR_lt h)]at this
 exact this
theorem putR_ok(hu:Up l){v:UInt64}(h16:¬16<key.size)(hv:v.toNat≠0):(putR l key v).2=0∧((putR l key v).1.map itP).Pairwise lessP∧∀x,x∈(putR l key v).1.map itP↔x=(key.toList,v)∨(x∈l.map itP∧x.1≠key.toList):=by
 obtain⟨h1,h2,h3,h4⟩:=find_split (key:=key) hu
 unfold putR
 rw [if_neg h16,if_neg hv]
 refine⟨rfl,?_,fun x=> ?_⟩
 ·rw [List.pairwise_map]
  refine List.pairwise_append.2 ⟨List.Pairwise.sublist (List.take_sublist _ _) hu,List.pairwise_cons.2 ⟨fun y hy=>h2 y hy,List.Pairwise.sublist (List.drop_sublist _ _) hu⟩,fun a ha b hb=> ?_⟩
  rcases List.mem_cons.1 hb with rfl| hb
  ·exact h1 a ha
  ·exact bless_trans _ _ _ (h1 a ha) (h2 b hb)
 ·simp only [List.mem_map,List.mem_append,List.mem_cons]
  constructor
  ·rintro⟨y,hy| rfl| hy,rfl⟩
   ·exact .inr ⟨⟨y,List.mem_of_mem_take hy,rfl⟩,fun e=>by have:=h1 y hy;have e:y.k.toList=key.toList:=e;rw [e,bless_irrefl]at this;cases this⟩
   ·exact .inl rfl
   ·exact .inr ⟨⟨y,List.mem_of_mem_drop hy,rfl⟩,fun e=>by have:=h2 y hy;have e:y.k.toList=key.toList:=e;rw [e,bless_irrefl]at this;cases this⟩
  ·rintro(rfl| ⟨⟨y,hy,rfl⟩,hne⟩)
   ·exact⟨⟨key,v⟩,.inr (.inl rfl),rfl⟩
   ·refine⟨y,?_,rfl⟩
    cases hi:isR l key with
    | false=>
      rw [if_neg (by decide),Nat.add_zero]
      rw [←List.take_append_drop (findR l key) l]at hy
      exact(List.mem_append.1 hy).imp id .inr
    | true=>
      rw [if_pos rfl]
      rw [cut_find hi]at hy
      rcases List.mem_append.1 hy with g| g
      ·exact .inl g
      ·rcases List.mem_cons.1 g with g| g
       ·obtain⟨_,e⟩:=h3 hi
        exact absurd (by unfold itP;rw [g];exact e) hne
       ·exact .inr (.inr g)
theorem cutR_ok(hu:Up l)(h16:¬16<key.size)(hi:isR l key=true):((cutR l key).1.map itP).Pairwise lessP∧∀x,x∈(cutR l key).1.map itP↔x∈l.map itP∧x.1≠key.toList:=by
 obtain⟨h1,h2,h3,h4⟩:=find_split (key:=key) hu
 rw [hi,if_pos rfl]at h2
 obtain⟨hlt,hk⟩:=h3 hi
 unfold cutR
 rw [if_neg h16,if_pos hi]
 refine⟨?_,fun x=> ?_⟩
 ·rw [List.pairwise_map]
  refine List.pairwise_append.2 ⟨List.Pairwise.sublist (List.take_sublist _ _) hu,List.Pairwise.sublist (List.drop_sublist _ _) hu,fun a ha b hb=>bless_trans _ _ _ (h1 a ha) (h2 b hb)⟩
 ·simp only [List.mem_map,List.mem_append]
  constructor
  ·rintro⟨y,hy| hy,rfl⟩
   ·exact⟨⟨y,List.mem_of_mem_take hy,rfl⟩,fun e=>by have:=h1 y hy;have e:y.k.toList=key.toList:=e;rw [e,bless_irrefl]at this;cases this⟩
   ·exact⟨⟨y,List.mem_of_mem_drop hy,rfl⟩,fun e=>by have:=h2 y hy;have e:y.k.toList=key.toList:=e;rw [e,bless_irrefl]at this;cases this⟩
  ·rintro⟨⟨y,hy,rfl⟩,hne⟩
   refine⟨y,?_,rfl⟩
   rw [cut_find hi]at hy
   rcases List.mem_append.1 hy with g| g
   ·exact .inl g
   ·rcases List.mem_cons.1 g with g| g
    ·exact absurd (by unfold itP;rw [g];exact hk) hne
    ·exact .inr g
end
section
variable{L:Nat}{s:St}{items items':List Kv}
theorem kv_itP(items:List Kv):(items.map kvIt).map itP=items.map fun kv=>(pairs kv.1,kv.2):=by
 rw [List.map_map]
 refine List.map_congr_left fun kv _=> ?_
 show(((kvIt kv).k.toList,(kvIt kv).v):List UInt8×UInt64)=_
 rw [kvIt_key]
 rfl
theorem pairs_inj{a b:List UInt8}(ha:keyOk a=true)(hb:keyOk b=true)(h:pairs a=pairs b):a=b:=by
 obtain⟨a1,a2⟩:=keyOk_parts ha
 obtain⟨b1,b2⟩:=keyOk_parts hb
 rw [←nibs_pairs a a1 a2,←nibs_pairs b b1 b2,h]
theorem put_same(h:IxOk L s items)(h':IxOk L s items→∃s',IxOk L s' items')(key:ByteArray){v:UInt64}(h16:¬16<key.size)(hv:v.toNat≠0)(hp:PutIs items items' (nibs key.data.toList) v):(items'.map kvIt).map itP=(putR (items.map kvIt) key v).1.map itP:=by
 obtain⟨s',hs'⟩:=h' h
 obtain⟨_,h2,h3⟩:=putR_ok (key:=key) (all_up h) h16 hv
 have hkl:key.toList=key.data.toList:=by rw [ByteArray.toList_eq]
 have hpk:pairs (nibs key.data.toList)=key.toList:=by rw [pairs_nibs,hkl]
 refine rise_ext lessP_irr lessP_asym _ _ (up_itP (all_up hs')) h2 fun x=> ?_
 rw [h3,kv_itP,kv_itP]
 simp only [List.mem_map]
 constructor
 ·rintro⟨kv,hkv,rfl⟩
  rcases(hp kv).1 hkv with rfl| ⟨g1,g2⟩
  ·left;rw [hpk]
  ·exact .inr ⟨⟨kv,g1,rfl⟩,fun e=>g2 (pairs_inj (h.even kv g1) (keyOk_nib _) (by rw [hpk];exact e))⟩
 ·rintro(rfl| ⟨⟨kv,g1,rfl⟩,g2⟩)
  ·exact⟨(nibs key.data.toList,v),(hp _).2 (.inl rfl),by rw [hpk]⟩
  ·exact⟨kv,(hp kv).2 (.inr ⟨g1,fun e=>g2 (by simp only [e];exact hpk)⟩),rfl⟩
theorem isR_mem(h:IxOk L s items)(key:ByteArray):isR (items.map kvIt) key=true↔∃v,(nibs key.data.toList,v)∈items:=by
 obtain⟨_,_,h3,h4⟩:=find_split (key:=key) (all_up h)
 have hkl:key.toList=key.data.toList:=by rw [ByteArray.toList_eq]
 have hpk:pairs (nibs key.data.toList)=key.toList:=by rw [pairs_nibs,hkl]
 constructor
 ·intro hi
  obtain⟨hlt,e⟩:=h3 hi
  have hl:findR (items.map kvIt) key<items.length:=by simpa using hlt
  rw [List.getElem_map,kvIt_key]at e
  refine⟨items[findR (items.map kvIt) key].2,?_⟩
  have:nibs key.data.toList=items[findR (items.map kvIt) key].1:=pairs_inj (keyOk_nib _) (h.even _ (List.getElem_mem hl)) (by rw [hpk,e])
  rw [this]
  exact List.getElem_mem hl
 ·rintro⟨v,hv⟩
  cases hi:isR (items.map kvIt) key with
  | true=>rfl
  | false=>
    exact absurd (by rw [kvIt_key,hpk]) (h4 hi (kvIt (nibs key.data.toList,v)) (List.mem_map_of_mem hv))
theorem cut_same(h:IxOk L s items){s':St}(hs':IxOk L s' items')(key:ByteArray)(h16:¬16<key.size)(hi:isR (items.map kvIt) key=true)(hp:CutIs items items' (nibs key.data.toList)):(items'.map kvIt).map itP=(cutR (items.map kvIt) key).1.map itP:=by
 obtain⟨h2,h3⟩:=cutR_ok (key:=key) (all_up h) h16 hi
 have hkl:key.toList=key.data.toList:=by rw [ByteArray.toList_eq]
 have hpk:pairs (nibs key.data.toList)=key.toList:=by rw [pairs_nibs,hkl]
 refine rise_ext lessP_irr lessP_asym _ _ (up_itP (all_up hs')) h2 fun x=> ?_
 rw [h3,kv_itP,kv_itP]
 simp only [List.mem_map]
 constructor
 ·rintro⟨kv,hkv,rfl⟩
  obtain⟨g1,g2⟩:=(hp kv).1 hkv
  exact⟨⟨kv,g1,rfl⟩,fun e=>g2 (pairs_inj (h.even kv g1) (keyOk_nib _) (by rw [hpk];exact e))⟩
 ·rintro⟨⟨kv,g1,rfl⟩,g2⟩
  exact⟨kv,(hp kv).2 ⟨g1,fun e=>g2 (by simp only [e];exact hpk)⟩,rfl⟩
theorem mem_listW{w:Nat}{a:Nat}(ok:OkW w):a∈listW w↔hasW w a=true:=by
 unfold listW
 rw [List.mem_filter,List.mem_range]
 refine⟨fun h=>h.2,fun h=>⟨?_,h⟩⟩
 obtain⟨c,hc,ha,_⟩:=ok.has_lt h
 rw [hc.class]
 exact ha
theorem mem_allP(ok:PoolOk L s)(o:Nat):o∈allP s↔∃d,TakenAt s o d:=by
 unfold allP
 rw [List.mem_flatMap]
 constructor
 ·rintro⟨i,hi,ho⟩
  rw [List.mem_range,ok.ntk]at hi
  obtain⟨a,ha,rfl⟩:=List.mem_map.1 ho
  exact⟨_,i,a,hi,(mem_listW (ok.tk i hi)).1 ha,rfl,rfl⟩
 ·rintro⟨d,i,a,hi,ha,rfl,rfl⟩
  exact⟨i,by rw [List.mem_range,ok.ntk];exact hi,List.mem_map.2 ⟨a,(mem_listW (ok.tk i hi)).2 ha,rfl⟩⟩
theorem listW_up(w:Nat):(listW w).Pairwise (·<·):=by
 unfold listW
 exact List.Pairwise.filter _ List.pairwise_lt_range
theorem allP_up(ok:PoolOk L s):(allP s).Pairwise (·<·):=by
 unfold allP
 rw [List.flatMap_def,List.pairwise_flatten]
 refine⟨fun l hl=> ?_,?_⟩
 ·obtain⟨i,hi,rfl⟩:=List.mem_map.1 hl
  rw [List.mem_range,ok.ntk]at hi
  rw [List.pairwise_map]
  refine(listW_up (tkN s i)).imp_of_mem fun{a b}ha hb hab=> ?_
  obtain⟨c,hc,_,_⟩:=(ok.tk i hi).has_lt ((mem_listW (ok.tk i hi)).1 ha)
  have hc0:0<64*linesN (classW (tkN s i)):=by
   rw [hc.class]
   have:=(lines_blocks hc.cls).2.1
   omega
  unfold placeN
  have:=Nat.mul_lt_mul_of_pos_left hab hc0
  omega
 ·rw [List.pairwise_map]
  refine List.pairwise_lt_range.imp_of_mem fun{i j}hi hj hij x hx y hy=> ?_
  rw [List.mem_range,ok.ntk]at hi hj
  obtain⟨a,ha,rfl⟩:=List.mem_map.1 hx
  obtain⟨b,hb,rfl⟩:=List.mem_map.1 hy
  obtain⟨c,hc,ha',_⟩:=(ok.tk i hi).has_lt ((mem_listW (ok.tk i hi)).1 ha)
  rw [hc.class]
  have:=(place_in (sh:=s.sh) (i:=i) hc.cls ha').2
  have h2:s.sh.data+1024*j≤placeN s.sh j (classW (tkN s j)) b:=by unfold placeN;omega
  have h3:=(lines_blocks hc.cls).2.1
  omega
theorem nodes_all(h:IxOk L s items){met:List Int}{its:List (List UInt8×UInt64)}(hs:surveyP s=some (its,met)):met.mergeSort (fun x y=>decide (x≤y))=(allP s).map Int.ofNat:=by
 obtain⟨m,h1,h2,h3⟩:=survey_ok h
 rw [hs]at h1
 injection h1 with h1
 injection h1 with _ h1
 subst h1
 have hperm:=List.mergeSort_perm (m.map Int.ofNat) (fun x y=>decide (x≤y))
 have hnd:((m.map Int.ofNat).mergeSort (fun x y=>decide (x≤y))).Nodup:=hperm.nodup_iff.2 (by
  exact(List.pairwise_map.2 (h2.imp fun{a b}hab e=>hab (by injection e))))
 have hsort:((m.map Int.ofNat).mergeSort (fun x y=>decide (x≤y))).Pairwise (fun x y=>decide (x≤y)=true):=List.pairwise_mergeSort (fun a b c h k=>by simp at h k⊢;omega) (fun a b=>by simp;omega) _
 have hlt:((m.map Int.ofNat).mergeSort (fun x y=>decide (x≤y))).Pairwise (fun(x y:Int)=>x<y):=(List.pairwise_and_iff.2 ⟨hsort,hnd⟩).imp (fun{a b}h=>by
  have h1:a≤b:=by simpa using h.1
  have h2:a≠b:=h.2
  omega)
 refine rise_ext (r:=fun(x y:Int)=>x<y) (fun x=>by omega) (fun x y h=>by omega) _ _ hlt (by rw [List.pairwise_map];exact(allP_up h.ok).imp fun{a b}h=>by show(a:Int)<b;omega) fun x=> ?_
 rw [hperm.mem_iff]
 simp only [List.mem_map]
 constructor
 ·rintro⟨o,ho,rfl⟩
  exact⟨o,(mem_allP h.ok o).2 ((h3 o).1 ho),rfl⟩
 ·rintro⟨o,ho,rfl⟩
  exact⟨o,(h3 o).2 ((mem_allP h.ok o).1 ho),rfl⟩
theorem held_zero(h:IxOk L s items):heldP s=0:=by
 unfold heldP
 have:(List.range s.hd.length).map (fun i=>(listW (hdN s i)).length)=(List.range s.hd.length).map (fun _=>0):=List.map_congr_left fun i hi=>by
  rw [List.mem_range,h.ok.nhd]at hi
  have:listW (hdN s i)=[]:=by
   rw [List.eq_nil_iff_forall_not_mem]
   intro a ha
   exact h.nh _ _ ⟨i,a,hi,(mem_listW (h.ok.hd i hi)).1 ha,rfl,rfl⟩
  rw [this];rfl
 rw [this]
 generalize List.range s.hd.length=l
 induction l with
 | nil=>rfl
 | cons a l ih=>rw [List.map_cons,List.sum_cons,ih]
end
open Go.RowKit
set_option maxHeartbeats 4000000 in
set_option maxRecDepth 100000 in
theorem ours10(l:List It)(A:Option Addr)(c:Nat)(w:World)(hl:l.length≤100000)(h:ItR w A l):Calls Tryz.prog 17 #[.slice A l.length c] w fun e w'=>
 ∃v,e= .returned v∧w'.ownsRow w.heap.size 117 2 v l.length (itCs l)∧Below w.heap.size w w':=by
 have HR:=Lib.hid h
 clear h
 go_enter Tryz.func17,Tryz.ntmps17
 go_wp2_with fail
 go_loopw [3,8](fun u i wr=>∃k:Nat,k≤l.length∧i= .int .i64 (k:Nat)∧wr.ownsRow w.heap.size 117 2 u k (itCs (l.take k))∧Below w.heap.size w wr)(fun _ i _=>l.length- (intOf i).toNat)
 case atStart=>exact⟨0,Nat.zero_le _,rfl,World.ownsRow_nil _ _ _ _,Below.refl _ _⟩
 case round=>
  obtain⟨k,hk,rfl,hown,hb⟩:=hrel
  have HO:=Lib.hid hown
  have HB:=Lib.hid hb
  clear hown hb
  by_cases hlt:k<l.length
  ·obtain⟨b,off,rfl,hbw,q1,q2⟩:=(HR.out.below HB.out).at k hlt
   have hx1:(k:Int)<(l.length:Int):=by omega
   have hx2:decide ((k:Int)<(l.length:Int))=true:=decide_eq_true hx1
   have hwk:IntKind.i64.wrap ((k:Int)+1)=(k:Int)+1:=wrap64 _ (by omega) (by omega)
   have HTk:Hid (itCs (l.take (k+1))=itCs (l.take k)++itC l[k]):=Lib.hid (by rw [List.take_succ_eq_append_getElem hlt,itCs_app])
   generalize l[k]=it at*
   obtain⟨w2,hw2⟩:∃w2,w2=wr.alloc (.cells #[.string it.k,.int .u64 (it.v.toNat:Int)] 71):=⟨_,rfl⟩
   have hb12:Below wr.heap.size wr w2:=hw2▸(Below.refl _ _).alloc (Nat.le_refl _) _
   have HB2:=Lib.hid (HB.out.trans (hb12.mono HB.out.size))
   have HO2:=Lib.hid (own_stay HO.out (Kept.of_below (r:=none) hb12) (by
    rcases HO.out.2 with⟨h1,_⟩| ⟨g,cap,cur,h1,_⟩
    ·exact .inr (by subst h1;rfl)
    ·exact .inl (by subst h1;exact fun e=>nomatch e)))
   have hbs:w.heap.size≤w2.heap.size:=HB2.out.size
   rw [hw2]at hbs HB2 HO2
   clear hb12 hw2
   go_wp2_with(at_builtin;refine wpList_app_one rfl (.tmp 12) (.tmp 14) 48 rfl Tryz.refItemTyK _ w.heap.size u3 k (itCs (l.take k)) [.string it.k,.int .u64 (it.v.toNat:Int)] rfl (by exact HO2.out) rfl (wr.heap.size+1) 1 rfl (by simp) rfl (by decide) (by intro u hu;simp at hu;rcases hu with rfl| rfl<;>rfl) (by omega) (by decide) hbs ?_;intro g6 c6 w6 hO6 hB6 hK6 hg6)
   have HO6:=Lib.hid hO6
   have HB6:=Lib.hid (HB2.out.trans hB6)
   clear hO6 hB6 hK6 hg6
   go_wp2_with fail
   go_roundw
   case rel=>exact⟨k+1,by omega,by go_num,by rw [HTk.out];exact HO6.out,HB6.out⟩
   case measure=>simp [intOf];omega
  ·have hkn:k=l.length:=by omega
   subst hkn
   have HO2:Hid (wr.ownsRow w.heap.size 117 2 u3 l.length (itCs l)):=Lib.hid (by have:=HO.out;rwa [List.take_length]at this)
   go_wp2_with fail
   go_ret
   exact⟨_,rfl,HO2.out,HB.out⟩
def iv10(l:List Int):List Value:=l.map (Value.int .i64)
set_option maxHeartbeats 4000000 in
set_option maxRecDepth 100000 in
theorem ints10(a:List Int)(A B:Option Addr)(c d:Nat)(w:World)(hl:a.length≤100000)(ha:Rd w A a.length (iv10 a))(hb:Rd w B a.length (iv10 a)):
 Calls Tryz.prog 21 #[.slice A a.length c,.slice B a.length d] w fun e w'=>e= .returned (.bool true)∧Dr w w':=by
 have HA:=Lib.hid ha
 have HB:=Lib.hid hb
 obtain⟨n,hn⟩:∃n,n=a.length:=⟨_,rfl⟩
 have HN:=Lib.hid hn
 rw [←hn]at hl HA HB⊢
 have t2:((n:Int)!=(n:Int))=false:=by simp
 clear ha hb hn
 go_enter Tryz.func21,Tryz.ntmps21
 go_wp2_with fail
 go_loopw [13](fun i wr=>∃k:Nat,k≤n∧i= .int .i64 (k:Nat)∧Dr w wr)(fun i _=>n- (intOf i).toNat)
 case atStart=>exact⟨0,Nat.zero_le _,rfl,Dr.refl _⟩
 case round=>
  obtain⟨k,hk,rfl,hdr⟩:=hrel
  have HD:=Lib.hid hdr
  clear hdr
  by_cases hlt:k<n
  ·have hkl:k<a.length:=by have:=HN.out;omega
   obtain⟨ba,oa,rfl,_,qa⟩:=(Rd.below HA.out (HD.out.below _)).2 (by omega)
   obtain⟨bb,ob,rfl,_,qb⟩:=(Rd.below HB.out (HD.out.below _)).2 (by omega)
   have q1:wr.cell? ⟨ba,oa+k,none⟩=some (.int .i64 a[k]):=by rw [qa k hlt];simp [iv10,hkl]
   have q2:wr.cell? ⟨bb,ob+k,none⟩=some (.int .i64 a[k]):=by rw [qb k hlt];simp [iv10,hkl]
   have hx1:(k:Int)<(n:Int):=by omega
   have hx2:decide ((k:Int)<(n:Int))=true:=decide_eq_true hx1
   have hx5:decide (k<n)=true:=decide_eq_true hlt
   have hwk:IntKind.i64.wrap ((k:Int)+1)=(k:Int)+1:=IntWalk.i64_in _ (by omega)
   have t3:(a[k]!=a[k])=false:=by simp
   clear qa qb
   generalize a[k]=y at*
   go_wp2_with fail
   go_quiet(fail)
   go_wp2_with fail
   go_roundw
   case rel=>exact⟨k+1,by omega,by go_num,by first| exact HD.out.trans (Dr.one _ _)| exact HD.out⟩
   case measure=>simp [intOf];omega
  ·have hx2:decide ((k:Int)<(n:Int))=false:=decide_eq_false (by omega)
   have hx5:decide (k<n)=false:=decide_eq_false hlt
   go_wp2_with fail
   go_ret
   exact⟨rfl,HD.out⟩
theorem flat3_get{α:Type}(f:α→List Value)(m:Nat)(hf:∀a,(f a).length=m):∀(l:List α)(k i:Nat)(hk:k<l.length),i<m→((l.map f).flatten)[k*m+i]? =(f l[k])[i]?
 | a::t,0,i,_,hi=>by
   rw [List.map_cons,List.flatten_cons,Nat.zero_mul,Nat.zero_add,List.getElem?_append_left (by rw [hf];exact hi)]
   rfl
 | a::t,k+1,i,hk,hi=>by
   rw [List.map_cons,List.flatten_cons,List.getElem?_append_right (by rw [hf,Nat.succ_mul];omega),hf,show(k+1)*m+i-m=k*m+i by rw [Nat.succ_mul];omega]
   exact flat3_get f m hf t k i (by simpa using hk) hi
theorem flat3_len{α:Type}(f:α→List Value)(m:Nat)(hf:∀a,(f a).length=m):∀(l:List α),((l.map f).flatten).length=l.length*m
 | []=>by simp
 | a::t=>by
   have:=flat3_len f m hf t
   rw [List.map_cons,List.flatten_cons,List.length_append,hf,this,List.length_cons,Nat.succ_mul]
   omega
structure Ac where
 kind:UInt8
 key:ByteArray
 n:UInt64
def acC(x:Ac):List Value:=[.int .u8 (x.kind.toNat:Int),.string x.key,.int .u64 (x.n.toNat:Int)]
def acCs(l:List Ac):List Value:=(l.map acC).flatten
theorem acCs_len(l:List Ac):(acCs l).length=l.length*3:=flat3_len acC 3 (fun _=>rfl) l
theorem ac_at{w:World}{A:Option Addr}{s:List Ac}(h:Rd w A (s.length*3) (acCs s))(k:Nat)(hk:k<s.length):∃b off,A=some ⟨b,off,none⟩∧b<w.heap.size∧w.cell? ⟨b,off+k*3,none⟩=some (.int .u8 (s[k].kind.toNat:Int))∧
 w.cell? ⟨b,off+k*3+1,none⟩=some (.string s[k].key)∧w.cell? ⟨b,off+k*3+2,none⟩=some (.int .u64 (s[k].n.toNat:Int)):=by
 obtain⟨b,off,rfl,hb,hc⟩:=h.2 (by omega)
 have hf:=flat3_get acC 3 (fun _=>rfl) s k
 refine⟨b,off,rfl,hb,?_,?_,?_⟩
 ·have:=hc (k*3) (by omega)
  rw [this];exact hf 0 hk (by decide)
 ·have:=hc (k*3+1) (by omega)
  rw [Nat.add_assoc,this];exact hf 1 hk (by decide)
 ·have:=hc (k*3+2) (by omega)
  rw [Nat.add_assoc,this];exact hf 2 hk (by decide)
def heavyB(l:List Ac):Bool:=l.any (fun x=>decide (40<x.key.size))|| decide (100<l.length)
theorem heavy_out{l:List Ac}(h:heavyB l=false):l.length≤100∧∀x∈l,x.key.size≤40:=by
 unfold heavyB at h
 rw [Bool.or_eq_false_iff,List.any_eq_false]at h
 refine⟨by have:=of_decide_eq_false h.2;omega,fun x hx=> ?_⟩
 have:=h.1 x hx
 simp at this
 omega
set_option maxHeartbeats 4000000 in
set_option maxRecDepth 100000 in
theorem heavy10(l:List Ac)(A:Option Addr)(c:Nat)(w:World)(hl:l.length≤9223372036854775807)(h:Rd w A (l.length*3) (acCs l)):Calls Tryz.prog 8 #[.slice A l.length c] w fun e w'=>e= .returned (.bool (heavyB l))∧Below w.heap.size w w':=by
 have HR:=Lib.hid h
 clear h
 go_enter Tryz.func8,Tryz.ntmps8
 go_wp2_with fail
 go_loopw [7](fun i wr=>∃k:Nat,k≤l.length∧i= .int .i64 (k:Nat)∧(∀j(hj:j<l.length),j<k→¬40<l[j].key.size)∧Below w.heap.size w wr)(fun i _=>l.length- (intOf i).toNat)
 case atStart=>exact⟨0,Nat.zero_le _,rfl,fun j _ h=>absurd h (by omega),Below.refl _ _⟩
 case round=>
  obtain⟨k,hkl,rfl,hall,hb⟩:=hrel
  have HB:=Lib.hid hb
  have HS:=Lib.hid hall
  clear hb hall
  by_cases hlt:k<l.length
  ·have hx1:(k:Int)<(l.length:Int):=by omega
   have hx2:decide ((k:Int)<(l.length:Int))=true:=decide_eq_true hx1
   have hx5:decide (k<l.length)=true:=decide_eq_true hlt
   obtain⟨b,off,rfl,hbw,q0,q1,q2⟩:=ac_at (Rd.below HR.out HB.out) k hlt
   have hwk:IntKind.i64.wrap ((k:Int)+1)=(k:Int)+1:=IntWalk.i64_in _ (by omega)
   have HF:Hid (40<l[k].key.size→heavyB l=true):=Lib.hid (fun h=>by
    unfold heavyB
    rw [Bool.or_eq_true,List.any_eq_true]
    exact .inl ⟨_,List.getElem_mem hlt,by simpa using h⟩)
   have HN:Hid (¬40<l[k].key.size→∀j(hj:j<l.length),j<k+1→¬40<l[j].key.size):=Lib.hid (fun h j hj hjk=>by
    by_cases e:j=k
    ·subst e;exact h
    ·exact HS.out j hj (by omega))
   generalize l[k]=x at*
   obtain⟨W,hW⟩:∃W,W=wr.alloc (.cells #[.int .u8 (x.kind.toNat:Int),.string x.key,.int .u64 (x.n.toNat:Int)] 35):=⟨_,rfl⟩
   have HB2:=Lib.hid (HB.out.trans ((show Below wr.heap.size wr W from hW▸(Below.refl _ _).alloc (Nat.le_refl _) _).mono HB.out.size))
   have HW:=Lib.hid hW
   clear hW
   by_cases h1:40<x.key.size
   ·have t1:decide ((40:Int)<(x.key.size:Int))=true:=decide_eq_true (by omega)
    have HF':=Lib.hid (HF.out h1)
    clear HF HN
    go_wp2_with fail
    go_ret
    exact⟨by rw [HF'.out];rfl,HW.out▸HB2.out⟩
   ·have t1:decide ((40:Int)<(x.key.size:Int))=false:=decide_eq_false (by omega)
    have HN':=Lib.hid (HN.out h1)
    clear HF HN
    go_wp2_with fail
    go_roundw
    case rel=>exact⟨k+1,by omega,by go_num,HN'.out,HW.out▸HB2.out⟩
    case measure=>simp [intOf];omega
  ·have hx1:decide ((k:Int)<(l.length:Int))=false:=decide_eq_false (by omega)
   have hx5:decide (k<l.length)=false:=decide_eq_false hlt
   have HF:Hid (heavyB l=decide ((100:Int)<(l.length:Int))):=Lib.hid (by
    unfold heavyB
    rw [List.any_eq_false.2 (fun x hx=>by
     obtain⟨j,hj,rfl⟩:=List.getElem_of_mem hx
     simpa using HS.out j hj (by omega)),Bool.false_or]
    rw [Bool.eq_iff_iff,decide_eq_true_iff,decide_eq_true_iff];omega)
   clear HS
   by_cases h60:(100:Int)<(l.length:Int)
   ·have t1:decide ((100:Int)<(l.length:Int))=true:=decide_eq_true h60
    rw [t1]at HF
    go_wp2_with fail
    go_ret
    exact⟨by rw [HF.out];rfl,HB.out⟩
   ·have t1:decide ((100:Int)<(l.length:Int))=false:=decide_eq_false h60
    rw [t1]at HF
    go_wp2_with fail
    go_ret
    exact⟨by rw [HF.out];rfl,HB.out⟩
section
variable{w:World}{d p L:Nat}{s:St}{tb hb n cT cH:Nat}
def heldTo(s:St)(i:Nat):Nat:=((List.range i).map fun i=>(listW (hdN s i)).length).sum
theorem heldTo_succ(s:St)(i:Nat):heldTo s (i+1)=heldTo s i+(listW (hdN s i)).length:=by simp [heldTo,List.range_succ]
theorem heldTo_le(s:St):∀i,heldTo s i≤16*i
 | 0=>by simp [heldTo]
 | i+1=>by
   rw [heldTo_succ]
   have:=heldTo_le s i
   have:(listW (hdN s i)).length≤16:=Nat.le_trans (List.length_filter_le _ _) (by simp [blocksN_le])
   omega
set_option maxHeartbeats 4000000 in
set_option maxRecDepth 100000 in
theorem held_pool(h:PoolAt w d p L s tb hb n cT cH)(hnh:s.hd.length=n):Calls Tryz.prog 23 #[.pointer (some ⟨p,0,none⟩)] w fun e w'=>e= .returned (.int .i64 (heldP s:Nat))∧Below w.heap.size w w':=by
 have HNo:=Lib.hid (none_pool h)
 have HP:=Lib.hid h
 have y6:=h.y6
 have hn64:n≤64:=by have:=h.ok.fits;have:=h.L1;have:=h.nsh;omega
 have hall:heldP s=heldTo s n:=by unfold heldP heldTo;rw [hnh]
 rw [hall]
 clear h hall
 go_enter Tryz.func23,Tryz.ntmps23
 go_wp2_with fail
 refine HNo.out.mono ?_
 rintro e w1⟨rfl,rfl⟩
 clear HNo
 go_wp2_with fail
 go_loopw [3,13](fun u i wr=>∃k:Nat,k≤n∧i= .int .i64 (k:Nat)∧u= .int .i64 (heldTo s k:Nat)∧Below w.heap.size w wr)(fun _ i _=>n- (intOf i).toNat)
 case atStart=>exact⟨0,Nat.zero_le _,rfl,rfl,Below.refl _ _⟩
 case round=>
  obtain⟨k,hk,rfl,rfl,hb⟩:=hrel
  have HB:=Lib.hid hb
  clear hb
  by_cases hlt:k<n
  ·have hx1:(k:Int)<(n:Int):=by omega
   have hx2:decide ((k:Int)<(n:Int))=true:=decide_eq_true hx1
   have hx5:decide (k<n)=true:=decide_eq_true hlt
   have hwk:IntKind.i64.wrap ((k:Int)+1)=(k:Int)+1:=wrap64 _ (by omega) (by omega)
   have z1:=(HP.out.below HB.out).hd k hlt
   have hx:=hdN_lt s k
   have HLs:=Lib.hid (list_slab (hdN s k) wr hx)
   have HTk:Hid (heldTo s (k+1)=heldTo s k+(listW (hdN s k)).length):=Lib.hid (heldTo_succ s k)
   have hl1:=heldTo_le s k
   have hll:(listW (hdN s k)).length≤16:=Nat.le_trans (List.length_filter_le _ _) (by simp [blocksN_le])
   have hwm:IntKind.i64.wrap ((heldTo s k:Int)+((listW (hdN s k)).length:Int))=(heldTo s k:Int)+((listW (hdN s k)).length:Int):=wrap64 _ (by omega) (by omega)
   generalize listW (hdN s k)=l at*
   generalize hdN s k=x at*
   generalize heldTo s k=M at*
   go_wp2_with fail
   refine HLs.out.mono ?_
   rintro e w2⟨v,rfl,hO,hb2⟩
   obtain⟨A2,c2,rfl,_,_⟩:=own_rdk hO
   have HB2:=Lib.hid (HB.out.trans (hb2.mono HB.out.size))
   clear hO hb2 HLs
   go_wp2_with fail
   go_roundw
   case rel=>exact⟨k+1,by omega,by go_num,by rw [HTk.out];go_num,HB2.out⟩
   case measure=>simp [intOf];omega
  ·have hkn:k=n:=by omega
   subst hkn
   have hx2:decide ((k:Int)<(k:Int))=false:=decide_eq_false (by omega)
   have hx5:decide (k<k)=false:=decide_eq_false (by omega)
   go_wp2_with fail
   go_ret
   exact⟨rfl,HB.out⟩
end
def CutRPost(r:List It×UInt64×Int)(w:World)(e:Ending)(w':World):Prop:=
 ∃A' c',e= .returned (.tuple #[.slice A' r.1.length c',.int .u64 (r.2.1.toNat:Int),.int .i64 r.2.2])∧ItR w' A' r.1∧Below w.heap.size w w'
theorem own_drew{w:World}{base k n:Nat}{e:TypeId}{v:Value}{xs:List Value}(h:w.ownsRow base e k v n xs):w.drew.ownsRow base e k v n xs:=
 own_stay h (Kept.of_below (r:=none) ((Dr.drew w).below _)) (by
  rcases h.2 with⟨h1,_⟩| ⟨g,cap,cur,h1,_⟩
  ·exact .inr (by subst h1;rfl)
  ·exact .inl (by subst h1;exact fun e=>nomatch e))
set_option maxHeartbeats 1000000 in
set_option maxRecDepth 100000 in
theorem cutR_any(l:List It)(A:Option Addr)(c:Nat)(key:ByteArray)(w:World)(hl:l.length≤100000)(hc:l.length≤c)(hks:key.size≤1000000)(h:ItR w A l):
 Calls Tryz.prog 19 #[.slice A l.length c,.string key] w (CutRPost (cutR l key) w):=by
 have HR:=Lib.hid h
 by_cases h16:16<key.size
 ·have HP:Hid (cutR l key=(l,0,3)):=Lib.hid (by unfold cutR;rw [if_pos h16])
  have t1:decide ((16:Int)<(key.size:Int))=true:=decide_eq_true (by omega)
  clear h
  go_enter Tryz.func19,Tryz.ntmps19
  go_wp2_with fail
  refine bodyPost_ret (v:= .tuple #[.slice A l.length c,.int .u64 0,.int .i64 3]) (by simp [results,Tryz.results19,go_sem]) rfl ?_
  rw [HP.out]
  exact⟨_,_,rfl,HR.out,Below.refl _ _⟩
 ·have t1:decide ((16:Int)<(key.size:Int))=false:=decide_eq_false (by omega)
  have HF:=Lib.hid (find_any l A c key w hl h)
  obtain⟨at_,hat⟩:=(⟨_,rfl⟩:∃at_,findR l key=at_)
  cases his:isR l key with
  | false=>
    have HP:Hid (cutR l key=(l,0,7)):=Lib.hid (by unfold cutR;rw [if_neg h16,his];rfl)
    rw [his]at HF
    rw [hat]at HF
    clear h hat his
    go_enter Tryz.func19,Tryz.ntmps19
    go_wp2_with fail
    refine HF.out.mono ?_
    rintro e w1⟨rfl,hdr⟩
    have HD:=Lib.hid hdr
    clear HF hdr
    go_wp2_with fail
    refine bodyPost_ret (v:= .tuple #[.slice A l.length c,.int .u64 0,.int .i64 7]) (by simp [results,Tryz.results19,go_sem]) rfl ?_
    rw [HP.out]
    exact⟨_,_,rfl,HR.out.below (HD.out.below _),HD.out.below _⟩
  | true=>
    have hlt:at_<l.length:=hat▸isR_lt his
    obtain⟨b,off,rfl,hb,q0,q1⟩:=h.at at_ hlt
    obtain⟨v,hv⟩:∃v,l[at_].v=v:=⟨_,rfl⟩
    rw [hv]at q1
    have HP:Hid (cutR l key=(l.take at_++l.drop (at_+1),v,0)):=Lib.hid (by
     unfold cutR;rw [if_neg h16,his,if_pos rfl]
     simp only [hat,List.getElem?_eq_getElem hlt,Option.map_some,Option.getD_some,hv])
    rw [his]at HF
    rw [hat]at HF
    obtain⟨to,hto⟩:∃to,to=at_+1:=⟨_,rfl⟩
    have hwa:IntKind.i64.wrap ((at_:Int)+1)=(to:Int):=(wrap64 _ (by omega) (by omega)).trans (by omega)
    obtain⟨n,hn⟩:∃n,n=l.length:=⟨_,rfl⟩
    have HN:=Lib.hid hn
    have HTo:=Lib.hid hto
    have hx1:(at_:Int)≤(c:Int):=by omega
    have hx3:decide (at_≤c)=true:=decide_eq_true (by omega)
    have hx2:decide ((at_:Int)≤(c:Int))=true:=decide_eq_true hx1
    have hy1:(to:Int)≤(n:Int):=by omega
    have hy2:decide ((to:Int)≤(n:Int))=true:=decide_eq_true hy1
    have hy5:decide (to≤n)=true:=decide_eq_true (by omega)
    have hz1:(at_:Int)<(n:Int):=by omega
    have hz2:decide ((at_:Int)<(n:Int))=true:=decide_eq_true hz1
    have hz3:decide (at_<n)=true:=decide_eq_true (by omega)
    have HCe:Hid (∀W,Below w.heap.size w W→W.cell? ⟨b,off+at_*2+1,none⟩=some (.int .u64 (v.toNat:Int))):=Lib.hid (fun W k=>(k.cell (p:=⟨b,off+at_*2+1,none⟩) hb).trans q1)
    have HTk:Hid (∀W,Below w.heap.size w W→Rd W (some ⟨b,off,none⟩) (at_*2) (itCs (l.take at_))):=Lib.hid (fun W hW=>by
     have:=(HR.out.below hW).take at_
     unfold ItR at this
     rwa [List.length_take,Nat.min_eq_left (by omega),Nat.mul_comm]at this)
    have hdrop:∀P,(c=to→P=some ⟨b,off,none⟩)→(¬c=to→P=some ⟨b,off+to*2,none⟩)→Hid (∀W,Below w.heap.size w W→Rd W P ((n-to)*2) (itCs (l.drop to))):=fun P h1 h2=>Lib.hid (fun W hW=>by
     have:=ItR.drop (k:=to) (P:=P) (HR.out.below hW) hc (by
      by_cases hq:c=to
      ·exact .inl ⟨hq,h1 hq⟩
      ·exact .inr (h2 hq))
     unfold ItR at this
     rw [List.length_drop,Nat.mul_comm,←hn]at this
     exact this)
    have hone1:=itCs_one (l.take at_)
    have hone2:=itCs_one (l.drop to)
    have hn5:n≤100000:=by omega
    have HEnd:Hid (∀(v5:Value)(w5:World),w5.ownsRow w.heap.size 117 2 v5 (at_+(n-to)) (itCs (l.take at_)++itCs (l.drop to))→Below w.heap.size w w5→CutRPost (cutR l key) w (.returned (.tuple #[v5,.int .u64 (v.toNat:Int),.int .i64 0])) w5):=Lib.hid (fun v5 w5 ho hb5=>by
     have e1:at_+(n-to)=(l.take at_++l.drop (at_+1)).length:=by
      simp only [List.length_append,List.length_take,List.length_drop];omega
     rw [e1,←itCs_app',hto]at ho
     rw [HP.out]
     obtain⟨A5,c5,rfl,_,hr5⟩:=own_itrE ho
     exact⟨A5,c5,rfl,hr5,hb5⟩)
    rw [←hn]
    rw [←hn]at HF
    clear h hat his q0 q1 hv HP hn hto
    by_cases hq:c=to
    ·have HDr:=hdrop _ (fun _=>rfl) (fun h=>absurd hq h)
     clear hdrop
     subst hq
     go_enter Tryz.func19,Tryz.ntmps19
     go_wp2_with fail
     refine HF.out.mono ?_
     rintro e w1⟨rfl,hdr⟩
     have hb1:=hdr.below w.heap.size
     have hbn:Below w1.heap.size w1 (w1.alloc (.cells #[] 117)):=(Below.refl _ _).alloc (Nat.le_refl _) _
     have HB2:=Lib.hid (hb1.trans (hbn.mono hb1.size))
     have HO1:Hid ((w1.alloc (.cells #[] 117)).ownsRow w.heap.size 117 2 (.slice (some ⟨w1.heap.size,0,none⟩) 0 0) 0 []):=Lib.hid (by
      refine⟨rfl,.inr ⟨w1.heap.size,0,#[],rfl,hb1.size,heap_alloc_new _ _,Nat.le_refl _,by decide,rfl,rfl⟩⟩)
     clear hdr hbn hb1 HF
     go_wp2_with(at_builtin;refine wpList_app_rows rfl (.tmp 23) (.tmp 26) 48 rfl Tryz.refItemTyK (by decide) w.heap.size _ 0 [] rfl (by exact HO1.out) _ at_ _ (itCs (l.take at_)) rfl (by exact HTk.out _ HB2.out) hone1 (by omega) (by decide) (by exact HB2.out.size) ?_;intro v2 w2 hO2 hB2 hK2;rw [Nat.zero_add,List.nil_append]at hO2;obtain⟨A2,c2,hv2,_,_⟩:=own_rdk hO2;subst hv2;have HO2:=Lib.hid hO2;have HB3:=Lib.hid (HB2.out.trans hB2);clear hO2 hB2 hK2;have z1:=HCe.out _ HB3.out)
     have HOd:=Lib.hid (own_drew HO2.out)
     have HBd:=Lib.hid HB3.out.drew
     go_region_law(refine step_app_rows (.tmp 28) (.tmp 32) 48 rfl Tryz.refItemTyK (by decide) (by simp [Region.wanted]) w.heap.size (.slice A2 at_ c2) at_ (itCs (l.take at_)) (by simp [Act.eval,Act.put]) (by exact HOd.out) (some ⟨b,off,none⟩) (n-c) 0 (itCs (l.drop c)) (by simp [Act.eval,Act.put]) (by exact HDr.out _ HBd.out) hone2 (by omega) (by decide) (by exact HBd.out.size) ?_;intro v9 w9 hO9 hB9 hK9;obtain⟨A9,c9,hv9,_,_⟩:=own_rdk hO9;subst hv9;have HO9:=Lib.hid hO9;have HB9:=Lib.hid (HBd.out.trans hB9);clear hO9 hB9 hK9;have z9:=HCe.out _ HB9.out)
     all_goals(
      go_wp2_with fail
      refine bodyPost_ret (v:= .tuple #[.slice A9 (at_+(n-c)) c9,.int .u64 (v.toNat:Int),.int .i64 0]) (by simp [results,Tryz.results19,go_sem]) rfl ?_
      exact HEnd.out _ _ HO9.out HB9.out)
    ·have HDr:=hdrop _ (fun h=>absurd h hq) (fun _=>rfl)
     clear hdrop
     have hq5:decide (c=to)=false:=decide_eq_false hq
     go_enter Tryz.func19,Tryz.ntmps19
     go_wp2_with fail
     refine HF.out.mono ?_
     rintro e w1⟨rfl,hdr⟩
     have hb1:=hdr.below w.heap.size
     have hbn:Below w1.heap.size w1 (w1.alloc (.cells #[] 117)):=(Below.refl _ _).alloc (Nat.le_refl _) _
     have HB2:=Lib.hid (hb1.trans (hbn.mono hb1.size))
     have HO1:Hid ((w1.alloc (.cells #[] 117)).ownsRow w.heap.size 117 2 (.slice (some ⟨w1.heap.size,0,none⟩) 0 0) 0 []):=Lib.hid (by
      refine⟨rfl,.inr ⟨w1.heap.size,0,#[],rfl,hb1.size,heap_alloc_new _ _,Nat.le_refl _,by decide,rfl,rfl⟩⟩)
     clear hdr hbn hb1 HF
     go_wp2_with(at_builtin;refine wpList_app_rows rfl (.tmp 23) (.tmp 26) 48 rfl Tryz.refItemTyK (by decide) w.heap.size _ 0 [] rfl (by exact HO1.out) _ at_ _ (itCs (l.take at_)) rfl (by exact HTk.out _ HB2.out) hone1 (by omega) (by decide) (by exact HB2.out.size) ?_;intro v2 w2 hO2 hB2 hK2;rw [Nat.zero_add,List.nil_append]at hO2;obtain⟨A2,c2,hv2,_,_⟩:=own_rdk hO2;subst hv2;have HO2:=Lib.hid hO2;have HB3:=Lib.hid (HB2.out.trans hB2);clear hO2 hB2 hK2;have z1:=HCe.out _ HB3.out)
     have HOd:=Lib.hid (own_drew HO2.out)
     have HBd:=Lib.hid HB3.out.drew
     go_region_law(refine step_app_rows (.tmp 28) (.tmp 32) 48 rfl Tryz.refItemTyK (by decide) (by simp [Region.wanted]) w.heap.size (.slice A2 at_ c2) at_ (itCs (l.take at_)) (by simp [Act.eval,Act.put]) (by exact HOd.out) (some ⟨b,off+to*2,none⟩) (n-to) (c-to) (itCs (l.drop to)) (by simp [Act.eval,Act.put]) (by exact HDr.out _ HBd.out) hone2 (by omega) (by decide) (by exact HBd.out.size) ?_;intro v9 w9 hO9 hB9 hK9;obtain⟨A9,c9,hv9,_,_⟩:=own_rdk hO9;subst hv9;have HO9:=Lib.hid hO9;have HB9:=Lib.hid (HBd.out.trans hB9);clear hO9 hB9 hK9;have z9:=HCe.out _ HB9.out)
     all_goals(
      go_wp2_with fail
      refine bodyPost_ret (v:= .tuple #[.slice A9 (at_+(n-to)) c9,.int .u64 (v.toNat:Int),.int .i64 0]) (by simp [results,Tryz.results19,go_sem]) rfl ?_
      exact HEnd.out _ _ HO9.out HB9.out)
end Go.Proofs.YtfhagbcfbbggeaaGreatDoor
