import Derived.Test.YtdjfbnoolfpcnaaGreatDoorG04
import Derived.Test.YtdjfbnoolfpcnaaGreatDoorG11
import Derived.Test.YtdjfbnoolfpcnaaGreatDoorG12
import Derived.Test.YtdjfbnoolfpcnaaGreatDoorG13
import Derived.Test.YtdjfbnoolfpcnaaGreatDoorG14
namespace Go.Proofs.YtdjfbnoolfpcnaaGreatDoor
theorem nib_less{a b c d:UInt8}(ha:a.toNat<16)(hb:b.toNat<16)(hc:c.toNat<16)(hd:d.toNat<16):(a*16+b<c*16+d)↔(a<c∨(a=c∧b<d)):=by
 have h1:(a*16+b).toNat=a.toNat*16+b.toNat:=by
  simp only [UInt8.toNat_add,UInt8.toNat_mul];have:(16:UInt8).toNat=16:=rfl;rw [this];omega
 have h2:(c*16+d).toNat=c.toNat*16+d.toNat:=by
  simp only [UInt8.toNat_add,UInt8.toNat_mul];have:(16:UInt8).toNat=16:=rfl;rw [this];omega
 rw [UInt8.lt_iff_toNat_lt,UInt8.lt_iff_toNat_lt,UInt8.lt_iff_toNat_lt,h1,h2,←UInt8.toNat_inj];omega
theorem nib_same{a b c d:UInt8}(ha:a.toNat<16)(hb:b.toNat<16)(hc:c.toNat<16)(hd:d.toNat<16):(a*16+b=c*16+d)↔(a=c∧b=d):=by
 constructor
 ·intro h;have h1:=nib_pair a b ha hb;have h2:=nib_pair c d hc hd;rw [h]at h1;exact⟨h1.1.symm.trans h2.1,h1.2.symm.trans h2.2⟩
 ·rintro⟨rfl,rfl⟩;rfl
theorem pairs_less:∀(a b:List UInt8),a.length%2=0→b.length%2=0→a.all isNib=true→b.all isNib=true→Op.bytesLess (pairs a) (pairs b)=Op.bytesLess a b
 | [],[],_,_,_,_=>rfl
 | [],[_],_,h,_,_=>by simp at h
 | [],_::_::_,_,_,_,_=>by simp [pairs,Op.bytesLess]
 | [_],_,h,_,_,_=>by simp at h
 | _::_::_,[],_,_,_,_=>by simp [pairs,Op.bytesLess]
 | _::_::_,[_],_,h,_,_=>by simp at h
 | x::y::a,z::u::b,h1,h2,h3,h4=>by
   simp only [List.all_cons,Bool.and_eq_true]at h3 h4;have i1:x.toNat<16:=by simpa [isNib]using h3.1
   have i2:y.toNat<16:=by simpa [isNib]using h3.2.1
   have i3:z.toNat<16:=by simpa [isNib]using h4.1
   have i4:u.toNat<16:=by simpa [isNib]using h4.2.1
   have ih:=pairs_less a b (by simp only [List.length_cons]at h1;omega) (by simp only [List.length_cons]at h2;omega) h3.2.2 h4.2.2;have e1:=nib_less i1 i2 i3 i4;have e2:=nib_same i1 i2 i3 i4;rw [Bool.eq_iff_iff];simp only [pairs,Op.bytesLess,ih,Bool.or_eq_true,Bool.and_eq_true,decide_eq_true_eq,beq_iff_eq,e1,e2];constructor
   ·rintro((h| ⟨h,k⟩)| ⟨⟨h,k⟩,l⟩)
    ·exact .inl h
    ·exact .inr ⟨h,.inl k⟩
    ·exact .inr ⟨h,.inr ⟨k,l⟩⟩
   ·rintro(h| ⟨h,k| ⟨k,l⟩⟩)
    ·exact .inl (.inl h)
    ·exact .inl (.inr ⟨h,k⟩)
    ·exact .inr ⟨⟨h,k⟩,l⟩
theorem nodup_sub_len{α:Type} [DecidableEq α]:∀(l1 l2:List α),l1.Nodup→(∀x∈l1,x∈l2)→l1.length≤l2.length
 | [],_,_,_=>by simp
 | a::t,l2,hn,hs=>by
   obtain⟨h1,h2⟩:=List.nodup_cons.1 hn;have ha:=hs a (List.mem_cons_self ..);have ih:=nodup_sub_len t (l2.erase a) h2 (fun x hx=>(List.mem_erase_of_ne (fun e:x=a=>h1 (by rw [←e];exact hx))).2 (hs x (List.mem_cons_of_mem _ hx)));rw [List.length_erase_of_mem ha]at ih;have:=List.length_pos_of_mem ha;rw [List.length_cons];omega
section
variable{X:Nat→Prop}{L:Nat}{s:St}{items:List Kv}
theorem IxX.up(h:IxX X L s items):UpK items:=by
 rcases h.tree with⟨_,h2,_⟩| ⟨_,_,T,_⟩
 ·rw [h2];exact List.Pairwise.nil
 ·exact T.up h.ok
theorem upK_nodup{l:List Kv}(h:UpK l):l.Nodup:=h.imp fun{a b}hab e=>by rw [e,bless_irrefl]at hab;cases hab
theorem keyOk_parts{k:List UInt8}(h:keyOk k=true):k.length%2=0∧k.all isNib=true:=by
 unfold keyOk at h;rw [Bool.and_eq_true,decide_eq_true_eq]at h;exact h
def kvIt(kv:Kv):It:=toIt (pairs kv.1,kv.2)
theorem bytes_list(l:List UInt8):(⟨l.toArray⟩:ByteArray).toList=l:=by rw [ByteArray.toList_eq]
theorem kvIt_key(kv:Kv):(kvIt kv).k.toList=pairs kv.1:=bytes_list _
theorem all_ok(h:IxX X L s items):allK s=some (items.map kvIt):=by
 obtain⟨met,h1,_⟩:=survey_x h;unfold allK;rw [h1];simp only [Option.map_some,List.map_map];rfl
theorem all_up(h:IxX X L s items):Up (items.map kvIt):=by
 unfold Up;rw [List.pairwise_map];refine h.up.imp_of_mem fun{a b}ha hb hab=> ?_
 obtain⟨a1,a2⟩:=keyOk_parts (h.even a ha);obtain⟨b1,b2⟩:=keyOk_parts (h.even b hb);unfold lessK;rw [kvIt_key,kvIt_key,pairs_less _ _ a1 b1 a2 b2];exact hab
theorem put_len{items':List Kv}{k:List UInt8}{v:UInt64}(h':UpK items')(hp:PutIs items items' k v):items'.length≤items.length+1:=by
 have:=nodup_sub_len items' ((k,v)::items) (upK_nodup h') (fun x hx=>by
  rcases(hp x).1 hx with rfl| h
  ·exact List.mem_cons_self ..
  ·exact List.mem_cons_of_mem _ h.1)
 simpa using this
theorem st0_ok{sh:Sh}(hL:L≤1024)(hs:shapeOf L=some sh):IxOk L (st0 sh) []:=by
 have hok:=shape_ok hs;have htk:∀i,tkN (st0 sh) i=0:=fun i=>by
  unfold tkN st0;simp only [List.getD_eq_getElem?_getD,List.getElem?_replicate];split<;>rfl
 have hhd:∀i,hdN (st0 sh) i=0:=fun i=>by
  unfold hdN st0;simp only [List.getD_eq_getElem?_getD,List.getElem?_replicate];split<;>rfl
 have hws:∀i,8≤i→(st0 sh).ws i=0:=fun i hi=>by
  show putWs (fun _=>0) 0 (wordsOf sh) i=0;unfold putWs;rw [if_neg];simp [wordsOf,headW];omega
 have hnt:∀o d,¬TakenAt (st0 sh) o d:=fun o d=>by
  rintro⟨i,a,_,ha,_⟩;rw [htk,has_zero]at ha;cases ha
 refine⟨⟨hok,hL,by simp [st0],by simp [st0],fun i _=> .inl (htk i),fun i _=> .inl (hhd i),fun i _=> .inl (htk i),fun i a _ ha=> ?_,fun i _=> ?_⟩,fun o d=> ?_,.inl ⟨hws 9 (by decide),rfl,fun o=>⟨fun⟨d,hd⟩=>hnt o d hd,fun h=>h.elim⟩⟩,fun _ h=>by cases h⟩
 ·rw [htk,has_zero]at ha;cases ha
 ·rw [hws _ (by omega)];show _=(List.replicate sh.slabs (0:UInt64)).getD i 0;simp only [List.getD_eq_getElem?_getD,List.getElem?_replicate];split<;>rfl
 ·rintro⟨i,a,_,ha,_⟩;rw [hhd,has_zero]at ha;cases ha
end
theorem rise_ext{α:Type}{r:α→α→Prop}(hi:∀x,¬r x x)(hs:∀x y,r x y→¬r y x):∀(a b:List α),a.Pairwise r→b.Pairwise r→(∀x,x∈a↔x∈b)→a=b
 | [],[],_,_,_=>rfl
 | [],y::b,_,_,h=>absurd ((h y).2 (List.mem_cons_self ..)) (fun h=>nomatch h)
 | x::a,[],_,_,h=>absurd ((h x).1 (List.mem_cons_self ..)) (fun h=>nomatch h)
 | x::a,y::b,ha,hb,h=>by
   obtain⟨ha1,ha2⟩:=List.pairwise_cons.1 ha;obtain⟨hb1,hb2⟩:=List.pairwise_cons.1 hb;have e:x=y:=by
    rcases List.mem_cons.1 ((h x).1 (List.mem_cons_self ..))with e| h1
    ·exact e
    ·rcases List.mem_cons.1 ((h y).2 (List.mem_cons_self ..))with e| h2
     ·exact e.symm
     ·exact absurd (ha1 y h2) (hs y x (hb1 x h1))
   subst e;refine congrArg (List.cons x) (rise_ext hi hs a b ha2 hb2 fun z=> ?_);constructor
   ·intro hz;rcases List.mem_cons.1 ((h z).1 (List.mem_cons_of_mem _ hz))with e| h1
    ·subst e;exact absurd (ha1 z hz) (hi z)
    ·exact h1
   ·intro hz;rcases List.mem_cons.1 ((h z).2 (List.mem_cons_of_mem _ hz))with e| h1
    ·subst e;exact absurd (hb1 z hz) (hi z)
    ·exact h1
def itP(x:It):List UInt8×UInt64:=(x.k.toList,x.v)
def lessP(a b:List UInt8×UInt64):Prop:=Op.bytesLess a.1 b.1=true
theorem lessP_irr(x:List UInt8×UInt64):¬lessP x x:=by unfold lessP;rw [bless_irrefl];decide
theorem lessP_asym(x y:List UInt8×UInt64)(h:lessP x y):¬lessP y x:=fun k=>lessP_irr x (bless_trans _ _ _ h k)
theorem up_itP{l:List It}(h:Up l):(l.map itP).Pairwise lessP:=by
 rw [List.pairwise_map];exact h
theorem itP_same{a b:List It}(h:a.map itP=b.map itP):a.length=b.length∧∀j(h1:j<a.length)(h2:j<b.length),(a[j].k.toList==b[j].k.toList)=true∧a[j].v.toNat=b[j].v.toNat:=by
 have hl:a.length=b.length:=by simpa using congrArg List.length h
 refine⟨hl,fun j h1 h2=> ?_⟩;have:=congrArg (fun l=>l[j]?) h;simp only [List.getElem?_map,List.getElem?_eq_getElem h1,List.getElem?_eq_getElem h2,Option.map_some,Option.some.injEq]at this;injection this with e1 e2
 exact⟨by rw [e1];simp,by rw [e2]⟩
def cutR(l:List It)(key:ByteArray):List It×UInt64×Int:=
 if 16<key.size then(l,0,3)else if isR l key then(l.take (findR l key)++l.drop (findR l key+1),((l[findR l key]?).map (·.v)).getD 0,0)else(l,0,7)
section
variable{l:List It}{key:ByteArray}
theorem findR_less(j:Nat)(h:j<l.length)(hj:j<findR l key):Op.bytesLess l[j].k.toList key.toList=true:=by
 unfold findR at hj;have:=List.not_of_lt_findIdx hj;simpa using this
theorem findR_not(h:findR l key<l.length):Op.bytesLess l[findR l key].k.toList key.toList=false:=by
 have h1:=List.findIdx_getElem (xs:=l) (p:=fun x:It=> !Op.bytesLess x.k.toList key.toList) (w:=h);have h2:(!Op.bytesLess l[findR l key].k.toList key.toList)=true:=h1;simpa using h2
theorem find_split (hu : Up l) : (∀ x ∈ l.take (findR l key), Op.bytesLess x.k.toList key.toList = true) ∧ (∀ x ∈ l.drop (findR l key + if isR l key then 1 else 0), Op.bytesLess key.toList x.k.toList = true) ∧
    (isR l key = true → ∃ (h : findR l key < l.length), l[findR l key].k.toList = key.toList) ∧ (isR l key = false → ∀ x ∈ l, x.k.toList ≠ key.toList) := by
  have hpw := List.pairwise_iff_getElem.1 hu
  have hlt : ∀ x ∈ l.take (findR l key), Op.bytesLess x.k.toList key.toList = true := fun x hx => by
    obtain ⟨j, hj, rfl⟩ := List.getElem_of_mem hx
    simp only [List.length_take] at hj
    rw [List.getElem_take]
    exact findR_less j (by omega) (by omega)
  have hge : ∀ j (h : j < l.length), findR l key < j → Op.bytesLess key.toList l[j].k.toList = true := fun j h hj => by
    have h1 := findR_not (l := l) (key := key) (by omega)
    have h2 : Op.bytesLess l[findR l key].k.toList l[j].k.toList = true := hpw (findR l key) j (by omega) h hj
    cases h3 : Op.bytesLess key.toList l[findR l key].k.toList with
    | true => exact bless_trans _ _ _ h3 h2
    | false => rw [← (bless_total _ _ h3).resolve_left (by rw [h1]; decide)] at h2; exact h2
  have his : isR l key = true → ∃ (h : findR l key < l.length), l[findR l key].k.toList = key.toList := fun h => by
    have hlt := isR_lt h
    refine ⟨hlt, ?_⟩
    unfold isR at h
    rw [List.getElem?_eq_getElem hlt] at h
    exact eq_of_beq h
  have hno : isR l key = false → ∀ (h : findR l key < l.length), l[findR l key].k.toList ≠ key.toList := fun h hlt e => by
    unfold isR at h
    rw [List.getElem?_eq_getElem hlt] at h
    simp [e] at h
  refine ⟨hlt, fun x hx => ?_, his, fun h x hx e => ?_⟩
  · obtain ⟨j, hj, rfl⟩ := List.getElem_of_mem hx
    simp only [List.length_drop] at hj
    rw [List.getElem_drop]
    by_cases hz : (findR l key + if isR l key then 1 else 0) + j = findR l key
    · have hf : isR l key = false := by
        cases h : isR l key with
        | false => rfl
        | true => rw [h, if_pos rfl] at hz; omega
      have hl : findR l key < l.length := by omega
      have h1 := findR_not (l := l) (key := key) hl
      have h2 := hno hf hl
      have : l[(findR l key + if isR l key then 1 else 0) + j]'(by omega) = l[findR l key] := by congr 1
      rw [this]
      cases h3 : Op.bytesLess key.toList l[findR l key].k.toList with
      | true => rfl
      | false => exact absurd ((bless_total _ _ h3).resolve_left (by rw [h1]; decide)).symm h2
    · exact hge _ (by omega) (by omega)
  · obtain ⟨j, hj, rfl⟩ := List.getElem_of_mem hx
    rcases Nat.lt_trichotomy j (findR l key) with g | g | g
    · have := findR_less j hj g
      rw [e, bless_irrefl] at this; cases this
    · subst g; exact hno h hj e
    · have := hge j hj g
      rw [e, bless_irrefl] at this; cases this
theorem cut_find(h:isR l key=true):l=l.take (findR l key)++l[findR l key]'(isR_lt h)::l.drop (findR l key+1):=by
 have:=(List.take_append_drop (findR l key) l).symm;rw [List.drop_eq_getElem_cons (isR_lt h)]at this;exact this
theorem putR_ok(hu:Up l){v:UInt64}(h16:¬16<key.size)(hv:v.toNat≠0):(putR l key v).2=0∧((putR l key v).1.map itP).Pairwise lessP∧∀x,x∈(putR l key v).1.map itP↔x=(key.toList,v)∨(x∈l.map itP∧x.1≠key.toList):=by
 obtain⟨h1,h2,h3,h4⟩:=find_split (key:=key) hu;unfold putR;rw [if_neg h16,if_neg hv];refine⟨rfl,?_,fun x=> ?_⟩
 ·rw [List.pairwise_map];refine List.pairwise_append.2 ⟨List.Pairwise.sublist (List.take_sublist _ _) hu,List.pairwise_cons.2 ⟨fun y hy=>h2 y hy,List.Pairwise.sublist (List.drop_sublist _ _) hu⟩,fun a ha b hb=> ?_⟩;rcases List.mem_cons.1 hb with rfl| hb
  ·exact h1 a ha
  ·exact bless_trans _ _ _ (h1 a ha) (h2 b hb)
 ·simp only [List.mem_map,List.mem_append,List.mem_cons];constructor
  ·rintro⟨y,hy| rfl| hy,rfl⟩
   ·exact .inr ⟨⟨y,List.mem_of_mem_take hy,rfl⟩,fun e=>by have:=h1 y hy;have e:y.k.toList=key.toList:=e;rw [e,bless_irrefl]at this;cases this⟩
   ·exact .inl rfl
   ·exact .inr ⟨⟨y,List.mem_of_mem_drop hy,rfl⟩,fun e=>by have:=h2 y hy;have e:y.k.toList=key.toList:=e;rw [e,bless_irrefl]at this;cases this⟩
  ·rintro(rfl| ⟨⟨y,hy,rfl⟩,hne⟩)
   ·exact⟨⟨key,v⟩,.inr (.inl rfl),rfl⟩
   ·refine⟨y,?_,rfl⟩;cases hi:isR l key with
    | false=>
      rw [if_neg (by decide),Nat.add_zero];rw [←List.take_append_drop (findR l key) l]at hy;exact(List.mem_append.1 hy).imp id .inr
    | true=>
      rw [if_pos rfl];rw [cut_find hi]at hy;rcases List.mem_append.1 hy with g| g
      ·exact .inl g
      ·rcases List.mem_cons.1 g with g| g
       ·obtain⟨_,e⟩:=h3 hi;exact absurd (by unfold itP;rw [g];exact e) hne
       ·exact .inr (.inr g)
theorem cutR_ok(hu:Up l)(h16:¬16<key.size)(hi:isR l key=true):((cutR l key).1.map itP).Pairwise lessP∧∀x,x∈(cutR l key).1.map itP↔x∈l.map itP∧x.1≠key.toList:=by
 obtain⟨h1,h2,h3,h4⟩:=find_split (key:=key) hu;rw [hi,if_pos rfl]at h2;obtain⟨hlt,hk⟩:=h3 hi;unfold cutR;rw [if_neg h16,if_pos hi];refine⟨?_,fun x=> ?_⟩
 ·rw [List.pairwise_map];refine List.pairwise_append.2 ⟨List.Pairwise.sublist (List.take_sublist _ _) hu,List.Pairwise.sublist (List.drop_sublist _ _) hu,fun a ha b hb=>bless_trans _ _ _ (h1 a ha) (h2 b hb)⟩
 ·simp only [List.mem_map,List.mem_append];constructor
  ·rintro⟨y,hy| hy,rfl⟩
   ·exact⟨⟨y,List.mem_of_mem_take hy,rfl⟩,fun e=>by have:=h1 y hy;have e:y.k.toList=key.toList:=e;rw [e,bless_irrefl]at this;cases this⟩
   ·exact⟨⟨y,List.mem_of_mem_drop hy,rfl⟩,fun e=>by have:=h2 y hy;have e:y.k.toList=key.toList:=e;rw [e,bless_irrefl]at this;cases this⟩
  ·rintro⟨⟨y,hy,rfl⟩,hne⟩;refine⟨y,?_,rfl⟩;rw [cut_find hi]at hy;rcases List.mem_append.1 hy with g| g
   ·exact .inl g
   ·rcases List.mem_cons.1 g with g| g
    ·exact absurd (by unfold itP;rw [g];exact hk) hne
    ·exact .inr g
end
section
variable{L:Nat}{s:St}{items items':List Kv}
theorem kv_itP(items:List Kv):(items.map kvIt).map itP=items.map fun kv=>(pairs kv.1,kv.2):=by
 rw [List.map_map];refine List.map_congr_left fun kv _=> ?_
 show(((kvIt kv).k.toList,(kvIt kv).v):List UInt8×UInt64)=_;rw [kvIt_key];rfl
theorem pairs_inj{a b:List UInt8}(ha:keyOk a=true)(hb:keyOk b=true)(h:pairs a=pairs b):a=b:=by
 obtain⟨a1,a2⟩:=keyOk_parts ha;obtain⟨b1,b2⟩:=keyOk_parts hb;rw [←nibs_pairs a a1 a2,←nibs_pairs b b1 b2,h]
theorem put_same(h:IxOk L s items)(h':IxOk L s items→∃Y s',IxX Y L s' items')(key:ByteArray){v:UInt64}(h16:¬16<key.size)(hv:v.toNat≠0)(hp:PutIs items items' (nibs key.data.toList) v):(items'.map kvIt).map itP=(putR (items.map kvIt) key v).1.map itP:=by
 obtain⟨Y,s',hs'⟩:=h' h;obtain⟨_,h2,h3⟩:=putR_ok (key:=key) (all_up h) h16 hv;have hkl:key.toList=key.data.toList:=by rw [ByteArray.toList_eq]
 have hpk:pairs (nibs key.data.toList)=key.toList:=by rw [pairs_nibs,hkl]
 refine rise_ext lessP_irr lessP_asym _ _ (up_itP (all_up hs')) h2 fun x=> ?_
 rw [h3,kv_itP,kv_itP];simp only [List.mem_map];constructor
 ·rintro⟨kv,hkv,rfl⟩;rcases(hp kv).1 hkv with rfl| ⟨g1,g2⟩
  ·left;rw [hpk]
  ·exact .inr ⟨⟨kv,g1,rfl⟩,fun e=>g2 (pairs_inj (h.even kv g1) (keyOk_nib _) (by rw [hpk];exact e))⟩
 ·rintro(rfl| ⟨⟨kv,g1,rfl⟩,g2⟩)
  ·exact⟨(nibs key.data.toList,v),(hp _).2 (.inl rfl),by rw [hpk]⟩
  ·exact⟨kv,(hp kv).2 (.inr ⟨g1,fun e=>g2 (by simp only [e];exact hpk)⟩),rfl⟩
theorem isR_mem(h:IxOk L s items)(key:ByteArray):isR (items.map kvIt) key=true↔∃v,(nibs key.data.toList,v)∈items:=by
 obtain⟨_,_,h3,h4⟩:=find_split (key:=key) (all_up h);have hkl:key.toList=key.data.toList:=by rw [ByteArray.toList_eq]
 have hpk:pairs (nibs key.data.toList)=key.toList:=by rw [pairs_nibs,hkl]
 constructor
 ·intro hi;obtain⟨hlt,e⟩:=h3 hi;have hl:findR (items.map kvIt) key<items.length:=by simpa using hlt
  rw [List.getElem_map,kvIt_key]at e;refine⟨items[findR (items.map kvIt) key].2,?_⟩;have:nibs key.data.toList=items[findR (items.map kvIt) key].1:=pairs_inj (keyOk_nib _) (h.even _ (List.getElem_mem hl)) (by rw [hpk,e]);rw [this];exact List.getElem_mem hl
 ·rintro⟨v,hv⟩;cases hi:isR (items.map kvIt) key with
  | true=>rfl
  | false=>
    exact absurd (by rw [kvIt_key,hpk]) (h4 hi (kvIt (nibs key.data.toList,v)) (List.mem_map_of_mem hv))
theorem cut_same(h:IxOk L s items){Y:Nat→Prop}{s':St}(hs':IxX Y L s' items')(key:ByteArray)(h16:¬16<key.size)(hi:isR (items.map kvIt) key=true)(hp:CutIs items items' (nibs key.data.toList)):(items'.map kvIt).map itP=(cutR (items.map kvIt) key).1.map itP:=by
 obtain⟨h2,h3⟩:=cutR_ok (key:=key) (all_up h) h16 hi;have hkl:key.toList=key.data.toList:=by rw [ByteArray.toList_eq]
 have hpk:pairs (nibs key.data.toList)=key.toList:=by rw [pairs_nibs,hkl]
 refine rise_ext lessP_irr lessP_asym _ _ (up_itP (all_up hs')) h2 fun x=> ?_
 rw [h3,kv_itP,kv_itP];simp only [List.mem_map];constructor
 ·rintro⟨kv,hkv,rfl⟩;obtain⟨g1,g2⟩:=(hp kv).1 hkv;exact⟨⟨kv,g1,rfl⟩,fun e=>g2 (pairs_inj (h.even kv g1) (keyOk_nib _) (by rw [hpk];exact e))⟩
 ·rintro⟨⟨kv,g1,rfl⟩,g2⟩;exact⟨kv,(hp kv).2 ⟨g1,fun e=>g2 (by simp only [e];exact hpk)⟩,rfl⟩
theorem mem_listW{w:Nat}{a:Nat}(ok:OkW w):a∈listW w↔hasW w a=true:=by
 unfold listW;rw [List.mem_filter,List.mem_range];refine⟨fun h=>h.2,fun h=>⟨?_,h⟩⟩;obtain⟨c,hc,ha,_⟩:=ok.has_lt h;rw [hc.class];exact ha
theorem mem_allP(ok:PoolOk L s)(o:Nat):o∈allP s↔∃d,TakenAt s o d:=by
 unfold allP;rw [List.mem_flatMap];constructor
 ·rintro⟨i,hi,ho⟩;rw [List.mem_range,ok.ntk]at hi;obtain⟨a,ha,rfl⟩:=List.mem_map.1 ho;exact⟨_,i,a,hi,(mem_listW (ok.tk i hi)).1 ha,rfl,rfl⟩
 ·rintro⟨d,i,a,hi,ha,rfl,rfl⟩;exact⟨i,by rw [List.mem_range,ok.ntk];exact hi,List.mem_map.2 ⟨a,(mem_listW (ok.tk i hi)).2 ha,rfl⟩⟩
theorem listW_up(w:Nat):(listW w).Pairwise (·<·):=by
 unfold listW;exact List.Pairwise.filter _ List.pairwise_lt_range
theorem allP_up(ok:PoolOk L s):(allP s).Pairwise (·<·):=by
 unfold allP;rw [List.flatMap_def,List.pairwise_flatten];refine⟨fun l hl=> ?_,?_⟩
 ·obtain⟨i,hi,rfl⟩:=List.mem_map.1 hl;rw [List.mem_range,ok.ntk]at hi;rw [List.pairwise_map];refine(listW_up (tkN s i)).imp_of_mem fun{a b}ha hb hab=> ?_
  obtain⟨c,hc,_,_⟩:=(ok.tk i hi).has_lt ((mem_listW (ok.tk i hi)).1 ha);have hc0:0<64*linesN (classW (tkN s i)):=by
   rw [hc.class];have:=(lines_blocks hc.cls).2.1;omega
  unfold placeN;have:=Nat.mul_lt_mul_of_pos_left hab hc0;omega
 ·rw [List.pairwise_map];refine List.pairwise_lt_range.imp_of_mem fun{i j}hi hj hij x hx y hy=> ?_
  rw [List.mem_range,ok.ntk]at hi hj;obtain⟨a,ha,rfl⟩:=List.mem_map.1 hx;obtain⟨b,hb,rfl⟩:=List.mem_map.1 hy;obtain⟨c,hc,ha',_⟩:=(ok.tk i hi).has_lt ((mem_listW (ok.tk i hi)).1 ha);rw [hc.class];have:=(place_in (sh:=s.sh) (i:=i) hc.cls ha').2;have h2:s.sh.data+1024*j≤placeN s.sh j (classW (tkN s j)) b:=by unfold placeN;omega
  have h3:=(lines_blocks hc.cls).2.1;omega
end
theorem all_len{L:Nat}{s:St}(ok:PoolOk L s):(allP s).length≤65537:=by
 have hn:(allP s).Nodup:=(allP_up ok).imp (fun{a b}hab=>by omega);have hle:=nodup_sub_len (allP s) (List.range 65537) hn (fun o ho=>by
  obtain⟨d,hd⟩:=(mem_allP ok o).1 ho;have:=(hd.bounds ok).2.1;have:=ok.L1;exact List.mem_range.2 (by omega))
 rwa [List.length_range]at hle
open Go.RowKit
set_option maxHeartbeats 4000000 in
set_option maxRecDepth 100000 in
theorem ours10(l:List It)(A:Option Addr)(c:Nat)(w:World)(hl:l.length≤100000)(h:ItR w A l):Calls Tryz.prog 12 #[.slice A l.length c] w fun e w'=>
 ∃v,e= .returned v∧w'.ownsRow w.heap.size 96 2 v l.length (itCs l)∧Below w.heap.size w w':=by
 have HR:=Lib.hid h;clear h;go_enter Tryz.func12,Tryz.ntmps12
 go_wp2_with fail
 go_loopw [3,8](fun u i wr=>∃k:Nat,k≤l.length∧i= .int .i64 (k:Nat)∧wr.ownsRow w.heap.size 96 2 u k (itCs (l.take k))∧Below w.heap.size w wr)(fun _ i _=>l.length- (intOf i).toNat)
 case atStart=>exact⟨0,Nat.zero_le _,rfl,World.ownsRow_nil _ _ _ _,Below.refl _ _⟩
 case round=>
  obtain⟨k,hk,rfl,hown,hb⟩:=hrel;have HO:=Lib.hid hown;have HB:=Lib.hid hb;clear hown hb;by_cases hlt:k<l.length
  ·obtain⟨b,off,rfl,hbw,q1,q2⟩:=(HR.out.below HB.out).at k hlt;have hx1:(k:Int)<(l.length:Int):=by omega
   have hx2:decide ((k:Int)<(l.length:Int))=true:=decide_eq_true hx1;have hwk:IntKind.i64.wrap ((k:Int)+1)=(k:Int)+1:=wrap64 _ (by omega) (by omega);have HTk:Hid (itCs (l.take (k+1))=itCs (l.take k)++itC l[k]):=Lib.hid (by rw [List.take_succ_eq_append_getElem hlt,itCs_app]);generalize l[k]=it at*;obtain⟨w2,hw2⟩:∃w2,w2=wr.alloc (.cells #[.string it.k,.int .u64 (it.v.toNat:Int)] 61):=⟨_,rfl⟩;have hb12:Below wr.heap.size wr w2:=hw2▸(Below.refl _ _).alloc (Nat.le_refl _) _;have HB2:=Lib.hid (HB.out.trans (hb12.mono HB.out.size));have HO2:=Lib.hid (own_stay HO.out (Kept.of_below (r:=none) hb12) (by
    rcases HO.out.2 with⟨h1,_⟩| ⟨g,cap,cur,h1,_⟩
    ·exact .inr (by subst h1;rfl)
    ·exact .inl (by subst h1;exact fun e=>nomatch e)))
   have hbs:w.heap.size≤w2.heap.size:=HB2.out.size;rw [hw2]at hbs HB2 HO2;clear hb12 hw2
   go_wp2_with(at_builtin;refine wpList_app_one rfl (.tmp 12) (.tmp 14) 44 rfl Tryz.refItemTyK _ w.heap.size u3 k (itCs (l.take k)) [.string it.k,.int .u64 (it.v.toNat:Int)] rfl (by exact HO2.out) rfl (wr.heap.size+1) 1 rfl (by simp) rfl (by decide) (by intro u hu;simp at hu;rcases hu with rfl| rfl<;>rfl) (by omega) (by decide) hbs ?_;intro g6 c6 w6 hO6 hB6 hK6 hg6)
   have HO6:=Lib.hid hO6;have HB6:=Lib.hid (HB2.out.trans hB6);clear hO6 hB6 hK6 hg6
   go_wp2_with fail
   go_roundw
   case rel=>exact⟨k+1,by omega,by go_num,by rw [HTk.out];exact HO6.out,HB6.out⟩
   case measure=>simp [intOf];omega
  ·have hkn:k=l.length:=by omega
   subst hkn;have HO2:Hid (wr.ownsRow w.heap.size 96 2 u3 l.length (itCs l)):=Lib.hid (by have:=HO.out;rwa [List.take_length]at this)
   go_wp2_with fail
   go_ret;exact⟨_,rfl,HO2.out,HB.out⟩
def iv10(l:List Int):List Value:=l.map (Value.int .i64)
theorem flat3_get{α:Type}(f:α→List Value)(m:Nat)(hf:∀a,(f a).length=m):∀(l:List α)(k i:Nat)(hk:k<l.length),i<m→((l.map f).flatten)[k*m+i]? =(f l[k])[i]?
 | a::t,0,i,_,hi=>by
   rw [List.map_cons,List.flatten_cons,Nat.zero_mul,Nat.zero_add,List.getElem?_append_left (by rw [hf];exact hi)];rfl
 | a::t,k+1,i,hk,hi=>by
   rw [List.map_cons,List.flatten_cons,List.getElem?_append_right (by rw [hf,Nat.succ_mul];omega),hf,show(k+1)*m+i-m=k*m+i by rw [Nat.succ_mul];omega];exact flat3_get f m hf t k i (by simpa using hk) hi
theorem flat3_len{α:Type}(f:α→List Value)(m:Nat)(hf:∀a,(f a).length=m):∀(l:List α),((l.map f).flatten).length=l.length*m
 | []=>by simp
 | a::t=>by
   have:=flat3_len f m hf t;rw [List.map_cons,List.flatten_cons,List.length_append,hf,this,List.length_cons,Nat.succ_mul];omega
structure Ac where
 kind:UInt8
 key:ByteArray
 n:UInt64
def acC(x:Ac):List Value:=[.int .u8 (x.kind.toNat:Int),.string x.key,.int .u64 (x.n.toNat:Int)]
def acCs(l:List Ac):List Value:=(l.map acC).flatten
theorem acCs_len(l:List Ac):(acCs l).length=l.length*3:=flat3_len acC 3 (fun _=>rfl) l
theorem ac_at{w:World}{A:Option Addr}{s:List Ac}(h:Rd w A (s.length*3) (acCs s))(k:Nat)(hk:k<s.length):∃b off,A=some ⟨b,off,none⟩∧b<w.heap.size∧w.cell? ⟨b,off+k*3,none⟩=some (.int .u8 (s[k].kind.toNat:Int))∧
 w.cell? ⟨b,off+k*3+1,none⟩=some (.string s[k].key)∧w.cell? ⟨b,off+k*3+2,none⟩=some (.int .u64 (s[k].n.toNat:Int)):=by
 obtain⟨b,off,rfl,hb,hc⟩:=h.2 (by omega);have hf:=flat3_get acC 3 (fun _=>rfl) s k;refine⟨b,off,rfl,hb,?_,?_,?_⟩
 ·have:=hc (k*3) (by omega);rw [this];exact hf 0 hk (by decide)
 ·have:=hc (k*3+1) (by omega);rw [Nat.add_assoc,this];exact hf 1 hk (by decide)
 ·have:=hc (k*3+2) (by omega);rw [Nat.add_assoc,this];exact hf 2 hk (by decide)
def heavyB(l:List Ac):Bool:=l.any (fun x=>decide (40<x.key.size))|| decide (100<l.length)
theorem heavy_out{l:List Ac}(h:heavyB l=false):l.length≤100∧∀x∈l,x.key.size≤40:=by
 unfold heavyB at h;rw [Bool.or_eq_false_iff,List.any_eq_false]at h;refine⟨by have:=of_decide_eq_false h.2;omega,fun x hx=> ?_⟩;have:=h.1 x hx;simp at this;omega
set_option maxHeartbeats 4000000 in
set_option maxRecDepth 100000 in
theorem heavy10(l:List Ac)(A:Option Addr)(c:Nat)(w:World)(hl:l.length≤9223372036854775807)(h:Rd w A (l.length*3) (acCs l)):Calls Tryz.prog 5 #[.slice A l.length c] w fun e w'=>e= .returned (.bool (heavyB l))∧Below w.heap.size w w':=by
 have HR:=Lib.hid h;clear h;go_enter Tryz.func5,Tryz.ntmps5
 go_wp2_with fail
 go_loopw [7](fun i wr=>∃k:Nat,k≤l.length∧i= .int .i64 (k:Nat)∧(∀j(hj:j<l.length),j<k→¬40<l[j].key.size)∧Below w.heap.size w wr)(fun i _=>l.length- (intOf i).toNat)
 case atStart=>exact⟨0,Nat.zero_le _,rfl,fun j _ h=>absurd h (by omega),Below.refl _ _⟩
 case round=>
  obtain⟨k,hkl,rfl,hall,hb⟩:=hrel;have HB:=Lib.hid hb;have HS:=Lib.hid hall;clear hb hall;by_cases hlt:k<l.length
  ·have hx1:(k:Int)<(l.length:Int):=by omega
   have hx2:decide ((k:Int)<(l.length:Int))=true:=decide_eq_true hx1;have hx5:decide (k<l.length)=true:=decide_eq_true hlt;obtain⟨b,off,rfl,hbw,q0,q1,q2⟩:=ac_at (Rd.below HR.out HB.out) k hlt;have hwk:IntKind.i64.wrap ((k:Int)+1)=(k:Int)+1:=IntWalk.i64_in _ (by omega);have HF:Hid (40<l[k].key.size→heavyB l=true):=Lib.hid (fun h=>by
    unfold heavyB;rw [Bool.or_eq_true,List.any_eq_true];exact .inl ⟨_,List.getElem_mem hlt,by simpa using h⟩)
   have HN:Hid (¬40<l[k].key.size→∀j(hj:j<l.length),j<k+1→¬40<l[j].key.size):=Lib.hid (fun h j hj hjk=>by
    by_cases e:j=k
    ·subst e;exact h
    ·exact HS.out j hj (by omega))
   generalize l[k]=x at*;obtain⟨W,hW⟩:∃W,W=wr.alloc (.cells #[.int .u8 (x.kind.toNat:Int),.string x.key,.int .u64 (x.n.toNat:Int)] 25):=⟨_,rfl⟩;have HB2:=Lib.hid (HB.out.trans ((show Below wr.heap.size wr W from hW▸(Below.refl _ _).alloc (Nat.le_refl _) _).mono HB.out.size));have HW:=Lib.hid hW;clear hW;by_cases h1:40<x.key.size
   ·have t1:decide ((40:Int)<(x.key.size:Int))=true:=decide_eq_true (by omega);have HF':=Lib.hid (HF.out h1);clear HF HN
    go_wp2_with fail
    go_ret;exact⟨by rw [HF'.out];rfl,HW.out▸HB2.out⟩
   ·have t1:decide ((40:Int)<(x.key.size:Int))=false:=decide_eq_false (by omega);have HN':=Lib.hid (HN.out h1);clear HF HN
    go_wp2_with fail
    go_roundw
    case rel=>exact⟨k+1,by omega,by go_num,HN'.out,HW.out▸HB2.out⟩
    case measure=>simp [intOf];omega
  ·have hx1:decide ((k:Int)<(l.length:Int))=false:=decide_eq_false (by omega);have hx5:decide (k<l.length)=false:=decide_eq_false hlt;have HF:Hid (heavyB l=decide ((100:Int)<(l.length:Int))):=Lib.hid (by
    unfold heavyB;rw [List.any_eq_false.2 (fun x hx=>by
     obtain⟨j,hj,rfl⟩:=List.getElem_of_mem hx;simpa using HS.out j hj (by omega)),Bool.false_or]
    rw [Bool.eq_iff_iff,decide_eq_true_iff,decide_eq_true_iff];omega)
   clear HS;by_cases h60:(100:Int)<(l.length:Int)
   ·have t1:decide ((100:Int)<(l.length:Int))=true:=decide_eq_true h60;rw [t1]at HF
    go_wp2_with fail
    go_ret;exact⟨by rw [HF.out];rfl,HB.out⟩
   ·have t1:decide ((100:Int)<(l.length:Int))=false:=decide_eq_false h60;rw [t1]at HF
    go_wp2_with fail
    go_ret;exact⟨by rw [HF.out];rfl,HB.out⟩
def CutRPost(r:List It×UInt64×Int)(A:Option Addr)(w:World)(e:Ending)(w':World):Prop:=
 ∃A' c',e= .returned (.tuple #[.slice A' r.1.length c',.int .u64 (r.2.1.toNat:Int),.int .i64 r.2.2])∧ItR w' A' r.1∧Below w.heap.size w w'∧(A'=A∨∀a,A'=some a→w.heap.size≤a.block)
theorem own_ge'{w:World}{base n k c:Nat}{A:Option Addr}{e:TypeId}{xs:List Value}(h:w.ownsRow base e k (.slice A n c) n xs):∀a,A=some a→base≤a.block:=fun a ea=>by
 rcases h.2 with⟨h1,_⟩| ⟨g,cap,cur,h1,h2,_⟩
 ·injection h1 with h1;rw [h1]at ea;cases ea
 ·injection h1 with h1;rw [h1]at ea;injection ea with ea;rw [←ea];exact h2
theorem own_drew{w:World}{base k n:Nat}{e:TypeId}{v:Value}{xs:List Value}(h:w.ownsRow base e k v n xs):w.drew.ownsRow base e k v n xs:=
 own_stay h (Kept.of_below (r:=none) ((Dr.drew w).below _)) (by
  rcases h.2 with⟨h1,_⟩| ⟨g,cap,cur,h1,_⟩
  ·exact .inr (by subst h1;rfl)
  ·exact .inl (by subst h1;exact fun e=>nomatch e))
set_option maxHeartbeats 1000000 in
set_option maxRecDepth 100000 in
theorem cutR_any(l:List It)(A:Option Addr)(c:Nat)(key:ByteArray)(w:World)(hl:l.length≤100000)(hc:l.length≤c)(hks:key.size≤1000000)(h:ItR w A l):
 Calls Tryz.prog 11 #[.slice A l.length c,.string key] w (CutRPost (cutR l key) A w):=by
 have HR:=Lib.hid h;by_cases h16:16<key.size
 ·have HP:Hid (cutR l key=(l,0,3)):=Lib.hid (by unfold cutR;rw [if_pos h16]);have t1:decide ((16:Int)<(key.size:Int))=true:=decide_eq_true (by omega);clear h;go_enter Tryz.func11,Tryz.ntmps11
  go_wp2_with fail
  refine bodyPost_ret (v:= .tuple #[.slice A l.length c,.int .u64 0,.int .i64 3]) (by simp [results,Tryz.results11,go_sem]) rfl ?_;rw [HP.out];exact⟨_,_,rfl,HR.out,Below.refl _ _,.inl rfl⟩
 ·have t1:decide ((16:Int)<(key.size:Int))=false:=decide_eq_false (by omega);have HF:=Lib.hid (find_any l A c key w hl h);obtain⟨at_,hat⟩:=(⟨_,rfl⟩:∃at_,findR l key=at_);cases his:isR l key with
  | false=>
    have HP:Hid (cutR l key=(l,0,7)):=Lib.hid (by unfold cutR;rw [if_neg h16,his];rfl);rw [his]at HF;rw [hat]at HF;clear h hat his;go_enter Tryz.func11,Tryz.ntmps11
    go_wp2_with fail
    refine HF.out.mono ?_;rintro e w1⟨rfl,hdr⟩;have HD:=Lib.hid hdr;clear HF hdr
    go_wp2_with fail
    refine bodyPost_ret (v:= .tuple #[.slice A l.length c,.int .u64 0,.int .i64 7]) (by simp [results,Tryz.results11,go_sem]) rfl ?_;rw [HP.out];exact⟨_,_,rfl,HR.out.below (HD.out.below _),HD.out.below _,.inl rfl⟩
  | true=>
    have hlt:at_<l.length:=hat▸isR_lt his;obtain⟨b,off,rfl,hb,q0,q1⟩:=h.at at_ hlt;obtain⟨v,hv⟩:∃v,l[at_].v=v:=⟨_,rfl⟩;rw [hv]at q1;have HP:Hid (cutR l key=(l.take at_++l.drop (at_+1),v,0)):=Lib.hid (by
     unfold cutR;rw [if_neg h16,his,if_pos rfl];simp only [hat,List.getElem?_eq_getElem hlt,Option.map_some,Option.getD_some,hv])
    rw [his]at HF;rw [hat]at HF;obtain⟨to,hto⟩:∃to,to=at_+1:=⟨_,rfl⟩;have hwa:IntKind.i64.wrap ((at_:Int)+1)=(to:Int):=(wrap64 _ (by omega) (by omega)).trans (by omega);obtain⟨n,hn⟩:∃n,n=l.length:=⟨_,rfl⟩;have HN:=Lib.hid hn;have HTo:=Lib.hid hto;have hx1:(at_:Int)≤(c:Int):=by omega
    have hx3:decide (at_≤c)=true:=decide_eq_true (by omega);have hx2:decide ((at_:Int)≤(c:Int))=true:=decide_eq_true hx1;have hy1:(to:Int)≤(n:Int):=by omega
    have hy2:decide ((to:Int)≤(n:Int))=true:=decide_eq_true hy1;have hy5:decide (to≤n)=true:=decide_eq_true (by omega);have hz1:(at_:Int)<(n:Int):=by omega
    have hz2:decide ((at_:Int)<(n:Int))=true:=decide_eq_true hz1;have hz3:decide (at_<n)=true:=decide_eq_true (by omega);have HCe:Hid (∀W,Below w.heap.size w W→W.cell? ⟨b,off+at_*2+1,none⟩=some (.int .u64 (v.toNat:Int))):=Lib.hid (fun W k=>(k.cell (p:=⟨b,off+at_*2+1,none⟩) hb).trans q1);have HTk:Hid (∀W,Below w.heap.size w W→Rd W (some ⟨b,off,none⟩) (at_*2) (itCs (l.take at_))):=Lib.hid (fun W hW=>by
     have:=(HR.out.below hW).take at_;unfold ItR at this
     rwa [List.length_take,Nat.min_eq_left (by omega),Nat.mul_comm]at this)
    have hdrop:∀P,(c=to→P=some ⟨b,off,none⟩)→(¬c=to→P=some ⟨b,off+to*2,none⟩)→Hid (∀W,Below w.heap.size w W→Rd W P ((n-to)*2) (itCs (l.drop to))):=fun P h1 h2=>Lib.hid (fun W hW=>by
     have:=ItR.drop (k:=to) (P:=P) (HR.out.below hW) hc (by
      by_cases hq:c=to
      ·exact .inl ⟨hq,h1 hq⟩
      ·exact .inr (h2 hq))
     unfold ItR at this;rw [List.length_drop,Nat.mul_comm,←hn]at this;exact this)
    have hone1:=itCs_one (l.take at_);have hone2:=itCs_one (l.drop to);have hn5:n≤100000:=by omega
    have HEnd:Hid (∀(v5:Value)(w5:World),w5.ownsRow w.heap.size 96 2 v5 (at_+(n-to)) (itCs (l.take at_)++itCs (l.drop to))→Below w.heap.size w w5→CutRPost (cutR l key) (some ⟨b,off,none⟩) w (.returned (.tuple #[v5,.int .u64 (v.toNat:Int),.int .i64 0])) w5):=Lib.hid (fun v5 w5 ho hb5=>by
     have e1:at_+(n-to)=(l.take at_++l.drop (at_+1)).length:=by
      simp only [List.length_append,List.length_take,List.length_drop];omega
     rw [e1,←itCs_app',hto]at ho;rw [HP.out];obtain⟨A5,c5,rfl,_,hr5⟩:=own_itrE ho;exact⟨A5,c5,rfl,hr5,hb5,.inr (own_ge' ho)⟩)
    rw [←hn];rw [←hn]at HF;clear h hat his q0 q1 hv HP hn hto;by_cases hq:c=to
    ·have HDr:=hdrop _ (fun _=>rfl) (fun h=>absurd hq h);clear hdrop;subst hq;go_enter Tryz.func11,Tryz.ntmps11
     go_wp2_with fail
     refine HF.out.mono ?_;rintro e w1⟨rfl,hdr⟩;have hb1:=hdr.below w.heap.size;have hbn:Below w1.heap.size w1 (w1.alloc (.cells #[] 96)):=(Below.refl _ _).alloc (Nat.le_refl _) _;have HB2:=Lib.hid (hb1.trans (hbn.mono hb1.size));have HO1:Hid ((w1.alloc (.cells #[] 96)).ownsRow w.heap.size 96 2 (.slice (some ⟨w1.heap.size,0,none⟩) 0 0) 0 []):=Lib.hid (by
      refine⟨rfl,.inr ⟨w1.heap.size,0,#[],rfl,hb1.size,heap_alloc_new _ _,Nat.le_refl _,by decide,rfl,rfl⟩⟩)
     clear hdr hbn hb1 HF
     go_wp2_with(at_builtin;refine wpList_app_rows rfl (.tmp 23) (.tmp 26) 44 rfl Tryz.refItemTyK (by decide) w.heap.size _ 0 [] rfl (by exact HO1.out) _ at_ _ (itCs (l.take at_)) rfl (by exact HTk.out _ HB2.out) hone1 (by omega) (by decide) (by exact HB2.out.size) ?_;intro v2 w2 hO2 hB2 hK2;rw [Nat.zero_add,List.nil_append]at hO2;obtain⟨A2,c2,hv2,_,_⟩:=own_rdk hO2;subst hv2;have HO2:=Lib.hid hO2;have HB3:=Lib.hid (HB2.out.trans hB2);clear hO2 hB2 hK2;have z1:=HCe.out _ HB3.out)
     have HOd:=Lib.hid (own_drew HO2.out);have HBd:=Lib.hid HB3.out.drew
     go_region_law(refine step_app_rows (.tmp 28) (.tmp 32) 44 rfl Tryz.refItemTyK (by decide) (by simp [Region.wanted]) w.heap.size (.slice A2 at_ c2) at_ (itCs (l.take at_)) (by simp [Act.eval,Act.put]) (by exact HOd.out) (some ⟨b,off,none⟩) (n-c) 0 (itCs (l.drop c)) (by simp [Act.eval,Act.put]) (by exact HDr.out _ HBd.out) hone2 (by omega) (by decide) (by exact HBd.out.size) ?_;intro v9 w9 hO9 hB9 hK9;obtain⟨A9,c9,hv9,_,_⟩:=own_rdk hO9;subst hv9;have HO9:=Lib.hid hO9;have HB9:=Lib.hid (HBd.out.trans hB9);clear hO9 hB9 hK9;have z9:=HCe.out _ HB9.out)
     all_goals(
      go_wp2_with fail
      refine bodyPost_ret (v:= .tuple #[.slice A9 (at_+(n-c)) c9,.int .u64 (v.toNat:Int),.int .i64 0]) (by simp [results,Tryz.results11,go_sem]) rfl ?_;exact HEnd.out _ _ HO9.out HB9.out)
    ·have HDr:=hdrop _ (fun h=>absurd h hq) (fun _=>rfl);clear hdrop;have hq5:decide (c=to)=false:=decide_eq_false hq;go_enter Tryz.func11,Tryz.ntmps11
     go_wp2_with fail
     refine HF.out.mono ?_;rintro e w1⟨rfl,hdr⟩;have hb1:=hdr.below w.heap.size;have hbn:Below w1.heap.size w1 (w1.alloc (.cells #[] 96)):=(Below.refl _ _).alloc (Nat.le_refl _) _;have HB2:=Lib.hid (hb1.trans (hbn.mono hb1.size));have HO1:Hid ((w1.alloc (.cells #[] 96)).ownsRow w.heap.size 96 2 (.slice (some ⟨w1.heap.size,0,none⟩) 0 0) 0 []):=Lib.hid (by
      refine⟨rfl,.inr ⟨w1.heap.size,0,#[],rfl,hb1.size,heap_alloc_new _ _,Nat.le_refl _,by decide,rfl,rfl⟩⟩)
     clear hdr hbn hb1 HF
     go_wp2_with(at_builtin;refine wpList_app_rows rfl (.tmp 23) (.tmp 26) 44 rfl Tryz.refItemTyK (by decide) w.heap.size _ 0 [] rfl (by exact HO1.out) _ at_ _ (itCs (l.take at_)) rfl (by exact HTk.out _ HB2.out) hone1 (by omega) (by decide) (by exact HB2.out.size) ?_;intro v2 w2 hO2 hB2 hK2;rw [Nat.zero_add,List.nil_append]at hO2;obtain⟨A2,c2,hv2,_,_⟩:=own_rdk hO2;subst hv2;have HO2:=Lib.hid hO2;have HB3:=Lib.hid (HB2.out.trans hB2);clear hO2 hB2 hK2;have z1:=HCe.out _ HB3.out)
     have HOd:=Lib.hid (own_drew HO2.out);have HBd:=Lib.hid HB3.out.drew
     go_region_law(refine step_app_rows (.tmp 28) (.tmp 32) 44 rfl Tryz.refItemTyK (by decide) (by simp [Region.wanted]) w.heap.size (.slice A2 at_ c2) at_ (itCs (l.take at_)) (by simp [Act.eval,Act.put]) (by exact HOd.out) (some ⟨b,off+to*2,none⟩) (n-to) (c-to) (itCs (l.drop to)) (by simp [Act.eval,Act.put]) (by exact HDr.out _ HBd.out) hone2 (by omega) (by decide) (by exact HBd.out.size) ?_;intro v9 w9 hO9 hB9 hK9;obtain⟨A9,c9,hv9,_,_⟩:=own_rdk hO9;subst hv9;have HO9:=Lib.hid hO9;have HB9:=Lib.hid (HBd.out.trans hB9);clear hO9 hB9 hK9;have z9:=HCe.out _ HB9.out)
     all_goals(
      go_wp2_with fail
      refine bodyPost_ret (v:= .tuple #[.slice A9 (at_+(n-to)) c9,.int .u64 (v.toNat:Int),.int .i64 0]) (by simp [results,Tryz.results11,go_sem]) rfl ?_;exact HEnd.out _ _ HO9.out HB9.out)
theorem allK_own{len:Mode}{w:World}{x d p L:Nat}{s:St}{F:Nat→Prop}(h:IxL len w x d p L s F):Calls Tryz.prog 9 #[.pointer (some ⟨x,0,none⟩)] w fun e w'=>Below w.heap.size w w'∧match allK s with
 | none=>e= .returned (.tuple #[.slice none 0 0,.int .i64 5])
 | some l=>∃A c,e= .returned (.tuple #[.slice A l.length c,.int .i64 0])∧l.length≤c∧ItR w' A l∧l.length≤65537∧∀a,A=some a→w.heap.size≤a.block:=by
 refine(all_index h).mono ?_;rintro e w1⟨hb,hp⟩;refine⟨hb,?_⟩;unfold allK;cases hs:surveyP s with
 | none=>rw [hs]at hp;exact hp
 | some im=>
   obtain⟨i2,m2⟩:=im;rw [hs]at hp;obtain⟨v,he,hi,hl⟩:=hp;unfold ItemsAt at hi;rw [itV_is,show i2.length=(i2.map toIt).length by simp]at hi;have hn:∀A n c,v= .slice A n c→∀a,A=some a→w.heap.size≤a.block:=fun A n c e1 a ea=>by
    rcases hi.2 with⟨h1,_⟩| ⟨g,cap,cur,h1,h2,_⟩
    ·rw [h1,ea]at e1;cases e1
    ·rw [h1,ea]at e1;injection e1 with e1
     injection e1 with e1
     rw [←e1];exact h2
   obtain⟨A,c,hv,hc,hr⟩:=own_itr hi;subst hv;exact⟨A,c,he,hc,hr,by simpa using hl,hn _ _ _ rfl⟩
end Go.Proofs.YtdjfbnoolfpcnaaGreatDoor
