import Derived.Test.YtfhagbcfbbggeaaGreatDoorG04
import Derived.Test.YtfhagbcfbbggeaaGreatDoorG11
import Derived.Test.YtfhagbcfbbggeaaGreatDoorG12
import Derived.Test.YtfhagbcfbbggeaaGreatDoorG13
import Derived.Test.YtfhagbcfbbggeaaGreatDoorG14
namespace Go.Proofs.YtfhagbcfbbggeaaGreatDoor
theorem nib_less{a b c d:UInt8}(ha:a.toNat<16)(hb:b.toNat<16)(hc:c.toNat<16)(hd:d.toNat<16):(a*16+b<c*16+d)↔(a<c∨(a=c∧b<d)):=by
 have h1:(a*16+b).toNat=a.toNat*16+b.toNat:=by
  simp only [UInt8.toNat_add,UInt8.toNat_mul]
  have:(16:UInt8).toNat=16:=rfl
  rw [this];omega
 have h2:(c*16+d).toNat=c.toNat*16+d.toNat:=by
  simp only [UInt8.toNat_add,UInt8.toNat_mul]
  have:(16:UInt8).toNat=16:=rfl
  rw [this];omega
 rw [UInt8.lt_iff_toNat_lt,UInt8.lt_iff_toNat_lt,UInt8.lt_iff_toNat_lt,h1,h2,←UInt8.toNat_inj]
 omega
theorem nib_same{a b c d:UInt8}(ha:a.toNat<16)(hb:b.toNat<16)(hc:c.toNat<16)(hd:d.toNat<16):(a*16+b=c*16+d)↔(a=c∧b=d):=by
 constructor
 ·intro h
  have h1:=nib_pair a b ha hb
  have h2:=nib_pair c d hc hd
  rw [h]at h1
  exact⟨h1.1.symm.trans h2.1,h1.2.symm.trans h2.2⟩
 ·rintro⟨rfl,rfl⟩;rfl
theorem pairs_less:∀(a b:List UInt8),a.length%2=0→b.length%2=0→a.all isNib=true→b.all isNib=true→Op.bytesLess (pairs a) (pairs b)=Op.bytesLess a b
 | [],[],_,_,_,_=>rfl
 | [],[_],_,h,_,_=>by simp at h
 | [],_::_::_,_,_,_,_=>by simp [pairs,Op.bytesLess]
 | [_],_,h,_,_,_=>by simp at h
 | _::_::_,[],_,_,_,_=>by simp [pairs,Op.bytesLess]
 | _::_::_,[_],_,h,_,_=>by simp at h
 | x::y::a,z::u::b,h1,h2,h3,h4=>by
   simp only [List.all_cons,Bool.and_eq_true]at h3 h4
   have i1:x.toNat<16:=by simpa [isNib]using h3.1
   have i2:y.toNat<16:=by simpa [isNib]using h3.2.1
   have i3:z.toNat<16:=by simpa [isNib]using h4.1
   have i4:u.toNat<16:=by simpa [isNib]using h4.2.1
   have ih:=pairs_less a b (by simp only [List.length_cons]at h1;omega) (by simp only [List.length_cons]at h2;omega) h3.2.2 h4.2.2
   have e1:=nib_less i1 i2 i3 i4
   have e2:=nib_same i1 i2 i3 i4
   rw [Bool.eq_iff_iff]
   simp only [pairs,Op.bytesLess,ih,Bool.or_eq_true,Bool.and_eq_true,decide_eq_true_eq,beq_iff_eq,e1,e2]
   constructor
   ·rintro((h| ⟨h,k⟩)| ⟨⟨h,k⟩,l⟩)
    ·exact .inl h
    ·exact .inr ⟨h,.inl k⟩
    ·exact .inr ⟨h,.inr ⟨k,l⟩⟩
   ·rintro(h| ⟨h,k| ⟨k,l⟩⟩)
    ·exact .inl (.inl h)
    ·exact .inl (.inr ⟨h,k⟩)
    ·exact .inr ⟨⟨h,k⟩,l⟩
theorem nodup_sub_len{α:Type} [DecidableEq α]:∀(l1 l2:List α),l1.Nodup→(∀x∈l1,x∈l2)→l1.length≤l2.length
 | [],_,_,_=>by simp
 | a::t,l2,hn,hs=>by
   obtain⟨h1,h2⟩:=List.nodup_cons.1 hn
   have ha:=hs a (List.mem_cons_self ..)
   have ih:=nodup_sub_len t (l2.erase a) h2 (fun x hx=>(List.mem_erase_of_ne (fun e:x=a=>h1 (by rw [←e];exact hx))).2 (hs x (List.mem_cons_of_mem _ hx)))
   rw [List.length_erase_of_mem ha]at ih
   have:=List.length_pos_of_mem ha
   rw [List.length_cons]
   omega
section
variable{L:Nat}{s:St}{items:List Kv}
theorem IxOk.up(h:IxOk L s items):UpK items:=by
 rcases h.tree with⟨_,h2,_⟩| ⟨_,_,T,_⟩
 ·rw [h2];exact List.Pairwise.nil
 ·exact T.up h.ok
theorem upK_nodup{l:List Kv}(h:UpK l):l.Nodup:=h.imp fun{a b}hab e=>by rw [e,bless_irrefl]at hab;cases hab
theorem keyOk_parts{k:List UInt8}(h:keyOk k=true):k.length%2=0∧k.all isNib=true:=by
 unfold keyOk at h
 rw [Bool.and_eq_true,decide_eq_true_eq]at h
 exact h
def kvIt(kv:Kv):It:=toIt (pairs kv.1,kv.2)
theorem bytes_list(l:List UInt8):(⟨l.toArray⟩:ByteArray).toList=l:=by rw [ByteArray.toList_eq]
theorem kvIt_key(kv:Kv):(kvIt kv).k.toList=pairs kv.1:=bytes_list _
theorem all_up(h:IxOk L s items):Up (items.map kvIt):=by
 unfold Up
 rw [List.pairwise_map]
 refine h.up.imp_of_mem fun{a b}ha hb hab=> ?_
 obtain⟨a1,a2⟩:=keyOk_parts (h.even a ha)
 obtain⟨b1,b2⟩:=keyOk_parts (h.even b hb)
 unfold lessK
 rw [kvIt_key,kvIt_key,pairs_less _ _ a1 b1 a2 b2]
 exact hab
theorem put_len{items':List Kv}{k:List UInt8}{v:UInt64}(h':UpK items')(hp:PutIs items items' k v):items'.length≤items.length+1:=by
 have:=nodup_sub_len items' ((k,v)::items) (upK_nodup h') (fun x hx=>by
  rcases(hp x).1 hx with rfl| h
  ·exact List.mem_cons_self ..
  ·exact List.mem_cons_of_mem _ h.1)
 simpa using this
theorem st0_ok{sh:Sh}(hL:L≤1024)(hs:shapeOf L=some sh):IxOk L (st0 sh) []:=by
 have hok:=shape_ok hs
 have htk:∀i,tkN (st0 sh) i=0:=fun i=>by
  unfold tkN st0
  simp only [List.getD_eq_getElem?_getD,List.getElem?_replicate]
  split<;>rfl
 have hhd:∀i,hdN (st0 sh) i=0:=fun i=>by
  unfold hdN st0
  simp only [List.getD_eq_getElem?_getD,List.getElem?_replicate]
  split<;>rfl
 have hws:∀i,8≤i→(st0 sh).ws i=0:=fun i hi=>by
  show putWs (fun _=>0) 0 (wordsOf sh) i=0
  unfold putWs
  rw [if_neg]
  simp [wordsOf,headW]
  omega
 have hnt:∀o d,¬TakenAt (st0 sh) o d:=fun o d=>by
  rintro⟨i,a,_,ha,_⟩
  rw [htk,has_zero]at ha
  cases ha
 refine⟨⟨hok,hL,by simp [st0],by simp [st0],fun i _=> .inl (htk i),fun i _=> .inl (hhd i),fun i _=> .inl (htk i),fun i a _ ha=> ?_,fun i _=> ?_⟩,fun o d=> ?_,.inl ⟨hws 9 (by decide),rfl,hnt⟩,fun _ h=>by cases h⟩
 ·rw [htk,has_zero]at ha;cases ha
 ·rw [hws _ (by omega)]
  show _=(List.replicate sh.slabs (0:UInt64)).getD i 0
  simp only [List.getD_eq_getElem?_getD,List.getElem?_replicate]
  split<;>rfl
 ·rintro⟨i,a,_,ha,_⟩
  rw [hhd,has_zero]at ha
  cases ha
end
theorem rise_ext{α:Type}{r:α→α→Prop}(hi:∀x,¬r x x)(hs:∀x y,r x y→¬r y x):∀(a b:List α),a.Pairwise r→b.Pairwise r→(∀x,x∈a↔x∈b)→a=b
 | [],[],_,_,_=>rfl
 | [],y::b,_,_,h=>absurd ((h y).2 (List.mem_cons_self ..)) (fun h=>nomatch h)
 | x::a,[],_,_,h=>absurd ((h x).1 (List.mem_cons_self ..)) (fun h=>nomatch h)
 | x::a,y::b,ha,hb,h=>by
   obtain⟨ha1,ha2⟩:=List.pairwise_cons.1 ha
   obtain⟨hb1,hb2⟩:=List.pairwise_cons.1 hb
   have e:x=y:=by
    rcases List.mem_cons.1 ((h x).1 (List.mem_cons_self ..))with e| h1
    ·exact e
    ·rcases List.mem_cons.1 ((h y).2 (List.mem_cons_self ..))with e| h2
     ·exact e.symm
     ·exact absurd (ha1 y h2) (hs y x (hb1 x h1))
   subst e
   refine congrArg (List.cons x) (rise_ext hi hs a b ha2 hb2 fun z=> ?_)
   constructor
   ·intro hz
    rcases List.mem_cons.1 ((h z).1 (List.mem_cons_of_mem _ hz))with e| h1
    ·subst e;exact absurd (ha1 z hz) (hi z)
    ·exact h1
   ·intro hz
    rcases List.mem_cons.1 ((h z).2 (List.mem_cons_of_mem _ hz))with e| h1
    ·subst e;exact absurd (hb1 z hz) (hi z)
    ·exact h1
def itP(x:It):List UInt8×UInt64:=(x.k.toList,x.v)
def lessP(a b:List UInt8×UInt64):Prop:=Op.bytesLess a.1 b.1=true
theorem lessP_irr(x:List UInt8×UInt64):¬lessP x x:=by unfold lessP;rw [bless_irrefl];decide
theorem lessP_asym(x y:List UInt8×UInt64)(h:lessP x y):¬lessP y x:=fun k=>lessP_irr x (bless_trans _ _ _ h k)
theorem up_itP{l:List It}(h:Up l):(l.map itP).Pairwise lessP:=by
 rw [List.pairwise_map]
 exact h
section
variable{l:List It}{key:ByteArray}
theorem findR_less(j:Nat)(h:j<l.length)(hj:j<findR l key):Op.bytesLess l[j].k.toList key.toList=true:=by
 unfold findR at hj
 have:=List.not_of_lt_findIdx hj
 simpa using this
theorem findR_not(h:findR l key<l.length):Op.bytesLess l[findR l key].k.toList key.toList=false:=by
 have h1:=List.findIdx_getElem (xs:=l) (p:=fun x:It=> !Op.bytesLess x.k.toList key.toList) (w:=h)
 have h2:(!Op.bytesLess l[findR l key].k.toList key.toList)=true:=h1
 simpa using h2
theorem find_split (hu : Up l) : (∀ x ∈ l.take (findR l key), Op.bytesLess x.k.toList key.toList = true) ∧ (∀ x ∈ l.drop (findR l key + if isR l key then 1 else 0), Op.bytesLess key.toList x.k.toList = true) ∧
    (isR l key = true → ∃ (h : findR l key < l.length), l[findR l key].k.toList = key.toList) ∧ (isR l key = false → ∀ x ∈ l, x.k.toList ≠ key.toList) := by
  have hpw := List.pairwise_iff_getElem.1 hu
  have hlt : ∀ x ∈ l.take (findR l key), Op.bytesLess x.k.toList key.toList = true := fun x hx => by
    obtain ⟨j, hj, rfl⟩ := List.getElem_of_mem hx
    simp only [List.length_take] at hj
    rw [List.getElem_take]
    exact findR_less j (by omega) (by omega)
  have hge : ∀ j (h : j < l.length), findR l key < j → Op.bytesLess key.toList l[j].k.toList = true := fun j h hj => by
    have h1 := findR_not (l := l) (key := key) (by omega)
    have h2 : Op.bytesLess l[findR l key].k.toList l[j].k.toList = true := hpw (findR l key) j (by omega) h hj
    cases h3 : Op.bytesLess key.toList l[findR l key].k.toList with
    | true => exact bless_trans _ _ _ h3 h2
    | false => rw [← (bless_total _ _ h3).resolve_left (by rw [h1]; decide)] at h2; exact h2
  have his : isR l key = true → ∃ (h : findR l key < l.length), l[findR l key].k.toList = key.toList := fun h => by
    have hlt := isR_lt h
    refine ⟨hlt, ?_⟩
    unfold isR at h
    rw [List.getElem?_eq_getElem hlt] at h
    exact eq_of_beq h
  have hno : isR l key = false → ∀ (h : findR l key < l.length), l[findR l key].k.toList ≠ key.toList := fun h hlt e => by
    unfold isR at h
    rw [List.getElem?_eq_getElem hlt] at h
    simp [e] at h
  refine ⟨hlt, fun x hx => ?_, his, fun h x hx e => ?_⟩
  · obtain ⟨j, hj, rfl⟩ := List.getElem_of_mem hx
    simp only [List.length_drop] at hj
    rw [List.getElem_drop]
    by_cases hz : (findR l key + if isR l key then 1 else 0) + j = findR l key
    · have hf : isR l key = false := by
        cases h : isR l key with
        | false => rfl
        | true => rw [h, if_pos rfl] at hz; omega
      have hl : findR l key < l.length := by omega
      have h1 := findR_not (l := l) (key := key) hl
      have h2 := hno hf hl
      have : l[(findR l key + if isR l key then 1 else 0) + j]'(by omega) = l[findR l key] := by congr 1
      rw [this]
      cases h3 : Op.bytesLess key.toList l[findR l key].k.toList with
      | true => rfl
      | false => exact absurd ((bless_total _ _ h3).resolve_left (by rw [h1]; decide)).symm h2
    · exact hge _ (by omega) (by omega)
  · obtain ⟨j, hj, rfl⟩ := List.getElem_of_mem hx
    rcases Nat.lt_trichotomy j (findR l key) with g | g | g
    · have := findR_less j hj g
      rw [e, bless_irrefl] at this; cases this
    · subst g; exact hno h hj e
    · have := hge j hj g
      rw [e, bless_irrefl] at this; cases this
theorem cut_find(h:isR l key=true):l=l.take (findR l key)++l[findR l key]'(isR_lt h)::l.drop (findR l key+1):=by
 have:=(List.take_append_drop (findR l key) l).symm
 rw [List.drop_eq_getElem_cons (isR_lt h)]at this
 exact this
theorem putR_ok(hu:Up l){v:UInt64}(h16:¬16<key.size)(hv:v.toNat≠0):(putR l key v).2=0∧((putR l key v).1.map itP).Pairwise lessP∧∀x,x∈(putR l key v).1.map itP↔x=(key.toList,v)∨(x∈l.map itP∧x.1≠key.toList):=by
 obtain⟨h1,h2,h3,h4⟩:=find_split (key:=key) hu
 unfold putR
 rw [if_neg h16,if_neg hv]
 refine⟨rfl,?_,fun x=> ?_⟩
 ·rw [List.pairwise_map]
  refine List.pairwise_append.2 ⟨List.Pairwise.sublist (List.take_sublist _ _) hu,List.pairwise_cons.2 ⟨fun y hy=>h2 y hy,List.Pairwise.sublist (List.drop_sublist _ _) hu⟩,fun a ha b hb=> ?_⟩
  rcases List.mem_cons.1 hb with rfl| hb
  ·exact h1 a ha
  ·exact bless_trans _ _ _ (h1 a ha) (h2 b hb)
 ·simp only [List.mem_map,List.mem_append,List.mem_cons]
  constructor
  ·rintro⟨y,hy| rfl| hy,rfl⟩
   ·exact .inr ⟨⟨y,List.mem_of_mem_take hy,rfl⟩,fun e=>by have:=h1 y hy;have e:y.k.toList=key.toList:=e;rw [e,bless_irrefl]at this;cases this⟩
   ·exact .inl rfl
   ·exact .inr ⟨⟨y,List.mem_of_mem_drop hy,rfl⟩,fun e=>by have:=h2 y hy;have e:y.k.toList=key.toList:=e;rw [e,bless_irrefl]at this;cases this⟩
  ·rintro(rfl| ⟨⟨y,hy,rfl⟩,hne⟩)
   ·exact⟨⟨key,v⟩,.inr (.inl rfl),rfl⟩
   ·refine⟨y,?_,rfl⟩
    cases hi:isR l key with
    | false=>
      rw [if_neg (by decide),Nat.add_zero]
      rw [←List.take_append_drop (findR l key) l]at hy
      exact(List.mem_append.1 hy).imp id .inr
    | true=>
      rw [if_pos rfl]
      rw [cut_find hi]at hy
      rcases List.mem_append.1 hy with g| g
      ·exact .inl g
      ·rcases List.mem_cons.1 g with g| g
       ·obtain⟨_,e⟩:=h3 hi
        exact absurd (by unfold itP;rw [g];exact e) hne
       ·exact .inr (.inr g)
end
section
variable{L:Nat}{s:St}{items items':List Kv}
theorem kv_itP(items:List Kv):(items.map kvIt).map itP=items.map fun kv=>(pairs kv.1,kv.2):=by
 rw [List.map_map]
 refine List.map_congr_left fun kv _=> ?_
 show(((kvIt kv).k.toList,(kvIt kv).v):List UInt8×UInt64)=_
 rw [kvIt_key]
 rfl
theorem pairs_inj{a b:List UInt8}(ha:keyOk a=true)(hb:keyOk b=true)(h:pairs a=pairs b):a=b:=by
 obtain⟨a1,a2⟩:=keyOk_parts ha
 obtain⟨b1,b2⟩:=keyOk_parts hb
 rw [←nibs_pairs a a1 a2,←nibs_pairs b b1 b2,h]
theorem put_same(h:IxOk L s items)(h':IxOk L s items→∃s',IxOk L s' items')(key:ByteArray){v:UInt64}(h16:¬16<key.size)(hv:v.toNat≠0)(hp:PutIs items items' (nibs key.data.toList) v):(items'.map kvIt).map itP=(putR (items.map kvIt) key v).1.map itP:=by
 obtain⟨s',hs'⟩:=h' h
 obtain⟨_,h2,h3⟩:=putR_ok (key:=key) (all_up h) h16 hv
 have hkl:key.toList=key.data.toList:=by rw [ByteArray.toList_eq]
 have hpk:pairs (nibs key.data.toList)=key.toList:=by rw [pairs_nibs,hkl]
 refine rise_ext lessP_irr lessP_asym _ _ (up_itP (all_up hs')) h2 fun x=> ?_
 rw [h3,kv_itP,kv_itP]
 simp only [List.mem_map]
 constructor
 ·rintro⟨kv,hkv,rfl⟩
  rcases(hp kv).1 hkv with rfl| ⟨g1,g2⟩
  ·left;rw [hpk]
  ·exact .inr ⟨⟨kv,g1,rfl⟩,fun e=>g2 (pairs_inj (h.even kv g1) (keyOk_nib _) (by rw [hpk];exact e))⟩
 ·rintro(rfl| ⟨⟨kv,g1,rfl⟩,g2⟩)
  ·exact⟨(nibs key.data.toList,v),(hp _).2 (.inl rfl),by rw [hpk]⟩
  ·exact⟨kv,(hp kv).2 (.inr ⟨g1,fun e=>g2 (by simp only [e];exact hpk)⟩),rfl⟩
end
open Go.RowKit
theorem flat3_get{α:Type}(f:α→List Value)(m:Nat)(hf:∀a,(f a).length=m):∀(l:List α)(k i:Nat)(hk:k<l.length),i<m→((l.map f).flatten)[k*m+i]? =(f l[k])[i]?
 | a::t,0,i,_,hi=>by
   rw [List.map_cons,List.flatten_cons,Nat.zero_mul,Nat.zero_add,List.getElem?_append_left (by rw [hf];exact hi)]
   rfl
 | a::t,k+1,i,hk,hi=>by
   rw [List.map_cons,List.flatten_cons,List.getElem?_append_right (by rw [hf,Nat.succ_mul];omega),hf,show(k+1)*m+i-m=k*m+i by rw [Nat.succ_mul];omega]
   exact flat3_get f m hf t k i (by simpa using hk) hi
theorem flat3_len{α:Type}(f:α→List Value)(m:Nat)(hf:∀a,(f a).length=m):∀(l:List α),((l.map f).flatten).length=l.length*m
 | []=>by simp
 | a::t=>by
   have:=flat3_len f m hf t
   rw [List.map_cons,List.flatten_cons,List.length_append,hf,this,List.length_cons,Nat.succ_mul]
   omega
structure Ac where
 kind:UInt8
 key:ByteArray
 n:UInt64
def acC(x:Ac):List Value:=[.int .u8 (x.kind.toNat:Int),.string x.key,.int .u64 (x.n.toNat:Int)]
def acCs(l:List Ac):List Value:=(l.map acC).flatten
theorem acCs_len(l:List Ac):(acCs l).length=l.length*3:=flat3_len acC 3 (fun _=>rfl) l
theorem ac_at{w:World}{A:Option Addr}{s:List Ac}(h:Rd w A (s.length*3) (acCs s))(k:Nat)(hk:k<s.length):∃b off,A=some ⟨b,off,none⟩∧b<w.heap.size∧w.cell? ⟨b,off+k*3,none⟩=some (.int .u8 (s[k].kind.toNat:Int))∧
 w.cell? ⟨b,off+k*3+1,none⟩=some (.string s[k].key)∧w.cell? ⟨b,off+k*3+2,none⟩=some (.int .u64 (s[k].n.toNat:Int)):=by
 obtain⟨b,off,rfl,hb,hc⟩:=h.2 (by omega)
 have hf:=flat3_get acC 3 (fun _=>rfl) s k
 refine⟨b,off,rfl,hb,?_,?_,?_⟩
 ·have:=hc (k*3) (by omega)
  rw [this];exact hf 0 hk (by decide)
 ·have:=hc (k*3+1) (by omega)
  rw [Nat.add_assoc,this];exact hf 1 hk (by decide)
 ·have:=hc (k*3+2) (by omega)
  rw [Nat.add_assoc,this];exact hf 2 hk (by decide)
def heavyB(l:List Ac):Bool:=l.any (fun x=>decide (40<x.key.size))|| decide (100<l.length)
theorem heavy_out{l:List Ac}(h:heavyB l=false):l.length≤100∧∀x∈l,x.key.size≤40:=by
 unfold heavyB at h
 rw [Bool.or_eq_false_iff,List.any_eq_false]at h
 refine⟨by have:=of_decide_eq_false h.2;omega,fun x hx=> ?_⟩
 have:=h.1 x hx
 simp at this
 omega
set_option maxHeartbeats 4000000 in
set_option maxRecDepth 100000 in
theorem heavy10(l:List Ac)(A:Option Addr)(c:Nat)(w:World)(hl:l.length≤9223372036854775807)(h:Rd w A (l.length*3) (acCs l)):Calls Tryz.prog 8 #[.slice A l.length c] w fun e w'=>e= .returned (.bool (heavyB l))∧Below w.heap.size w w':=by
 have HR:=Lib.hid h
 clear h
 go_enter Tryz.func8,Tryz.ntmps8
 go_wp2_with fail
 go_loopw [7](fun i wr=>∃k:Nat,k≤l.length∧i= .int .i64 (k:Nat)∧(∀j(hj:j<l.length),j<k→¬40<l[j].key.size)∧Below w.heap.size w wr)(fun i _=>l.length- (intOf i).toNat)
 case atStart=>exact⟨0,Nat.zero_le _,rfl,fun j _ h=>absurd h (by omega),Below.refl _ _⟩
 case round=>
  obtain⟨k,hkl,rfl,hall,hb⟩:=hrel
  have HB:=Lib.hid hb
  have HS:=Lib.hid hall
  clear hb hall
  by_cases hlt:k<l.length
  ·have hx1:(k:Int)<(l.length:Int):=by omega
   have hx2:decide ((k:Int)<(l.length:Int))=true:=decide_eq_true hx1
   have hx5:decide (k<l.length)=true:=decide_eq_true hlt
   obtain⟨b,off,rfl,hbw,q0,q1,q2⟩:=ac_at (Rd.below HR.out HB.out) k hlt
   have hwk:IntKind.i64.wrap ((k:Int)+1)=(k:Int)+1:=IntWalk.i64_in _ (by omega)
   have HF:Hid (40<l[k].key.size→heavyB l=true):=Lib.hid (fun h=>by
    unfold heavyB
    rw [Bool.or_eq_true,List.any_eq_true]
    exact .inl ⟨_,List.getElem_mem hlt,by simpa using h⟩)
   have HN:Hid (¬40<l[k].key.size→∀j(hj:j<l.length),j<k+1→¬40<l[j].key.size):=Lib.hid (fun h j hj hjk=>by
    by_cases e:j=k
    ·subst e;exact h
    ·exact HS.out j hj (by omega))
   generalize l[k]=x at*
   obtain⟨W,hW⟩:∃W,W=wr.alloc (.cells #[.int .u8 (x.kind.toNat:Int),.string x.key,.int .u64 (x.n.toNat:Int)] 35):=⟨_,rfl⟩
   have HB2:=Lib.hid (HB.out.trans ((show Below wr.heap.size wr W from hW▸(Below.refl _ _).alloc (Nat.le_refl _) _).mono HB.out.size))
   have HW:=Lib.hid hW
   clear hW
   by_cases h1:40<x.key.size
   ·have t1:decide ((40:Int)<(x.key.size:Int))=true:=decide_eq_true (by omega)
    have HF':=Lib.hid (HF.out h1)
    clear HF HN
    go_wp2_with fail
    go_ret
    exact⟨by rw [HF'.out];rfl,HW.out▸HB2.out⟩
   ·have t1:decide ((40:Int)<(x.key.size:Int))=false:=decide_eq_false (by omega)
    have HN':=Lib.hid (HN.out h1)
    clear HF HN
    go_wp2_with fail
    go_roundw
    case rel=>exact⟨k+1,by omega,by go_num,HN'.out,HW.out▸HB2.out⟩
    case measure=>simp [intOf];omega
  ·have hx1:decide ((k:Int)<(l.length:Int))=false:=decide_eq_false (by omega)
   have hx5:decide (k<l.length)=false:=decide_eq_false hlt
   have HF:Hid (heavyB l=decide ((100:Int)<(l.length:Int))):=Lib.hid (by
    unfold heavyB
    rw [List.any_eq_false.2 (fun x hx=>by
     obtain⟨j,hj,rfl⟩:=List.getElem_of_mem hx
     simpa using HS.out j hj (by omega)),Bool.false_or]
    rw [Bool.eq_iff_iff,decide_eq_true_iff,decide_eq_true_iff];omega)
   clear HS
   by_cases h60:(100:Int)<(l.length:Int)
   ·have t1:decide ((100:Int)<(l.length:Int))=true:=decide_eq_true h60
    rw [t1]at HF
    go_wp2_with fail
    go_ret
    exact⟨by rw [HF.out];rfl,HB.out⟩
   ·have t1:decide ((100:Int)<(l.length:Int))=false:=decide_eq_false h60
    rw [t1]at HF
    go_wp2_with fail
    go_ret
    exact⟨by rw [HF.out];rfl,HB.out⟩
section
variable{w:World}{d p L:Nat}{s:St}{tb hb n cT cH:Nat}
end
end Go.Proofs.YtfhagbcfbbggeaaGreatDoor
