import Derived.Deep.RegionHeld3
import Derived.Test.YtdjfbnoolfpcnaaGreatDoorG15
import Derived.Test.YtdjfbnoolfpcnaaGreatDoorG28
import Derived.Test.YtdjfbnoolfpcnaaGreatDoorG29
import Derived.Test.YtdjfbnoolfpcnaaGreatDoorG31
import Derived.Test.YtdjfbnoolfpcnaaGreatDoorG32
namespace Go.Proofs.YtdjfbnoolfpcnaaGreatDoor
open Go.RowKit
section
variable{X:Nat→Prop}{L:Nat}{s:St}{items:List Kv}
theorem put_after(h:IxX X L s items)(key:List UInt8)(value:UInt64)(lf:Int){ws':Nat→UInt64}(hm:(putM ⟨.up lf,s⟩ key value).1.pw.mode.may (putM ⟨.up lf,s⟩ key value).1.s.ws ws'):
 Gd X L s items (fun its=>PutIs items its (nibs key) value∧key.length≤16∧value≠0) ws':=by
 by_cases hk:16<key.length
 ·rw [show putM ⟨.up lf,s⟩ key value=(⟨.up lf,s⟩,3)by unfold putM;rw [if_pos hk]]at hm;have e:ws'=s.ws:=hm;rw [e];exact now_found h
 ·by_cases hv:value=0
  ·rw [show putM ⟨.up lf,s⟩ key value=(⟨.up lf,s⟩,2)by unfold putM;rw [if_neg hk,if_pos hv]]at hm;have e:ws'=s.ws:=hm;rw [e];exact now_found h
  ·rcases put_crash h key (by omega) value hv lf with⟨lf',e⟩| ⟨P,e,hP⟩
   ·rw [e]at hm;have e1:ws'=(putK s key value).1.ws:=hm;obtain⟨kX,⟨_,h1,_⟩| ⟨_,its,h1,h2⟩⟩:=put_ok h key (by omega) value hv
    ·exact⟨items,.inl rfl,by rw [e1];exact found h1 kX h1.ok rfl (KeepT.refl _ _) (fun _ _=>rfl) (near_self _)⟩
    ·exact⟨its,.inr ⟨h2,by omega,hv⟩,by rw [e1];exact found h1 kX h1.ok rfl (KeepT.refl _ _) (fun _ _=>rfl) (near_self _)⟩
   ·rw [e]at hm;obtain⟨its,h1,h2⟩:=hP ws' hm;exact⟨its,h1.imp id (fun h=>⟨h,by omega,hv⟩),h2⟩
theorem cut_after(h:IxX X L s items)(key:List UInt8)(lf:Int){ws':Nat→UInt64}(hm:(cutM ⟨.up lf,s⟩ key).1.pw.mode.may (cutM ⟨.up lf,s⟩ key).1.s.ws ws'):
 Gd X L s items (fun its=>CutIs items its (nibs key)∧key.length≤16) ws':=by
 by_cases hk:16<key.length
 ·rw [show cutM ⟨.up lf,s⟩ key=(⟨.up lf,s⟩,0,3)by unfold cutM;rw [if_pos hk]]at hm;have e:ws'=s.ws:=hm;rw [e];exact now_found h
 ·rcases cut_crash h key (by omega) lf with⟨lf',e⟩| ⟨P,e,hP⟩
  ·rw [e]at hm;have e1:ws'=(cutK s key).1.ws:=hm;rcases cut_ok h key (by omega)with⟨e2,_⟩| ⟨kX,_,_,its,h1,h2⟩
   ·rw [e1,e2];exact now_found h
   ·exact⟨its,.inr ⟨h2,by omega⟩,by rw [e1];exact found h1 kX h1.ok rfl (KeepT.refl _ _) (fun _ _=>rfl) (near_self _)⟩
  ·rw [e]at hm;obtain⟨its,h1,h2⟩:=hP ws' hm;exact⟨its,h1.imp id (fun h=>⟨h,by omega⟩),h2⟩
end
section
variable{w:World}{x d p L:Nat}{s:St}{F:Nat→Prop}{items:List Kv}{P:(Nat→UInt64)→Prop}
set_option maxHeartbeats 1000000 in
theorem root_down(h:IxL (.down P) w x d p L s F):Calls Tryz.prog 44 #[.pointer (some ⟨x,0,none⟩)] w fun e w'=>e= .returned (.tuple #[.int .u64 0,.int .i64 12])∧Below w.heap.size w w':=by
 have y0:=h.box.cell 0;simp only [List.getElem?_cons_zero]at y0;obtain⟨l0,l1,ok,_⟩:=h.L0;obtain⟨tb,hb,n,cT,cH,own,hr,hF⟩:=h.sys;obtain⟨g,v2,v3,hB⟩:=DevDown.blk hr.dev;have HG:=get_down d L g 9 1 v2 v3 w l0 l1 hB (by have:=ok.fits;have:=ok.tfits;have:=ok.slabs;omega) (by decide);rw [show((8*9:Nat):Int)=72 from rfl,show((1:Nat):Int)=1 from rfl]at HG;have HG:=Lib.hid HG;clear h ok hr hF hB;go_enter Tryz.func44,Tryz.ntmps44
 go_wp2_with fail
 refine HG.out.mono ?_;rintro e w1⟨rfl,hb⟩;have HB:=Lib.hid hb;clear hb HG
 go_wp2_with fail
 go_ret2;exact⟨rfl,HB.out⟩
set_option maxHeartbeats 1000000 in
theorem path_downed(h:IxL (.down P) w x d p L s F)(key:ByteArray)(hk:key.size≤1000):Calls Tryz.prog 23 #[.pointer (some ⟨x,0,none⟩),.string key] w fun e w'=>e= .returned (.tuple #[.slice none 0 0,.slice none 0 0,.int .i64 12])∧Below w.heap.size w w':=by
 have HOf:=Lib.hid (of_any key w (by omega));have HRt:=Lib.hid (fun(W:World)(hW:Below w.heap.size w W)=>root_down (h.below hW));clear h;go_enter Tryz.func23,Tryz.ntmps23
 go_wp2_with fail
 refine HOf.out.mono ?_;rintro e w1⟨v,rfl,ho,hb1⟩;obtain⟨A,c,rfl,hc,hr⟩:=rd_of_own ho;have HB1:=Lib.hid hb1;clear HOf ho hr hb1
 go_wp2_with fail
 refine(HRt.out w1 HB1.out).mono ?_;rintro e w2⟨rfl,hb2⟩;have HB2:=Lib.hid (HB1.out.trans (hb2.mono HB1.out.size));clear hb2 HRt
 go_wp2_with fail
 refine bodyPost_ret (v:= .tuple #[.slice none 0 0,.slice none 0 0,.int .i64 12]) (by simp [results,Tryz.results23,go_sem]) rfl ?_;exact⟨rfl,HB2.out⟩
set_option maxHeartbeats 1000000 in
theorem put_downed (h : IxL (.down P) w x d p L s F) (key : ByteArray) (hk : key.size ≤ 1000) (value : UInt64) : Calls Tryz.prog 8 #[.pointer (some ⟨x, 0, none⟩), .string key, .int .u64 (value.toNat : Int)] w fun e w' => (∃ c : Int, e = .returned (.int .i64 c)) ∧ Below w.heap.size w w' := by
  have HA := Lib.hid (ask_index h key (by omega))
  have HPa := Lib.hid (path_downed h key hk)
  clear h
  by_cases h1 : 16 < key.size
  · rw [if_pos h1] at HA
    clear h1
    go_enter Tryz.func8, Tryz.ntmps8
    go_wp2_with fail
    refine HA.out.mono ?_
    rintro e w1 ⟨rfl, rfl⟩
    clear HA
    go_wp2_with fail
    go_ret
    exact ⟨⟨_, rfl⟩, Below.refl _ _⟩
  · rw [if_neg h1] at HA
    clear h1
    by_cases h2 : value = 0
    · subst h2
      go_enter Tryz.func8, Tryz.ntmps8
      go_wp2_with fail
      refine HA.out.mono ?_
      rintro e w1 ⟨rfl, rfl⟩
      clear HA
      go_wp2_with fail
      go_ret
      exact ⟨⟨_, rfl⟩, Below.refl _ _⟩
    · have t1 : ((value.toNat : Int) == 0) = false := by
        rw [beq_eq_false_iff_ne]; intro e; exact h2 (UInt64.toNat_inj.1 (by simp; omega))
      clear h2
      go_enter Tryz.func8, Tryz.ntmps8
      go_wp2_with fail
      refine HA.out.mono ?_
      rintro e w1 ⟨rfl, rfl⟩
      clear HA
      go_wp2_with fail
      refine HPa.out.mono ?_
      rintro e w1 ⟨rfl, hb1⟩
      have HB := Lib.hid hb1
      clear hb1 HPa
      go_wp2_with fail
      go_ret
      exact ⟨⟨_, rfl⟩, HB.out⟩
set_option maxHeartbeats 1000000 in
theorem cut_downed(h:IxL (.down P) w x d p L s F)(key:ByteArray)(hk:key.size≤1000):Calls Tryz.prog 7 #[.pointer (some ⟨x,0,none⟩),.string key] w fun e w'=>(∃c:Int,e= .returned (.tuple #[.int .u64 0,.int .i64 c]))∧Below w.heap.size w w':=by
 have HA:=Lib.hid (ask_index h key (by omega));have HPa:=Lib.hid (path_downed h key hk);clear h;by_cases h1:16<key.size
 ·rw [if_pos h1]at HA;clear h1;go_enter Tryz.func7,Tryz.ntmps7
  go_wp2_with fail
  refine HA.out.mono ?_;rintro e w1⟨rfl,rfl⟩;clear HA
  go_wp2_with fail
  go_ret2;exact⟨⟨_,rfl⟩,Below.refl _ _⟩
 ·rw [if_neg h1]at HA;clear h1;go_enter Tryz.func7,Tryz.ntmps7
  go_wp2_with fail
  refine HA.out.mono ?_;rintro e w1⟨rfl,rfl⟩;clear HA
  go_wp2_with fail
  refine HPa.out.mono ?_;rintro e w1⟨rfl,hb1⟩;have HB:=Lib.hid hb1;clear hb1 HPa
  go_wp2_with fail
  go_ret2;exact⟨⟨_,rfl⟩,HB.out⟩
end
section
variable{w:World}{x d p L:Nat}{s:St}{F Y:Nat→Prop}{items:List Kv}{sh:Sh}{ws:Nat→UInt64}
theorem low_head(h:Low (st0 sh) s):wordsAt s.ws 0 8=wordsOf s.sh:=by
 have h2:wordsAt s.ws 0 8=wordsAt (formatW sh) 0 8:=by
  apply List.ext_getElem
  ·simp [wordsAt]
  ·intro i h1 h2;rw [wordsAt_get,wordsAt_get];exact h.2 _ (by have:=h1;simp [wordsAt]at this;omega)
 rw [h2,format_head,h.1];rfl
theorem open_right(ok:PoolOk L s):∀i,i<s.sh.slabs→rightW (s.ws (s.sh.table/8+i)).toNat=true:=fun i hi=>by
 rw [ok.sh.table,show 128/8+i=16+i by omega,ok.tab i hi];exact(ok.tk i hi).right
set_option maxHeartbeats 2000000 in
theorem again10X{own:Nat→Prop}(hL0:0<L)(hL:L≤1024)(hs:shapeOf L=some sh)(h:Dev w d L ws M0 (fun _=>0) own)(hT:Tabs w)(g1:¬own 0)(g2:¬own 1)(ok:IxX Y L (openS ws sh) items)(hh:wordsAt ws 0 8=wordsOf sh):
 Calls Tryz.prog 15 #[.pointer (some ⟨d,0,none⟩)] w fun e w'=>∃p x F,e= .returned (.tuple #[.pointer (some ⟨p,0,none⟩),.pointer (some ⟨x,0,none⟩),.int .i64 0])∧Ix w' x d p L (openS ws sh) F∧Below w.heap.size w w':=by
 have HO:=Lib.hid (open_pool hL0 hL hs (by decide) h hT g1 g2 hh (open_right ok.ok));have HK:=Lib.hid ok;clear hL0 hL hs h hT g1 g2 hh ok;go_enter Tryz.func15,Tryz.ntmps15
 go_wp2_with fail
 refine HO.out.mono ?_;rintro e w1⟨p1,F1,rfl,hs1,hb1,_⟩;have hs1':Sys w1 d p1 L (openS ws sh) F1:=hs1;have HI:=Lib.hid (open_index hs1');have HB:=Lib.hid hb1;clear HO hs1 hb1 hs1'
 go_wp2_with fail
 refine HI.out.mono ?_;rintro e w2⟨hb2,hp2⟩;obtain⟨met,hm,_⟩:=survey_x HK.out;rw [hm]at hp2;obtain⟨x,rfl,hx,_⟩:=(hp2:∃x,e= .returned (.tuple #[.pointer (some ⟨x,0,none⟩),.int .i64 0])∧Ix w2 x d p1 L (openS ws sh) F1∧w1.heap.size≤x);have HX:=Lib.hid hx;have HB2:=Lib.hid (HB.out.trans (hb2.mono HB.out.size));clear HI hb2 hm hx
 go_wp2_with fail
 refine bodyPost_ret (v:= .tuple #[.pointer (some ⟨p1,0,none⟩),.pointer (some ⟨x,0,none⟩),.int .i64 0]) (by simp [results,Tryz.results15,go_sem]) rfl ?_;exact⟨p1,x,F1,rfl,HX.out,HB2.out⟩
theorem ours_new(l:List It)(A:Option Addr)(c:Nat)(w:World)(hl:l.length≤100000)(h:ItR w A l):Calls Tryz.prog 12 #[.slice A l.length c] w fun e w'=>
 ∃A' c',e= .returned (.slice A' l.length c')∧l.length≤c'∧(A'=none→c'=0)∧ItR w' A' l∧(∀a,A'=some a→w.heap.size≤a.block)∧Below w.heap.size w w':=by
 refine(ours10 l A c w hl h).mono ?_;rintro e w1⟨v,rfl,ho,hb⟩;obtain⟨A',c',hv,hc,hz,hr⟩:=own_itrF ho;subst hv;exact⟨A',c',rfl,hc,hz,hr,own_ge' ho,hb⟩
theorem nodes_x(h:Ix w x d p L s F)(ok:IxX Y L s items):Calls Tryz.prog 16 #[.pointer (some ⟨x,0,none⟩)] w fun e w'=>
 ∃A c N,e= .returned (.tuple #[.slice A N.length c,.int .i64 0])∧Rd w' A N.length (nvs N)∧(∀o∈N,o∈allP s)∧N.length≤65537∧Below w.heap.size w w':=by
 refine(nodes_index h).mono ?_;rintro e w1⟨hb,hp⟩;obtain⟨met,hm,_,_,h4⟩:=survey_x ok;rw [hm]at hp;obtain⟨v,he,ho,hl⟩:=(hp:∃v,e= .returned (.tuple #[v,.int .i64 0])∧w1.ownsRow w.heap.size 3 1 v (met.map Int.ofNat).length ((sortI (met.map Int.ofNat)).map (Value.int .i64))∧(met.map Int.ofNat).length≤65537);have hperm:(sortI (met.map Int.ofNat)).Perm (met.map Int.ofNat):=List.mergeSort_perm _ _;obtain⟨N,hN⟩:∃N:List Nat,N=(sortI (met.map Int.ofNat)).map Int.toNat:=⟨_,rfl⟩;have hNi:N.map Int.ofNat=sortI (met.map Int.ofNat):=by
  rw [hN,List.map_map]
  conv=>rhs;rw [←List.map_id (sortI (met.map Int.ofNat))]
  refine List.map_congr_left fun a ha=> ?_
  obtain⟨o,_,rfl⟩:=List.mem_map.1 (hperm.mem_iff.1 ha);rfl
 have hlen:(met.map Int.ofNat).length=N.length:=by rw [←hperm.length_eq,←hNi,List.length_map]
 rw [←hNi,hlen]at ho;rw [hlen]at hl;obtain⟨A,c,hv,_,hr⟩:=own_rdk ho;subst hv;rw [Nat.mul_one]at hr;refine⟨A,c,N,he,by rw [←iv_nvs];exact hr,fun o hoN=> ?_,hl,hb⟩;have h1:(o:Int)∈met.map Int.ofNat:=hperm.mem_iff.1 (by rw [←hNi];exact List.mem_map.2 ⟨o,hoN,rfl⟩);obtain⟨o',ho',e'⟩:=List.mem_map.1 h1;have:o'=o:=by injection e'
 subst this;exact(mem_allP ok.ok _).2 ((h4 _).2 (.inl ho'))
def Want(L:Nat)(s:St)(items:List Kv)(want:List It)(ws':Nat→UInt64):Prop:=
 ∃its Y,IxX Y L (openS ws' s.sh) its∧KeepX (fun _=>False) s (openS ws' s.sh)∧its.length≤items.length+1∧((its.map kvIt).map itP=(items.map kvIt).map itP∨(its.map kvIt).map itP=want.map itP)
theorem want_same{ws':Nat→UInt64}(h:IxOk L s items)(hg:ws'=s.ws)(want:List It):Want L s items want ws':=by
 obtain⟨Y,_,h1,h2⟩:=found h (KeepX.refl _ _) h.ok rfl (KeepT.refl _ _) (fun _ _=>rfl) (hg▸near_self s);exact⟨items,Y,h1,h2,Nat.le_succ _,.inl rfl⟩
theorem put_want{ws':Nat→UInt64}(h:IxOk L s items)(key:ByteArray)(v:UInt64)(lf:Int)(hm:(putM ⟨.up lf,s⟩ key.data.toList v).1.pw.mode.may (putM ⟨.up lf,s⟩ key.data.toList v).1.s.ws ws'):Want L s items (putR (items.map kvIt) key v).1 ws':=by
 obtain⟨its,h1,Y,_,h2,h3⟩:=put_after h key.data.toList v lf hm;rcases h1 with rfl| ⟨h1,h4,h5⟩
 ·exact⟨_,Y,h2,h3,Nat.le_succ _,.inl rfl⟩
 ·rw [key_len]at h4;exact⟨its,Y,h2,h3,put_len h2.up h1,.inr (put_same h (fun _=>⟨Y,_,h2⟩) key (by omega) (fun e=>h5 (UInt64.toNat_inj.1 (by simpa using e))) h1)⟩
theorem cut_want{ws':Nat→UInt64}(h:IxOk L s items)(key:ByteArray)(lf:Int)(hm:(cutM ⟨.up lf,s⟩ key.data.toList).1.pw.mode.may (cutM ⟨.up lf,s⟩ key.data.toList).1.s.ws ws'):Want L s items (cutR (items.map kvIt) key).1 ws':=by
 obtain⟨its,h1,Y,_,h2,h3⟩:=cut_after h key.data.toList lf hm;rcases h1 with rfl| ⟨h1,h4⟩
 ·exact⟨_,Y,h2,h3,Nat.le_succ _,.inl rfl⟩
 ·rw [key_len]at h4;have hle:its.length≤items.length:=nodup_sub_len its items (upK_nodup h2.up) (fun kv hkv=>((h1 kv).1 hkv).1);refine⟨its,Y,h2,h3,by omega,?_⟩;cases hi:isR (items.map kvIt) key with
  | true=>exact .inr (cut_same h h2 key (by omega) hi h1)
  | false=>
    refine .inl (rise_ext lessP_irr lessP_asym _ _ (up_itP (all_up h2)) (up_itP (all_up h)) fun x=> ?_);rw [kv_itP,kv_itP];simp only [List.mem_map];constructor
    ·rintro⟨kv,hkv,rfl⟩;exact⟨kv,((h1 kv).1 hkv).1,rfl⟩
    ·rintro⟨kv,hkv,rfl⟩;refine⟨kv,(h1 kv).2 ⟨hkv,fun e=> ?_⟩,rfl⟩;have:=(isR_mem h key).2 ⟨kv.2,by rw [←e];exact hkv⟩;rw [hi]at this;cases this
theorem put_may{m:SMode}(hm:(∃lf,m= .up (MU lf))∨m= .down (fun ws'=>ws'=s.ws))(h:IxL m w x d p L s F)(ok:IxOk L s items)(key:ByteArray)(hk:key.size≤1000)(v:UInt64):
 Calls Tryz.prog 8 #[.pointer (some ⟨x,0,none⟩),.string key,.int .u64 (v.toNat:Int)] w fun e w'=>(∃c:Int,e= .returned (.int .i64 c))∧
  ∃m2 s2 F2,IxL m2 w' x d p L s2 F2∧Moved F F2 w w'∧((∃lf,m2= .up (MU lf))∨∃P,m2= .down P)∧∀ws',m2.may s2.ws ws'→Want L s items (putR (items.map kvIt) key v).1 ws':=by
 rcases hm with⟨lf,rfl⟩| rfl
 ·refine(put_indexM h key hk v).mono ?_;rintro e w'⟨rfl,F2,hx,hM⟩;have hw:=fun ws' hmy=>put_want ok key v lf (ws':=ws') hmy
  generalize putM ⟨.up lf,s⟩ key.data.toList v=r at*;obtain⟨⟨pw,s2⟩,c⟩:=r;refine⟨⟨_,rfl⟩,_,s2,F2,hx,hM,?_,hw⟩;cases pw with
  | up lf'=>exact .inl ⟨_,rfl⟩
  | down P=>exact .inr ⟨_,rfl⟩
 ·refine(put_downed h key hk v).mono ?_;rintro e w'⟨hc,hb⟩;exact⟨hc,_,s,F,h.below hb,Moved.of_below hb,.inr ⟨_,rfl⟩,fun ws' e=>want_same ok e _⟩
theorem cut_may{m:SMode}(hm:(∃lf,m= .up (MU lf))∨m= .down (fun ws'=>ws'=s.ws))(h:IxL m w x d p L s F)(ok:IxOk L s items)(key:ByteArray)(hk:key.size≤1000):
 Calls Tryz.prog 7 #[.pointer (some ⟨x,0,none⟩),.string key] w fun e w'=>(∃v c:Int,e= .returned (.tuple #[.int .u64 v,.int .i64 c]))∧
  ∃m2 s2 F2,IxL m2 w' x d p L s2 F2∧Moved F F2 w w'∧((∃lf,m2= .up (MU lf))∨∃P,m2= .down P)∧∀ws',m2.may s2.ws ws'→Want L s items (cutR (items.map kvIt) key).1 ws':=by
 rcases hm with⟨lf,rfl⟩| rfl
 ·refine(cut_anyM h key hk).mono ?_;rintro e w'⟨rfl,F2,hx,hM⟩;have hw:=fun ws' hmy=>cut_want ok key lf (ws':=ws') hmy
  generalize cutM ⟨.up lf,s⟩ key.data.toList=r at*;obtain⟨⟨pw,s2⟩,v,c⟩:=r;refine⟨⟨_,_,rfl⟩,_,s2,F2,hx,hM,?_,hw⟩;cases pw with
  | up lf'=>exact .inl ⟨_,rfl⟩
  | down P=>exact .inr ⟨_,rfl⟩
 ·refine(cut_downed h key hk).mono ?_;rintro e w'⟨⟨c,hc⟩,hb⟩;exact⟨⟨0,c,hc⟩,_,s,F,h.below hb,Moved.of_below hb,.inr ⟨_,rfl⟩,fun ws' e=>want_same ok e _⟩
end
theorem shape_whole:shapeOf 100=some sh100:=by decide+kernel
def ones(l:List Nat):List (Int×Int):=l.map fun o:Nat=>((o:Int),(1:Int))
theorem map_grew{w:World}{mb:Nat}{l:List (Int×Int)}{e:Int×Int}(h:mb<w.heap.size):MapIs (putMap w mb (metE 0 (l++[e])).toArray (l.length+1)) mb (l++[e]):=by
 have:=putMap_at w mb (metE 0 (l++[e])).toArray (l.length+1) h;unfold MapIs;rw [this,List.length_append];rfl
set_option maxHeartbeats 16000000 in
set_option maxRecDepth 100000 in
theorem indexWhole_any(l:List Ac)(A:Option Addr)(c:Nat)(la:Ac)(af:Nat)(B:Option Addr)(bl:List UInt8)(bc:Nat)(w:World)(hl:l.length≤9223372036854775807)(h:Rd w A (l.length*3) (acCs l))(haf:af<256)(hbc:bl.length≤bc)(hB:Bs w B bl.length bl)(hBl:∀a,B=some a→a.block<w.heap.size)(hT:Tabs w):
 Calls Tryz.prog 3 #[.slice A l.length c,.agg #[.int .u8 (la.kind.toNat:Int),.string la.key,.int .u64 (la.n.toNat:Int)],.agg #[.int .u8 (af:Int),.slice B bl.length bc]] w fun e w'=>e= .returned (.bool true)∧Below w.heap.size w w':=by
 obtain⟨Wa,hWa⟩:∃Wa,Wa=w.alloc (.cells #[.int .u8 (la.kind.toNat:Int),.string la.key,.int .u64 (la.n.toNat:Int)] 25):=⟨_,rfl⟩;have hba:Below w.heap.size w Wa:=hWa▸(Below.refl _ _).alloc (Nat.le_refl _) _;have hsa:Wa.heap.size=w.heap.size+1:=by rw [hWa];simp
 have Ba:Blk Wa w.heap.size 25 [.int .u8 (la.kind.toNat:Int),.string la.key,.int .u64 (la.n.toNat:Int)]:=hWa▸heap_alloc_new _ _;obtain⟨W0,hW0⟩:∃W0,W0=Wa.alloc (.cells #[.int .u8 (af:Int),.slice B bl.length bc] 28):=⟨_,rfl⟩;have hb0:Below Wa.heap.size Wa W0:=hW0▸(Below.refl _ _).alloc (Nat.le_refl _) _;have Be:Blk W0 (w.heap.size+1) 28 [.int .u8 (af:Int),.slice B bl.length bc]:=by rw [←hsa];exact hW0▸heap_alloc_new _ _
 have Ba0:=Ba.below hb0 Ba.lt;have hb00:Below w.heap.size w W0:=hba.trans (hb0.mono hba.size);have HBx:Hid (∀W',Below W0.heap.size W0 W'→W'.cell? ⟨w.heap.size,0,none⟩=some (.int .u8 (la.kind.toNat:Int))∧W'.cell? ⟨w.heap.size,1,none⟩=some (.string la.key)∧W'.cell? ⟨w.heap.size,2,none⟩=some (.int .u64 (la.n.toNat:Int))∧W'.cell? ⟨w.heap.size+1,0,none⟩=some (.int .u8 (af:Int))∧W'.cell? ⟨w.heap.size+1,1,none⟩=some (.slice B bl.length bc)):=Lib.hid (fun W' k=>by
  have q1:=Ba0.below k Ba0.lt;have q2:=Be.below k Be.lt;exact⟨q1.cell 0,q1.cell 1,q1.cell 2,q2.cell 0,q2.cell 1⟩)
 have HT0:=Lib.hid (hT.below hb00);have HAl:=Lib.hid (alive10 (w:=W0) (hT.below hb00));have HR:=Lib.hid (h.below hb00);have HBs:=Lib.hid (hB.below hb00);have HBb:Hid (∀a,B=some a→a.block<W0.heap.size):=Lib.hid (fun a ea=>Nat.lt_of_lt_of_le (hBl a ea) hb00.size);have HHv:=Lib.hid (fun W(k:Below W0.heap.size W0 W)=>heavy10 l A c W hl ((h.below hb00).below k));have HHl:=Lib.hid (fun W(A':Option Addr)(c':Nat)(hr:Rd W A' (1*3) (acCs [la]))=>heavy10 [la] A' c' W (by simp) hr);have HBg:=Lib.hid (fun W(k:Below W0.heap.size W0 W)=>begin10_any (w:=W) (L:=100) (by decide) (by decide) shape_whole (hT.below (hb00.trans (k.mono hb00.size))));have HOk0:=Lib.hid (st0_ok (L:=100) (by decide) shape_whole);have HB00:=Lib.hid hb00;have HWa:=Lib.hid hWa;have HW0:=Lib.hid hW0;have hsw:w.heap.size+2≤W0.heap.size:=by rw [hW0];simp;omega
 have Q60:Hid ((af:Int)%60=((af%60:Nat):Int)):=Lib.hid (by omega);obtain⟨x0,x1,x2,x3,x4⟩:=HBx.out W0 (Below.refl _ _);clear hT h hl hB hBl hWa hba Ba hW0 hb0 Be Ba0 hb00 hsa;go_enter Tryz.func3,Tryz.ntmps3
 go_wp2_with fail
 rw [←HWa.out,←HW0.out];refine HAl.out.mono ?_;rintro e w1⟨rfl,hb1⟩;have HB1:=Lib.hid hb1;clear hb1 HAl x0 x1 x2 x3 x4;obtain⟨x0,x1,x2,x3,x4⟩:=HBx.out w1 HB1.out
 go_wp2_with fail
 refine(HHv.out w1 HB1.out).mono ?_;rintro e w2⟨rfl,hb2⟩;have HB2:=Lib.hid (HB1.out.trans (hb2.mono HB1.out.size));clear hb2 HHv HB1 x0 x1 x2 x3 x4;cases hv:heavyB l with
 | true=>
   obtain⟨x0,x1,x2,x3,x4⟩:=HBx.out w2 HB2.out
   go_wp2_with fail
   go_ret;exact⟨rfl,HB00.out.trans (HB2.out.mono HB00.out.size)⟩
 | false=>
   obtain⟨hl1,hk1⟩:=heavy_out hv;have HK:=Lib.hid hk1;clear hv hk1;obtain⟨x0,x1,x2,x3,x4⟩:=HBx.out w2 HB2.out;obtain⟨w3,hw3⟩:∃w3,w3=w2.alloc (.cells #[.int .u8 (la.kind.toNat:Int),.string la.key,.int .u64 (la.n.toNat:Int)] 25):=⟨_,rfl⟩;have hb3:Below w2.heap.size w2 w3:=hw3▸(Below.refl _ _).alloc (Nat.le_refl _) _;have hrl:Rd w3 (some ⟨w2.heap.size,0,none⟩) (1*3) (acCs [la]):=by rw [hw3];exact rd_nw w2 _ (acCs [la]) 3 rfl
   have HB3:=Lib.hid (HB2.out.trans (hb3.mono HB2.out.size));have HHl3:=Lib.hid (HHl.out w3 _ 1 hrl);have HW3:=Lib.hid hw3;clear hw3 hb3 hrl HHl
   go_wp2_with fail
   rw [←HW3.out];refine HHl3.out.mono ?_;rintro e w4⟨rfl,hb4⟩;have HB4:=Lib.hid (HB3.out.trans (hb4.mono HB3.out.size));clear hb4 HHl3 HB3 x0 x1 x2 x3 x4 HW3;obtain⟨x0,x1,x2,x3,x4⟩:=HBx.out w4 HB4.out;cases hv:heavyB [la]with
   | true=>
     go_wp2_with fail
     go_ret;exact⟨rfl,HB00.out.trans (HB4.out.mono HB00.out.size)⟩
   | false=>
     have hlk:=(heavy_out hv).2 la (List.mem_singleton.2 rfl);clear hv;by_cases hm:(100:Int)<(bl.length:Int)
     ·have t1:decide ((100:Int)<(bl.length:Int))=true:=decide_eq_true hm
      go_wp2_with fail
      go_ret;exact⟨rfl,HB00.out.trans (HB4.out.mono HB00.out.size)⟩
     ·have t1:decide ((100:Int)<(bl.length:Int))=false:=decide_eq_false hm;have hbn:bl.length≤1000000000:=by omega
      go_wp2_with fail
      refine(HBg.out w4 HB4.out).mono ?_;rintro e w5⟨d,p,x,F,rfl,hx,hb5,hF,hxw⟩;have HB5:=Lib.hid (HB4.out.trans (hb5.mono HB4.out.size));have HX:=Lib.hid hx;have HF:Hid (∀b,F b→W0.heap.size≤b):=Lib.hid (fun b h=>Nat.le_trans HB4.out.size (hF b h));clear HBg hx hb5 hF hxw x0 x1 x2 x3 x4 HB4;obtain⟨s0,hs0⟩:∃s0,s0=st0 sh100:=⟨_,rfl⟩;rw [←hs0]at HX HOk0;have HLo0:Hid (Low (st0 sh100) s0):=Lib.hid (hs0▸Low.refl _);clear hs0
      go_wp2_with fail
      go_loopw [51](fun i wr=>∃(k:Nat)(s:St)(items:List Kv)(F:Nat→Prop),k≤l.length∧i= .int .i64 (k:Nat)∧Ix wr x d p 100 s F∧IxOk 100 s items∧items.length≤k∧(∀b,F b→W0.heap.size≤b)∧Low (st0 sh100) s∧Below W0.heap.size W0 wr)(fun i _=>l.length- (intOf i).toNat)
      case atStart=>exact⟨0,s0,[],F,Nat.zero_le _,rfl,HX.out,HOk0.out,Nat.le_refl _,HF.out,HLo0.out,HB5.out⟩
      case round=>
       obtain⟨k,s,items,F1,hk,rfl,hx1,hok1,hil,hF1,hlo1,hb1⟩:=hrel;have HX1:=Lib.hid hx1;have HO1:=Lib.hid hok1;have HF1:=Lib.hid hF1;have HL1:=Lib.hid hlo1;have HB:=Lib.hid hb1;clear HX HOk0 HF hx1 hok1 hF1 hb1 hlo1 HLo0 HB5 HB2;by_cases hlt:k<l.length
       ·have hx1:(k:Int)<(l.length:Int):=by omega
        have hx2:decide ((k:Int)<(l.length:Int))=true:=decide_eq_true hx1;have hx5:decide (k<l.length)=true:=decide_eq_true hlt;have hwk:IntKind.i64.wrap ((k:Int)+1)=(k:Int)+1:=IntWalk.i64_in _ (by omega);obtain⟨b,off,rfl,hbw,q0,q1,q2⟩:=ac_at (Rd.below HR.out HB.out) k hlt;have hks:=HK.out _ (List.getElem_mem hlt);generalize l[k]=a at*;obtain⟨W,hW⟩:∃W,W=wr.alloc (.cells #[.int .u8 (a.kind.toNat:Int),.string a.key,.int .u64 (a.n.toNat:Int)] 25):=⟨_,rfl⟩;have hbW:Below wr.heap.size wr W:=hW▸(Below.refl _ _).alloc (Nat.le_refl _) _;have HW:=Lib.hid hW;have HXW:=Lib.hid (HX1.out.below hbW);have HBW:=Lib.hid (HB.out.trans (hbW.mono HB.out.size));have hfar:Far s.sh:=far_of HO1.out.ok.sh;by_cases hpar:a.kind.toNat%3=0
        ·have t3:((a.kind.toNat:Int)%3==0)=true:=by simp;omega
         have HCp:=Lib.hid (cut_any HXW.out a.key (by omega));have HRo:=Lib.hid (cut_round HO1.out a.key);have HLs:=Lib.hid (HL1.out.trans (low_cutK s hfar a.key.data.toList));clear hW hbW HX1 hpar hfar
         go_wp2_with fail
         rw [←HW.out];refine HCp.out.mono ?_;rintro e w5⟨rfl,F5,hx5',hm5⟩;obtain⟨items5,ho5,hl5,_⟩:=HRo.out;have HX5:=Lib.hid hx5';have HO5:=Lib.hid ho5;have HF5:Hid (∀b,F5 b→W0.heap.size≤b):=Lib.hid (fun b h=>(hm5.own b h).elim (HF1.out b) (fun h=>Nat.le_trans HBW.out.size h));have HB5:=Lib.hid (HBW.out.trans (hm5.touch.below HBW.out.size HF1.out));clear HCp hx5' hm5 ho5 HRo
         go_wp2_with fail
         go_roundw
         case rel=>exact⟨k+1,_,items5,F5,by omega,by go_num,HX5.out,HO5.out,by omega,HF5.out,HLs.out,HB5.out⟩
         case measure=>simp [intOf];omega
        ·have t3:((a.kind.toNat:Int)%3==0)=false:=by rw [beq_eq_false_iff_ne];omega
         have HCp:=Lib.hid (put_index HXW.out a.key (by omega) a.n);have HRo:=Lib.hid (put_round HO1.out a.key a.n);have HLs:=Lib.hid (HL1.out.trans (low_putK s hfar a.key.data.toList a.n));clear hW hbW HX1 hpar hfar
         go_wp2_with fail
         rw [←HW.out];refine HCp.out.mono ?_;rintro e w5⟨rfl,F5,hx5',hm5⟩;obtain⟨items5,ho5,hl5,_⟩:=HRo.out;have HX5:=Lib.hid hx5';have HO5:=Lib.hid ho5;have HF5:Hid (∀b,F5 b→W0.heap.size≤b):=Lib.hid (fun b h=>(hm5.own b h).elim (HF1.out b) (fun h=>Nat.le_trans HBW.out.size h));have HB5:=Lib.hid (HBW.out.trans (hm5.touch.below HBW.out.size HF1.out));clear HCp hx5' hm5 ho5 HRo
         go_wp2_with fail
         go_roundw
         case rel=>exact⟨k+1,_,items5,F5,by omega,by go_num,HX5.out,HO5.out,by omega,HF5.out,HLs.out,HB5.out⟩
         case measure=>simp [intOf];omega
       ·have hx1:decide ((k:Int)<(l.length:Int))=false:=decide_eq_false (by omega);have hx5:decide (k<l.length)=false:=decide_eq_false hlt;have HAll:=Lib.hid (all_right HX1.out HO1.out);have hil':items.length≤100:=by omega
        obtain⟨D0,hD0⟩:∃D0,D0=items.map kvIt:=⟨_,rfl⟩;have hd1:D0.length≤100:=by rw [hD0,List.length_map];omega
        have HD0:=Lib.hid hD0;rw [←hD0]at HAll;clear hD0
        go_wp2_with fail
        refine HAll.out.mono ?_;rintro e w6⟨A4,c4,rfl,hr4,hn4,_,hb6⟩;have HB6:=Lib.hid (HB.out.trans (hb6.mono HB.out.size));have hx6:=HX1.out.below hb6;have HX6:=Lib.hid hx6;have HSt:=Lib.hid (stop_sys hx6.sys (af%60) (by omega));have HR4:Hid (RdO w6 F1 A4 (2*D0.length) (itCs D0)):=Lib.hid ⟨hr4,fun _=>hn4⟩;obtain⟨x0,x1,x2,x3,x4⟩:=HBx.out w6 HB6.out;clear HAll hr4 hn4 hb6 hx6 HX1 HB
        go_wp2_with fail
        rw [Q60.out];refine HSt.out.mono ?_;rintro e w7⟨⟨v,rfl⟩,m7,F7,hs7,hm7,hmd⟩;have hx7:=HX6.out.move hs7 hm7;have HX7:=Lib.hid hx7;have hF7:∀b,F7 b→W0.heap.size≤b:=fun b h=>(hm7.own b h).elim (HF1.out b) (fun h=>Nat.le_trans HB6.out.size h)
        have HF7:=Lib.hid hF7;have HB7:=Lib.hid (HB6.out.trans (hm7.touch.below HB6.out.size HF1.out));have HR7:=Lib.hid (HR4.out.moved hm7);have HMd:Hid ((∃lf,m7= .up (MU lf))∨m7= .down (fun ws'=>ws'=s.ws)):=Lib.hid (hmd.elim (fun h=> .inl ⟨_,h.2⟩) (fun h=> .inr h.2));clear HSt hs7 hm7 hmd hx7 hF7 HR4 HX6 HB6 x0 x1 x2 x3 x4;obtain⟨x0,x1,x2,x3,x4⟩:=HBx.out w7 HB7.out;by_cases hpar:la.kind.toNat%3=0
        case' pos=>
         have t3:((la.kind.toNat:Int)%3==0)=true:=by simp;omega
         have HCp:=Lib.hid (cut_may HMd.out HX7.out HO1.out la.key (by omega));rw [←HD0.out]at HCp;obtain⟨want,hwant⟩:∃want,want=(cutR D0 la.key).1:=⟨_,rfl⟩;rw [←hwant]at HCp;have hwl:want.length≤200:=by rw [hwant];have:=cutR_len D0 la.key;omega
         have HWt:=Lib.hid hwant;clear hwant hpar HX7
         go_wp2_with fail
         refine HCp.out.mono ?_;rintro e w8⟨⟨v,cc,rfl⟩,m8,s8,F8,hx8,hm8,hmo8,hwt8⟩
        case' neg=>
         have t3:((la.kind.toNat:Int)%3==0)=false:=by rw [beq_eq_false_iff_ne];omega
         have HCp:=Lib.hid (put_may HMd.out HX7.out HO1.out la.key (by omega) la.n);rw [←HD0.out]at HCp;obtain⟨want,hwant⟩:∃want,want=(putR D0 la.key la.n).1:=⟨_,rfl⟩;rw [←hwant]at HCp;have hwl:want.length≤200:=by rw [hwant];have:=putR_len D0 la.key la.n;omega
         have HWt:=Lib.hid hwant;clear hwant hpar HX7
         go_wp2_with fail
         refine HCp.out.mono ?_;rintro e w8⟨⟨cc,rfl⟩,m8,s8,F8,hx8,hm8,hmo8,hwt8⟩
        all_goals
         have HX8:=Lib.hid hx8;have HF8:Hid (∀b,F8 b→W0.heap.size≤b):=Lib.hid (fun b h=>(hm8.own b h).elim (HF7.out b) (fun h=>Nat.le_trans HB7.out.size h));have HB8:=Lib.hid (HB7.out.trans (hm8.touch.below HB7.out.size HF7.out));have HR8:=Lib.hid (HR7.out.moved hm8);have HMo:=Lib.hid hmo8;have HWa8:=Lib.hid hwt8;clear HCp hx8 hm8 hmo8 hwt8 x0 x1 x2 x3 x4 HMd HR7 HB7;have HOu:Hid (∀X,Below w8.heap.size w8 X→Calls Tryz.prog 12 #[.slice A4 D0.length c4] X fun e w'=>∃A' c',e= .returned (.slice A' D0.length c')∧D0.length≤c'∧(A'=none→c'=0)∧ItR w' A' D0∧(∀a,A'=some a→X.heap.size≤a.block)∧Below X.heap.size X w'):=Lib.hid (fun X k=>ours_new D0 A4 c4 X (by omega) (HR8.out.1.below k));obtain⟨x0,x1,x2,x3,x4⟩:=HBx.out w8 HB8.out;have HKp:Hid (∀X,Below w8.heap.size w8 X→X.cell? ⟨w.heap.size,1,none⟩=some (.string la.key)∧X.cell? ⟨w.heap.size,2,none⟩=some (.int .u64 (la.n.toNat:Int))):=Lib.hid (fun X k=>by
          have:=HBx.out X (HB8.out.trans (k.mono HB8.out.size));exact⟨this.2.1,this.2.2.1⟩)
         clear x0 x3 x4
         go_wp2_with fail
        case' pos=>
         go_region_held3(fun w'=>w'.cell? ⟨w.heap.size,1,none⟩=some (.string la.key))
          (first| exact x1| exact(HKp.out _ ((Dr.drew w8).below _)).1| exact(HKp.out _ (((Dr.drew w8).below _).trans hb9)).1| exact(HKp.out _ ((((Dr.drew w8).below _).trans hb9).trans (hb10.mono hb9.size))).1)
          ((first| (go_at_call 12;refine(HOu.out _ ((Dr.drew w8).below _)).mono ?_;rintro e w9⟨A9,c9,rfl,hc9,hz9,hr9,hg9,hb9⟩)| (go_at_call 11;refine(cutR_any D0 A9 c9 la.key w9 (by omega) hc9 (by omega) hr9).mono ?_;rintro e w10⟨A10,c10,rfl,hr10,hb10,hg10⟩)))
        case' neg=>
         go_region_held3(fun w'=>w'.cell? ⟨w.heap.size,1,none⟩=some (.string la.key)∧w'.cell? ⟨w.heap.size,2,none⟩=some (.int .u64 (la.n.toNat:Int)))
          (first| exact⟨x1,x2⟩| exact(HKp.out _ ((Dr.drew w8).below _))| exact(HKp.out _ (((Dr.drew w8).below _).trans hb9))| exact(HKp.out _ ((((Dr.drew w8).below _).trans hb9).trans (hb10.mono hb9.size))))
          ((first| (go_at_call 12;refine(HOu.out _ ((Dr.drew w8).below _)).mono ?_;rintro e w9⟨A9,c9,rfl,hc9,hz9,hr9,hg9,hb9⟩)| (go_at_call 13;refine(putR_any D0 A9 c9 la.key la.n w9 (by omega) hc9 hz9 (by omega) hr9).mono ?_;rintro e w10⟨A10,c10,rfl,_,_,hr10,hb10,hg10'⟩;have hg10:=hg10'.imp And.left id)))
        all_goals
         rw [←HWt.out]at hr10⊢;have hbb:Below w8.heap.size w8 w10:=(((Dr.drew w8).below _).trans hb9).trans (hb10.mono hb9.size);have HQ:=Lib.hid hbb;have HG10:Hid (∀a,A10=some a→¬F8 a.block):=Lib.hid (fun a ea hf=>by
          have h1:=HX8.out.sys.lt _ hf;have h2:w8.heap.size≤w9.heap.size:=(((Dr.drew w8).below _).trans hb9).size;rcases hg10 with e| e
          ·have:=hg9 a (e▸ea);have h3:w8.drew.heap.size=w8.heap.size:=rfl;omega
          ·have:=e a ea;omega)
         have HR10:=Lib.hid hr10;have HB10:=Lib.hid (HB8.out.trans (hbb.mono HB8.out.size));have HX10:=Lib.hid (HX8.out.below hbb);have HRd:=Lib.hid (HR8.out.below hbb);clear hbb hb9 hb10 hr9 hr10 hg9 hg10 HOu HKp HX8 HR8 HB8 x1 x2;obtain⟨x0,x1,x2,x3,x4⟩:=HBx.out w10 HB10.out;have HCr:=Lib.hid (crash_mode HMo.out HX10.out.sys B bl.length bc bl hbn ⟨hbc,HBs.out.below HB10.out,fun a ea hf=>by have:=HBb.out a ea;have:=HF8.out _ hf;omega⟩)
         go_wp2_with fail
         refine HCr.out.mono ?_;rintro e w11⟨⟨v,rfl⟩,ws',own,hmay,hd11,ho11,ht11,hT11,g1,g2⟩;obtain⟨its,Y,hix,hkx,hlen,hcase⟩:=HWa8.out ws' hmay;have hsE:s.sh=sh100:=HL1.out.1;have hhd:wordsAt ws' 0 8=wordsOf s.sh:=by
          rw [←low_head HL1.out];apply List.ext_getElem
          ·simp [wordsAt]
          ·intro i h1 h2;have:i<8:=by simpa [wordsAt]using h1
           rw [wordsAt_get,wordsAt_get,Nat.zero_add];exact hkx.low i (by omega) (by omega)
         have HB11:=Lib.hid (HB10.out.trans (ht11.below HB10.out.size HF8.out));have HRd11:Hid (ItR w11 A4 D0):=Lib.hid (RdO.moved (G':=F8) HRd.out ⟨ht11,fun b h=> .inl h⟩).1;have HRw11:Hid (ItR w11 A10 want):=Lib.hid (Rd.touch HR10.out ht11 HG10.out);have HAg:=Lib.hid (again10X (L:=100) (by decide) (by decide) (by rw [hsE];exact shape_whole) hd11 hT11 g1 g2 hix hhd);obtain⟨E0,hE0⟩:∃E0,E0=its.map kvIt:=⟨_,rfl⟩;have hEl:E0.length≤200:=by rw [hE0,List.length_map];omega
         have HIx:=Lib.hid hix;have HCs:Hid (E0.map itP=D0.map itP∨E0.map itP=want.map itP):=Lib.hid (by rw [hE0,HD0.out];exact hcase);generalize openS ws' s.sh=sf at HAg HIx;have HE0:=Lib.hid hE0;clear HCr hmay hd11 ho11 ht11 hT11 g1 g2 hix hkx hlen hcase hsE hhd hE0 HRd HR10 HWa8 HMo HX10 HF8 HB10 x0 x1 x2 x3 x4
         go_wp2_with fail
         refine HAg.out.mono ?_;rintro e w12⟨p2,y2,F12,rfl,hx12,hb12⟩;have HX12:=Lib.hid hx12;have HB12:=Lib.hid (HB11.out.trans (hb12.mono HB11.out.size));have HRd12:=Lib.hid (HRd11.out.below hb12);have HRw12:=Lib.hid (HRw11.out.below hb12);have HAl:=all_right hx12 HIx.out;rw [←HE0.out]at HAl;have HAl:=Lib.hid HAl;clear HAg hx12 hb12 HRd11 HRw11 HB11
         go_wp2_with fail
         refine HAl.out.mono ?_;rintro e w13⟨A13,c13,rfl,hr13,_,_,hb13⟩;have HX13:=Lib.hid (HX12.out.below hb13);have HB13:=Lib.hid (HB12.out.trans (hb13.mono HB12.out.size));have HRd13:=Lib.hid (HRd12.out.below hb13);have HRw13:=Lib.hid (HRw12.out.below hb13);have HRe13:=Lib.hid hr13;have HNo:=Lib.hid (nodes_x HX13.out HIx.out);clear HAl hr13 hb13 HRd12 HRw12 HB12 HX12
         go_wp2_with fail
         refine HNo.out.mono ?_;rintro e w14⟨A14,c14,N,rfl,hr14,hN14,hnl,hb14⟩;have HX14:=Lib.hid (HX13.out.below hb14);have HB14:=Lib.hid (HB13.out.trans (hb14.mono HB13.out.size));have HRd14:=Lib.hid (HRd13.out.below hb14);have HRw14:=Lib.hid (HRw13.out.below hb14);have HRe14:=Lib.hid (HRe13.out.below hb14);have HNn14:=Lib.hid hr14;have HNm:=Lib.hid hN14;have HOu1:=Lib.hid (ours_right E0 A13 c13 w14 (by omega) HRe14.out);clear HNo hr14 hN14 hb14 HRd13 HRw13 HRe13 HB13 HX13
         go_wp2_with fail
         refine HOu1.out.mono ?_;rintro e w15⟨A15,c15,rfl,_,_,hr15,hb15⟩;have HRe15:=Lib.hid hr15;have HB15:=Lib.hid hb15;have HOu2:=Lib.hid (ours_right D0 A4 c4 w15 (by omega) (HRd14.out.below hb15));clear HOu1 hr15 hb15
         go_wp2_with fail
         refine HOu2.out.mono ?_;rintro e w16⟨A16,c16,rfl,_,_,hr16,hb16⟩;have HB16:=Lib.hid (HB15.out.trans (hb16.mono HB15.out.size));have HSm:=Lib.hid (same_any E0 D0 A15 A16 c15 c16 w16 (by omega) (HRe15.out.below hb16) hr16);clear HOu2 hr16 hb16 HRe15 HB15
         go_wp2_with fail
         refine HSm.out.mono ?_;rintro e wq⟨hsq,hdq⟩;have HBq:=Lib.hid (HB16.out.trans ((hdq.below w16.heap.size).mono HB16.out.size));clear HSm hdq HB16 HRd14;have mm:=fun W=>run_makeMap (P:=Tryz.prog) 57 W
         rcases hsq with⟨rfl,_,_⟩| ⟨rfl,hns⟩
         case' inl=>
          obtain⟨wm,hwm⟩:∃wm,wm=wq.alloc (.map #[] 0):=⟨_,rfl⟩;have hbm:Below wq.heap.size wq wm:=hwm▸(Below.refl _ _).alloc (Nat.le_refl _) _;obtain⟨mb,hmb⟩:∃mb,mb=wq.heap.size:=⟨_,rfl⟩;have HMp:Hid (MapIs wm mb []):=Lib.hid (by rw [hmb];exact hwm▸heap_alloc_new _ _);have HBm:=Lib.hid (HBq.out.trans (hbm.mono HBq.out.size));have Hmb:Hid (w14.heap.size≤mb∧mb<wm.heap.size):=Lib.hid ⟨hmb▸HBq.out.size,by rw [hmb,hwm];simp⟩;have HWm:=Lib.hid hwm;have HMb:=Lib.hid hmb;clear hwm hbm hmb HBq HRw14 HRe14
          go_wp2_with fail
          rw [←HWm.out,←HMb.out]
         case' inr=>
          have hew:E0.map itP=want.map itP:=HCs.out.resolve_left (fun e=>hns (same_itP e));have HOu3:=Lib.hid (ours_right E0 A13 c13 wq (by omega) (HRe14.out.below HBq.out));have HEw:=Lib.hid hew;clear hns hew
          go_wp2_with fail
          refine HOu3.out.mono ?_;rintro e w18⟨A18,c18,rfl,_,_,hr18,hb18⟩;have HB18:=Lib.hid (HBq.out.trans (hb18.mono HBq.out.size));have HS2:=Lib.hid (same_right E0 want A18 A10 c18 c10 w18 (by omega) hr18 ((HRw14.out.below HBq.out).below hb18) HEw.out);clear HOu3 hr18 hb18 HBq
          go_wp2_with fail
          refine HS2.out.mono ?_;rintro e wv⟨rfl,hdv⟩;have HBv:=Lib.hid (HB18.out.trans ((hdv.below w18.heap.size).mono HB18.out.size));clear HS2 hdv HB18;obtain⟨wm,hwm⟩:∃wm,wm=wv.alloc (.map #[] 0):=⟨_,rfl⟩;have hbm:Below wv.heap.size wv wm:=hwm▸(Below.refl _ _).alloc (Nat.le_refl _) _;obtain⟨mb,hmb⟩:∃mb,mb=wv.heap.size:=⟨_,rfl⟩;have HMp:Hid (MapIs wm mb []):=Lib.hid (by rw [hmb];exact hwm▸heap_alloc_new _ _);have HBm:=Lib.hid (HBv.out.trans (hbm.mono HBv.out.size));have Hmb:Hid (w14.heap.size≤mb∧mb<wm.heap.size):=Lib.hid ⟨hmb▸HBv.out.size,by rw [hmb,hwm];simp⟩;have HWm:=Lib.hid hwm;have HMb:=Lib.hid hmb;clear hwm hbm hmb HBv HRw14 HRe14
          go_wp2_with fail
          rw [←HWm.out,←HMb.out]
         all_goals
          obtain⟨P,hP⟩:∃P,P=allP sf:=⟨_,rfl⟩;have HPu:Hid (P.Pairwise (·<·)):=Lib.hid (hP▸allP_up HIx.out.ok);have HPm:Hid (∀o∈N,o∈P):=Lib.hid (hP▸HNm.out);have HAl2:Hid (Calls Tryz.prog 18 #[.pointer (some ⟨p2,0,none⟩)] wm fun e w'=>∃v,e= .returned v∧w'.ownsRow wm.heap.size 3 1 v P.length (nvs P)∧Below wm.heap.size wm w'):=Lib.hid (by
           obtain⟨tb,hbk,n,cT,cH,hp⟩:=pool_of (HX14.out.below HBm.out);rw [hP];exact all_pool hp)
          have hPl:P.length≤100000:=by
           have h1:=all_len HIx.out.ok;rw [←hP]at h1;omega
          have hNl:N.length≤100000:=by omega
          clear hP HX14 HIx HNm HWm HMb;refine HAl2.out.mono ?_;rintro e w20⟨v,rfl,ho20,hb20⟩;obtain⟨A20,c20,rfl,hc20,hr20⟩:=own_rdk ho20;rw [Nat.mul_one]at hr20;have HG20:Hid (∀a,A20=some a→wm.heap.size≤a.block):=Lib.hid (own_ge' ho20);have HR20:=Lib.hid hr20;have HB20:=Lib.hid (HBm.out.trans (hb20.mono HBm.out.size));have HMp20:=Lib.hid (HMp.out.below hb20);clear HAl2 ho20 hr20 hb20 hc20 HMp;obtain⟨nP,hnP⟩:∃nP,nP=P.length:=⟨_,rfl⟩;have HnP:=Lib.hid hnP;rw [←hnP]at hPl⊢;clear hnP
          go_wp2_with fail
          go_loopw [167](fun i wr=>∃k:Nat,k≤nP∧i= .int .i64 (k:Nat)∧MapIs wr mb (ones (P.take k))∧Touch (fun b=>b=mb) w20 wr)(fun i _=>nP- (intOf i).toNat)
          case atStart=>exact⟨0,Nat.zero_le _,rfl,HMp20.out,Touch.refl _ _⟩
          case round=>
           obtain⟨k,hk',rfl,hmk,htk⟩:=hrel;have HMk:=Lib.hid hmk;have HTk:=Lib.hid htk;clear hmk htk HMp20;by_cases hlt:k<nP
           ·have hkl:k<P.length:=by have:=HnP.out;omega
            obtain⟨b,off,u,rfl,hbw,hu,q0⟩:=HR20.out.at (k:=k) hkl;rw [nvs,List.getElem?_map,List.getElem?_eq_getElem hkl,Option.map_some,Option.some.injEq]at hu;subst hu;have hne:b≠mb:=fun e=>by have:=HG20.out _ rfl;have:=Hmb.out.2;simp only at*;omega
            replace q0:=(World.cell?_of_block (a:=⟨b,off+k,none⟩) (HTk.out.block b hbw hne)).trans q0;have hno:∀p∈ones (P.take k),p.1≠((P[k]:Nat):Int):=fun p hp e=>by
             obtain⟨o,ho,rfl⟩:=List.mem_map.1 hp;obtain⟨j,hj,rfl⟩:=List.getElem_of_mem ho;rw [List.length_take]at hj;rw [List.getElem_take]at e;have h1:=List.pairwise_iff_getElem.1 HPu.out j k (by omega) hkl (by omega);have h2:((P[j]:Nat):Int)=((P[k]:Nat):Int):=e;omega
            have HTa:Hid (ones (P.take (k+1))=ones (P.take k)++[(((P[k]:Nat):Int),1)]):=Lib.hid (by
             unfold ones;rw [List.take_succ_eq_append_getElem hkl,List.map_append];rfl)
            generalize P[k]=o at*;have k1:=look_no Tryz.metMap Tryz.underlying3 Tryz.zeroInt wr mb _ (o:Int) HMk.out hno;have k2:=upd_no Tryz.metMap Tryz.underlying3 wr mb _ (o:Int) 1 HMk.out hno;have hml:=HMk.out.lt;have hx1:(k:Int)<(nP:Int):=by omega
            have hx2:decide ((k:Int)<(nP:Int))=true:=decide_eq_true hx1;have hx5:decide (k<nP)=true:=decide_eq_true hlt;have hwk:IntKind.i64.wrap ((k:Int)+1)=(k:Int)+1:=IntWalk.i64_in _ (by omega);clear hno hbw hne
            go_wp2_with fail
            go_roundw
            case rel=>
             refine⟨k+1,by omega,by go_num,?_,HTk.out.trans (putMap_touch _ _ _ _) (fun b hb=> .inl hb)⟩;rw [HTa.out];exact map_grew hml
            case measure=>simp [intOf];omega
           ·have hx2:decide ((k:Int)<(nP:Int))=false:=decide_eq_false (by omega);have hx5:decide (k<nP)=false:=decide_eq_false hlt;have HMa:Hid (MapIs wr mb (ones P)):=Lib.hid (by
             have:=HMk.out
             rwa [List.take_of_length_le (by have:=HnP.out;omega)]at this)
            have HBr:Hid (Below w14.heap.size w14 wr):=Lib.hid (HB20.out.trans (HTk.out.below (B:=w14.heap.size) HB20.out.size (fun b hb=>by rw [show b=mb from hb];exact Hmb.out.1)));have HNr:Hid (Rd wr A14 N.length (nvs N)):=Lib.hid (Rd.below HNn14.out HBr.out);clear HMk HTk HR20 HB20 HG20 HNn14 hk' hlt
            go_wp2_with fail
            go_loopw [178](fun i wz=>∃k:Nat,k≤N.length∧i= .int .i64 (k:Nat)∧wz=wr)(fun i _=>N.length- (intOf i).toNat)
            case atStart=>exact⟨0,Nat.zero_le _,rfl,rfl⟩
            case round=>
             obtain⟨j,hj,rfl,rfl⟩:=hrel;by_cases hjt:j<N.length
             ·obtain⟨b,off,u,rfl,hbw,hu,q0⟩:=HNr.out.at (k:=j) hjt;rw [nvs,List.getElem?_map,List.getElem?_eq_getElem hjt,Option.map_some,Option.some.injEq]at hu;subst hu;have hoP:=HPm.out _ (List.getElem_mem hjt);generalize N[j]=o at*;obtain⟨i,hi,hio⟩:=List.getElem_of_mem hoP;have hsp:ones P=ones (P.take i)++((o:Int),1)::ones (P.drop (i+1)):=by
               unfold ones;rw [←hio,←List.map_cons (f:=fun o:Nat=>((o:Int),(1:Int))),←List.drop_eq_getElem_cons hi,←List.map_append,List.take_append_drop]
              have hno:∀p∈ones (P.take i),p.1≠(o:Int):=fun p hp e=>by
               obtain⟨o',ho,rfl⟩:=List.mem_map.1 hp;obtain⟨t,ht,rfl⟩:=List.getElem_of_mem ho;rw [List.length_take]at ht;rw [List.getElem_take]at e;have h1:=List.pairwise_iff_getElem.1 HPu.out t i (by omega) hi (by omega);have h2:((P[t]:Nat):Int)=(o:Int):=e;omega
              have hma:=HMa.out;rw [hsp]at hma;have k1:=look_yes (P:=Tryz.prog) Tryz.metMap Tryz.underlying3 wr mb _ _ (o:Int) 1 hma hno;have hx1:(j:Int)<(N.length:Int):=by omega
              have hx2:decide ((j:Int)<(N.length:Int))=true:=decide_eq_true hx1;have hx5:decide (j<N.length)=true:=decide_eq_true hjt;have hwk:IntKind.i64.wrap ((j:Int)+1)=(j:Int)+1:=IntWalk.i64_in _ (by omega);clear hma hno hsp hio hi hoP
              go_wp2_with fail
              go_roundw
              case rel=>exact⟨j+1,by omega,by go_num,trivial⟩
              case measure=>simp [intOf];omega
             ·have hx2:decide ((j:Int)<(N.length:Int))=false:=decide_eq_false (by omega);have hx5:decide (j<N.length)=false:=decide_eq_false hjt
              go_wp2_with fail
              go_ret;exact⟨rfl,HB00.out.trans ((HB14.out.trans (HBr.out.mono HB14.out.size)).mono HB00.out.size)⟩
end Go.Proofs.YtdjfbnoolfpcnaaGreatDoor
