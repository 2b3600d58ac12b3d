import Derived.Test.YtdjfbnoolfpcnaaGreatDoorG24
import Derived.Test.YtdjfbnoolfpcnaaGreatDoorG25
namespace Go.Proofs.YtdjfbnoolfpcnaaGreatDoor
open Go.RowKit
section
variable{base jb x d p L:Nat}
theorem grow_job{w:World}{j:Jm}{G:Nat→Prop}(h:JobAt w base jb x d p L j G)(nd:Nd)(A1 A2 A3:Option Addr)(c1 c2 c3:Nat)(off word:Int)(lb:UInt8)(rest:List UInt8)(A:Option Addr)(c:Nat)(value:UInt64)
 (hN:NdR w G (.slice A1 nd.pre.length c1) (.int .u64 (nd.val.toNat:Int)) (.slice A2 nd.labels.length c2) (.slice A3 nd.kids.length c3) nd)(b1:nd.pre.length≤100)(b2:nd.labels.length≤100)(b3:nd.kids.length≤100)
 (hR:RdO w G A rest.length (rest.map bv))(hrc:rest.length≤c)(hrl:rest.length≤100)(hm:j.made.length≤500)(hne:nd.pre≠rest):
 Calls Tryz.prog 29 #[.pointer (some ⟨jb,0,none⟩),.agg #[.slice A1 nd.pre.length c1,.int .u64 (nd.val.toNat:Int),.slice A2 nd.labels.length c2,.slice A3 nd.kids.length c3,.int .i64 off,.int .u8 (lb.toNat:Int),.int .i64 word],.slice A rest.length c,.int .u64 (value.toNat:Int)] w (JobPost (growM j nd rest value) base jb x d p L G w):=by
 have hl:=common_le_left nd.pre rest;have hr:=common_le_right nd.pre rest;by_cases hs:common nd.pre rest=nd.pre.length
 ·refine grow_same h nd A1 A2 A3 c1 c2 c3 off word lb rest A c value hN b1 b2 b3 hR hrc hrl hm hs ?_;rcases Nat.lt_or_ge (common nd.pre rest) rest.length with h1| h1
  ·exact h1
  ·exact absurd (common_full _ _ hs (by omega)) hne
 ·have hs':common nd.pre rest<nd.pre.length:=by omega
  by_cases he:common nd.pre rest=rest.length
  ·exact grow_end h nd A1 A2 A3 c1 c2 c3 off word lb rest A c value hN b1 b2 b3 hR hrc hrl hm hs' he
  ·have hlt:common nd.pre rest<rest.length:=by omega
   by_cases her:(buildM j {nd with pre:=nd.pre.drop (common nd.pre rest+1)}).2.2=0
   ·cases hok:withOkP ⟨nd.pre.take (common nd.pre rest),0,[],[]⟩ (nd.pre.getD (common nd.pre rest) 0) (buildM j {nd with pre:=nd.pre.drop (common nd.pre rest+1)}).2.1
    ·exact grow_no h nd A1 A2 A3 c1 c2 c3 off word lb rest A c value hN b1 b2 b3 hR hrc hrl hm hs' hlt her hok
    ·exact grow_yes h nd A1 A2 A3 c1 c2 c3 off word lb rest A c value hN b1 b2 b3 hR hrc hrl hm hs' hlt her hok
   ·exact grow_err h nd A1 A2 A3 c1 c2 c3 off word lb rest A c value hN b1 b2 b3 hR hrc hrl hm hs' hlt her
end
theorem JobAt.done{w W w':World}{base jb x d p L:Nat}{j:Jm}{F G G':Nat→Prop}(h:JobAt w' base jb x d p L j G')(m:Moved G G' W w')(hb:Below w.heap.size w W)(hG:∀b,G b→F b∨w.heap.size≤b):∃F',IxM w' x d p L j.s F'∧Moved F F' w w':=by
 obtain⟨F',v,hj,hG'⟩:=h;have hs:=hb.size;refine⟨F',hj.ix,(Touch.of_below hb).trans m.touch hG,fun b hb'=> ?_⟩;rcases m.own b ((hG' b).2 (.inl hb'))with h1| h1
 ·exact hG b h1
 ·exact .inr (by omega)
theorem job_new{w W:World}{x d p L:Nat}{q:Ms}{F:Nat→Prop}(h:IxM W x d p L q F)(hw:W=w.alloc (.cells #[.pointer (some ⟨x,0,none⟩),.slice none 0 0] 79))(hF:∀b,F b→b<w.heap.size)(hx:x<w.heap.size)(ht:0<w.heap.size∧1<w.heap.size):
 JobAt W w.heap.size w.heap.size x d p L ⟨q,[]⟩ (fun b=>F b∨b=w.heap.size):=by
 have e1:(Value.slice none 0 0).ownBlock=none:=rfl;have row:W.ownsRow w.heap.size 3 1 (.slice none 0 0) 0 []:=World.ownsRow_nil _ _ _ _;have box:Blk W w.heap.size 79 [.pointer (some ⟨x,0,none⟩),.slice none 0 0]:=hw▸heap_alloc_new _ _;have fj:¬F w.heap.size:=fun hf=>Nat.lt_irrefl _ (hF _ hf)
 refine⟨F,.slice none 0 0,⟨h,box,row,fj,Nat.le_refl _,hx,ht,(by rw [e1];exact fun e=>nomatch e),fun b hb=>(by rw [e1]at hb;exact nomatch hb),fun o ho=>nomatch ho⟩,fun b=>⟨fun hb=>hb.elim .inl (fun e=> .inr (.inl e)),fun hb=> ?_⟩⟩;rcases hb with h1| h1| h1
 ·exact .inl h1
 ·exact .inr h1
 ·rw [e1]at h1;exact nomatch h1
def PutPost(r:St×Int)(x d p L:Nat)(F:Nat→Prop)(w:World)(e:Ending)(w':World):Prop:=
 e= .returned (.int .i64 r.2)∧∃F',Ix w' x d p L r.1 F'∧Moved F F' w w'
def PutPostM(r:Ms×Int)(x d p L:Nat)(F:Nat→Prop)(w:World)(e:Ending)(w':World):Prop:=
 e= .returned (.int .i64 r.2)∧∃F',IxM w' x d p L r.1 F'∧Moved F F' w w'
section
variable{w:World}{x d p L:Nat}{s:St}{F:Nat→Prop}{lf:Int}
theorem key_len(key:ByteArray):key.data.toList.length=key.size:=by rw [Array.length_toList];rfl
set_option maxHeartbeats 8000000 in
set_option maxRecDepth 100000 in
theorem put_early(h:IxL (.up (MU lf)) w x d p L s F)(key:ByteArray)(hk:key.size≤1000)(value:UInt64)(hc:16<key.size∨value=0∨pathP s key.data.toList=none):
 Calls Tryz.prog 8 #[.pointer (some ⟨x,0,none⟩),.string key,.int .u64 (value.toNat:Int)] w (PutPostM (putM ⟨.up lf,s⟩ key.data.toList value) x d p L F w):=by
 have HA:=Lib.hid (ask_index h key (by omega));have HX:=Lib.hid h;have hkl:=key_len key;by_cases h1:16<key.size
 ·have HP:Hid (putM ⟨.up lf,s⟩ key.data.toList value=(⟨.up lf,s⟩,3)):=Lib.hid (by unfold putM;rw [hkl,if_pos h1]);rw [if_pos h1]at HA;clear h hc h1 hkl;go_enter Tryz.func8,Tryz.ntmps8
  go_wp2_with fail
  refine HA.out.mono ?_;rintro e w1⟨rfl,rfl⟩;clear HA
  go_wp2_with fail
  go_ret;refine⟨by rw [HP.out];rfl,F,?_,Moved.refl _ _⟩;rw [HP.out];exact HX.out
 ·rw [if_neg h1]at HA;by_cases h2:value=0
  ·have HP:Hid (putM ⟨.up lf,s⟩ key.data.toList value=(⟨.up lf,s⟩,2)):=Lib.hid (by unfold putM;rw [hkl,if_neg h1,if_pos h2]);subst h2;clear h hc h1 hkl;go_enter Tryz.func8,Tryz.ntmps8
   go_wp2_with fail
   refine HA.out.mono ?_;rintro e w1⟨rfl,rfl⟩;clear HA
   go_wp2_with fail
   go_ret;refine⟨by rw [HP.out];rfl,F,?_,Moved.refl _ _⟩;rw [HP.out];exact HX.out
  ·have hpn:=(hc.resolve_left h1).resolve_left h2;have HP:Hid (putM ⟨.up lf,s⟩ key.data.toList value=(⟨.up lf,s⟩,5)):=Lib.hid (by unfold putM;rw [hkl,if_neg h1,if_neg h2];simp only [hpn]);have HPa:=Lib.hid (path_index h key hk);have HPn:=Lib.hid hpn;have t1:((value.toNat:Int)==0)=false:=by
    rw [beq_eq_false_iff_ne];intro e;exact h2 (UInt64.toNat_inj.1 (by simp;omega))
   clear h hc h1 h2 hkl hpn;go_enter Tryz.func8,Tryz.ntmps8
   go_wp2_with fail
   refine HA.out.mono ?_;rintro e w1⟨rfl,rfl⟩;clear HA
   go_wp2_with fail
   refine HPa.out.mono ?_;rintro e w1⟨hb1,hp1⟩;rw [HPn.out]at hp1;replace hp1:e= .returned (.tuple #[.slice none 0 0,.slice none 0 0,.int .i64 5]):=hp1;subst hp1;have HB:=Lib.hid hb1;clear hb1 HPa
   go_wp2_with fail
   go_ret;refine⟨by rw [HP.out];rfl,F,?_,Moved.of_below HB.out⟩;rw [HP.out];exact HX.out.below HB.out
end
theorem pathGo_len{s:St}:∀(f:Nat)(name:UInt64)(rest:List UInt8)(label:UInt8)(word:Int)(way way':List Pl)(rest':List UInt8),pathGo s f name rest label word way=some (way',rest')→way'.length≤way.length+f
 | 0,name,rest,label,word,way,way',rest',h=>by
   rw [pathGo]at h;injection h with h
   injection h with h1 h2
   subst h1;omega
 | f+1,name,rest,label,word,way,way',rest',h=>by
   rw [pathGo]at h;split at h
   ·injection h with h
    injection h with h1 h2
    subst h1;omega
   ·split at h
    ·cases h
    ·split at h
     ·injection h with h
      injection h with h1 h2
      subst h1;simp
     ·split at h
      ·injection h with h
       injection h with h1 h2
       subst h1;simp
      ·have:=pathGo_len f _ _ _ _ _ _ _ h;simp at this;omega
theorem path_len{s:St}{key:List UInt8}{way:List Pl}{rest:List UInt8}(h:pathP s key=some (way,rest)):way.length≤2*key.length+1:=by
 have:=pathGo_len _ _ _ _ _ _ _ _ h;simpa using this
theorem RsAt.below{w w':World}{base:Nat}{A:Option Addr}{l:List UInt8}(h:RsAt w base A l)(k:Below w.heap.size w w'):RsAt w' base A l:=(SameBut.of_below k).rs h
section
variable{w:World}{x d p L:Nat}{s:St}{F:Nat→Prop}{lf:Int}
set_option maxHeartbeats 16000000 in
set_option maxRecDepth 100000 in
theorem put_value(h:IxL (.up (MU lf)) w x d p L s F)(key:ByteArray)(h16:¬16<key.size)(value:UInt64)(hv0:value≠0)(way:List Pl)(rest:List UInt8)(hpa:pathP s key.data.toList=some (way,rest))(last:Pl)(hst:standsP way rest=some last):
 Calls Tryz.prog 8 #[.pointer (some ⟨x,0,none⟩),.string key,.int .u64 (value.toNat:Int)] w (PutPostM (putM ⟨.up lf,s⟩ key.data.toList value) x d p L F w):=by
 have HA:=Lib.hid (ask_index h key (by omega));rw [if_neg h16]at HA;have HX:=Lib.hid h;have hkl:=key_len key;obtain⟨l0,l1,ok,hntk⟩:=h.L0;have hL16:16≤L:=by have:=ok.fits;have:=ok.slabs;omega
 obtain⟨hplk,hrl⟩:=path_ok ok (by omega) hntk hpa;have hwl:=path_len hpa;rw [hkl]at hrl hwl;replace hrl:rest.length≤32:=by omega
 replace hwl:way.length≤33:=by omega
 have hpre:∀pl∈way,pl.nd.pre.length≤1000:=fun pl hm=>by have:=((rightB_iff _).1 (hplk pl hm).right).1;omega
 have HPk:=Lib.hid hplk;have HPr:=Lib.hid hpre;have HPa:=Lib.hid (path_index h key (by omega));have HPn:=Lib.hid hpa;have hxl:=h.box.lt;have HTl:=Lib.hid h.sys.tabs.lt;have HFl:=Lib.hid h.sys.lt;have HSt:=Lib.hid hst;have hmem:last∈way:=by
  unfold standsP at hst;split at hst
  ·cases hst
  ·rename_i l hl;split at hst
   ·injection hst with hst;subst hst;exact List.mem_of_getLast? hl
   ·cases hst
 have HPl:=Lib.hid (hplk last hmem);have HP:Hid (putM ⟨.up lf,s⟩ key.data.toList value=valueM ⟨.up lf,s⟩ last value):=Lib.hid (by unfold putM;rw [hkl,if_neg h16,if_neg hv0];simp only [hpa,hst]);clear hst hmem;have t1:((value.toNat:Int)==0)=false:=by
  rw [beq_eq_false_iff_ne];intro e;exact hv0 (UInt64.toNat_inj.1 (by simp;omega))
 clear h h16 hv0 hpa hkl ok hntk hplk hpre;go_enter Tryz.func8,Tryz.ntmps8
 go_wp2_with fail
 refine HA.out.mono ?_;rintro e w1⟨rfl,rfl⟩;clear HA
 go_wp2_with fail
 refine HPa.out.mono ?_;rintro e w1⟨hb1,hp1⟩;rw [HPn.out]at hp1;obtain⟨vw,A,c,rfl,hway,hrs,hrc⟩:=hp1;have HW1:=Lib.hid hway;have HR1:=Lib.hid hrs;have HB1:=Lib.hid hb1;clear hway hrs hb1 HPa
 go_wp2_with fail
 refine(stands_any HW1.out (by omega) HPr.out HR1.out.1 (by omega)).mono ?_;rintro e w2⟨hb2,hp2⟩;rw [HSt.out]at hp2;obtain⟨a,b,c',d',rfl,hnd⟩:=hp2;obtain⟨A1,m1,A2,m2,A3,m3,e,o1,o2,o3⟩:=hnd;simp only [Value.agg.injEq]at e;simp at e;obtain⟨rfl,rfl,rfl,rfl⟩:=e;have HB2:=Lib.hid (HB1.out.trans (hb2.mono HB1.out.size));obtain⟨W3,hW3⟩:∃W3,W3=w2.alloc (.cells #[.slice A1 last.nd.pre.length m1,.int .u64 (last.nd.val.toNat:Int),.slice A2 last.nd.labels.length m2,.slice A3 last.nd.kids.length m3,.int .i64 last.off,.int .u8 (last.label.toNat:Int),.int .i64 last.word] 74):=⟨_,rfl⟩;have B3:Blk W3 w2.heap.size 74 [.slice A1 last.nd.pre.length m1,.int .u64 (last.nd.val.toNat:Int),.slice A2 last.nd.labels.length m2,.slice A3 last.nd.kids.length m3,.int .i64 last.off,.int .u8 (last.label.toNat:Int),.int .i64 last.word]:=hW3▸heap_alloc_new _ _;have hb3:Below w2.heap.size w2 W3:=hW3▸(Below.refl _ _).alloc (Nat.le_refl _) _;have HB3:=Lib.hid (HB2.out.trans (hb3.mono HB2.out.size));have HV:=Lib.hid (value_indexM (q:=⟨.up lf,s⟩) (HX.out.below HB3.out) last (HPl.out) A1 A2 A3 last.nd.pre.length m1 last.nd.labels.length m2 last.nd.kids.length m3 value);have HW3:=Lib.hid hW3;obtain⟨y0,y1,y2,y3,y4,y5,y6⟩:=cell7 B3;rw [hW3]at y0 y1 y2 y3 y4 y5 y6;clear o1 o2 o3 hb2 hb3 B3 hW3
 go_wp2_with fail
 rw [←HW3.out];refine HV.out.mono ?_;rintro e w4⟨rfl,F4,hx4,hm4⟩;have HF:=Lib.hid (And.intro hx4 ((Moved.of_below (F:=F) HB3.out).trans hm4));clear hx4 hm4 y0 y1 y2 y3 y4 y5 y6 HV HW3
 go_wp2_with fail
 go_ret;refine⟨by rw [HP.out];rfl,F4,?_,HF.out.2⟩;rw [HP.out];exact HF.out.1
set_option maxHeartbeats 16000000 in
set_option maxRecDepth 100000 in
theorem put_first(h:IxL (.up (MU lf)) w x d p L s F)(key:ByteArray)(h16:¬16<key.size)(value:UInt64)(hv0:value≠0)(way:List Pl)(rest:List UInt8)(hpa:pathP s key.data.toList=some (way,rest))(hw0:way=[])(hst:standsP way rest=none):
 Calls Tryz.prog 8 #[.pointer (some ⟨x,0,none⟩),.string key,.int .u64 (value.toNat:Int)] w (PutPostM (putM ⟨.up lf,s⟩ key.data.toList value) x d p L F w):=by
 have HA:=Lib.hid (ask_index h key (by omega));rw [if_neg h16]at HA;have HX:=Lib.hid h;have hkl:=key_len key;obtain⟨l0,l1,ok,hntk⟩:=h.L0;have hL16:16≤L:=by have:=ok.fits;have:=ok.slabs;omega
 obtain⟨hplk,hrl⟩:=path_ok ok (by omega) hntk hpa;have hwl:=path_len hpa;rw [hkl]at hrl hwl;replace hrl:rest.length≤32:=by omega
 replace hwl:way.length≤33:=by omega
 have hpre:∀pl∈way,pl.nd.pre.length≤1000:=fun pl hm=>by have:=((rightB_iff _).1 (hplk pl hm).right).1;omega
 have HPk:=Lib.hid hplk;have HPr:=Lib.hid hpre;have HPa:=Lib.hid (path_index h key (by omega));have HPn:=Lib.hid hpa;have hxl:=h.box.lt;have HTl:=Lib.hid h.sys.tabs.lt;have HFl:=Lib.hid h.sys.lt;have HSt:=Lib.hid hst;obtain⟨⟨j1,name,er⟩,hr⟩:∃r,leafM (rest.length+1) ⟨⟨.up lf,s⟩,[]⟩ rest value=r:=⟨_,rfl⟩;have HR:=Lib.hid hr;have hw0':way.length=0:=by rw [hw0];rfl
 have HP:Hid (putM ⟨.up lf,s⟩ key.data.toList value=finishM j1 er 72 name []):=Lib.hid (by unfold putM;rw [hkl,if_neg h16,if_neg hv0,hpa];simp only;rw [hst,hw0];simp only [List.getLast?_nil];rw [hr]);clear hst hw0 hr;have t1:((value.toNat:Int)==0)=false:=by
  rw [beq_eq_false_iff_ne];intro e;exact hv0 (UInt64.toNat_inj.1 (by simp;omega))
 clear h h16 hv0 hpa hkl ok hntk hplk hpre;go_enter Tryz.func8,Tryz.ntmps8
 go_wp2_with fail
 refine HA.out.mono ?_;rintro e w1⟨rfl,rfl⟩;clear HA
 go_wp2_with fail
 refine HPa.out.mono ?_;rintro e w1⟨hb1,hp1⟩;rw [HPn.out]at hp1;obtain⟨vw,A,c,rfl,hway,hrs,hrc⟩:=hp1;have HW1:=Lib.hid hway;have HR1:=Lib.hid hrs;have HB1:=Lib.hid hb1;clear hway hrs hb1 HPa
 go_wp2_with fail
 refine(stands_any HW1.out (by omega) HPr.out HR1.out.1 (by omega)).mono ?_;rintro e w2⟨hb2,hp2⟩;rw [HSt.out]at hp2;replace hp2:e= .returned (.tuple #[.agg #[.slice none 0 0,.int .u64 0,.slice none 0 0,.slice none 0 0,.int .i64 0,.int .u8 0,.int .i64 0],.bool false]):=hp2;subst hp2;obtain⟨Av,cv,hvw⟩:∃Av cv,vw= .slice Av way.length cv:=by
  obtain⟨vs,ho,_⟩:=HW1.out;rcases ho.2 with⟨e1,e2⟩| ⟨g,cap,cur,e1,_⟩
  ·exact⟨none,0,by rw [e1,e2]⟩
  ·exact⟨_,_,e1⟩
 subst hvw;have HB2:=Lib.hid (HB1.out.trans (hb2.mono HB1.out.size));obtain⟨w3,hw3⟩:∃w3,w3=w2.alloc (.cells #[.slice none 0 0,.int .u64 0,.slice none 0 0,.slice none 0 0,.int .i64 0,.int .u8 0,.int .i64 0] 74):=⟨_,rfl⟩;have hb23:Below w2.heap.size w2 w3:=hw3▸(Below.refl _ _).alloc (Nat.le_refl _) _;obtain⟨w4,hw4⟩:∃w4,w4=w3.alloc (.cells #[.pointer (some ⟨x,0,none⟩),.slice none 0 0] 79):=⟨_,rfl⟩;have hb34:Below w3.heap.size w3 w4:=hw4▸(Below.refl _ _).alloc (Nat.le_refl _) _;have hs3:w3.heap.size=w2.heap.size+1:=by rw [hw3];simp
 have HB3:=Lib.hid (HB2.out.trans (hb23.mono HB2.out.size));have HB4:=Lib.hid (HB3.out.trans (hb34.mono HB3.out.size));have hsz:=HB3.out.size;have hJ:=job_new (q:=⟨.up lf,s⟩) (HX.out.below HB4.out) hw4 (fun b hb=>by have:=HFl.out b hb;omega) (by omega) (by have:=HTl.out;omega);have HGj:Hid (∀b,(fun b=>F b∨b=w3.heap.size) b→F b∨w.heap.size≤b):=Lib.hid (fun b hb=>hb.imp id (fun e=>by omega));have hb13:Below w1.heap.size w1 w3:=hb2.trans (hb23.mono hb2.size);have hrs3:=RsAt.below HR1.out hb13;have hrd:RdO w4 (fun b=>F b∨b=w3.heap.size) A rest.length (rest.map bv):=by
  refine RdO.below (w:=w3) ⟨hrs3.1,fun hn a ea hg=> ?_⟩ hb34;obtain⟨rb,ro,e',hrb,_⟩:=hrs3.1.2 hn;rw [e']at ea;injection ea with ea
  subst ea;rcases hg with hg| hg
  ·have:=(hrs3.2 _ _ e').1;have:=HFl.out _ hg;simp only at this;omega
  ·simp only at hg;omega
 have HL:=leaf_job (rest.length+1) w4 ⟨⟨.up lf,s⟩,[]⟩ _ rest value A c hJ hrd hrc (by omega) (by omega) (by simp only [List.length_nil];omega);rw [HR.out]at HL;have HL:=Lib.hid HL;have HW3:=Lib.hid hw3;have HW4:=Lib.hid hw4;have HS3:=Lib.hid hs3;have hmd:=leafM_made (rest.length+1) ⟨⟨.up lf,s⟩,[]⟩ rest value;rw [HR.out]at hmd;simp only [List.length_nil]at hmd;rw [hw0']at*;clear hb2 hb23 hb34 hs3 hJ hrd hrs3 hb13 hw3 hw4
 go_wp2_with fail
 rw [←HW3.out,←HW4.out,←HS3.out];refine HL.out.mono ?_;rintro e w5⟨rfl,G5,hj5,hm5⟩;have hfin:Calls Tryz.prog 28 #[.pointer (some ⟨w3.heap.size,0,none⟩),.int .i64 er,.int .i64 72,.int .u64 (name.toNat:Int),.slice none 0 0] w5 (FinPost (finishM j1 er 72 name []) w3.heap.size w3.heap.size x d p L j1 G5 w5):=
  finish_any hj5 er 72 9 rfl (by omega) name none 0 [] RdO.nil (fun o ho=>nomatch ho) (Nat.zero_le _) (by show j1.made.length≤1000;omega)
 have HFin:=Lib.hid hfin;have HM5:=Lib.hid hm5;clear hfin hm5 hj5 HL
 go_wp2_with fail
 first
  | refine HFin.out.mono ?_
  | (rw [←HS3.out];refine HFin.out.mono ?_)
 rintro e w6⟨rfl,G6,hj6,hm6⟩;have HD:=Lib.hid (hj6.done (HM5.out.trans hm6) HB4.out HGj.out);clear hj6 hm6 HFin
 go_wp2_with fail
 go_ret;refine⟨by rw [HP.out];rfl,?_⟩;rw [HP.out];exact HD.out
end
theorem NdR.mono{w:World}{G F:Nat→Prop}{a b c d:Value}{nd:Nd}(h:NdR w G a b c d nd)(k:∀b,b<w.heap.size→F b→G b):NdR w F a b c d nd:=by
 obtain⟨A1,c1,A2,c2,A3,c3,e1,e2,e3,e4,hc,h1,h2,h3⟩:=h;exact⟨A1,c1,A2,c2,A3,c3,e1,e2,e3,e4,hc,h1.mono k,h2.mono k,h3.mono k⟩
theorem growM_made(j:Jm)(x:Nd)(rest:List UInt8)(value:UInt64):(growM j x rest value).1.made.length≤j.made.length+rest.length+4:=by
 have hl:=fun j' l=>leafM_made (rest.length+1) j' l value
 have hb:=buildM_made j {x with pre:=x.pre.drop (common x.pre rest+1)};unfold growM;split
 ·have:=hl j (rest.drop (common x.pre rest+1));split;rename_i j1 kid e he;rw [he]at this;have h2:=aboveM_made j1 x (rest.getD (common x.pre rest) 0) kid e;simp only at this;omega
 ·split;rename_i j1 kid e he;rw [he]at hb;simp only at hb;split
  ·have h2:=aboveM_made j1 ⟨x.pre.take (common x.pre rest),value,[],[]⟩ (x.pre.getD (common x.pre rest) 0) kid e;omega
  ·split
   ·simp only;omega
   ·split
    ·split;rename_i j2 kid2 e2 he2;have:=hl j1 (rest.drop (common x.pre rest+1));rw [he2]at this;have h2:=aboveM_made j2 (withP ⟨x.pre.take (common x.pre rest),0,[],[]⟩ (x.pre.getD (common x.pre rest) 0) kid) (rest.getD (common x.pre rest) 0) kid2 e2;simp only at this;omega
    ·simp only;omega
section
variable{w:World}{x d p L:Nat}{s:St}{F:Nat→Prop}{lf:Int}
set_option maxHeartbeats 16000000 in
set_option maxRecDepth 100000 in
theorem put_grow(h:IxL (.up (MU lf)) w x d p L s F)(key:ByteArray)(h16:¬16<key.size)(value:UInt64)(hv0:value≠0)(way:List Pl)(rest:List UInt8)(hpa:pathP s key.data.toList=some (way,rest))(hw0:way≠[])(hst:standsP way rest=none):
 Calls Tryz.prog 8 #[.pointer (some ⟨x,0,none⟩),.string key,.int .u64 (value.toNat:Int)] w (PutPostM (putM ⟨.up lf,s⟩ key.data.toList value) x d p L F w):=by
 have HA:=Lib.hid (ask_index h key (by omega));rw [if_neg h16]at HA;have HX:=Lib.hid h;have hkl:=key_len key;obtain⟨l0,l1,ok,hntk⟩:=h.L0;have hL16:16≤L:=by have:=ok.fits;have:=ok.slabs;omega
 obtain⟨hplk,hrl⟩:=path_ok ok (by omega) hntk hpa;have hwl:=path_len hpa;rw [hkl]at hrl hwl;replace hrl:rest.length≤32:=by omega
 replace hwl:way.length≤33:=by omega
 have hpre:∀pl∈way,pl.nd.pre.length≤1000:=fun pl hm=>by have:=((rightB_iff _).1 (hplk pl hm).right).1;omega
 have HPk:=Lib.hid hplk;have HPr:=Lib.hid hpre;have HPa:=Lib.hid (path_index h key (by omega));have HPn:=Lib.hid hpa;have hxl:=h.box.lt;have HTl:=Lib.hid h.sys.tabs.lt;have HFl:=Lib.hid h.sys.lt;have hn0:0<way.length:=List.length_pos_iff.2 hw0;obtain⟨last,hla⟩:∃last,way[way.length-1]'(by omega)=last:=⟨_,rfl⟩;have hgl:way.getLast? =some last:=by rw [List.getLast?_eq_getElem?,List.getElem?_eq_getElem (by omega),hla]
 have hne:last.nd.pre≠rest:=by
  intro e;unfold standsP at hst;rw [hgl]at hst;simp only at hst;rw [if_pos e]at hst;cases hst
 have HPl:=Lib.hid (hplk last (List.mem_of_getLast? hgl));have HLa:=Lib.hid hla;have HNe:=Lib.hid hne;have HSt:=Lib.hid hst;obtain⟨⟨j1,name,er⟩,hr⟩:∃r,growM ⟨⟨.up lf,s⟩,[]⟩ last.nd rest value=r:=⟨_,rfl⟩;have HR:=Lib.hid hr;have HP:Hid (putM ⟨.up lf,s⟩ key.data.toList value=finishM j1 er last.word name [last.off]):=Lib.hid (by unfold putM;rw [hkl,if_neg h16,if_neg hv0,hpa];simp only;rw [hst,hgl];simp only;rw [hr]);have hmd:=growM_made ⟨⟨.up lf,s⟩,[]⟩ last.nd rest value;rw [hr]at hmd;simp only [List.length_nil]at hmd;clear hst hr hla hgl hne;have t1:((value.toNat:Int)==0)=false:=by
  rw [beq_eq_false_iff_ne];intro e;exact hv0 (UInt64.toNat_inj.1 (by simp;omega))
 clear h h16 hv0 hpa hkl ok hntk hplk hpre;go_enter Tryz.func8,Tryz.ntmps8
 go_wp2_with fail
 refine HA.out.mono ?_;rintro e w1⟨rfl,rfl⟩;clear HA
 go_wp2_with fail
 refine HPa.out.mono ?_;rintro e w1⟨hb1,hp1⟩;rw [HPn.out]at hp1;obtain⟨vw,A,c,rfl,hway,hrs,hrc⟩:=hp1;have HW1:=Lib.hid hway;have HR1:=Lib.hid hrs;have HB1:=Lib.hid hb1;clear hway hrs hb1 HPa
 go_wp2_with fail
 refine(stands_any HW1.out (by omega) HPr.out HR1.out.1 (by omega)).mono ?_;rintro e w2⟨hb2,hp2⟩;rw [HSt.out]at hp2;replace hp2:e= .returned (.tuple #[.agg #[.slice none 0 0,.int .u64 0,.slice none 0 0,.slice none 0 0,.int .i64 0,.int .u8 0,.int .i64 0],.bool false]):=hp2;subst hp2;obtain⟨g,cv,rfl,hcv,hbg,hgw,hat⟩:=HW1.out.at hw0;obtain⟨a,b,c',d',hwc⟩:=hat (way.length-1) (by omega);rw [show way[way.length-1]'(by omega)=last from HLa.out]at hwc;have HB2:=Lib.hid (HB1.out.trans (hb2.mono HB1.out.size));obtain⟨w3,hw3⟩:∃w3,w3=w2.alloc (.cells #[.slice none 0 0,.int .u64 0,.slice none 0 0,.slice none 0 0,.int .i64 0,.int .u8 0,.int .i64 0] 74):=⟨_,rfl⟩;have hb23:Below w2.heap.size w2 w3:=hw3▸(Below.refl _ _).alloc (Nat.le_refl _) _;obtain⟨w4,hw4⟩:∃w4,w4=w3.alloc (.cells #[.pointer (some ⟨x,0,none⟩),.slice none 0 0] 79):=⟨_,rfl⟩;have hb34:Below w3.heap.size w3 w4:=hw4▸(Below.refl _ _).alloc (Nat.le_refl _) _;have hs3:w3.heap.size=w2.heap.size+1:=by rw [hw3];simp
 have HB3:=Lib.hid (HB2.out.trans (hb23.mono HB2.out.size));have HB4:=Lib.hid (HB3.out.trans (hb34.mono HB3.out.size));have hsz:=HB3.out.size;have hJ:=job_new (q:=⟨.up lf,s⟩) (HX.out.below HB4.out) hw4 (fun b hb=>by have:=HFl.out b hb;omega) (by omega) (by have:=HTl.out;omega);have HGj:Hid (∀b,(fun b=>F b∨b=w3.heap.size) b→F b∨w.heap.size≤b):=Lib.hid (fun b hb=>hb.imp id (fun e=>by omega));have hb13:Below w1.heap.size w1 w3:=hb2.trans (hb23.mono hb2.size);have hrs3:=RsAt.below HR1.out hb13;have t0:((way.length:Int)==0)=false:=by rw [beq_eq_false_iff_ne];omega
 obtain⟨m,hm⟩:∃m,m=way.length-1:=⟨_,rfl⟩;have hwm:IntKind.i64.wrap ((way.length:Int) -1)=(m:Int):=(wrap64 _ (by omega) (by omega)).trans (by omega);have hx1:decide ((m:Int)<(way.length:Int))=true:=decide_eq_true (by omega);have hx2:m<way.length:=by omega
 have hx3:(m:Int)<(way.length:Int):=by omega
 have hb14:Below w1.heap.size w1 w4:=hb13.trans (hb34.mono hb13.size);obtain⟨A1,p1,A2,p2,A3,p3,e,o1,o2,o3⟩:=hwc.nd;simp only [Value.agg.injEq]at e;simp at e;obtain⟨rfl,rfl,rfl,rfl⟩:=e;have hz:∀j v,[Value.slice A1 last.nd.pre.length p1,.int .u64 (last.nd.val.toNat:Int),.slice A2 last.nd.labels.length p2,.slice A3 last.nd.kids.length p3,.int .i64 last.off,.int .u8 (last.label.toNat:Int),.int .i64 last.word][j]? =some v→w4.cell? ⟨g,m*7+j,none⟩=some v:=fun j v hj=>by
  rw [hb14.cell (p:=⟨g,m*7+j,none⟩) hgw,Nat.mul_comm,hm];exact hwc.cells j v hj
 have z0:=hz 0 _ rfl;have z1:=hz 1 _ rfl;have z2:=hz 2 _ rfl;have z3:=hz 3 _ rfl;have z4:=hz 4 _ rfl;have z5:=hz 5 _ rfl;have z6:=hz 6 _ rfl;rw [Nat.add_zero]at z0;have hnr:NdR w4 (fun b=>F b∨b=w3.heap.size) (.slice A1 last.nd.pre.length p1) (.int .u64 (last.nd.val.toNat:Int)) (.slice A2 last.nd.labels.length p2) (.slice A3 last.nd.kids.length p3) last.nd:=by
  have q0:NdR w2 F _ _ _ _ last.nd:=NdR.of_v (hwc.nd.below hb2) (fun b hb _ hf=>by have:=HFl.out b hf;omega);have q1:NdR w2 (fun b=>F b∨b=w3.heap.size) _ _ _ _ last.nd:=q0.mono (fun b hb hg=>hg.elim id (fun e=>by first| omega| (simp only at e;omega)));exact q1.moved (Moved.of_below (hb23.trans (hb34.mono hb23.size)))
 have hrd:RdO w4 (fun b=>F b∨b=w3.heap.size) A rest.length (rest.map bv):=by
  refine RdO.below (w:=w3) ⟨hrs3.1,fun hn a ea hg=> ?_⟩ hb34;obtain⟨rb,ro,e',hrb,_⟩:=hrs3.1.2 hn;rw [e']at ea;injection ea with ea
  subst ea;rcases hg with hg| hg
  ·have:=(hrs3.2 _ _ e').1;have:=HFl.out _ hg;simp only at this;omega
  ·simp only at hg;omega
 obtain⟨w5,hw5⟩:∃w5,w5=w4.alloc (.cells #[.slice A1 last.nd.pre.length p1,.int .u64 (last.nd.val.toNat:Int),.slice A2 last.nd.labels.length p2,.slice A3 last.nd.kids.length p3,.int .i64 last.off,.int .u8 (last.label.toNat:Int),.int .i64 last.word] 74):=⟨_,rfl⟩;have B5:Blk w5 w4.heap.size 74 [.slice A1 last.nd.pre.length p1,.int .u64 (last.nd.val.toNat:Int),.slice A2 last.nd.labels.length p2,.slice A3 last.nd.kids.length p3,.int .i64 last.off,.int .u8 (last.label.toNat:Int),.int .i64 last.word]:=hw5▸heap_alloc_new _ _;have hb45:Below w4.heap.size w4 w5:=hw5▸(Below.refl _ _).alloc (Nat.le_refl _) _;have hpl:=HPl.out;have hpr15:=((rightB_iff _).1 hpl.right).1;have hk16:=hpl.kids;have hlb16:=hpl.labels;have HGr:=grow_job (hJ.below hb45) last.nd A1 A2 A3 p1 p2 p3 last.off last.word last.label rest A c value (hnr.moved (Moved.of_below hb45)) (by omega) (by omega) (by omega) (hrd.below hb45) hrc (by omega) (by simp) HNe.out;rw [HR.out]at HGr;have HGr:=Lib.hid HGr;have HJl:=Lib.hid hJ.lt;have HW3:=Lib.hid hw3;have HW4:=Lib.hid hw4;have HW5:=Lib.hid hw5;have HS3:=Lib.hid hs3;have hs4:w4.heap.size=w2.heap.size+2:=by rw [hw4];simp;omega
 have HS4:=Lib.hid hs4;have HB5:=Lib.hid (HB4.out.trans (hb45.mono HB4.out.size));have HK5:=Lib.hid B5;rw [hw4,hw3]at z0 z1 z2 z3 z4 z5 z6;clear hb2 hb23 hb34 hs3 hs4 hJ hrd hrs3 hb13 hb14 hw3 hw4 hw5 hb45 B5 hz hwc hat o1 o2 o3 hnr hm hpl
 go_wp2_with fail
 rw [←HW3.out,←HW4.out,←HW5.out,←HS3.out];refine HGr.out.mono ?_;rintro e w6⟨rfl,G6,hj6,hm6⟩;have B6:=HK5.out.touch hm6.touch (fun hg=>by have:=HJl.out _ hg;omega);obtain⟨w7,hw7⟩:∃w7,w7=w6.alloc (.cells #[.int .i64 last.off] 3):=⟨_,rfl⟩;have hb67:Below w6.heap.size w6 w7:=hw7▸(Below.refl _ _).alloc (Nat.le_refl _) _;have B7:Blk w7 w6.heap.size 3 [zv last.off]:=hw7▸heap_alloc_new _ _;have hO:RdO w7 G6 (some ⟨w6.heap.size,0,none⟩) 1 ([last.off].map zv):=⟨B7.rd,fun _ a ea hg=>by
  injection ea with ea
  subst ea;exact absurd (hj6.lt _ hg) (Nat.lt_irrefl _)⟩
 have hfin:Calls Tryz.prog 28 #[.pointer (some ⟨w3.heap.size,0,none⟩),.int .i64 er,.int .i64 last.word,.int .u64 (name.toNat:Int),.slice (some ⟨w6.heap.size,0,none⟩) 1 1] w7 (FinPost (finishM j1 er last.word name [last.off]) w3.heap.size w3.heap.size x d p L j1 G6 w7):=by
  obtain⟨jw,hjw,hjl⟩:=HPl.out.word;obtain⟨o,ho,hol⟩:=HPl.out.off;exact finish_any (hj6.below hb67) er last.word jw hjw hjl name _ 1 [last.off] hO (fun o' ho'=>by rw [List.mem_singleton]at ho';omega) (by simp) (by show j1.made.length≤1000;omega)
 have HFin:=Lib.hid hfin;have HM7:=Lib.hid (hm6.trans (Moved.of_below hb67));have HW7:=Lib.hid hw7;have HB6:=Lib.hid B6;clear z0 z1 z2 z3 z4 z5 z6 hm6 hj6 hb67 B7 hO hfin hw7 HGr B6;obtain⟨y0,y1,y2,y3,y4,y5,y6⟩:=cell7 HB6.out;rw [HS4.out]at y0 y1 y2 y3 y4 y5 y6;rw [HS3.out]
 go_wp2_with fail
 rw [←HW7.out,←HS3.out];refine HFin.out.mono ?_;rintro e w8⟨rfl,G8,hj8,hm8⟩;have HD:=Lib.hid (hj8.done (HM7.out.trans hm8) HB5.out HGj.out);clear hj8 hm8 HFin
 go_wp2_with fail
 go_ret;refine⟨by rw [HP.out];rfl,?_⟩;rw [HP.out];exact HD.out
theorem put_indexM(h:IxL (.up (MU lf)) w x d p L s F)(key:ByteArray)(hk:key.size≤1000)(value:UInt64):
 Calls Tryz.prog 8 #[.pointer (some ⟨x,0,none⟩),.string key,.int .u64 (value.toNat:Int)] w (PutPostM (putM ⟨.up lf,s⟩ key.data.toList value) x d p L F w):=by
 by_cases h16:16<key.size
 ·exact put_early h key hk value (.inl h16)
 ·by_cases hv0:value=0
  ·exact put_early h key hk value (.inr (.inl hv0))
  ·cases hp:pathP s key.data.toList with
   | none=>exact put_early h key hk value (.inr (.inr hp))
   | some wr=>
     obtain⟨way,rest⟩:=wr;cases hst:standsP way rest with
     | some last=>exact put_value h key h16 value hv0 way rest hp last hst
     | none=>
       by_cases hw0:way=[]
       ·exact put_first h key h16 value hv0 way rest hp hw0 hst
       ·exact put_grow h key h16 value hv0 way rest hp hw0 hst
theorem put_index(h:Ix w x d p L s F)(key:ByteArray)(hk:key.size≤1000)(value:UInt64):
 Calls Tryz.prog 8 #[.pointer (some ⟨x,0,none⟩),.string key,.int .u64 (value.toNat:Int)] w (PutPost (putK s key.data.toList value) x d p L F w):=by
 have:=put_indexM (lf:= -1) h key hk value;rw [putM_end]at this;exact this
end
section
variable{len:Mode}{w:World}{x d p L:Nat}{s:St}{F:Nat→Prop}
def GetPost(r:UInt64×Int)(w:World)(e:Ending)(w':World):Prop:=e= .returned (.tuple #[.int .u64 (r.1.toNat:Int),.int .i64 r.2])∧Below w.heap.size w w'
def CutPost(r:St×UInt64×Int)(x d p L:Nat)(F:Nat→Prop)(w:World)(e:Ending)(w':World):Prop:=
 e= .returned (.tuple #[.int .u64 (r.2.1.toNat:Int),.int .i64 r.2.2])∧∃F',Ix w' x d p L r.1 F'∧Moved F F' w w'
def CutPostM(r:Ms×UInt64×Int)(x d p L:Nat)(F:Nat→Prop)(w:World)(e:Ending)(w':World):Prop:=
 e= .returned (.tuple #[.int .u64 (r.2.1.toNat:Int),.int .i64 r.2.2])∧∃F',IxM w' x d p L r.1 F'∧Moved F F' w w'
set_option maxHeartbeats 16000000 in
set_option maxRecDepth 100000 in
theorem get_index (h : IxL len w x d p L s F) (key : ByteArray) (hk : key.size ≤ 1000) :
    Calls Tryz.prog 19 #[.pointer (some ⟨x, 0, none⟩), .string key] w (GetPost (getP s key.data.toList) w) := by
  have HX := Lib.hid h
  have HA := Lib.hid (ask_index h key (by omega))
  have hkl := key_len key
  by_cases h16 : 16 < key.size
  · rw [if_pos h16] at HA
    have HP : Hid (getP s key.data.toList = (0, 3)) := Lib.hid (by unfold getP; rw [hkl, if_pos h16])
    clear h hkl
    go_enter Tryz.func19, Tryz.ntmps19
    go_wp2_with fail
    refine HA.out.mono ?_
    rintro e w1 ⟨rfl, rfl⟩
    go_wp2_with fail
    go_ret2
    exact ⟨by rw [HP.out]; rfl, (Below.refl _ _)⟩
  · rw [if_neg h16] at HA
    obtain ⟨l0, l1, ok, hntk⟩ := h.L0
    have hL16 : 16 ≤ L := by have := ok.fits; have := ok.slabs; omega
    have HPa := Lib.hid (path_index h key (by omega))
    cases hpa : pathP s key.data.toList with
    | none =>
      have HP : Hid (getP s key.data.toList = (0, 5)) := Lib.hid (by unfold getP; rw [hkl, if_neg h16, hpa])
      have HPn := Lib.hid hpa
      clear h hkl ok hntk hpa
      go_enter Tryz.func19, Tryz.ntmps19
      go_wp2_with fail
      refine HA.out.mono ?_
      rintro e w1 ⟨rfl, rfl⟩
      clear HA
      go_wp2_with fail
      refine HPa.out.mono ?_
      rintro e w1 ⟨hb1, hp1⟩
      rw [HPn.out] at hp1
      replace hp1 : e = .returned (.tuple #[.slice none 0 0, .slice none 0 0, .int .i64 5]) := hp1
      subst hp1
      have HB1 := Lib.hid hb1
      clear HPa hb1
      go_wp2_with fail
      go_ret2
      exact ⟨by rw [HP.out]; rfl, HB1.out⟩
    | some wr =>
      obtain ⟨way, rest⟩ := wr
      obtain ⟨hplk, hrl⟩ := path_ok ok (by omega) hntk hpa
      have hwl := path_len hpa
      rw [hkl] at hrl hwl
      replace hrl : rest.length ≤ 32 := by omega
      replace hwl : way.length ≤ 33 := by omega
      have hpre : ∀ pl ∈ way, pl.nd.pre.length ≤ 1000 := fun pl hm => by have := ((rightB_iff _).1 (hplk pl hm).right).1; omega
      have HPk := Lib.hid hplk
      have HPr := Lib.hid hpre
      have HPn := Lib.hid hpa
      have hxl := h.box.lt
      have HTl := Lib.hid h.sys.tabs.lt
      have HFl := Lib.hid h.sys.lt
      cases hst : standsP way rest with
      | none =>
        have HP : Hid (getP s key.data.toList = (0, 7)) := Lib.hid (by unfold getP; rw [hkl, if_neg h16, hpa]; simp only; rw [hst])
        have HSt := Lib.hid hst
        clear h hkl ok hntk hpa hst hplk hpre
        go_enter Tryz.func19, Tryz.ntmps19
        go_wp2_with fail
        refine HA.out.mono ?_
        rintro e w1 ⟨rfl, rfl⟩
        clear HA
        go_wp2_with fail
        refine HPa.out.mono ?_
        rintro e w1 ⟨hb1, hp1⟩
        rw [HPn.out] at hp1
        obtain ⟨vw, A, c, rfl, hway, hrs, hrc⟩ := hp1
        have HW1 := Lib.hid hway
        have HR1 := Lib.hid hrs
        have HB1 := Lib.hid hb1
        clear hway hrs hb1 HPa
        go_wp2_with fail
        refine (stands_any HW1.out (by omega) HPr.out HR1.out.1 (by omega)).mono ?_
        rintro e w2 ⟨hb2, hp2⟩
        rw [HSt.out] at hp2
        replace hp2 : e = .returned (.tuple #[.agg #[.slice none 0 0, .int .u64 0, .slice none 0 0, .slice none 0 0, .int .i64 0, .int .u8 0, .int .i64 0], .bool false]) := hp2
        subst hp2
        have HB2 := Lib.hid (HB1.out.trans (hb2.mono HB1.out.size))
        clear hb2
        have HB3 : Hid (Below w.heap.size w (w2.alloc (.cells #[.slice none 0 0, .int .u64 0, .slice none 0 0, .slice none 0 0, .int .i64 0, .int .u8 0, .int .i64 0] 74))) := Lib.hid (HB2.out.alloc HB2.out.size _)
        go_wp2_with fail
        go_ret2
        exact ⟨by rw [HP.out]; rfl, HB3.out⟩
      | some last =>
        have hmem : last ∈ way := by
          unfold standsP at hst
          split at hst
          · cases hst
          · rename_i l hl
            split at hst
            · injection hst with hst; subst hst; exact List.mem_of_getLast? hl
            · cases hst
        have HPl := Lib.hid (hplk last hmem)
        have HSt := Lib.hid hst
        by_cases hv0 : last.nd.val = 0
        · have HP : Hid (getP s key.data.toList = (0, 7)) := Lib.hid (by unfold getP; rw [hkl, if_neg h16, hpa]; simp only; rw [hst]; simp only; rw [if_pos hv0])
          have t1 : ((last.nd.val.toNat : Int) == 0) = true := by rw [hv0]; rfl
          clear h hkl ok hntk hpa hst hplk hpre hmem
          go_enter Tryz.func19, Tryz.ntmps19
          go_wp2_with fail
          refine HA.out.mono ?_
          rintro e w1 ⟨rfl, rfl⟩
          clear HA
          go_wp2_with fail
          refine HPa.out.mono ?_
          rintro e w1 ⟨hb1, hp1⟩
          rw [HPn.out] at hp1
          obtain ⟨vw, A, c, rfl, hway, hrs, hrc⟩ := hp1
          have HW1 := Lib.hid hway
          have HR1 := Lib.hid hrs
          have HB1 := Lib.hid hb1
          clear hway hrs hb1 HPa
          go_wp2_with fail
          refine (stands_any HW1.out (by omega) HPr.out HR1.out.1 (by omega)).mono ?_
          rintro e w2 ⟨hb2, hp2⟩
          rw [HSt.out] at hp2
          obtain ⟨a, b, c', d', rfl, hnd⟩ := hp2
          obtain ⟨A1, m1, A2, m2, A3, m3, e, o1, o2, o3⟩ := hnd
          simp only [Value.agg.injEq] at e
          simp at e
          obtain ⟨rfl, rfl, rfl, rfl⟩ := e
          have HB2 := Lib.hid (HB1.out.trans (hb2.mono HB1.out.size))
          obtain ⟨W3, hW3⟩ : ∃ W3, W3 = w2.alloc (.cells #[.slice A1 last.nd.pre.length m1, .int .u64 (last.nd.val.toNat : Int), .slice A2 last.nd.labels.length m2, .slice A3 last.nd.kids.length m3, .int .i64 last.off, .int .u8 (last.label.toNat : Int), .int .i64 last.word] 74) := ⟨_, rfl⟩
          have B3 : Blk W3 w2.heap.size 74 [.slice A1 last.nd.pre.length m1, .int .u64 (last.nd.val.toNat : Int), .slice A2 last.nd.labels.length m2, .slice A3 last.nd.kids.length m3, .int .i64 last.off, .int .u8 (last.label.toNat : Int), .int .i64 last.word] := hW3 ▸ heap_alloc_new _ _
          have hb3 : Below w2.heap.size w2 W3 := hW3 ▸ (Below.refl _ _).alloc (Nat.le_refl _) _
          have HB3 := Lib.hid (HB2.out.trans (hb3.mono HB2.out.size))
          have HW3 := Lib.hid hW3
          obtain ⟨y0, y1, y2, y3, y4, y5, y6⟩ := cell7 B3
          rw [hW3] at y0 y1 y2 y3 y4 y5 y6
          rw [hW3] at HB3
          clear o1 o2 o3 hb2 hb3 B3 hW3 HW3
          go_wp2_with fail
          go_ret2
          have HBz := HB3.out
          rw [hv0] at HBz
          exact ⟨by rw [HP.out]; rfl, HBz⟩
        · have t1 : ((last.nd.val.toNat : Int) == 0) = false := by
            rw [beq_eq_false_iff_ne]; intro e; exact hv0 (UInt64.toNat_inj.1 (by simp; omega))
          have HP : Hid (getP s key.data.toList = (last.nd.val, 0)) := Lib.hid (by unfold getP; rw [hkl, if_neg h16, hpa]; simp only; rw [hst]; simp only; rw [if_neg hv0])
          clear h hkl ok hntk hpa hst hplk hpre hmem
          go_enter Tryz.func19, Tryz.ntmps19
          go_wp2_with fail
          refine HA.out.mono ?_
          rintro e w1 ⟨rfl, rfl⟩
          clear HA
          go_wp2_with fail
          refine HPa.out.mono ?_
          rintro e w1 ⟨hb1, hp1⟩
          rw [HPn.out] at hp1
          obtain ⟨vw, A, c, rfl, hway, hrs, hrc⟩ := hp1
          have HW1 := Lib.hid hway
          have HR1 := Lib.hid hrs
          have HB1 := Lib.hid hb1
          clear hway hrs hb1 HPa
          go_wp2_with fail
          refine (stands_any HW1.out (by omega) HPr.out HR1.out.1 (by omega)).mono ?_
          rintro e w2 ⟨hb2, hp2⟩
          rw [HSt.out] at hp2
          obtain ⟨a, b, c', d', rfl, hnd⟩ := hp2
          obtain ⟨A1, m1, A2, m2, A3, m3, e, o1, o2, o3⟩ := hnd
          simp only [Value.agg.injEq] at e
          simp at e
          obtain ⟨rfl, rfl, rfl, rfl⟩ := e
          have HB2 := Lib.hid (HB1.out.trans (hb2.mono HB1.out.size))
          obtain ⟨W3, hW3⟩ : ∃ W3, W3 = w2.alloc (.cells #[.slice A1 last.nd.pre.length m1, .int .u64 (last.nd.val.toNat : Int), .slice A2 last.nd.labels.length m2, .slice A3 last.nd.kids.length m3, .int .i64 last.off, .int .u8 (last.label.toNat : Int), .int .i64 last.word] 74) := ⟨_, rfl⟩
          have B3 : Blk W3 w2.heap.size 74 [.slice A1 last.nd.pre.length m1, .int .u64 (last.nd.val.toNat : Int), .slice A2 last.nd.labels.length m2, .slice A3 last.nd.kids.length m3, .int .i64 last.off, .int .u8 (last.label.toNat : Int), .int .i64 last.word] := hW3 ▸ heap_alloc_new _ _
          have hb3 : Below w2.heap.size w2 W3 := hW3 ▸ (Below.refl _ _).alloc (Nat.le_refl _) _
          have HB3 := Lib.hid (HB2.out.trans (hb3.mono HB2.out.size))
          have HW3 := Lib.hid hW3
          obtain ⟨y0, y1, y2, y3, y4, y5, y6⟩ := cell7 B3
          rw [hW3] at y0 y1 y2 y3 y4 y5 y6
          rw [hW3] at HB3
          clear o1 o2 o3 hb2 hb3 B3 hW3 HW3
          go_wp2_with fail
          go_ret2
          exact ⟨by rw [HP.out]; rfl, HB3.out⟩
set_option maxHeartbeats 16000000 in
set_option maxRecDepth 100000 in
theorem cut_indexM {lf : Int} (h : IxL (.up (MU lf)) w x d p L s F) (key : ByteArray) (hk : key.size ≤ 1000) (hkids : ∀ way rest last, pathP s key.data.toList = some (way, rest) → standsP way rest = some last → last.nd.val ≠ 0 → ¬ 16 < key.size → ¬ last.nd.kids.length = 0) :
    Calls Tryz.prog 7 #[.pointer (some ⟨x, 0, none⟩), .string key] w (CutPostM (cutM ⟨.up lf, s⟩ key.data.toList) x d p L F w) := by
  have HX := Lib.hid h
  have HA := Lib.hid (ask_index h key (by omega))
  have hkl := key_len key
  by_cases h16 : 16 < key.size
  · rw [if_pos h16] at HA
    have HP : Hid (cutM ⟨.up lf, s⟩ key.data.toList = (⟨.up lf, s⟩, 0, 3)) := Lib.hid (by unfold cutM; rw [hkl, if_pos h16])
    clear h hkl hkids
    go_enter Tryz.func7, Tryz.ntmps7
    go_wp2_with fail
    refine HA.out.mono ?_
    rintro e w1 ⟨rfl, rfl⟩
    go_wp2_with fail
    go_ret2
    refine ⟨by rw [HP.out]; rfl, F, ?_, Moved.of_below (Below.refl _ _)⟩
    rw [HP.out]
    exact HX.out.below (Below.refl _ _)
  · rw [if_neg h16] at HA
    obtain ⟨l0, l1, ok, hntk⟩ := h.L0
    have hL16 : 16 ≤ L := by have := ok.fits; have := ok.slabs; omega
    have HPa := Lib.hid (path_index h key (by omega))
    cases hpa : pathP s key.data.toList with
    | none =>
      have HP : Hid (cutM ⟨.up lf, s⟩ key.data.toList = (⟨.up lf, s⟩, 0, 5)) := Lib.hid (by unfold cutM; rw [hkl, if_neg h16, hpa])
      have HPn := Lib.hid hpa
      clear h hkl ok hntk hpa hkids
      go_enter Tryz.func7, Tryz.ntmps7
      go_wp2_with fail
      refine HA.out.mono ?_
      rintro e w1 ⟨rfl, rfl⟩
      clear HA
      go_wp2_with fail
      refine HPa.out.mono ?_
      rintro e w1 ⟨hb1, hp1⟩
      rw [HPn.out] at hp1
      replace hp1 : e = .returned (.tuple #[.slice none 0 0, .slice none 0 0, .int .i64 5]) := hp1
      subst hp1
      have HB1 := Lib.hid hb1
      clear HPa hb1
      go_wp2_with fail
      go_ret2
      refine ⟨by rw [HP.out]; rfl, F, ?_, Moved.of_below HB1.out⟩
      rw [HP.out]
      exact HX.out.below HB1.out
    | some wr =>
      obtain ⟨way, rest⟩ := wr
      obtain ⟨hplk, hrl⟩ := path_ok ok (by omega) hntk hpa
      have hwl := path_len hpa
      rw [hkl] at hrl hwl
      replace hrl : rest.length ≤ 32 := by omega
      replace hwl : way.length ≤ 33 := by omega
      have hpre : ∀ pl ∈ way, pl.nd.pre.length ≤ 1000 := fun pl hm => by have := ((rightB_iff _).1 (hplk pl hm).right).1; omega
      have HPk := Lib.hid hplk
      have HPr := Lib.hid hpre
      have HPn := Lib.hid hpa
      have hxl := h.box.lt
      have HTl := Lib.hid h.sys.tabs.lt
      have HFl := Lib.hid h.sys.lt
      cases hst : standsP way rest with
      | none =>
        have HP : Hid (cutM ⟨.up lf, s⟩ key.data.toList = (⟨.up lf, s⟩, 0, 7)) := Lib.hid (by unfold cutM; rw [hkl, if_neg h16, hpa]; simp only; rw [hst])
        have HSt := Lib.hid hst
        clear h hkl ok hntk hpa hst hplk hpre hkids
        go_enter Tryz.func7, Tryz.ntmps7
        go_wp2_with fail
        refine HA.out.mono ?_
        rintro e w1 ⟨rfl, rfl⟩
        clear HA
        go_wp2_with fail
        refine HPa.out.mono ?_
        rintro e w1 ⟨hb1, hp1⟩
        rw [HPn.out] at hp1
        obtain ⟨vw, A, c, rfl, hway, hrs, hrc⟩ := hp1
        have HW1 := Lib.hid hway
        have HR1 := Lib.hid hrs
        have HB1 := Lib.hid hb1
        clear hway hrs hb1 HPa
        go_wp2_with fail
        refine (stands_any HW1.out (by omega) HPr.out HR1.out.1 (by omega)).mono ?_
        rintro e w2 ⟨hb2, hp2⟩
        rw [HSt.out] at hp2
        replace hp2 : e = .returned (.tuple #[.agg #[.slice none 0 0, .int .u64 0, .slice none 0 0, .slice none 0 0, .int .i64 0, .int .u8 0, .int .i64 0], .bool false]) := hp2
        subst hp2
        have HB2 := Lib.hid (HB1.out.trans (hb2.mono HB1.out.size))
        clear hb2
        have HB3 : Hid (Below w.heap.size w (w2.alloc (.cells #[.slice none 0 0, .int .u64 0, .slice none 0 0, .slice none 0 0, .int .i64 0, .int .u8 0, .int .i64 0] 74))) := Lib.hid (HB2.out.alloc HB2.out.size _)
        go_wp2_with fail
        go_ret2
        refine ⟨by rw [HP.out]; rfl, F, ?_, Moved.of_below HB3.out⟩
        rw [HP.out]
        exact HX.out.below HB3.out
      | some last =>
        have hmem : last ∈ way := by
          unfold standsP at hst
          split at hst
          · cases hst
          · rename_i l hl
            split at hst
            · injection hst with hst; subst hst; exact List.mem_of_getLast? hl
            · cases hst
        have HPl := Lib.hid (hplk last hmem)
        have HSt := Lib.hid hst
        by_cases hv0 : last.nd.val = 0
        · have HP : Hid (cutM ⟨.up lf, s⟩ key.data.toList = (⟨.up lf, s⟩, 0, 7)) := Lib.hid (by unfold cutM; rw [hkl, if_neg h16, hpa]; simp only; rw [hst]; simp only; rw [if_pos hv0])
          have t1 : ((last.nd.val.toNat : Int) == 0) = true := by rw [hv0]; rfl
          clear h hkl ok hntk hpa hst hplk hpre hmem hkids
          go_enter Tryz.func7, Tryz.ntmps7
          go_wp2_with fail
          refine HA.out.mono ?_
          rintro e w1 ⟨rfl, rfl⟩
          clear HA
          go_wp2_with fail
          refine HPa.out.mono ?_
          rintro e w1 ⟨hb1, hp1⟩
          rw [HPn.out] at hp1
          obtain ⟨vw, A, c, rfl, hway, hrs, hrc⟩ := hp1
          have HW1 := Lib.hid hway
          have HR1 := Lib.hid hrs
          have HB1 := Lib.hid hb1
          clear hway hrs hb1 HPa
          go_wp2_with fail
          refine (stands_any HW1.out (by omega) HPr.out HR1.out.1 (by omega)).mono ?_
          rintro e w2 ⟨hb2, hp2⟩
          rw [HSt.out] at hp2
          obtain ⟨a, b, c', d', rfl, hnd⟩ := hp2
          obtain ⟨A1, m1, A2, m2, A3, m3, e, o1, o2, o3⟩ := hnd
          simp only [Value.agg.injEq] at e
          simp at e
          obtain ⟨rfl, rfl, rfl, rfl⟩ := e
          have HB2 := Lib.hid (HB1.out.trans (hb2.mono HB1.out.size))
          obtain ⟨W3, hW3⟩ : ∃ W3, W3 = w2.alloc (.cells #[.slice A1 last.nd.pre.length m1, .int .u64 (last.nd.val.toNat : Int), .slice A2 last.nd.labels.length m2, .slice A3 last.nd.kids.length m3, .int .i64 last.off, .int .u8 (last.label.toNat : Int), .int .i64 last.word] 74) := ⟨_, rfl⟩
          have B3 : Blk W3 w2.heap.size 74 [.slice A1 last.nd.pre.length m1, .int .u64 (last.nd.val.toNat : Int), .slice A2 last.nd.labels.length m2, .slice A3 last.nd.kids.length m3, .int .i64 last.off, .int .u8 (last.label.toNat : Int), .int .i64 last.word] := hW3 ▸ heap_alloc_new _ _
          have hb3 : Below w2.heap.size w2 W3 := hW3 ▸ (Below.refl _ _).alloc (Nat.le_refl _) _
          have HB3 := Lib.hid (HB2.out.trans (hb3.mono HB2.out.size))
          have HW3 := Lib.hid hW3
          obtain ⟨y0, y1, y2, y3, y4, y5, y6⟩ := cell7 B3
          rw [hW3] at y0 y1 y2 y3 y4 y5 y6
          rw [hW3] at HB3
          clear o1 o2 o3 hb2 hb3 B3 hW3 HW3
          go_wp2_with fail
          go_ret2
          have HBz := HB3.out
          rw [hv0] at HBz
          refine ⟨by rw [HP.out]; rfl, F, ?_, Moved.of_below HBz⟩
          rw [HP.out]
          exact HX.out.below HBz
        · have t1 : ((last.nd.val.toNat : Int) == 0) = false := by
            rw [beq_eq_false_iff_ne]; intro e; exact hv0 (UInt64.toNat_inj.1 (by simp; omega))
          have hk0 := hkids way rest last hpa hst hv0 h16
          obtain ⟨⟨q2, vc⟩, hvr⟩ : ∃ R, valueM ⟨.up lf, s⟩ last 0 = R := ⟨_, rfl⟩
          have HVr := Lib.hid hvr
          have HP : Hid (cutM ⟨.up lf, s⟩ key.data.toList = if vc = 0 then (q2, last.nd.val, 0) else (q2, 0, vc)) := Lib.hid (by unfold cutM; rw [hkl, if_neg h16]; simp only [hpa, hst, if_neg hv0, if_neg hk0, if_true, hvr])
          clear hvr
          have t2 : ((last.nd.kids.length : Int) == 0) = false := by rw [beq_eq_false_iff_ne]; omega
          clear h hkl ok hntk hpa hst hplk hpre hmem hkids
          go_enter Tryz.func7, Tryz.ntmps7
          go_wp2_with fail
          refine HA.out.mono ?_
          rintro e w1 ⟨rfl, rfl⟩
          clear HA
          go_wp2_with fail
          refine HPa.out.mono ?_
          rintro e w1 ⟨hb1, hp1⟩
          rw [HPn.out] at hp1
          obtain ⟨vw, A, c, rfl, hway, hrs, hrc⟩ := hp1
          have HW1 := Lib.hid hway
          have HR1 := Lib.hid hrs
          have HB1 := Lib.hid hb1
          clear hway hrs hb1 HPa
          go_wp2_with fail
          refine (stands_any HW1.out (by omega) HPr.out HR1.out.1 (by omega)).mono ?_
          rintro e w2 ⟨hb2, hp2⟩
          rw [HSt.out] at hp2
          obtain ⟨a, b, c', d', rfl, hnd⟩ := hp2
          obtain ⟨A1, m1, A2, m2, A3, m3, e, o1, o2, o3⟩ := hnd
          simp only [Value.agg.injEq] at e
          simp at e
          obtain ⟨rfl, rfl, rfl, rfl⟩ := e
          have HB2 := Lib.hid (HB1.out.trans (hb2.mono HB1.out.size))
          obtain ⟨W3, hW3⟩ : ∃ W3, W3 = w2.alloc (.cells #[.slice A1 last.nd.pre.length m1, .int .u64 (last.nd.val.toNat : Int), .slice A2 last.nd.labels.length m2, .slice A3 last.nd.kids.length m3, .int .i64 last.off, .int .u8 (last.label.toNat : Int), .int .i64 last.word] 74) := ⟨_, rfl⟩
          have B3 : Blk W3 w2.heap.size 74 [.slice A1 last.nd.pre.length m1, .int .u64 (last.nd.val.toNat : Int), .slice A2 last.nd.labels.length m2, .slice A3 last.nd.kids.length m3, .int .i64 last.off, .int .u8 (last.label.toNat : Int), .int .i64 last.word] := hW3 ▸ heap_alloc_new _ _
          have hb3 : Below w2.heap.size w2 W3 := hW3 ▸ (Below.refl _ _).alloc (Nat.le_refl _) _
          have HB3 := Lib.hid (HB2.out.trans (hb3.mono HB2.out.size))
          have HV := value_indexM (q := ⟨.up lf, s⟩) (HX.out.below HB3.out) last (HPl.out) A1 A2 A3 last.nd.pre.length m1 last.nd.labels.length m2 last.nd.kids.length m3 0
          rw [HVr.out] at HV
          have HV := Lib.hid HV
          have HW3 := Lib.hid hW3
          obtain ⟨y0, y1, y2, y3, y4, y5, y6⟩ := cell7 B3
          have HK3 := Lib.hid B3
          rw [hW3] at y0 y1 y2 y3 y4 y5 y6
          clear o1 o2 o3 hb2 hb3 B3 hW3
          go_wp2_with fail
          rw [← HW3.out]
          refine HV.out.mono ?_
          rintro e w4 ⟨rfl, F4, hx4, hm4⟩
          have HF := Lib.hid (And.intro hx4 ((Moved.of_below (F := F) HB3.out).trans hm4))
          have B4 := HK3.out.touch hm4.touch (fun hg => by have := HFl.out _ hg; have := HB2.out.size; omega)
          obtain ⟨z0, z1, z2, z3, z4, z5, z6⟩ := cell7 B4
          clear hx4 hm4 y0 y1 y2 y3 y4 y5 y6 HV HW3 B4 HK3
          by_cases hvc : vc = 0
          · subst hvc
            rw [if_pos rfl] at HP
            go_wp2_with fail
            go_ret2
            refine ⟨by rw [HP.out]; rfl, F4, ?_, HF.out.2⟩
            rw [HP.out]
            exact HF.out.1
          · rw [if_neg hvc] at HP
            have t8 : (vc == 0) = false := by rw [beq_eq_false_iff_ne]; exact hvc
            have t9 : (vc != 0) = true := by rw [bne_iff_ne]; exact hvc
            clear hvc
            go_wp2_with fail
            go_ret2
            refine ⟨by rw [HP.out]; rfl, F4, ?_, HF.out.2⟩
            rw [HP.out]
            exact HF.out.1
theorem cut_index(h:Ix w x d p L s F)(key:ByteArray)(hk:key.size≤1000)(hkids:∀way rest last,pathP s key.data.toList=some (way,rest)→standsP way rest=some last→last.nd.val≠0→¬16<key.size→¬last.nd.kids.length=0):
 Calls Tryz.prog 7 #[.pointer (some ⟨x,0,none⟩),.string key] w (CutPost (cutK s key.data.toList) x d p L F w):=by
 have:=cut_indexM (lf:= -1) h key hk hkids;rw [cutM_end]at this;exact this
end
end Go.Proofs.YtdjfbnoolfpcnaaGreatDoor
