import Derived.Test.YtkimaejoeapmnaaGreatDoorH23
import Derived.Test.YtkimaejoeapmnaaGreatDoorH24
set_option linter.defProp false
set_option maxHeartbeats 32000000
set_option maxRecDepth 100000
open Go.Lib renaming hid->Aa
namespace Go.Proofs.YtkimaejoeapmnaaGreatDoor
open Go.RowKit
open Go.Proofs.Tryz
section
variable{base jb x d p L:Nat}
def Ag9{w:World}{j:Jm}{G:Nat->Prop}(h:Gf w base jb x d p L j G)(nd:Nd)(A1 A2 A3:Option Addr)(c1 c2 c3:Nat)(off word:Int)(lb:UInt8)(rest:List UInt8)(A:Option Addr)(c:Nat)(value:UInt64)
 (hN:ax w G (.slice A1 nd.pre.length c1) (.int .u64 (nd.val.toNat:Int)) (.slice A2 nd.labels.length c2) (.slice A3 nd.kids.length c3) nd)(b1:nd.pre.length<=100)(b2:nd.labels.length<=100)(b3:nd.kids.length<=100)
 (hR:Ja w G A rest.length (rest.map bv))(hrc:rest.length<=c)(hrl:rest.length<=100)(hm:j.made.length<=500)(hne:nd.pre≠rest):
 Calls prog 116 #[Az jb,.agg #[.slice A1 nd.pre.length c1,.int .u64 (nd.val.toNat:Int),.slice A2 nd.labels.length c2,.slice A3 nd.kids.length c3,.int .i64 off,.int .u8 (lb.toNat:Int),.int .i64 word],.slice A rest.length c,.int .u64 (value.toNat:Int)] w (I5 (J3 j nd rest value) base jb x d p L G w):=by
 have hl:=Je nd.pre rest;have hr:=Fq nd.pre rest;by_cases hs:common nd.pre rest=nd.pre.length
 ·refine Ac7 h nd A1 A2 A3 c1 c2 c3 off word lb rest A c value hN b1 b2 b3 hR hrc hrl hm hs ?_;rcases Nat.lt_or_ge (common nd.pre rest) rest.length with h1| h1
  ·exact h1
  ·exact absurd (RU _ _ hs O) hne
 ·have hs':common nd.pre rest<nd.pre.length:=O
  by_cases he:common nd.pre rest=rest.length
  ·exact grow_end h nd A1 A2 A3 c1 c2 c3 off word lb rest A c value hN b1 b2 b3 hR hrc hrl hm hs' he
  ·have hlt:common nd.pre rest<rest.length:=O
   by_cases her:(Ei j {nd with pre:=nd.pre.drop (common nd.pre rest+1)}).2.2=0
   ·cases hok:Jo ⟨nd.pre.take (common nd.pre rest),0,[],[]⟩ (nd.pre.getD (common nd.pre rest) 0) (Ei j {nd with pre:=nd.pre.drop (common nd.pre rest+1)}).2.1
    ·exact Aks h nd A1 A2 A3 c1 c2 c3 off word lb rest A c value hN b1 b2 b3 hR hrc hrl hm hs' hlt her hok
    ·exact Ag7 h nd A1 A2 A3 c1 c2 c3 off word lb rest A c value hN b1 b2 b3 hR hrc hrl hm hs' hlt her hok
   ·exact Ag8 h nd A1 A2 A3 c1 c2 c3 off word lb rest A c value hN b1 b2 b3 hR hrc hrl hm hs' hlt her
end
def Gf.done{w W w':World}{base jb x d p L:Nat}{j:Jm}{F G G':Nat->Prop}(h:Gf w' base jb x d p L j G')(m:AP G G' W w')(hb:η w W)(hG:∀b,G b->F b\/w.heap.size<=b):∃F',IxM w' x d p L j.s F'/\AP F F' w w':=by
 obtain⟨F',v,hj,hG'⟩:=h;have hs:=hb.size;refine⟨F',hj.ix,(Touch.of_below hb).trans m.touch hG,λb hb'=> ?_⟩;rcases m.own b ((hG' b).2 (.inl hb'))with h1| h1
 ·exact hG b h1
 ·exact .inr O
def kV{w W:World}{x d p L:Nat}{q:Ms}{F:Nat->Prop}(h:IxM W x d p L q F)(hw:W=w.alloc (.cells #[Az x,.slice none 0 0] 219))(hF:∀b,F b->b<w.heap.size)(hx:x<w.heap.size)(ht:0<w.heap.size/\1<w.heap.size):
 Gf W w.heap.size w.heap.size x d p L ⟨q,[]⟩ (λb=>F b\/b=w.heap.size):=by
 have e1:(Value.slice none 0 0).ownBlock=none:=rfl;have row:W.ownsRow w.heap.size 3 1 (.slice none 0 0) 0 []:=World.ownsRow_nil _ _ _ _;have box:CS W w.heap.size 219 [Az x,.slice none 0 0]:=hw▸heap_alloc_new _ _;have fj:¬F w.heap.size:=λhf=>Nat.lt_irrefl _ (hF _ hf)
 refine⟨F,.slice none 0 0,⟨h,box,row,fj,Nat.le_refl _,hx,ht,(by rw [e1];exact λe=>nomatch e),λb hb=>(by rw [e1]at hb;exact nomatch hb),λo ho=>nomatch ho⟩,λb=>⟨λhb=>hb.elim .inl (λe=> .inr (.inl e)),λhb=> ?_⟩⟩;rcases hb with h1| h1| h1
 ·exact .inl h1
 ·exact .inr h1
 ·rw [e1]at h1;exact nomatch h1
def kW(r:St×Int)(x d p L:Nat)(F:Nat->Prop)(w:World)(e:Ending)(w':World):Prop:=
 e= .returned (.int .i64 r.2)/\∃F',Ix w' x d p L r.1 F'/\AP F F' w w'
def RX(r:Ms×Int)(x d p L:Nat)(F:Nat->Prop)(w:World)(e:Ending)(w':World):Prop:=
 e= .returned (.int .i64 r.2)/\∃F',IxM w' x d p L r.1 F'/\AP F F' w w'
section
variable{w:World}{x d p L:Nat}{s:St}{F:Nat->Prop}{lf:Int}
def Q7(key:ByteArray):key.data.toList.length=key.size:=by rw [Array.length_toList];rfl
def WS(h:Jd (.up (MU lf)) w x d p L s F)(key:ByteArray)(hk:key.size<=1000)(value:UInt64)(hc:16<key.size\/value=0\/FY s key.data.toList=none):
 Calls prog 71 #[Az x,.string key,.int .u64 (value.toNat:Int)] w (RX (Qj ⟨.up lf,s⟩ key.data.toList value) x d p L F w):=by
 have HA:=Aa (KA h key O);have HX:=Aa h;have hkl:=Q7 key;by_cases h1:16<key.size
 ·have HP:Hid (Qj ⟨.up lf,s⟩ key.data.toList value=(⟨.up lf,s⟩,3)):=Aa (by unfold Qj;rw [hkl,if_pos h1]);rw [if_pos h1]at HA;clear h hc h1 hkl;go_enter func71,ntmps71
  go_wp2_with fail
  refine HA.out.mono ?_;rintro e w1⟨rfl,rfl⟩;clear HA
  go_wp2_with fail
  go_ret;refine⟨by rw [HP.out];rfl,F,?_,AP.refl _ _⟩;rw [HP.out];exact HX.out
 ·rw [if_neg h1]at HA;by_cases h2:value=0
  ·have HP:Hid (Qj ⟨.up lf,s⟩ key.data.toList value=(⟨.up lf,s⟩,2)):=Aa (by unfold Qj;rw [hkl,if_neg h1,if_pos h2]);subst h2;clear h hc h1 hkl;go_enter func71,ntmps71
   go_wp2_with fail
   refine HA.out.mono ?_;rintro e w1⟨rfl,rfl⟩;clear HA
   go_wp2_with fail
   go_ret;refine⟨by rw [HP.out];rfl,F,?_,AP.refl _ _⟩;rw [HP.out];exact HX.out
  ·have hpn:=(hc.resolve_left h1).resolve_left h2;have HP:Hid (Qj ⟨.up lf,s⟩ key.data.toList value=(⟨.up lf,s⟩,5)):=Aa (by unfold Qj;rw [hkl,if_neg h1,if_neg h2];simp only [hpn]);have TW:=Aa (JY h key hk);have aA:=Aa hpn;have t1:((value.toNat:Int)==0)=false:=by
    rw [beq_eq_false_iff_ne];intro e;exact h2 (UInt64.toNat_inj.1 (by simp;omega))
   clear h hc h1 h2 hkl hpn;go_enter func71,ntmps71
   go_wp2_with fail
   refine HA.out.mono ?_;rintro e w1⟨rfl,rfl⟩;clear HA
   go_wp2_with fail
   refine TW.out.mono ?_;rintro e w1⟨hb1,hp1⟩;rw [aA.out]at hp1;replace hp1:e= .returned (.tuple #[.slice none 0 0,.slice none 0 0,.int .i64 5]):=hp1;subst hp1;have HB:=Aa hb1;clear hb1 TW
   go_wp2_with fail
   go_ret;refine⟨by rw [HP.out];rfl,F,?_,AP.of_below HB.out⟩;rw [HP.out];exact HX.out.below HB.out
end
