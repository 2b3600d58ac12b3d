import Derived.IntWalk
import Derived.Test.YtbkpiojejmhfcaaGreatDoorG02
import Derived.Test.YtbkpiojejmhfcaaGreatDoorG03
import Derived.Test.YtbkpiojejmhfcaaGreatDoorG04
namespace Go.Proofs.YtbkpiojejmhfcaaGreatDoor
open Go.RowKit
theorem Tryz.bytesTyK:RowTyK Tryz.prog 39 5 (.int .u8 0) 1 1:=⟨Tryz.underlying39,by kernel_rfl,rfl⟩
theorem u8w(n:Nat)(h:n<256):IntKind.u8.wrap (n:Int)=(n:Int):=by
 simp only [IntKind.wrap,IntKind.bits,IntKind.signed,Bool.false_and,Bool.false_eq_true,if_false,show(2:Int)^8=256 from rfl]
 omega
set_option maxHeartbeats 4000000 in
theorem scrKey(c:UInt8)(w:World):Calls Tryz.prog 127 #[.int .u8 (c.toNat:Int)] w fun e w'=>e= .returned (.string (keyS c.toNat))∧Below w.heap.size w w':=by
 have hc:=c.toNat_lt
 unfold keyS
 generalize c.toNat=n at*
 have hn:n<256:=hc
 have t0:IntKind.u8.wrap ((n:Int).tmod 4)=((n%4:Nat):Int):=by rw [Int.tmod_eq_emod_of_nonneg (by omega),show(n:Int)%4=((n%4:Nat):Int)by omega];exact u8w _ (by omega)
 have t0':(n:Int).tmod 4=((n%4:Nat):Int):=by rw [Int.tmod_eq_emod_of_nonneg (by omega)];omega
 obtain⟨m,hm⟩:∃m,m=n%4:=⟨_,rfl⟩
 have hm4:m<4:=by omega
 rw [←hm]at t0 t0'⊢
 clear hm hc
 go_enter Tryz.func127,Tryz.ntmps127
 go_wp2_with fail
 go_loopw [3,4,8](fun u r i wr=>∃k:Nat,k≤m∧i= .int .u8 (k:Nat)∧r= .int .u8 ((n/4^k:Nat):Int)∧wr.ownsRow w.heap.size 5 1 u k ((keyL n k).map bv)∧Below w.heap.size w wr)(fun _ _ i _=>m- (intOf i).toNat)
 case atStart=>exact⟨0,Nat.zero_le _,rfl,by simp,World.ownsRow_nil _ _ _ _,Below.refl _ _⟩
 case round=>
  obtain⟨k,hk,rfl,rfl,hown,hb⟩:=hrel
  have HO:=Lib.hid hown
  have HB:=Lib.hid hb
  clear hown hb
  by_cases hlt:k<m
  ·have hx2:decide ((k:Int)<(m:Int))=true:=decide_eq_true (by omega)
   have hx5:decide (k<m)=true:=decide_eq_true hlt
   have hwk:IntKind.u8.wrap ((k:Int)+1)=(k:Int)+1:=by rw [show(k:Int)+1=((k+1:Nat):Int)by omega];exact u8w _ (by omega)
   have HL:=Lib.hid (keyL_succ n k)
   have hp:n/4^k≤n:=Nat.div_le_self _ _
   have hps:n/4^(k+1)=n/4^k/4:=by rw [Nat.pow_succ,Nat.div_div_eq_div_mul]
   rw [hps]at HL
   have HP:=Lib.hid hps
   generalize n/4^k=x at*
   have e1:(x:Int).tdiv 4=((x/4:Nat):Int):=by rw [Int.tdiv_eq_ediv_of_nonneg (by omega)];omega
   have e2:IntKind.u8.wrap ((x/4:Nat):Int)=((x/4:Nat):Int):=u8w _ (by omega)
   have hy:x/4<256:=by omega
   generalize x/4=y at*
   have e3:(y:Int).tmod 4=((y%4:Nat):Int):=by rw [Int.tmod_eq_emod_of_nonneg (by omega)];omega
   have hr4:y%4<4:=Nat.mod_lt _ (by decide)
   generalize y%4=r at*
   have e4:IntKind.u8.wrap (r:Int)=(r:Int):=u8w _ (by omega)
   have hr:r=0∨r=1∨r=2∨r=3:=by omega
   clear hps hp
   rcases hr with rfl| rfl| rfl| rfl
   ·go_wp2_with(at_builtin;refine wpList_app_one rfl (.tmp 12) (.tmp 16) 39 rfl Tryz.bytesTyK wr w.heap.size u3 k ((keyL n k).map bv) [.int .u8 97] rfl (by exact HO.out) rfl _ 1 rfl rfl rfl (by decide) (by intro u hu;simp at hu;subst hu;rfl) (by omega) (by decide) (by exact HB.out.size) ?_;intro g8 c8 w8 hO8 hB8 hK8 hg8)
    have HO8:=Lib.hid hO8
    have HB8:=Lib.hid (HB.out.trans hB8)
    clear hO8 hB8 hK8 hg8
    go_wp2_with fail
    go_roundw
    case rel=>exact⟨k+1,by omega,by go_num,by rw [HP.out],by rw [HL.out,List.map_append];exact HO8.out,HB8.out⟩
    case measure=>simp [intOf];omega
   ·go_wp2_with(at_builtin;refine wpList_app_one rfl (.tmp 12) (.tmp 16) 39 rfl Tryz.bytesTyK wr w.heap.size u3 k ((keyL n k).map bv) [.int .u8 98] rfl (by exact HO.out) rfl _ 1 rfl rfl rfl (by decide) (by intro u hu;simp at hu;subst hu;rfl) (by omega) (by decide) (by exact HB.out.size) ?_;intro g8 c8 w8 hO8 hB8 hK8 hg8)
    have HO8:=Lib.hid hO8
    have HB8:=Lib.hid (HB.out.trans hB8)
    clear hO8 hB8 hK8 hg8
    go_wp2_with fail
    go_roundw
    case rel=>exact⟨k+1,by omega,by go_num,by rw [HP.out],by rw [HL.out,List.map_append];exact HO8.out,HB8.out⟩
    case measure=>simp [intOf];omega
   ·go_wp2_with(at_builtin;refine wpList_app_one rfl (.tmp 12) (.tmp 16) 39 rfl Tryz.bytesTyK wr w.heap.size u3 k ((keyL n k).map bv) [.int .u8 99] rfl (by exact HO.out) rfl _ 1 rfl rfl rfl (by decide) (by intro u hu;simp at hu;subst hu;rfl) (by omega) (by decide) (by exact HB.out.size) ?_;intro g8 c8 w8 hO8 hB8 hK8 hg8)
    have HO8:=Lib.hid hO8
    have HB8:=Lib.hid (HB.out.trans hB8)
    clear hO8 hB8 hK8 hg8
    go_wp2_with fail
    go_roundw
    case rel=>exact⟨k+1,by omega,by go_num,by rw [HP.out],by rw [HL.out,List.map_append];exact HO8.out,HB8.out⟩
    case measure=>simp [intOf];omega
   ·go_wp2_with(at_builtin;refine wpList_app_one rfl (.tmp 12) (.tmp 16) 39 rfl Tryz.bytesTyK wr w.heap.size u3 k ((keyL n k).map bv) [.int .u8 100] rfl (by exact HO.out) rfl _ 1 rfl rfl rfl (by decide) (by intro u hu;simp at hu;subst hu;rfl) (by omega) (by decide) (by exact HB.out.size) ?_;intro g8 c8 w8 hO8 hB8 hK8 hg8)
    have HO8:=Lib.hid hO8
    have HB8:=Lib.hid (HB.out.trans hB8)
    clear hO8 hB8 hK8 hg8
    go_wp2_with fail
    go_roundw
    case rel=>exact⟨k+1,by omega,by go_num,by rw [HP.out],by rw [HL.out,List.map_append];exact HO8.out,HB8.out⟩
    case measure=>simp [intOf];omega
  ·have hkn:k=m:=by omega
   subst hkn
   have hx2:decide ((k:Int)<(k:Int))=false:=decide_eq_false (by omega)
   have hx5:decide (k<k)=false:=decide_eq_false (by omega)
   obtain⟨A,c,rfl,hc,hr⟩:=rd_of_own HO.out
   have hcv:=conv_bs (A:=A) (n:=k) (l:=keyL n k) hr c
   go_wp2_with fail
   go_ret
   exact⟨rfl,HB.out⟩
set_option maxHeartbeats 4000000 in
theorem scrText(c:UInt8)(w:World):Calls Tryz.prog 128 #[.int .u8 (c.toNat:Int)] w fun e w'=>e= .returned (.string (textS c.toNat))∧Below w.heap.size w w':=by
 have hc:=c.toNat_lt
 unfold textS
 generalize c.toNat=n at*
 have hn:n<256:=hc
 have t0:IntKind.u8.wrap ((n:Int).tmod 8)=((n%8:Nat):Int):=by rw [Int.tmod_eq_emod_of_nonneg (by omega),show(n:Int)%8=((n%8:Nat):Int)by omega];exact u8w _ (by omega)
 have t0':(n:Int).tmod 8=((n%8:Nat):Int):=by rw [Int.tmod_eq_emod_of_nonneg (by omega)];omega
 obtain⟨m,hm⟩:∃m,m=n%8:=⟨_,rfl⟩
 have hm8:m<8:=by omega
 rw [←hm]at t0 t0'⊢
 have HS:=Lib.hid (fun k=>textL_succ n k)
 have HL0:Hid (textL n 0=[]):=Lib.hid rfl
 have e1:(n:Int).tdiv 8=((n/8:Nat):Int):=by rw [Int.tdiv_eq_ediv_of_nonneg (by omega)];omega
 have e2:IntKind.u8.wrap ((n/8:Nat):Int)=((n/8:Nat):Int):=u8w _ (by omega)
 have hy:n/8<256:=by omega
 clear hm hc
 generalize hL:textL n=L at*
 clear hL
 generalize n/8=y at*
 have e3:(y:Int).tmod 8=((y%8:Nat):Int):=by rw [Int.tmod_eq_emod_of_nonneg (by omega)];omega
 have hr8:y%8<8:=Nat.mod_lt _ (by decide)
 generalize y%8=r at*
 have e4:IntKind.u8.wrap (r:Int)=(r:Int):=u8w _ (by omega)
 have hr:r=0∨r=1∨r=2∨r=3∨r=4∨r=5∨r=6∨r=7:=by omega
 go_enter Tryz.func128,Tryz.ntmps128
 go_wp2_with fail
 go_loopw [3,6](fun u i wr=>∃k:Nat,k≤m∧i= .int .u8 (k:Nat)∧wr.ownsRow w.heap.size 5 1 u k ((L k).map bv)∧Below w.heap.size w wr)(fun _ i _=>m- (intOf i).toNat)
 case atStart=>exact⟨0,Nat.zero_le _,rfl,by rw [HL0.out];exact World.ownsRow_nil _ _ _ _,Below.refl _ _⟩
 case round=>
  obtain⟨k,hk,rfl,hown,hb⟩:=hrel
  have HO:=Lib.hid hown
  have HB:=Lib.hid hb
  clear hown hb
  by_cases hlt:k<m
  ·have hx2:decide ((k:Int)<(m:Int))=true:=decide_eq_true (by omega)
   have hx5:decide (k<m)=true:=decide_eq_true hlt
   have hwk:IntKind.u8.wrap ((k:Int)+1)=(k:Int)+1:=by rw [show(k:Int)+1=((k+1:Nat):Int)by omega];exact u8w _ (by omega)
   have HL:=Lib.hid (HS.out k)
   rcases hr with rfl| rfl| rfl| rfl| rfl| rfl| rfl| rfl
   ·go_wp2_with(at_builtin;refine wpList_app_one rfl (.tmp 8) (.tmp 13) 39 rfl Tryz.bytesTyK wr w.heap.size u3 k ((L k).map bv) [.int .u8 115] rfl (by exact HO.out) rfl _ 1 rfl rfl rfl (by decide) (by intro u hu;simp at hu;subst hu;rfl) (by omega) (by decide) (by exact HB.out.size) ?_;intro g8 c8 w8 hO8 hB8 hK8 hg8)
    have HO8:=Lib.hid hO8
    have HB8:=Lib.hid (HB.out.trans hB8)
    clear hO8 hB8 hK8 hg8
    go_wp2_with fail
    go_roundw
    case rel=>exact⟨k+1,by omega,by go_num,by rw [HL.out,List.map_append];exact HO8.out,HB8.out⟩
    case measure=>simp [intOf];omega
   ·go_wp2_with(at_builtin;refine wpList_app_one rfl (.tmp 8) (.tmp 13) 39 rfl Tryz.bytesTyK wr w.heap.size u3 k ((L k).map bv) [.int .u8 116] rfl (by exact HO.out) rfl _ 1 rfl rfl rfl (by decide) (by intro u hu;simp at hu;subst hu;rfl) (by omega) (by decide) (by exact HB.out.size) ?_;intro g8 c8 w8 hO8 hB8 hK8 hg8)
    have HO8:=Lib.hid hO8
    have HB8:=Lib.hid (HB.out.trans hB8)
    clear hO8 hB8 hK8 hg8
    go_wp2_with fail
    go_roundw
    case rel=>exact⟨k+1,by omega,by go_num,by rw [HL.out,List.map_append];exact HO8.out,HB8.out⟩
    case measure=>simp [intOf];omega
   ·go_wp2_with(at_builtin;refine wpList_app_one rfl (.tmp 8) (.tmp 13) 39 rfl Tryz.bytesTyK wr w.heap.size u3 k ((L k).map bv) [.int .u8 117] rfl (by exact HO.out) rfl _ 1 rfl rfl rfl (by decide) (by intro u hu;simp at hu;subst hu;rfl) (by omega) (by decide) (by exact HB.out.size) ?_;intro g8 c8 w8 hO8 hB8 hK8 hg8)
    have HO8:=Lib.hid hO8
    have HB8:=Lib.hid (HB.out.trans hB8)
    clear hO8 hB8 hK8 hg8
    go_wp2_with fail
    go_roundw
    case rel=>exact⟨k+1,by omega,by go_num,by rw [HL.out,List.map_append];exact HO8.out,HB8.out⟩
    case measure=>simp [intOf];omega
   ·go_wp2_with(at_builtin;refine wpList_app_one rfl (.tmp 8) (.tmp 13) 39 rfl Tryz.bytesTyK wr w.heap.size u3 k ((L k).map bv) [.int .u8 118] rfl (by exact HO.out) rfl _ 1 rfl rfl rfl (by decide) (by intro u hu;simp at hu;subst hu;rfl) (by omega) (by decide) (by exact HB.out.size) ?_;intro g8 c8 w8 hO8 hB8 hK8 hg8)
    have HO8:=Lib.hid hO8
    have HB8:=Lib.hid (HB.out.trans hB8)
    clear hO8 hB8 hK8 hg8
    go_wp2_with fail
    go_roundw
    case rel=>exact⟨k+1,by omega,by go_num,by rw [HL.out,List.map_append];exact HO8.out,HB8.out⟩
    case measure=>simp [intOf];omega
   ·go_wp2_with(at_builtin;refine wpList_app_one rfl (.tmp 8) (.tmp 13) 39 rfl Tryz.bytesTyK wr w.heap.size u3 k ((L k).map bv) [.int .u8 119] rfl (by exact HO.out) rfl _ 1 rfl rfl rfl (by decide) (by intro u hu;simp at hu;subst hu;rfl) (by omega) (by decide) (by exact HB.out.size) ?_;intro g8 c8 w8 hO8 hB8 hK8 hg8)
    have HO8:=Lib.hid hO8
    have HB8:=Lib.hid (HB.out.trans hB8)
    clear hO8 hB8 hK8 hg8
    go_wp2_with fail
    go_roundw
    case rel=>exact⟨k+1,by omega,by go_num,by rw [HL.out,List.map_append];exact HO8.out,HB8.out⟩
    case measure=>simp [intOf];omega
   ·go_wp2_with(at_builtin;refine wpList_app_one rfl (.tmp 8) (.tmp 13) 39 rfl Tryz.bytesTyK wr w.heap.size u3 k ((L k).map bv) [.int .u8 120] rfl (by exact HO.out) rfl _ 1 rfl rfl rfl (by decide) (by intro u hu;simp at hu;subst hu;rfl) (by omega) (by decide) (by exact HB.out.size) ?_;intro g8 c8 w8 hO8 hB8 hK8 hg8)
    have HO8:=Lib.hid hO8
    have HB8:=Lib.hid (HB.out.trans hB8)
    clear hO8 hB8 hK8 hg8
    go_wp2_with fail
    go_roundw
    case rel=>exact⟨k+1,by omega,by go_num,by rw [HL.out,List.map_append];exact HO8.out,HB8.out⟩
    case measure=>simp [intOf];omega
   ·go_wp2_with(at_builtin;refine wpList_app_one rfl (.tmp 8) (.tmp 13) 39 rfl Tryz.bytesTyK wr w.heap.size u3 k ((L k).map bv) [.int .u8 121] rfl (by exact HO.out) rfl _ 1 rfl rfl rfl (by decide) (by intro u hu;simp at hu;subst hu;rfl) (by omega) (by decide) (by exact HB.out.size) ?_;intro g8 c8 w8 hO8 hB8 hK8 hg8)
    have HO8:=Lib.hid hO8
    have HB8:=Lib.hid (HB.out.trans hB8)
    clear hO8 hB8 hK8 hg8
    go_wp2_with fail
    go_roundw
    case rel=>exact⟨k+1,by omega,by go_num,by rw [HL.out,List.map_append];exact HO8.out,HB8.out⟩
    case measure=>simp [intOf];omega
   ·go_wp2_with(at_builtin;refine wpList_app_one rfl (.tmp 8) (.tmp 13) 39 rfl Tryz.bytesTyK wr w.heap.size u3 k ((L k).map bv) [.int .u8 122] rfl (by exact HO.out) rfl _ 1 rfl rfl rfl (by decide) (by intro u hu;simp at hu;subst hu;rfl) (by omega) (by decide) (by exact HB.out.size) ?_;intro g8 c8 w8 hO8 hB8 hK8 hg8)
    have HO8:=Lib.hid hO8
    have HB8:=Lib.hid (HB.out.trans hB8)
    clear hO8 hB8 hK8 hg8
    go_wp2_with fail
    go_roundw
    case rel=>exact⟨k+1,by omega,by go_num,by rw [HL.out,List.map_append];exact HO8.out,HB8.out⟩
    case measure=>simp [intOf];omega
  ·have hkn:k=m:=by omega
   subst hkn
   have hx2:decide ((k:Int)<(k:Int))=false:=decide_eq_false (by omega)
   have hx5:decide (k<k)=false:=decide_eq_false (by omega)
   obtain⟨A,c,rfl,hc,hr⟩:=rd_of_own HO.out
   have hcv:=conv_bs (A:=A) (n:=k) (l:=L k) hr c
   go_wp2_with fail
   go_ret
   exact⟨rfl,HB.out⟩
end Go.Proofs.YtbkpiojejmhfcaaGreatDoor
