import Derived.Shelf.Spec.TrailingZeros
import Derived.Test.YtdjfbnoolfpcnaaGreatDoorG04
import Derived.Test.YtdjfbnoolfpcnaaGreatDoorG06
namespace Go.Proofs.YtdjfbnoolfpcnaaGreatDoor
open Go.RowKit
def TabB(w:World):Prop:=∀j,j<64→w.cell? ⟨1,j,none⟩=some (.int .u8 (Lib.deBruijn64tab.getD j 0:Nat))
theorem TabB.dr{w w':World}(h:TabB w)(d:Dr w w'):TabB w':=by obtain⟨q,rfl⟩:=d;exact h
theorem tz_zero(w:World):Calls Tryz.prog 170 #[.int .u64 0] w fun e w'=>e= .returned (.int .i64 64)∧w=w':=by
 go_enter Tryz.func170,Tryz.ntmps170;go_wp2;go_ret;exact⟨rfl,rfl⟩
set_option maxHeartbeats 1000000 in
theorem tz_core(x k idx:Nat)(w:World)(hx0:((x:Int)==0)=false)
 (key:IntKind.u64.wrap (bits BinOp.and IntKind.u64 (x:Int) (IntKind.u64.wrap (-(x:Int)))*285870213051353865)/288230376151711744=(idx:Int))
 (hi:idx<64)(hk:k<64)(hcell:w.cell? ⟨1,idx,none⟩=some (.int .u8 k)):
 Calls Tryz.prog 170 #[.int .u64 x] w fun e w'=>e= .returned (.int .i64 k)∧w=w':=by
 go_enter Tryz.func170,Tryz.ntmps170
 go_wp2_with(simp only [key])
 go_ret;exact⟨rfl,rfl⟩
theorem tz_any(x:Nat)(hx:x<18446744073709551616)(w:World)(hT:TabB w):
 Calls Tryz.prog 170 #[.int .u64 x] w fun e w'=>e= .returned (.int .i64 (Lib.ctz 64 x))∧w=w':=by
 by_cases hx0:x=0
 ·subst hx0;exact tz_zero w
 ·obtain⟨hlow,hk⟩:=Lib.lowest_bit 64 x hx0 hx;obtain⟨hi,htab⟩:=Lib.deBruijn64_at _ hk;have hc:=hT _ hi;rw [htab]at hc;exact tz_core x _ _ w (by rw [beq_eq_false_iff_ne];omega) (tz64_key x _ hx hx0 hlow) hi hk hc
theorem not_eq(n:Nat)(hn:n<18446744073709551616):bits .xor .u64 IntKind.u64.max (n:Int)=((18446744073709551615-n:Nat):Int):=by
 rw [show IntKind.u64.max=((18446744073709551615:Nat):Int)from rfl,u64_xor_nat _ _ (by decide) hn];congr 1;apply Nat.eq_of_testBit_eq;intro i;have h1:=Nat.testBit_two_pow_sub_succ (n:=64) (x:=n) hn i;have h2:=Nat.testBit_two_pow_sub_one 64 i;rw [show 2^64- (n+1)=18446744073709551615-n by omega]at h1;rw [show 2^64-1=18446744073709551615 by decide]at h2;rw [Nat.testBit_xor,h1,h2];by_cases hi:i<64
 ·simp [hi]
 ·have:n.testBit i=false:=Nat.testBit_lt_two_pow (Nat.lt_of_lt_of_le hn (Nat.pow_le_pow_right (n:=2) (by decide) (by omega:64≤i)));simp [hi,this]
def optI(o:Option Nat):Int:=match o with
 | some k=>(k:Int)
 | none=> -1
set_option maxHeartbeats 1000000 in
theorem low_any(n many:Nat)(w:World)(hn:n<18446744073709551616)(hm:many≤64)(hT:TabB w):
 Calls Tryz.prog 157 #[.int .u64 (n:Int),.int .i64 (many:Int)] w fun e w'=>e= .returned (.int .i64 (optI (lowN n many)))∧Dr w w':=by
 have hd:=Dr.refl w;have e1:=not_eq n hn;have HT:=Lib.hid (tz_any (18446744073709551615-n) (by omega) w hT);have hc:=lowN_ctz n many hn hm;generalize Lib.ctz 64 (18446744073709551615-n)=c at hc HT;by_cases h1:c<many
 ·rw [if_pos h1]at hc;rw [hc,show optI (some c)=(c:Int)from rfl];have t1:decide ((c:Int)<(many:Int))=true:=decide_eq_true (by omega);clear hc;go_enter Tryz.func157,Tryz.ntmps157
  go_wp2_with fail
  refine HT.out.mono ?_;rintro e w'⟨rfl,rfl⟩
  go_wp2_with fail
  go_ret;exact⟨rfl,hd⟩
 ·rw [if_neg h1]at hc;rw [hc,show optI none= -1 from rfl];have t1:decide ((c:Int)<(many:Int))=false:=decide_eq_false (by omega);clear hc;go_enter Tryz.func157,Tryz.ntmps157
  go_wp2_with fail
  refine HT.out.mono ?_;rintro e w'⟨rfl,rfl⟩
  go_wp2_with fail
  go_ret;exact⟨rfl,hd⟩
set_option maxHeartbeats 1000000 in
theorem meets_any(x c:Nat)(w:World)(hx:x<18446744073709551616)(hc:c<1000000):Calls Tryz.prog 156 #[.int .u64 (x:Int),.int .i64 (c:Int)] w fun e w'=>e= .returned (.bool (meetsW x c))∧Dr w w':=by
 have hd:=Dr.refl w;have hk:=kindN_lt x;have HR:=Lib.hid (fun W=>rightS_any x W hx);have HB:=Lib.hid (fun W=>blocks_any c W hc);cases hr:rightW x
 ·rw [show meetsW x c=false by simp [meetsW,hr]];rw [hr]at HR;clear hr;go_enter Tryz.func156,Tryz.ntmps156
  go_wp2_with fail
  refine(HR.out _).mono ?_;rintro e w'⟨rfl,hd'⟩;replace hd:=hd.trans hd'
  go_wp2_with fail
  go_ret;exact⟨rfl,hd⟩
 ·rw [hr]at HR;by_cases h1:0<blocksN c
  ·have t1:decide ((0:Int)<((blocksN c:Nat):Int))=true:=decide_eq_true (by omega);have HM:Hid (meetsW x c=(decide (x=0)|| decide (kindN x=c))):=Lib.hid (by
    have a1:(x==0)=decide (x=0):=by rw [Bool.eq_iff_iff,beq_iff_eq,decide_eq_true_iff]
    have a2:(kindN x==c)=decide (kindN x=c):=by rw [Bool.eq_iff_iff,beq_iff_eq,decide_eq_true_iff]
    rw [meetsW,hr,decide_eq_true h1,a1,a2];rfl)
   generalize blocksN c=bl at*;clear hr;by_cases h0:x=0
   ·have t0:((x:Int)==0)=true:=by rw [beq_iff_eq];omega
    have H0:=Lib.hid h0;clear h0;go_enter Tryz.func156,Tryz.ntmps156
    go_wp2_with fail
    refine(HR.out _).mono ?_;rintro e w'⟨rfl,hd'⟩;replace hd:=hd.trans hd'
    go_wp2_with fail
    refine(HB.out _).mono ?_;rintro e w'⟨rfl,rfl⟩
    go_wp2_with fail
    rw [HM.out,decide_eq_true H0.out];go_ret;exact⟨rfl,hd⟩
   ·have t0:((x:Int)==0)=false:=by rw [beq_eq_false_iff_ne];omega
    have HK:Hid ((((kindN x:Nat):Int)==(c:Int))=decide (kindN x=c)):=Lib.hid (by rw [Bool.eq_iff_iff,beq_iff_eq,decide_eq_true_iff];omega);go_enter Tryz.func156,Tryz.ntmps156
    go_wp2_with fail
    refine(HR.out _).mono ?_;rintro e w'⟨rfl,hd'⟩;replace hd:=hd.trans hd'
    go_wp2_with fail
    refine(HB.out _).mono ?_;rintro e w'⟨rfl,rfl⟩
    go_wp2_with fail
    refine(kind_any x _ hx).mono ?_;rintro e w'⟨rfl,hd'⟩;replace hd:=hd.trans hd'
    go_wp2_with fail
    rw [HM.out,decide_eq_false h0,HK.out];go_ret;exact⟨rfl,hd⟩
  ·have t1:decide ((0:Int)<((blocksN c:Nat):Int))=false:=decide_eq_false (by omega);rw [show meetsW x c=false by simp [meetsW,h1]];clear hr;go_enter Tryz.func156,Tryz.ntmps156
   go_wp2_with fail
   refine(HR.out _).mono ?_;rintro e w'⟨rfl,hd'⟩;replace hd:=hd.trans hd'
   go_wp2_with fail
   refine(HB.out _).mono ?_;rintro e w'⟨rfl,rfl⟩
   go_wp2_with fail
   go_ret;exact⟨rfl,hd⟩
theorem nextS_any(x c:Nat)(w:World)(hx:x<18446744073709551616)(hc:c<1000000)(hT:TabB w):Calls Tryz.prog 119 #[.int .u64 (x:Int),.int .i64 (c:Int)] w fun e w'=>e= .returned (.int .i64 (optI (nextW x c)))∧Dr w w':=by
 have hd:=Dr.refl w;have hk:=takenN_lt x;have hb:=blocksN_le c;have HM:=Lib.hid (fun W=>meets_any x c W hx hc);have HL:=Lib.hid (fun W(h:TabB W)=>low_any (takenN x) (blocksN c) W (by omega) (by omega) h);cases hm:meetsW x c
 ·rw [show nextW x c=none by simp [nextW,hm],show optI none= -1 from rfl];rw [hm]at HM;clear hm;go_enter Tryz.func119,Tryz.ntmps119
  go_wp2_with fail
  refine(HM.out _).mono ?_;rintro e w'⟨rfl,hd'⟩;replace hd:=hd.trans hd'
  go_wp2_with fail
  go_ret;exact⟨rfl,hd⟩
 ·rw [show nextW x c=lowN (takenN x) (blocksN c)by simp [nextW,hm]];rw [hm]at HM;clear hm;go_enter Tryz.func119,Tryz.ntmps119
  go_wp2_with fail
  refine(HM.out _).mono ?_;rintro e w'⟨rfl,hd'⟩;replace hd:=hd.trans hd'
  go_wp2_with fail
  refine(taken_any x _ hx).mono ?_;rintro e w'⟨rfl,hd'⟩;replace hd:=hd.trans hd'
  go_wp2_with fail
  refine(blocks_any c _ hc).mono ?_;rintro e w'⟨rfl,rfl⟩
  go_wp2_with fail
  refine(HL.out _ (hT.dr hd)).mono ?_;rintro e w'⟨rfl,hd'⟩;replace hd:=hd.trans hd'
  go_wp2_with fail
  go_ret;exact⟨rfl,hd⟩
theorem takeW_lt(x c a:Nat)(hx:x<18446744073709551616)(ha:a≤16):(takeW x c a).1<18446744073709551616:=by
 unfold takeW;split
 ·exact hx
 ·exact withB_lt _ _ _ _ (withB_lt _ _ _ _ hx (by omega)) (by omega)
theorem dropW_lt(x a:Nat)(hx:x<18446744073709551616)(ha:a≤16):(dropW x a).1<18446744073709551616:=by
 unfold dropW;split
 ·exact hx
 ·split
  ·decide
  ·exact withB_lt _ _ _ _ hx (by omega)
set_option maxHeartbeats 1000000 in
theorem take_any(x c a:Nat)(w:World)(hx:x<18446744073709551616)(hc:c<4)(ha:a≤16):Calls Tryz.prog 121 #[.int .u64 (x:Int),.int .i64 (c:Int),.int .i64 (a:Int)] w fun e w'=>e= .returned (.tuple #[.int .u64 ((takeW x c a).1:Nat),.bool (takeW x c a).2])∧Dr w w':=by
 have hd:=Dr.refl w;have hb:=blocksN_le c;have HM:=Lib.hid (fun W=>meets_any x c W hx (by omega));have t0:decide ((a:Int)<0)=false:=by simp
 cases hm:meetsW x c
 ·rw [show takeW x c a=(x,false)by simp [takeW,hm]];rw [hm]at HM;clear hm;go_enter Tryz.func121,Tryz.ntmps121
  go_wp2_with fail
  refine(HM.out _).mono ?_;rintro e w'⟨rfl,hd'⟩;replace hd:=hd.trans hd'
  go_wp2_with fail
  go_ret2;exact⟨rfl,hd⟩
 ·rw [hm]at HM;by_cases h1:blocksN c≤a
  ·have t1:decide (((blocksN c:Nat):Int)≤(a:Int))=true:=decide_eq_true (by omega);rw [show takeW x c a=(x,false)by simp [takeW,h1]];clear hm;go_enter Tryz.func121,Tryz.ntmps121
   go_wp2_with fail
   refine(HM.out _).mono ?_;rintro e w'⟨rfl,hd'⟩;replace hd:=hd.trans hd'
   go_wp2_with fail
   refine(blocks_any c _ (by omega)).mono ?_;rintro e w'⟨rfl,rfl⟩
   go_wp2_with fail
   go_ret2;exact⟨rfl,hd⟩
  ·have t1:decide (((blocksN c:Nat):Int)≤(a:Int))=false:=decide_eq_false (by omega);have HH:=Lib.hid (fun W=>hasS_any x a W hx (by omega));cases hh:hasW x a
   ·rw [hh]at HH;have w1:=withB_lt x a 1 1 hx (by omega);have HW1:=Lib.hid (fun W=>with_any x a 1 1 W hx (by decide) (by omega));have HW2:=Lib.hid (fun W=>with_any (withB x a 1 1) 16 2 c W w1 (by omega) (by decide));have e1:IntKind.u64.wrap (c:Int)=(c:Int):=by rw [IntKind.wrap_u64];omega
    have HT:Hid (takeW x c a=(withB (withB x a 1 1) 16 2 c,true)):=Lib.hid (by simp only [takeW,hm,hh];simp;omega);clear hm hh;go_enter Tryz.func121,Tryz.ntmps121
    go_wp2_with fail
    refine(HM.out _).mono ?_;rintro e w'⟨rfl,hd'⟩;replace hd:=hd.trans hd'
    go_wp2_with fail
    refine(blocks_any c _ (by omega)).mono ?_;rintro e w'⟨rfl,rfl⟩
    go_wp2_with fail
    refine(HH.out _).mono ?_;rintro e w'⟨rfl,hd'⟩;replace hd:=hd.trans hd'
    go_wp2_with fail
    refine(HW1.out _).mono ?_;rintro e w'⟨rfl,hd'⟩;replace hd:=hd.trans hd'
    go_wp2_with fail
    refine(HW2.out _).mono ?_;rintro e w'⟨rfl,hd'⟩;replace hd:=hd.trans hd'
    go_wp2_with fail
    rw [HT.out];go_ret2;exact⟨rfl,hd⟩
   ·rw [hh]at HH;rw [show takeW x c a=(x,false)by simp [takeW,hh]];clear hm hh;go_enter Tryz.func121,Tryz.ntmps121
    go_wp2_with fail
    refine(HM.out _).mono ?_;rintro e w'⟨rfl,hd'⟩;replace hd:=hd.trans hd'
    go_wp2_with fail
    refine(blocks_any c _ (by omega)).mono ?_;rintro e w'⟨rfl,rfl⟩
    go_wp2_with fail
    refine(HH.out _).mono ?_;rintro e w'⟨rfl,hd'⟩;replace hd:=hd.trans hd'
    go_wp2_with fail
    go_ret2;exact⟨rfl,hd⟩
set_option maxHeartbeats 1000000 in
theorem drop_any(x a:Nat)(w:World)(hx:x<18446744073709551616)(ha:a≤16):Calls Tryz.prog 90 #[.int .u64 (x:Int),.int .i64 (a:Int)] w fun e w'=>e= .returned (.tuple #[.int .u64 ((dropW x a).1:Nat),.bool (dropW x a).2])∧Dr w w':=by
 have hd:=Dr.refl w;have HH:=Lib.hid (fun W=>hasS_any x a W hx (by omega));cases hh:hasW x a
 ·rw [hh]at HH;rw [show dropW x a=(x,false)by simp [dropW,hh]];clear hh;go_enter Tryz.func90,Tryz.ntmps90
  go_wp2_with fail
  refine(HH.out _).mono ?_;rintro e w'⟨rfl,hd'⟩;replace hd:=hd.trans hd'
  go_wp2_with fail
  go_ret2;exact⟨rfl,hd⟩
 ·rw [hh]at HH;have w1:=withB_lt x a 1 0 hx (by omega);have HW1:=Lib.hid (fun W=>with_any x a 1 0 W hx (by decide) (by omega));have HK:=Lib.hid (fun W=>taken_any (withB x a 1 0) W w1);by_cases h0:takenN (withB x a 1 0)=0
  ·have t0:(((takenN (withB x a 1 0):Nat):Int)==0)=true:=by rw [beq_iff_eq];omega
   rw [show dropW x a=(0,true)by simp [dropW,hh,h0]];clear hh h0;go_enter Tryz.func90,Tryz.ntmps90
   go_wp2_with fail
   refine(HH.out _).mono ?_;rintro e w'⟨rfl,hd'⟩;replace hd:=hd.trans hd'
   go_wp2_with fail
   refine(HW1.out _).mono ?_;rintro e w'⟨rfl,hd'⟩;replace hd:=hd.trans hd'
   go_wp2_with fail
   refine(HK.out _).mono ?_;rintro e w'⟨rfl,hd'⟩;replace hd:=hd.trans hd'
   go_wp2_with fail
   go_ret2;exact⟨rfl,hd⟩
  ·have t0:(((takenN (withB x a 1 0):Nat):Int)==0)=false:=by rw [beq_eq_false_iff_ne];omega
   rw [show dropW x a=(withB x a 1 0,true)by simp [dropW,hh,h0]];clear hh h0;go_enter Tryz.func90,Tryz.ntmps90
   go_wp2_with fail
   refine(HH.out _).mono ?_;rintro e w'⟨rfl,hd'⟩;replace hd:=hd.trans hd'
   go_wp2_with fail
   refine(HW1.out _).mono ?_;rintro e w'⟨rfl,hd'⟩;replace hd:=hd.trans hd'
   go_wp2_with fail
   refine(HK.out _).mono ?_;rintro e w'⟨rfl,hd'⟩;replace hd:=hd.trans hd'
   go_wp2_with fail
   go_ret2;exact⟨rfl,hd⟩
end Go.Proofs.YtdjfbnoolfpcnaaGreatDoor
