import Derived.Lib.TrailingZeros
import Derived.Test.YtdjfbnoolfpcnaaGreatDoorG01
namespace Go.Proofs.YtdjfbnoolfpcnaaGreatDoor
theorem lowN_ctz(n many:Nat)(hn:n<18446744073709551616)(hm:many≤64):lowN n many=if Lib.ctz 64 (18446744073709551615-n)<many then some (Lib.ctz 64 (18446744073709551615-n))else none:=by
 have hx:∀i,i<64→(18446744073709551615-n).testBit i= !n.testBit i:=fun i hi=>by
  have:=Nat.testBit_two_pow_sub_succ (n:=64) (x:=n) hn i;rw [show 2^64- (n+1)=18446744073709551615-n by omega]at this;rw [this];simp [hi]
 unfold lowN;by_cases h0:18446744073709551615-n=0
 ·have hc:Lib.ctz 64 (18446744073709551615-n)=64:=by rw [h0];rfl
  rw [hc,if_neg (by omega),List.find?_eq_none];intro i hi;have hi':i<many:=List.mem_range.1 hi;rw [←hx i (by omega),h0];simp
 ·obtain⟨m,hm1,hm2⟩:=Lib.ctzFrom_spec 64 (18446744073709551615-n) (by omega) (by omega);have hc:Lib.ctz 64 (18446744073709551615-n)=Lib.ctzFrom 64 (18446744073709551615-n):=by unfold Lib.ctz;rw [if_neg h0]
  rw [hc];generalize Lib.ctzFrom 64 (18446744073709551615-n)=k at hm1 hm2;have hb:∀i,i<64→(!n.testBit i)=(decide (k≤i)&&(2*m+1).testBit (i-k)):=fun i hi=>by
   rw [←hx i hi,hm1,Nat.testBit_two_pow_mul]
  split
  ·rename_i hk;rw [List.find?_range_eq_some];refine⟨?_,List.mem_range.2 hk,fun j hj=> ?_⟩
   ·rw [hb k hm2,Nat.sub_self];simp
   ·rw [hb j (by omega)];simp;omega
  ·rename_i hk;rw [List.find?_eq_none];intro i hi;have hi':i<many:=List.mem_range.1 hi;rw [hb i (by omega)];simp;omega
theorem lowN_lt{n many k:Nat}(h:lowN n many=some k):k<many:=by
 unfold lowN at h;exact List.mem_range.1 (List.mem_of_find?_eq_some h)
end Go.Proofs.YtdjfbnoolfpcnaaGreatDoor
