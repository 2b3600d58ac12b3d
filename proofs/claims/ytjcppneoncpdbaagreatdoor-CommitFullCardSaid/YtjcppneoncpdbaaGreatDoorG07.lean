import Derived.Shelf.Spec.TrailingZeros
import Derived.Test.YtjcppneoncpdbaaGreatDoorG04
import Derived.Test.YtjcppneoncpdbaaGreatDoorG06
set_option maxHeartbeats 32000000
set_option maxRecDepth 100000
open Go.Lib renaming hid->Aa
namespace Go.Proofs.YtjcppneoncpdbaaGreatDoor
open Go.RowKit
def SX(w:World):Prop:=∀j,j<64->w.cell? ⟨1,j,none⟩=some (.int .u8 (Lib.deBruijn64tab.getD j 0:Nat))
theorem SX.dr{w w':World}(h:SX w)(d:Dr w w'):SX w':=by obtain⟨q,rfl⟩:=d;exact h
theorem Abs(w:World):Calls Tryz.prog 170 #[.int .u64 0] w fun e w'=>e= .returned (.int .i64 64)/\w=w':=by
 go_enter Tryz.func170,Tryz.ntmps170;go_wp2;go_ret;exact⟨rfl,rfl⟩
theorem Abt(x k idx:Nat)(w:World)(hx0:((x:Int)==0)=false)
 (key:IntKind.u64.wrap (bits BinOp.and IntKind.u64 (x:Int) (IntKind.u64.wrap (-(x:Int)))*285870213051353865)/288230376151711744=(idx:Int))
 (hi:idx<64)(hk:k<64)(hcell:w.cell? ⟨1,idx,none⟩=some (.int .u8 k)):
 Calls Tryz.prog 170 #[.int .u64 x] w fun e w'=>e= .returned (.int .i64 k)/\w=w':=by
 go_enter Tryz.func170,Tryz.ntmps170
 go_wp2_with(simp only [key])
 go_ret;exact⟨rfl,rfl⟩
theorem Ael(x:Nat)(hx:x<18446744073709551616)(w:World)(hT:SX w):
 Calls Tryz.prog 170 #[.int .u64 x] w fun e w'=>e= .returned (.int .i64 (Lib.ctz 64 x))/\w=w':=by
 by_cases hx0:x=0
 ·subst hx0;exact Abs w
 ·obtain⟨hlow,hk⟩:=Lib.lowest_bit 64 x hx0 hx;obtain⟨hi,htab⟩:=Lib.deBruijn64_at _ hk;have hc:=hT _ hi;rw [htab]at hc;exact Abt x _ _ w (by rw [beq_eq_false_iff_ne];omega) (tz64_key x _ hx hx0 hlow) hi hk hc
theorem not_eq(n:Nat)(hn:n<18446744073709551616):bits .xor .u64 IntKind.u64.max (n:Int)=((18446744073709551615-n:Nat):Int):=by
 rw [show IntKind.u64.max=((18446744073709551615:Nat):Int)from rfl,u64_xor_nat _ _ (by decide) hn];congr 1;apply Nat.eq_of_testBit_eq;intro i;have h1:=Nat.testBit_two_pow_sub_succ (n:=64) (x:=n) hn i;have h2:=Nat.testBit_two_pow_sub_one 64 i;rw [show 2^64- (n+1)=18446744073709551615-n by omega]at h1;rw [show 2^64-1=18446744073709551615 by decide]at h2;rw [Nat.testBit_xor,h1,h2];by_cases hi:i<64
 ·simp [hi]
 ·have:n.testBit i=false:=Nat.testBit_lt_two_pow (Nat.lt_of_lt_of_le hn (Nat.pow_le_pow_right (n:=2) (by decide) (by omega:64<=i)));simp [hi,this]
def aA(o:Option Nat):Int:=match o with
 | some k=>(k:Int)
 | none=> -1
theorem Abu(n many:Nat)(w:World)(hn:n<18446744073709551616)(hm:many<=64)(hT:SX w):
 Calls Tryz.prog 127 #[.int .u64 (n:Int),.int .i64 (many:Int)] w fun e w'=>e= .returned (.int .i64 (aA (ZJ n many)))/\Dr w w':=by
 have hd:=Dr.refl w;have e1:=not_eq n hn;have HT:=Aa (Ael (18446744073709551615-n) (by omega) w hT);have hc:=xZ n many hn hm;generalize Lib.ctz 64 (18446744073709551615-n)=c at hc HT;by_cases h1:c<many
 ·rw [if_pos h1]at hc;rw [hc,show aA (some c)=(c:Int)from rfl];have t1:decide ((c:Int)<(many:Int))=true:=decide_eq_true (by omega);clear hc;go_enter Tryz.func127,Tryz.ntmps127
  go_wp2_with fail
  refine HT.out.mono ?_;rintro e w'⟨rfl,rfl⟩
  go_wp2_with fail
  go_ret;exact⟨rfl,hd⟩
 ·rw [if_neg h1]at hc;rw [hc,show aA none= -1 from rfl];have t1:decide ((c:Int)<(many:Int))=false:=decide_eq_false (by omega);clear hc;go_enter Tryz.func127,Tryz.ntmps127
  go_wp2_with fail
  refine HT.out.mono ?_;rintro e w'⟨rfl,rfl⟩
  go_wp2_with fail
  go_ret;exact⟨rfl,hd⟩
theorem YT(x c:Nat)(w:World)(hx:x<18446744073709551616)(hc:c<1000000):Calls Tryz.prog 126 #[.int .u64 (x:Int),.int .i64 (c:Int)] w fun e w'=>e= .returned (.bool (JC x c))/\Dr w w':=by
 have hd:=Dr.refl w;have hk:=SK x;have HR:=Aa (fun W=>Ri x W hx);have HB:=Aa (fun W=>Fv c W hc);cases hr:FK x
 ·rw [show JC x c=false by simp [JC,hr]];rw [hr]at HR;clear hr;go_enter Tryz.func126,Tryz.ntmps126
  go_wp2_with fail
  refine(HR.out _).mono ?_;rintro e w'⟨rfl,hd'⟩;replace hd:=hd.trans hd'
  go_wp2_with fail
  go_ret;exact⟨rfl,hd⟩
 ·rw [hr]at HR;by_cases h1:0<Ba c
  ·have t1:decide ((0:Int)<((Ba c:Nat):Int))=true:=decide_eq_true (by omega);have HM:Hid (JC x c=(decide (x=0)|| decide (Dq x=c))):=Aa (by
    have a1:(x==0)=decide (x=0):=by rw [Bool.eq_iff_iff,beq_iff_eq,decide_eq_true_iff]
    have a2:(Dq x==c)=decide (Dq x=c):=by rw [Bool.eq_iff_iff,beq_iff_eq,decide_eq_true_iff]
    rw [JC,hr,decide_eq_true h1,a1,a2];rfl)
   generalize Ba c=bl at*;clear hr;by_cases h0:x=0
   ·have t0:((x:Int)==0)=true:=by rw [beq_iff_eq];omega
    have H0:=Aa h0;clear h0;go_enter Tryz.func126,Tryz.ntmps126
    go_wp2_with fail
    refine(HR.out _).mono ?_;rintro e w'⟨rfl,hd'⟩;replace hd:=hd.trans hd'
    go_wp2_with fail
    refine(HB.out _).mono ?_;rintro e w'⟨rfl,rfl⟩
    go_wp2_with fail
    rw [HM.out,decide_eq_true H0.out];go_ret;exact⟨rfl,hd⟩
   ·have t0:((x:Int)==0)=false:=by rw [beq_eq_false_iff_ne];omega
    have HK:Hid ((((Dq x:Nat):Int)==(c:Int))=decide (Dq x=c)):=Aa (by rw [Bool.eq_iff_iff,beq_iff_eq,decide_eq_true_iff];omega);go_enter Tryz.func126,Tryz.ntmps126
    go_wp2_with fail
    refine(HR.out _).mono ?_;rintro e w'⟨rfl,hd'⟩;replace hd:=hd.trans hd'
    go_wp2_with fail
    refine(HB.out _).mono ?_;rintro e w'⟨rfl,rfl⟩
    go_wp2_with fail
    refine(SL x _ hx).mono ?_;rintro e w'⟨rfl,hd'⟩;replace hd:=hd.trans hd'
    go_wp2_with fail
    rw [HM.out,decide_eq_false h0,HK.out];go_ret;exact⟨rfl,hd⟩
  ·have t1:decide ((0:Int)<((Ba c:Nat):Int))=false:=decide_eq_false (by omega);rw [show JC x c=false by simp [JC,h1]];clear hr;go_enter Tryz.func126,Tryz.ntmps126
   go_wp2_with fail
   refine(HR.out _).mono ?_;rintro e w'⟨rfl,hd'⟩;replace hd:=hd.trans hd'
   go_wp2_with fail
   refine(HB.out _).mono ?_;rintro e w'⟨rfl,rfl⟩
   go_wp2_with fail
   go_ret;exact⟨rfl,hd⟩
theorem Uc(x c:Nat)(w:World)(hx:x<18446744073709551616)(hc:c<1000000)(hT:SX w):Calls Tryz.prog 78 #[.int .u64 (x:Int),.int .i64 (c:Int)] w fun e w'=>e= .returned (.int .i64 (aA (Ji x c)))/\Dr w w':=by
 have hd:=Dr.refl w;have hk:=sN x;have hb:=Fq c;have HM:=Aa (fun W=>YT x c W hx hc);have HL:=Aa (fun W(h:SX W)=>Abu (IA x) (Ba c) W (by omega) (by omega) h);cases hm:JC x c
 ·rw [show Ji x c=none by simp [Ji,hm],show aA none= -1 from rfl];rw [hm]at HM;clear hm;go_enter Tryz.func78,Tryz.ntmps78
  go_wp2_with fail
  refine(HM.out _).mono ?_;rintro e w'⟨rfl,hd'⟩;replace hd:=hd.trans hd'
  go_wp2_with fail
  go_ret;exact⟨rfl,hd⟩
 ·rw [show Ji x c=ZJ (IA x) (Ba c)by simp [Ji,hm]];rw [hm]at HM;clear hm;go_enter Tryz.func78,Tryz.ntmps78
  go_wp2_with fail
  refine(HM.out _).mono ?_;rintro e w'⟨rfl,hd'⟩;replace hd:=hd.trans hd'
  go_wp2_with fail
  refine(YP x _ hx).mono ?_;rintro e w'⟨rfl,hd'⟩;replace hd:=hd.trans hd'
  go_wp2_with fail
  refine(Fv c _ hc).mono ?_;rintro e w'⟨rfl,rfl⟩
  go_wp2_with fail
  refine(HL.out _ (hT.dr hd)).mono ?_;rintro e w'⟨rfl,hd'⟩;replace hd:=hd.trans hd'
  go_wp2_with fail
  go_ret;exact⟨rfl,hd⟩
theorem WQ(x c a:Nat)(hx:x<18446744073709551616)(ha:a<=16):(Fh x c a).1<18446744073709551616:=by
 unfold Fh;split
 ·exact hx
 ·exact NL _ _ _ _ (NL _ _ _ _ hx (by omega)) (by omega)
theorem WR(x a:Nat)(hx:x<18446744073709551616)(ha:a<=16):(EL x a).1<18446744073709551616:=by
 unfold EL;split
 ·exact hx
 ·split
  ·decide
  ·exact NL _ _ _ _ hx (by omega)
theorem take_any(x c a:Nat)(w:World)(hx:x<18446744073709551616)(hc:c<4)(ha:a<=16):Calls Tryz.prog 80 #[.int .u64 (x:Int),.int .i64 (c:Int),.int .i64 (a:Int)] w fun e w'=>e= .returned (.tuple #[.int .u64 ((Fh x c a).1:Nat),.bool (Fh x c a).2])/\Dr w w':=by
 have hd:=Dr.refl w;have hb:=Fq c;have HM:=Aa (fun W=>YT x c W hx (by omega));have t0:decide ((a:Int)<0)=false:=by simp
 cases hm:JC x c
 ·rw [show Fh x c a=(x,false)by simp [Fh,hm]];rw [hm]at HM;clear hm;go_enter Tryz.func80,Tryz.ntmps80
  go_wp2_with fail
  refine(HM.out _).mono ?_;rintro e w'⟨rfl,hd'⟩;replace hd:=hd.trans hd'
  go_wp2_with fail
  go_ret2;exact⟨rfl,hd⟩
 ·rw [hm]at HM;by_cases h1:Ba c<=a
  ·have t1:decide (((Ba c:Nat):Int)<=(a:Int))=true:=decide_eq_true (by omega);rw [show Fh x c a=(x,false)by simp [Fh,h1]];clear hm;go_enter Tryz.func80,Tryz.ntmps80
   go_wp2_with fail
   refine(HM.out _).mono ?_;rintro e w'⟨rfl,hd'⟩;replace hd:=hd.trans hd'
   go_wp2_with fail
   refine(Fv c _ (by omega)).mono ?_;rintro e w'⟨rfl,rfl⟩
   go_wp2_with fail
   go_ret2;exact⟨rfl,hd⟩
  ·have t1:decide (((Ba c:Nat):Int)<=(a:Int))=false:=decide_eq_false (by omega);have HH:=Aa (fun W=>PN x a W hx (by omega));cases hh:En x a
   ·rw [hh]at HH;have w1:=NL x a 1 1 hx (by omega);have HW1:=Aa (fun W=>PM x a 1 1 W hx (by decide) (by omega));have HW2:=Aa (fun W=>PM (DI x a 1 1) 16 2 c W w1 (by omega) (by decide));have e1:IntKind.u64.wrap (c:Int)=(c:Int):=by rw [IntKind.wrap_u64];omega
    have HT:Hid (Fh x c a=(DI (DI x a 1 1) 16 2 c,true)):=Aa (by simp only [Fh,hm,hh];simp;omega);clear hm hh;go_enter Tryz.func80,Tryz.ntmps80
    go_wp2_with fail
    refine(HM.out _).mono ?_;rintro e w'⟨rfl,hd'⟩;replace hd:=hd.trans hd'
    go_wp2_with fail
    refine(Fv c _ (by omega)).mono ?_;rintro e w'⟨rfl,rfl⟩
    go_wp2_with fail
    refine(HH.out _).mono ?_;rintro e w'⟨rfl,hd'⟩;replace hd:=hd.trans hd'
    go_wp2_with fail
    refine(HW1.out _).mono ?_;rintro e w'⟨rfl,hd'⟩;replace hd:=hd.trans hd'
    go_wp2_with fail
    refine(HW2.out _).mono ?_;rintro e w'⟨rfl,hd'⟩;replace hd:=hd.trans hd'
    go_wp2_with fail
    rw [HT.out];go_ret2;exact⟨rfl,hd⟩
   ·rw [hh]at HH;rw [show Fh x c a=(x,false)by simp [Fh,hh]];clear hm hh;go_enter Tryz.func80,Tryz.ntmps80
    go_wp2_with fail
    refine(HM.out _).mono ?_;rintro e w'⟨rfl,hd'⟩;replace hd:=hd.trans hd'
    go_wp2_with fail
    refine(Fv c _ (by omega)).mono ?_;rintro e w'⟨rfl,rfl⟩
    go_wp2_with fail
    refine(HH.out _).mono ?_;rintro e w'⟨rfl,hd'⟩;replace hd:=hd.trans hd'
    go_wp2_with fail
    go_ret2;exact⟨rfl,hd⟩
theorem WS(x a:Nat)(w:World)(hx:x<18446744073709551616)(ha:a<=16):Calls Tryz.prog 84 #[.int .u64 (x:Int),.int .i64 (a:Int)] w fun e w'=>e= .returned (.tuple #[.int .u64 ((EL x a).1:Nat),.bool (EL x a).2])/\Dr w w':=by
 have hd:=Dr.refl w;have HH:=Aa (fun W=>PN x a W hx (by omega));cases hh:En x a
 ·rw [hh]at HH;rw [show EL x a=(x,false)by simp [EL,hh]];clear hh;go_enter Tryz.func84,Tryz.ntmps84
  go_wp2_with fail
  refine(HH.out _).mono ?_;rintro e w'⟨rfl,hd'⟩;replace hd:=hd.trans hd'
  go_wp2_with fail
  go_ret2;exact⟨rfl,hd⟩
 ·rw [hh]at HH;have w1:=NL x a 1 0 hx (by omega);have HW1:=Aa (fun W=>PM x a 1 0 W hx (by decide) (by omega));have HK:=Aa (fun W=>YP (DI x a 1 0) W w1);by_cases h0:IA (DI x a 1 0)=0
  ·have t0:(((IA (DI x a 1 0):Nat):Int)==0)=true:=by rw [beq_iff_eq];omega
   rw [show EL x a=(0,true)by simp [EL,hh,h0]];clear hh h0;go_enter Tryz.func84,Tryz.ntmps84
   go_wp2_with fail
   refine(HH.out _).mono ?_;rintro e w'⟨rfl,hd'⟩;replace hd:=hd.trans hd'
   go_wp2_with fail
   refine(HW1.out _).mono ?_;rintro e w'⟨rfl,hd'⟩;replace hd:=hd.trans hd'
   go_wp2_with fail
   refine(HK.out _).mono ?_;rintro e w'⟨rfl,hd'⟩;replace hd:=hd.trans hd'
   go_wp2_with fail
   go_ret2;exact⟨rfl,hd⟩
  ·have t0:(((IA (DI x a 1 0):Nat):Int)==0)=false:=by rw [beq_eq_false_iff_ne];omega
   rw [show EL x a=(DI x a 1 0,true)by simp [EL,hh,h0]];clear hh h0;go_enter Tryz.func84,Tryz.ntmps84
   go_wp2_with fail
   refine(HH.out _).mono ?_;rintro e w'⟨rfl,hd'⟩;replace hd:=hd.trans hd'
   go_wp2_with fail
   refine(HW1.out _).mono ?_;rintro e w'⟨rfl,hd'⟩;replace hd:=hd.trans hd'
   go_wp2_with fail
   refine(HK.out _).mono ?_;rintro e w'⟨rfl,hd'⟩;replace hd:=hd.trans hd'
   go_wp2_with fail
   go_ret2;exact⟨rfl,hd⟩
end Go.Proofs.YtjcppneoncpdbaaGreatDoor
