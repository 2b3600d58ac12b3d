import Derived.Shelf.Spec.TrailingZeros
import Derived.Test.YtkimaejoeapmnaaGreatDoorG06
set_option maxHeartbeats 32000000
set_option maxRecDepth 100000
open Go.Lib renaming ctz->WE,hid->Aa
open Nat renaming testBit_two_pow_sub_succ->ai
open List renaming find?_eq_none->Vy,mem_range->Dj,cons_append->CJ,length_cons->BJ,mem_cons_self->Bq,mem_cons_of_mem->BO
namespace Go.Proofs.YtkimaejoeapmnaaGreatDoor
theorem Aev(n many:Nat)(hn:n<18446744073709551616)(hm:many<=64):gX n many=if WE 64 (18446744073709551615-n)<many then some (WE 64 (18446744073709551615-n))else none:=by
 have hx:∀i,i<64->(18446744073709551615-n).testBit i= !n.testBit i:=fun i hi=>by
  have:=ai (n:=64) (x:=n) hn i;rw [show 2^64- (n+1)=18446744073709551615-n by omega]at this;rw [this];simp [hi]
 unfold gX;by_cases h0:18446744073709551615-n=0
 ·have hc:WE 64 (18446744073709551615-n)=64:=by rw [h0];rfl
  rw [hc,if_neg (by omega),Vy];intro i hi;have hi':i<many:=Dj.1 hi;rw [<-hx i (by omega),h0];simp
 ·obtain⟨m,hm1,hm2⟩:=Lib.ctzFrom_spec 64 (18446744073709551615-n) (by omega) (by omega);have hc:WE 64 (18446744073709551615-n)=Lib.ctzFrom 64 (18446744073709551615-n):=by unfold WE;rw [if_neg h0]
  rw [hc];generalize Lib.ctzFrom 64 (18446744073709551615-n)=k at hm1 hm2;have hb:∀i,i<64->(!n.testBit i)=(decide (k<=i)&&(2*m+1).testBit (i-k)):=fun i hi=>by
   rw [<-hx i hi,hm1,Nat.testBit_two_pow_mul]
  split
  ·rename_i hk;rw [List.find?_range_eq_some];refine⟨?_,Dj.2 hk,fun j hj=> ?_⟩
   ·rw [hb k hm2,Nat.sub_self];simp
   ·rw [hb j (by omega)];simp;omega
  ·rename_i hk;rw [Vy];intro i hi;have hi':i<many:=Dj.1 hi;rw [hb i (by omega)];simp;omega
theorem iK{n many k:Nat}(h:gX n many=some k):k<many:=by
 unfold gX at h;exact Dj.1 (List.mem_of_find?_eq_some h)
open Go.RowKit
def UL(w:World):Prop:=∀j,j<64->w.cell? ⟨1,j,none⟩=some (.int .u8 (Lib.deBruijn64tab.getD j 0:Nat))
theorem UL.dr{w w':World}(h:UL w)(d:Dr w w'):UL w':=by obtain⟨q,rfl⟩:=d;exact h
theorem Aij(w:World):Calls Tryz.prog 150 #[.int .u64 0] w fun e w'=>e= .returned (.int .i64 64)/\w=w':=by
 go_enter Tryz.func150,Tryz.ntmps150;go_wp2;go_ret;exact⟨rfl,rfl⟩
theorem Aik(x k idx:Nat)(w:World)(hx0:((x:Int)==0)=false)
 (key:IntKind.u64.wrap (bits BinOp.and IntKind.u64 (x:Int) (IntKind.u64.wrap (-(x:Int)))*285870213051353865)/288230376151711744=(idx:Int))
 (hi:idx<64)(hk:k<64)(hcell:w.cell? ⟨1,idx,none⟩=some (.int .u8 k)):
 Calls Tryz.prog 150 #[.int .u64 x] w fun e w'=>e= .returned (.int .i64 k)/\w=w':=by
 go_enter Tryz.func150,Tryz.ntmps150
 go_wp2_with(simp only [key])
 go_ret;exact⟨rfl,rfl⟩
theorem Alz(x:Nat)(hx:x<18446744073709551616)(w:World)(hT:UL w):
 Calls Tryz.prog 150 #[.int .u64 x] w fun e w'=>e= .returned (.int .i64 (WE 64 x))/\w=w':=by
 by_cases hx0:x=0
 ·subst hx0;exact Aij w
 ·obtain⟨hlow,hk⟩:=Lib.lowest_bit 64 x hx0 hx;obtain⟨hi,htab⟩:=Lib.deBruijn64_at _ hk;have hc:=hT _ hi;rw [htab]at hc;exact Aik x _ _ w (by rw [beq_eq_false_iff_ne];omega) (tz64_key x _ hx hx0 hlow) hi hk hc
theorem not_eq(n:Nat)(hn:n<18446744073709551616):bits .xor .u64 IntKind.u64.max (n:Int)=((18446744073709551615-n:Nat):Int):=by
 rw [show IntKind.u64.max=((18446744073709551615:Nat):Int)from rfl,u64_xor_nat _ _ (by decide) hn];congr 1;apply Nat.eq_of_testBit_eq;intro i;have h1:=ai (n:=64) (x:=n) hn i;have h2:=Nat.testBit_two_pow_sub_one 64 i;rw [show 2^64- (n+1)=18446744073709551615-n by omega]at h1;rw [show 2^64-1=18446744073709551615 by decide]at h2;rw [Nat.testBit_xor,h1,h2];by_cases hi:i<64
 ·simp [hi]
 ·have:n.testBit i=false:=Nat.testBit_lt_two_pow (Nat.lt_of_lt_of_le hn (Nat.pow_le_pow_right (n:=2) (by decide) (by omega:64<=i)));simp [hi,this]
def iL(o:Option Nat):Int:=match o with
 | some k=>(k:Int)
 | none=> -1
theorem Ail(n many:Nat)(w:World)(hn:n<18446744073709551616)(hm:many<=64)(hT:UL w):
 Calls Tryz.prog 102 #[.int .u64 (n:Int),.int .i64 (many:Int)] w fun e w'=>e= .returned (.int .i64 (iL (gX n many)))/\Dr w w':=by
 have hd:=Dr.refl w;have e1:=not_eq n hn;have HT:=Aa (Alz (18446744073709551615-n) (by omega) w hT);have hc:=Aev n many hn hm;generalize WE 64 (18446744073709551615-n)=c at hc HT;by_cases h1:c<many
 ·rw [if_pos h1]at hc;rw [hc,show iL (some c)=(c:Int)from rfl];have t1:decide ((c:Int)<(many:Int))=true:=decide_eq_true (by omega);clear hc;go_enter Tryz.func102,Tryz.ntmps102
  go_wp2_with fail
  refine HT.out.mono ?_;rintro e w'⟨rfl,rfl⟩
  go_wp2_with fail
  go_ret;exact⟨rfl,hd⟩
 ·rw [if_neg h1]at hc;rw [hc,show iL none= -1 from rfl];have t1:decide ((c:Int)<(many:Int))=false:=decide_eq_false (by omega);clear hc;go_enter Tryz.func102,Tryz.ntmps102
  go_wp2_with fail
  refine HT.out.mono ?_;rintro e w'⟨rfl,rfl⟩
  go_wp2_with fail
  go_ret;exact⟨rfl,hd⟩
theorem dE(x c:Nat)(w:World)(hx:x<18446744073709551616)(hc:c<1000000):Calls Tryz.prog 101 #[.int .u64 (x:Int),.int .i64 (c:Int)] w fun e w'=>e= .returned (.bool (KT x c))/\Dr w w':=by
 have hd:=Dr.refl w;have hk:=UB x;have HR:=Aa (fun W=>TN x W hx);have HB:=Aa (fun W=>Gw c W hc);cases hr:ES x
 ·rw [show KT x c=false by simp [KT,hr]];rw [hr]at HR;clear hr;go_enter Tryz.func101,Tryz.ntmps101
  go_wp2_with fail
  refine(HR.out _).mono ?_;rintro e w'⟨rfl,hd'⟩;replace hd:=hd.trans hd'
  go_wp2_with fail
  go_ret;exact⟨rfl,hd⟩
 ·rw [hr]at HR;by_cases h1:0<Bv c
  ·have t1:decide ((0:Int)<((Bv c:Nat):Int))=true:=decide_eq_true (by omega);have HM:Hid (KT x c=(decide (x=0)|| decide (DV x=c))):=Aa (by
    have a1:(x==0)=decide (x=0):=by rw [Bool.eq_iff_iff,beq_iff_eq,decide_eq_true_iff]
    have a2:(DV x==c)=decide (DV x=c):=by rw [Bool.eq_iff_iff,beq_iff_eq,decide_eq_true_iff]
    rw [KT,hr,decide_eq_true h1,a1,a2];rfl)
   generalize Bv c=bl at*;clear hr;by_cases h0:x=0
   ·have t0:((x:Int)==0)=true:=by rw [beq_iff_eq];omega
    have H0:=Aa h0;clear h0;go_enter Tryz.func101,Tryz.ntmps101
    go_wp2_with fail
    refine(HR.out _).mono ?_;rintro e w'⟨rfl,hd'⟩;replace hd:=hd.trans hd'
    go_wp2_with fail
    refine(HB.out _).mono ?_;rintro e w'⟨rfl,rfl⟩
    go_wp2_with fail
    rw [HM.out,decide_eq_true H0.out];go_ret;exact⟨rfl,hd⟩
   ·have t0:((x:Int)==0)=false:=by rw [beq_eq_false_iff_ne];omega
    have HK:Hid ((((DV x:Nat):Int)==(c:Int))=decide (DV x=c)):=Aa (by rw [Bool.eq_iff_iff,beq_iff_eq,decide_eq_true_iff];omega);go_enter Tryz.func101,Tryz.ntmps101
    go_wp2_with fail
    refine(HR.out _).mono ?_;rintro e w'⟨rfl,hd'⟩;replace hd:=hd.trans hd'
    go_wp2_with fail
    refine(HB.out _).mono ?_;rintro e w'⟨rfl,rfl⟩
    go_wp2_with fail
    refine(UC x _ hx).mono ?_;rintro e w'⟨rfl,hd'⟩;replace hd:=hd.trans hd'
    go_wp2_with fail
    rw [HM.out,decide_eq_false h0,HK.out];go_ret;exact⟨rfl,hd⟩
  ·have t1:decide ((0:Int)<((Bv c:Nat):Int))=false:=decide_eq_false (by omega);rw [show KT x c=false by simp [KT,h1]];clear hr;go_enter Tryz.func101,Tryz.ntmps101
   go_wp2_with fail
   refine(HR.out _).mono ?_;rintro e w'⟨rfl,hd'⟩;replace hd:=hd.trans hd'
   go_wp2_with fail
   refine(HB.out _).mono ?_;rintro e w'⟨rfl,rfl⟩
   go_wp2_with fail
   go_ret;exact⟨rfl,hd⟩
theorem VB(x c:Nat)(w:World)(hx:x<18446744073709551616)(hc:c<1000000)(hT:UL w):Calls Tryz.prog 56 #[.int .u64 (x:Int),.int .i64 (c:Int)] w fun e w'=>e= .returned (.int .i64 (iL (Kq x c)))/\Dr w w':=by
 have hd:=Dr.refl w;have hk:=Aay x;have hb:=FY c;have HM:=Aa (fun W=>dE x c W hx hc);have HL:=Aa (fun W(h:UL W)=>Ail (JE x) (Bv c) W (by omega) (by omega) h);cases hm:KT x c
 ·rw [show Kq x c=none by simp [Kq,hm],show iL none= -1 from rfl];rw [hm]at HM;clear hm;go_enter Tryz.func56,Tryz.ntmps56
  go_wp2_with fail
  refine(HM.out _).mono ?_;rintro e w'⟨rfl,hd'⟩;replace hd:=hd.trans hd'
  go_wp2_with fail
  go_ret;exact⟨rfl,hd⟩
 ·rw [show Kq x c=gX (JE x) (Bv c)by simp [Kq,hm]];rw [hm]at HM;clear hm;go_enter Tryz.func56,Tryz.ntmps56
  go_wp2_with fail
  refine(HM.out _).mono ?_;rintro e w'⟨rfl,hd'⟩;replace hd:=hd.trans hd'
  go_wp2_with fail
  refine(dw x _ hx).mono ?_;rintro e w'⟨rfl,hd'⟩;replace hd:=hd.trans hd'
  go_wp2_with fail
  refine(Gw c _ hc).mono ?_;rintro e w'⟨rfl,rfl⟩
  go_wp2_with fail
  refine(HL.out _ (hT.dr hd)).mono ?_;rintro e w'⟨rfl,hd'⟩;replace hd:=hd.trans hd'
  go_wp2_with fail
  go_ret;exact⟨rfl,hd⟩
theorem Zc(x c a:Nat)(hx:x<18446744073709551616)(ha:a<=16):(Gm x c a).1<18446744073709551616:=by
 unfold Gm;split
 ·exact hx
 ·exact OL _ _ _ _ (OL _ _ _ _ hx (by omega)) (by omega)
theorem UM(x a:Nat)(hx:x<18446744073709551616)(ha:a<=16):(Eb x a).1<18446744073709551616:=by
 unfold Eb;split
 ·exact hx
 ·split
  ·decide
  ·exact OL _ _ _ _ hx (by omega)
theorem take_any(x c a:Nat)(w:World)(hx:x<18446744073709551616)(hc:c<4)(ha:a<=16):Calls Tryz.prog 58 #[.int .u64 (x:Int),.int .i64 (c:Int),.int .i64 (a:Int)] w fun e w'=>e= .returned (.tuple #[.int .u64 ((Gm x c a).1:Nat),.bool (Gm x c a).2])/\Dr w w':=by
 have hd:=Dr.refl w;have hb:=FY c;have HM:=Aa (fun W=>dE x c W hx (by omega));have t0:decide ((a:Int)<0)=false:=by simp
 cases hm:KT x c
 ·rw [show Gm x c a=(x,false)by simp [Gm,hm]];rw [hm]at HM;clear hm;go_enter Tryz.func58,Tryz.ntmps58
  go_wp2_with fail
  refine(HM.out _).mono ?_;rintro e w'⟨rfl,hd'⟩;replace hd:=hd.trans hd'
  go_wp2_with fail
  go_ret2;exact⟨rfl,hd⟩
 ·rw [hm]at HM;by_cases h1:Bv c<=a
  ·have t1:decide (((Bv c:Nat):Int)<=(a:Int))=true:=decide_eq_true (by omega);rw [show Gm x c a=(x,false)by simp [Gm,h1]];clear hm;go_enter Tryz.func58,Tryz.ntmps58
   go_wp2_with fail
   refine(HM.out _).mono ?_;rintro e w'⟨rfl,hd'⟩;replace hd:=hd.trans hd'
   go_wp2_with fail
   refine(Gw c _ (by omega)).mono ?_;rintro e w'⟨rfl,rfl⟩
   go_wp2_with fail
   go_ret2;exact⟨rfl,hd⟩
  ·have t1:decide (((Bv c:Nat):Int)<=(a:Int))=false:=decide_eq_false (by omega);have HH:=Aa (fun W=>QV x a W hx (by omega));cases hh:EK x a
   ·rw [hh]at HH;have w1:=OL x a 1 1 hx (by omega);have HW1:=Aa (fun W=>QU x a 1 1 W hx (by decide) (by omega));have HW2:=Aa (fun W=>QU (Et x a 1 1) 16 2 c W w1 (by omega) (by decide));have e1:IntKind.u64.wrap (c:Int)=(c:Int):=by rw [IntKind.wrap_u64];omega
    have HT:Hid (Gm x c a=(Et (Et x a 1 1) 16 2 c,true)):=Aa (by simp only [Gm,hm,hh];simp;omega);clear hm hh;go_enter Tryz.func58,Tryz.ntmps58
    go_wp2_with fail
    refine(HM.out _).mono ?_;rintro e w'⟨rfl,hd'⟩;replace hd:=hd.trans hd'
    go_wp2_with fail
    refine(Gw c _ (by omega)).mono ?_;rintro e w'⟨rfl,rfl⟩
    go_wp2_with fail
    refine(HH.out _).mono ?_;rintro e w'⟨rfl,hd'⟩;replace hd:=hd.trans hd'
    go_wp2_with fail
    refine(HW1.out _).mono ?_;rintro e w'⟨rfl,hd'⟩;replace hd:=hd.trans hd'
    go_wp2_with fail
    refine(HW2.out _).mono ?_;rintro e w'⟨rfl,hd'⟩;replace hd:=hd.trans hd'
    go_wp2_with fail
    rw [HT.out];go_ret2;exact⟨rfl,hd⟩
   ·rw [hh]at HH;rw [show Gm x c a=(x,false)by simp [Gm,hh]];clear hm hh;go_enter Tryz.func58,Tryz.ntmps58
    go_wp2_with fail
    refine(HM.out _).mono ?_;rintro e w'⟨rfl,hd'⟩;replace hd:=hd.trans hd'
    go_wp2_with fail
    refine(Gw c _ (by omega)).mono ?_;rintro e w'⟨rfl,rfl⟩
    go_wp2_with fail
    refine(HH.out _).mono ?_;rintro e w'⟨rfl,hd'⟩;replace hd:=hd.trans hd'
    go_wp2_with fail
    go_ret2;exact⟨rfl,hd⟩
theorem UN(x a:Nat)(w:World)(hx:x<18446744073709551616)(ha:a<=16):Calls Tryz.prog 62 #[.int .u64 (x:Int),.int .i64 (a:Int)] w fun e w'=>e= .returned (.tuple #[.int .u64 ((Eb x a).1:Nat),.bool (Eb x a).2])/\Dr w w':=by
 have hd:=Dr.refl w;have HH:=Aa (fun W=>QV x a W hx (by omega));cases hh:EK x a
 ·rw [hh]at HH;rw [show Eb x a=(x,false)by simp [Eb,hh]];clear hh;go_enter Tryz.func62,Tryz.ntmps62
  go_wp2_with fail
  refine(HH.out _).mono ?_;rintro e w'⟨rfl,hd'⟩;replace hd:=hd.trans hd'
  go_wp2_with fail
  go_ret2;exact⟨rfl,hd⟩
 ·rw [hh]at HH;have w1:=OL x a 1 0 hx (by omega);have HW1:=Aa (fun W=>QU x a 1 0 W hx (by decide) (by omega));have HK:=Aa (fun W=>dw (Et x a 1 0) W w1);by_cases h0:JE (Et x a 1 0)=0
  ·have t0:(((JE (Et x a 1 0):Nat):Int)==0)=true:=by rw [beq_iff_eq];omega
   rw [show Eb x a=(0,true)by simp [Eb,hh,h0]];clear hh h0;go_enter Tryz.func62,Tryz.ntmps62
   go_wp2_with fail
   refine(HH.out _).mono ?_;rintro e w'⟨rfl,hd'⟩;replace hd:=hd.trans hd'
   go_wp2_with fail
   refine(HW1.out _).mono ?_;rintro e w'⟨rfl,hd'⟩;replace hd:=hd.trans hd'
   go_wp2_with fail
   refine(HK.out _).mono ?_;rintro e w'⟨rfl,hd'⟩;replace hd:=hd.trans hd'
   go_wp2_with fail
   go_ret2;exact⟨rfl,hd⟩
  ·have t0:(((JE (Et x a 1 0):Nat):Int)==0)=false:=by rw [beq_eq_false_iff_ne];omega
   rw [show Eb x a=(Et x a 1 0,true)by simp [Eb,hh,h0]];clear hh h0;go_enter Tryz.func62,Tryz.ntmps62
   go_wp2_with fail
   refine(HH.out _).mono ?_;rintro e w'⟨rfl,hd'⟩;replace hd:=hd.trans hd'
   go_wp2_with fail
   refine(HW1.out _).mono ?_;rintro e w'⟨rfl,hd'⟩;replace hd:=hd.trans hd'
   go_wp2_with fail
   refine(HK.out _).mono ?_;rintro e w'⟨rfl,hd'⟩;replace hd:=hd.trans hd'
   go_wp2_with fail
   go_ret2;exact⟨rfl,hd⟩
def Ig:Nat->List (Int×Int)->List MapEntry
 | _,[]=>[]
 | i,(o,v)::t=>{key:= .int .i64 o,val:= .int .i64 v,born:=i}::Ig (i+1) t
theorem Zd(o v:Int):∀(l:List (Int×Int))(i:Nat),Ig i (l++[(o,v)])=Ig i l++[{key:= .int .i64 o,val:= .int .i64 v,born:=i+l.length}]
 | [],i=>rfl
 | (a,b)::t,i=>by
   simp only [CJ,Ig,Zd o v t (i+1),BJ];rw [show i+1+t.length=i+(t.length+1)by omega]
theorem Ze:∀(l:List (Int×Int))(i:Nat),(Ig i l).length=l.length
 | [],_=>rfl
 | (_,_)::t,i=>by simp [Ig,Ze t]
theorem iM(k:Int):∀(l:List (Int×Int))(i n:Nat),(∀p∈l,p.1≠k)->Instr.findNow (.int .i64) (.int .i64 k) (Ig i l) n=some none
 | [],_,_,_=>rfl
 | (a,b)::t,i,n,h=>by
   have ha:(k==a)=false:=by rw [beq_eq_false_iff_ne];exact fun e=>h (a,b) (Bq ..) e.symm
   simp only [Ig,Instr.findNow,Instr.sameNow,if_true,ha];exact iM k t (i+1) (n+1) (fun p hp=>h p (BO _ hp))
theorem Zf(k v:Int)(l2:List (Int×Int)):∀(l1:List (Int×Int))(i n:Nat),(∀p∈l1,p.1≠k)->Instr.findNow (.int .i64) (.int .i64 k) (Ig i (l1++(k,v)::l2)) n=some (some (n+l1.length,.int .i64 v))
 | [],_,_,_=>by simp [Ig,Instr.findNow,Instr.sameNow]
 | (a,b)::t,i,n,h=>by
   have ha:(k==a)=false:=by rw [beq_eq_false_iff_ne];exact fun e=>h (a,b) (Bq ..) e.symm
   simp only [CJ,Ig,Instr.findNow,Instr.sameNow,if_true,ha];rw [Zf k v l2 t (i+1) (n+1) (fun p hp=>h p (BO _ hp))];simp only [BJ];rw [show n+1+t.length=n+(t.length+1)by omega]
theorem ny(k v v':Int)(l2:List (Int×Int)):∀(l1:List (Int×Int))(i:Nat),(Ig i (l1++(k,v)::l2)).modify l1.length (fun e=>{e with key:= .int .i64 k,val:= .int .i64 v'})=Ig i (l1++(k,v')::l2)
 | [],i=>rfl
 | (a,b)::t,i=>by
   simp only [CJ,Ig,BJ,List.modify_succ_cons];rw [ny k v v' l2 t (i+1)]
def Kt(w:World)(mb:Nat)(l:List (Int×Int)):Prop:=w.heap[mb]? =some (.map (Ig 0 l).toArray l.length)
theorem Kt.lt{w:World}{mb:Nat}{l:List (Int×Int)}(h:Kt w mb l):mb<w.heap.size:=(Array.getElem?_eq_some_iff.1 h).1
theorem Kt.below{w w':World}{mb:Nat}{l:List (Int×Int)}(h:Kt w mb l)(k:Below w.heap.size w w'):Kt w' mb l:=(k.block _ h.lt).trans h
section
variable{P:Program}{t:TypeId}
theorem XT{kt:TypeId}(ht:P.underlying t=some (.map kt kt))(hk:P.underlying kt=some (.int .i64))(hz:∀W,(zeroValue kt).run P W= .ok (.int .i64 0) W)(W:World)(mb:Nat)(l:List (Int×Int))(k:Int)(h:Kt W mb l)(hn:∀p∈l,p.1≠k):
 (Instr.lookup t (.map (some mb)) (.int .i64 k) false).run P W= .ok (.int .i64 0) W:=by
 have h1:=run_underlying (P:=P) ht;have h2:=run_underlying (P:=P) hk;have h3:=fun b w=>Ji (P:=P) hk b 9999 .i64 k w
 have h4:=PN (P:=P) h;have hf:=iM k l 0 0 hn;simp [Instr.lookup,h1,h2,h3,h4,Instr.findKey,hf,hz,Result.andThen]
theorem OQ{kt et:TypeId}(ht:P.underlying t=some (.map kt et))(hk:P.underlying kt=some (.int .i64))(W:World)(mb:Nat)(l1 l2:List (Int×Int))(k v:Int)(h:Kt W mb (l1++(k,v)::l2))(hn:∀p∈l1,p.1≠k):
 (Instr.lookup t (.map (some mb)) (.int .i64 k) false).run P W= .ok (.int .i64 v) W:=
 N7 ht hk W mb _ _ k _ _ h (by simpa using Zf k v l2 l1 0 0 hn)
theorem iO{kt et:TypeId}(ht:P.underlying t=some (.map kt et))(hk:P.underlying kt=some (.int .i64))(W:World)(mb:Nat)(l:List (Int×Int))(k v:Int)(h:Kt W mb l)(hn:∀p∈l,p.1≠k):
 (Instr.mapUpdate t (.map (some mb)) (.int .i64 k) (.int .i64 v)).run P W= .ok () (Ey W mb (Ig 0 (l++[(k,v)])).toArray (l++[(k,v)]).length):=by
 rw [XP ht hk W mb _ _ k _ h (by simpa using iM k l 0 0 hn),Zd];simp
theorem Aim{kt et:TypeId}(ht:P.underlying t=some (.map kt et))(hk:P.underlying kt=some (.int .i64))(W:World)(mb:Nat)(l1 l2:List (Int×Int))(k v v':Int)(h:Kt W mb (l1++(k,v)::l2))(hn:∀p∈l1,p.1≠k):
 (Instr.mapUpdate t (.map (some mb)) (.int .i64 k) (.int .i64 v')).run P W= .ok () (Ey W mb (Ig 0 (l1++(k,v')::l2)).toArray (l1++(k,v')::l2).length):=by
 have h1:=run_underlying (P:=P) ht;have h2:=run_underlying (P:=P) hk;have h3:=fun w=>Ji (P:=P) hk false 9999 .i64 k w
 have h4:=PN (P:=P) h;have h5:=fun o=>YJ (P:=P) o h
 have hf:=Zf k v l2 l1 0 0 hn;have hm:=ny k v v' l2 l1 0;have hkey:(((Ig 0 (l1++(k,v)::l2)).toArray[l1.length]?).map (·.key)).getD (.int .i64 k)= .int .i64 k:=by
  have:∀(l1:List (Int×Int))(i:Nat),(((Ig i (l1++(k,v)::l2))[l1.length]?).map (·.key)).getD (.int .i64 k)= .int .i64 k:=by
   intro l1;induction l1 with
   | nil=>intro i;rfl
   | cons p t ih=>intro i;obtain⟨a,b⟩:=p;simpa [Ig]using ih (i+1)
  simpa using this l1 0
 have hks:∀W,(Instr.keyThatStays (.int .i64 k) (.int .i64 k)).run P W= .ok (.int .i64 k) W:=fun W=>by
  have hb:Instr.sameBits 10000 (.int .i64 k) (.int .i64 k)=true:=by show Instr.sameBits (9999+1) _ _=true;simp [Instr.sameBits]
  simp [Instr.keyThatStays,hb]
 have hlen:(l1++(k,v')::l2).length=(l1++(k,v)::l2).length:=by simp
 have harr:(Ig 0 (l1++(k,v)::l2)).toArray.modify l1.length (fun e=>{e with key:= .int .i64 k,val:= .int .i64 v'})=(Ig 0 (l1++(k,v')::l2)).toArray:=by
  rw [<-hm];simp
 rw [hlen];simp only [Nat.zero_add]at hf;simp only [Instr.mapUpdate,Sem.run_bind,h1,Result.andThen_ok,h4,h3,Instr.findKey,h2,hf,Sem.run_pure,hkey,hks,h5,harr,Ey]
end
