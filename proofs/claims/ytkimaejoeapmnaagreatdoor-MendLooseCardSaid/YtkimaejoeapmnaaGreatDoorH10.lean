import Derived.Shelf.Spec.TrailingZeros
import Derived.Test.YtkimaejoeapmnaaGreatDoorH06
set_option linter.defProp false
set_option maxHeartbeats 32000000
set_option maxRecDepth 100000
open Go.Lib renaming ctz->Xr,hid->Aa
open Nat renaming testBit_two_pow_sub_succ->bV
open List renaming find?_eq_none->VZ,mem_range->Dy,cons_append->Cj,length_cons->BB,mem_cons_self->Bh,mem_cons_of_mem->BH
namespace Go.Proofs.YtkimaejoeapmnaaGreatDoor
open Go.Proofs.Tryz
def Af5(n many:Nat)(hn:n<18446744073709551616)(hm:many<=64):jA n many=if Xr 64 (18446744073709551615-n)<many then some (Xr 64 (18446744073709551615-n))else none:=by
 have hx:∀i,i<64->(18446744073709551615-n).testBit i= !n.testBit i:=λi hi=>by
  have:=bV (n:=64) (x:=n) hn i;rw [show 2^64- (n+1)=18446744073709551615-n by omega]at this;rw [this];simp [hi]
 unfold jA;by_cases h0:18446744073709551615-n=0
 ·have hc:Xr 64 (18446744073709551615-n)=64:=by rw [h0];rfl
  rw [hc,if_neg O,VZ];intro i hi;have hi':i<many:=Dy.1 hi;rw [<-hx i O,h0];simp
 ·obtain⟨m,hm1,hm2⟩:=Lib.ctzFrom_spec 64 (18446744073709551615-n) O O;have hc:Xr 64 (18446744073709551615-n)=Lib.ctzFrom 64 (18446744073709551615-n):=by unfold Xr;rw [if_neg h0]
  rw [hc];generalize Lib.ctzFrom 64 (18446744073709551615-n)=k at hm1 hm2;have hb:∀i,i<64->(!n.testBit i)=(decide (k<=i)&&(2*m+1).testBit (i-k)):=λi hi=>by
   rw [<-hx i hi,hm1,Nat.testBit_two_pow_mul]
  split
  ·rename_i hk;rw [List.find?_range_eq_some];refine⟨?_,Dy.2 hk,λj hj=> ?_⟩
   ·rw [hb k hm2,Nat.sub_self];simp
   ·rw [hb j O];simp;omega
  ·rename_i hk;rw [VZ];intro i hi;have hi':i<many:=Dy.1 hi;rw [hb i O];simp;omega
def jS{n many k:Nat}(h:jA n many=some k):k<many:=by
 unfold jA at h;exact Dy.1 (List.mem_of_find?_eq_some h)
open Go.RowKit
def Vz(w:World):Prop:=∀j,j<64->w.cell? (Δ 1 j)=some (.int .u8 (Lib.deBruijn64tab.getD j 0:Nat))
def Vz.dr{w w':World}(h:Vz w)(d:Dr w w'):Vz w':=by obtain⟨q,rfl⟩:=d;exact h
def Ajw(w:World):Calls prog 150 #[.int .u64 0] w λe w'=>e= .returned (.int .i64 64)/\w=w':=by
 go_enter func150,ntmps150;go_wp2;go_ret;exact⟨rfl,rfl⟩
def Ajx(x k idx:Nat)(w:World)(hx0:((x:Int)==0)=false)
 (key:IntKind.u64.wrap (bits BinOp.and IntKind.u64 (x:Int) (IntKind.u64.wrap (-(x:Int)))*285870213051353865)/288230376151711744=(idx:Int))
 (hi:idx<64)(hk:k<64)(hcell:w.cell? (Δ 1 idx)=some (.int .u8 k)):
 Calls prog 150 #[.int .u64 x] w λe w'=>e= .returned (.int .i64 k)/\w=w':=by
 go_enter func150,ntmps150
 go_wp2_with(simp only [key])
 go_ret;exact⟨rfl,rfl⟩
def Anh(x:Nat)(hx:x<18446744073709551616)(w:World)(hT:Vz w):
 Calls prog 150 #[.int .u64 x] w λe w'=>e= .returned (.int .i64 (Xr 64 x))/\w=w':=by
 by_cases hx0:x=0
 ·subst hx0;exact Ajw w
 ·obtain⟨hlow,hk⟩:=Lib.lowest_bit 64 x hx0 hx;obtain⟨hi,htab⟩:=Lib.deBruijn64_at _ hk;have hc:=hT _ hi;rw [htab]at hc;exact Ajx x _ _ w (by rw [beq_eq_false_iff_ne];omega) (tz64_key x _ hx hx0 hlow) hi hk hc
def not_eq(n:Nat)(hn:n<18446744073709551616):bits .xor .u64 IntKind.u64.max (n:Int)=((18446744073709551615-n:Nat):Int):=by
 rw [show IntKind.u64.max=((18446744073709551615:Nat):Int)from rfl,u64_xor_nat _ _ U hn];congr 1;apply Nat.eq_of_testBit_eq;intro i;have h1:=bV (n:=64) (x:=n) hn i;have h2:=Nat.testBit_two_pow_sub_one 64 i;rw [show 2^64- (n+1)=18446744073709551615-n by omega]at h1;rw [show 2^64-1=18446744073709551615 by decide]at h2;rw [Nat.testBit_xor,h1,h2];by_cases hi:i<64
 ·simp [hi]
 ·have:n.testBit i=false:=Nat.testBit_lt_two_pow (Nat.lt_of_lt_of_le hn (Nat.pow_le_pow_right (n:=2) U (by omega:64<=i)));simp [hi,this]
def jT(o:Option Nat):Int:=match o with
 | some k=>(k:Int)
 | none=> -1
def Ajy(n many:Nat)(w:World)(hn:n<18446744073709551616)(hm:many<=64)(hT:Vz w):
 Calls prog 102 #[.int .u64 (n:Int),.int .i64 (many:Int)] w λe w'=>e= .returned (.int .i64 (jT (jA n many)))/\Dr w w':=by
 have hd:=Dr.refl w;have e1:=not_eq n hn;have HT:=Aa (Anh (18446744073709551615-n) O w hT);have hc:=Af5 n many hn hm;generalize Xr 64 (18446744073709551615-n)=c at hc HT;by_cases h1:c<many
 ·rw [if_pos h1]at hc;rw [hc,show jT (some c)=(c:Int)from rfl];have t1:decide ((c:Int)<(many:Int))=true:=decide_eq_true O;clear hc;go_enter func102,ntmps102
  go_wp2_with fail
  refine HT.out.mono ?_;rintro e w'⟨rfl,rfl⟩
  go_wp2_with fail
  go_ret;exact⟨rfl,hd⟩
 ·rw [if_neg h1]at hc;rw [hc,show jT none= -1 from rfl];have t1:decide ((c:Int)<(many:Int))=false:=decide_eq_false O;clear hc;go_enter func102,ntmps102
  go_wp2_with fail
  refine HT.out.mono ?_;rintro e w'⟨rfl,rfl⟩
  go_wp2_with fail
  go_ret;exact⟨rfl,hd⟩
def fU(x c:Nat)(w:World)(hx:x<18446744073709551616)(hc:c<1000000):Calls prog 101 #[.int .u64 (x:Int),.int .i64 (c:Int)] w λe w'=>e= .returned (.bool (Lp x c))/\Dr w w':=by
 have hd:=Dr.refl w;have hk:=Vm x;have HR:=Aa (λW=>Uo x W hx);have HB:=Aa (λW=>GG c W hc);cases hr:EX x
 ·rw [show Lp x c=false by simp [Lp,hr]];rw [hr]at HR;clear hr;go_enter func101,ntmps101
  go_wp2_with fail
  refine(HR.out _).mono ?_;rintro e w'⟨rfl,hd'⟩;replace hd:=hd.trans hd'
  go_wp2_with fail
  go_ret;exact⟨rfl,hd⟩
 ·rw [hr]at HR;by_cases h1:0<Bv c
  ·have t1:decide ((0:Int)<((Bv c:Nat):Int))=true:=decide_eq_true O;have HM:Hid (Lp x c=(decide (x=0)|| decide (DX x=c))):=Aa (by
    have a1:(x==0)=decide (x=0):=by rw [Bool.eq_iff_iff,beq_iff_eq,decide_eq_true_iff]
    have a2:(DX x==c)=decide (DX x=c):=by rw [Bool.eq_iff_iff,beq_iff_eq,decide_eq_true_iff]
    rw [Lp,hr,decide_eq_true h1,a1,a2];rfl)
   generalize Bv c=bl at*;clear hr;by_cases h0:x=0
   ·have t0:((x:Int)==0)=true:=by rw [beq_iff_eq];omega
    have H0:=Aa h0;clear h0;go_enter func101,ntmps101
    go_wp2_with fail
    refine(HR.out _).mono ?_;rintro e w'⟨rfl,hd'⟩;replace hd:=hd.trans hd'
    go_wp2_with fail
    refine(HB.out _).mono ?_;rintro e w'⟨rfl,rfl⟩
    go_wp2_with fail
    rw [HM.out,decide_eq_true H0.out];go_ret;exact⟨rfl,hd⟩
   ·have t0:((x:Int)==0)=false:=by rw [beq_eq_false_iff_ne];omega
    have HK:Hid ((((DX x:Nat):Int)==(c:Int))=decide (DX x=c)):=Aa (by rw [Bool.eq_iff_iff,beq_iff_eq,decide_eq_true_iff];omega);go_enter func101,ntmps101
    go_wp2_with fail
    refine(HR.out _).mono ?_;rintro e w'⟨rfl,hd'⟩;replace hd:=hd.trans hd'
    go_wp2_with fail
    refine(HB.out _).mono ?_;rintro e w'⟨rfl,rfl⟩
    go_wp2_with fail
    refine(Vo x _ hx).mono ?_;rintro e w'⟨rfl,hd'⟩;replace hd:=hd.trans hd'
    go_wp2_with fail
    rw [HM.out,decide_eq_false h0,HK.out];go_ret;exact⟨rfl,hd⟩
  ·have t1:decide ((0:Int)<((Bv c:Nat):Int))=false:=decide_eq_false O;rw [show Lp x c=false by simp [Lp,h1]];clear hr;go_enter func101,ntmps101
   go_wp2_with fail
   refine(HR.out _).mono ?_;rintro e w'⟨rfl,hd'⟩;replace hd:=hd.trans hd'
   go_wp2_with fail
   refine(HB.out _).mono ?_;rintro e w'⟨rfl,rfl⟩
   go_wp2_with fail
   go_ret;exact⟨rfl,hd⟩
def Wv(x c:Nat)(w:World)(hx:x<18446744073709551616)(hc:c<1000000)(hT:Vz w):Calls prog 56 #[.int .u64 (x:Int),.int .i64 (c:Int)] w λe w'=>e= .returned (.int .i64 (jT (KI x c)))/\Dr w w':=by
 have hd:=Dr.refl w;have hk:=Ab3 x;have hb:=Gi c;have HM:=Aa (λW=>fU x c W hx hc);have HL:=Aa (λW(h:Vz W)=>Ajy (JP x) (Bv c) W O O h);cases hm:Lp x c
 ·rw [show KI x c=none by simp [KI,hm],show jT none= -1 from rfl];rw [hm]at HM;clear hm;go_enter func56,ntmps56
  go_wp2_with fail
  refine(HM.out _).mono ?_;rintro e w'⟨rfl,hd'⟩;replace hd:=hd.trans hd'
  go_wp2_with fail
  go_ret;exact⟨rfl,hd⟩
 ·rw [show KI x c=jA (JP x) (Bv c)by simp [KI,hm]];rw [hm]at HM;clear hm;go_enter func56,ntmps56
  go_wp2_with fail
  refine(HM.out _).mono ?_;rintro e w'⟨rfl,hd'⟩;replace hd:=hd.trans hd'
  go_wp2_with fail
  refine(fK x _ hx).mono ?_;rintro e w'⟨rfl,hd'⟩;replace hd:=hd.trans hd'
  go_wp2_with fail
  refine(GG c _ hc).mono ?_;rintro e w'⟨rfl,rfl⟩
  go_wp2_with fail
  refine(HL.out _ (hT.dr hd)).mono ?_;rintro e w'⟨rfl,hd'⟩;replace hd:=hd.trans hd'
  go_wp2_with fail
  go_ret;exact⟨rfl,hd⟩
def ZH(x c a:Nat)(hx:x<18446744073709551616)(ha:a<=16):(Gt x c a).1<18446744073709551616:=by
 unfold Gt;split
 ·exact hx
 ·exact Px _ _ _ _ (Px _ _ _ _ hx O) O
def V3(x a:Nat)(hx:x<18446744073709551616)(ha:a<=16):(Eh x a).1<18446744073709551616:=by
 unfold Eh;split
 ·exact hx
 ·split
  ·decide
  ·exact Px _ _ _ _ hx O
def take_any(x c a:Nat)(w:World)(hx:x<18446744073709551616)(hc:c<4)(ha:a<=16):Calls prog 58 #[.int .u64 (x:Int),.int .i64 (c:Int),.int .i64 (a:Int)] w λe w'=>e= .returned (.tuple #[.int .u64 ((Gt x c a).1:Nat),.bool (Gt x c a).2])/\Dr w w':=by
 have hd:=Dr.refl w;have hb:=Gi c;have HM:=Aa (λW=>fU x c W hx O);have t0:decide ((a:Int)<0)=false:=by simp
 cases hm:Lp x c
 ·rw [show Gt x c a=(x,false)by simp [Gt,hm]];rw [hm]at HM;clear hm;go_enter func58,ntmps58
  go_wp2_with fail
  refine(HM.out _).mono ?_;rintro e w'⟨rfl,hd'⟩;replace hd:=hd.trans hd'
  go_wp2_with fail
  go_ret2;exact⟨rfl,hd⟩
 ·rw [hm]at HM;by_cases h1:Bv c<=a
  ·have t1:decide (((Bv c:Nat):Int)<=(a:Int))=true:=decide_eq_true O;rw [show Gt x c a=(x,false)by simp [Gt,h1]];clear hm;go_enter func58,ntmps58
   go_wp2_with fail
   refine(HM.out _).mono ?_;rintro e w'⟨rfl,hd'⟩;replace hd:=hd.trans hd'
   go_wp2_with fail
   refine(GG c _ O).mono ?_;rintro e w'⟨rfl,rfl⟩
   go_wp2_with fail
   go_ret2;exact⟨rfl,hd⟩
  ·have t1:decide (((Bv c:Nat):Int)<=(a:Int))=false:=decide_eq_false O;have HH:=Aa (λW=>RD x a W hx O);cases hh:EP x a
   ·rw [hh]at HH;have w1:=Px x a 1 1 hx O;have HW1:=Aa (λW=>Rz x a 1 1 W hx U O);have HW2:=Aa (λW=>Rz (EC x a 1 1) 16 2 c W w1 O U);have e1:IntKind.u64.wrap (c:Int)=(c:Int):=by rw [IntKind.wrap_u64];omega
    have HT:Hid (Gt x c a=(EC (EC x a 1 1) 16 2 c,true)):=Aa (by simp only [Gt,hm,hh];simp;omega);clear hm hh;go_enter func58,ntmps58
    go_wp2_with fail
    refine(HM.out _).mono ?_;rintro e w'⟨rfl,hd'⟩;replace hd:=hd.trans hd'
    go_wp2_with fail
    refine(GG c _ O).mono ?_;rintro e w'⟨rfl,rfl⟩
    go_wp2_with fail
    refine(HH.out _).mono ?_;rintro e w'⟨rfl,hd'⟩;replace hd:=hd.trans hd'
    go_wp2_with fail
    refine(HW1.out _).mono ?_;rintro e w'⟨rfl,hd'⟩;replace hd:=hd.trans hd'
    go_wp2_with fail
    refine(HW2.out _).mono ?_;rintro e w'⟨rfl,hd'⟩;replace hd:=hd.trans hd'
    go_wp2_with fail
    rw [HT.out];go_ret2;exact⟨rfl,hd⟩
   ·rw [hh]at HH;rw [show Gt x c a=(x,false)by simp [Gt,hh]];clear hm hh;go_enter func58,ntmps58
    go_wp2_with fail
    refine(HM.out _).mono ?_;rintro e w'⟨rfl,hd'⟩;replace hd:=hd.trans hd'
    go_wp2_with fail
    refine(GG c _ O).mono ?_;rintro e w'⟨rfl,rfl⟩
    go_wp2_with fail
    refine(HH.out _).mono ?_;rintro e w'⟨rfl,hd'⟩;replace hd:=hd.trans hd'
    go_wp2_with fail
    go_ret2;exact⟨rfl,hd⟩
def V4(x a:Nat)(w:World)(hx:x<18446744073709551616)(ha:a<=16):Calls prog 62 #[.int .u64 (x:Int),.int .i64 (a:Int)] w λe w'=>e= .returned (.tuple #[.int .u64 ((Eh x a).1:Nat),.bool (Eh x a).2])/\Dr w w':=by
 have hd:=Dr.refl w;have HH:=Aa (λW=>RD x a W hx O);cases hh:EP x a
 ·rw [hh]at HH;rw [show Eh x a=(x,false)by simp [Eh,hh]];clear hh;go_enter func62,ntmps62
  go_wp2_with fail
  refine(HH.out _).mono ?_;rintro e w'⟨rfl,hd'⟩;replace hd:=hd.trans hd'
  go_wp2_with fail
  go_ret2;exact⟨rfl,hd⟩
 ·rw [hh]at HH;have w1:=Px x a 1 0 hx O;have HW1:=Aa (λW=>Rz x a 1 0 W hx U O);have HK:=Aa (λW=>fK (EC x a 1 0) W w1);by_cases h0:JP (EC x a 1 0)=0
  ·have t0:(((JP (EC x a 1 0):Nat):Int)==0)=true:=by rw [beq_iff_eq];omega
   rw [show Eh x a=(0,true)by simp [Eh,hh,h0]];clear hh h0;go_enter func62,ntmps62
   go_wp2_with fail
   refine(HH.out _).mono ?_;rintro e w'⟨rfl,hd'⟩;replace hd:=hd.trans hd'
   go_wp2_with fail
   refine(HW1.out _).mono ?_;rintro e w'⟨rfl,hd'⟩;replace hd:=hd.trans hd'
   go_wp2_with fail
   refine(HK.out _).mono ?_;rintro e w'⟨rfl,hd'⟩;replace hd:=hd.trans hd'
   go_wp2_with fail
   go_ret2;exact⟨rfl,hd⟩
  ·have t0:(((JP (EC x a 1 0):Nat):Int)==0)=false:=by rw [beq_eq_false_iff_ne];omega
   rw [show Eh x a=(EC x a 1 0,true)by simp [Eh,hh,h0]];clear hh h0;go_enter func62,ntmps62
   go_wp2_with fail
   refine(HH.out _).mono ?_;rintro e w'⟨rfl,hd'⟩;replace hd:=hd.trans hd'
   go_wp2_with fail
   refine(HW1.out _).mono ?_;rintro e w'⟨rfl,hd'⟩;replace hd:=hd.trans hd'
   go_wp2_with fail
   refine(HK.out _).mono ?_;rintro e w'⟨rfl,hd'⟩;replace hd:=hd.trans hd'
   go_wp2_with fail
   go_ret2;exact⟨rfl,hd⟩
def Ik:Nat->List (Int×Int)->List MapEntry
 | _,[]=>[]
 | i,(o,v)::t=>{key:= .int .i64 o,val:= .int .i64 v,born:=i}::Ik (i+1) t
def ZI(o v:Int):∀(l:List (Int×Int))(i:Nat),Ik i (l++[(o,v)])=Ik i l++[{key:= .int .i64 o,val:= .int .i64 v,born:=i+l.length}]
 | [],i=>rfl
 | (a,b)::t,i=>by
   simp only [Cj,Ik,ZI o v t (i+1),BB];rw [show i+1+t.length=i+(t.length+1)by omega]
def ZJ:∀(l:List (Int×Int))(i:Nat),(Ik i l).length=l.length
 | [],_=>rfl
 | (_,_)::t,i=>by simp [Ik,ZJ t]
def jU(k:Int):∀(l:List (Int×Int))(i n:Nat),(∀p∈l,p.1≠k)->Instr.findNow (.int .i64) (.int .i64 k) (Ik i l) n=some none
 | [],_,_,_=>rfl
 | (a,b)::t,i,n,h=>by
   have ha:(k==a)=false:=by rw [beq_eq_false_iff_ne];exact λe=>h (a,b) (Bh ..) e.symm
   simp only [Ik,Instr.findNow,Instr.sameNow,if_true,ha];exact jU k t (i+1) (n+1) (λp hp=>h p (BH _ hp))
def ZK(k v:Int)(l2:List (Int×Int)):∀(l1:List (Int×Int))(i n:Nat),(∀p∈l1,p.1≠k)->Instr.findNow (.int .i64) (.int .i64 k) (Ik i (l1++(k,v)::l2)) n=some (some (n+l1.length,.int .i64 v))
 | [],_,_,_=>by simp [Ik,Instr.findNow,Instr.sameNow]
 | (a,b)::t,i,n,h=>by
   have ha:(k==a)=false:=by rw [beq_eq_false_iff_ne];exact λe=>h (a,b) (Bh ..) e.symm
   simp only [Cj,Ik,Instr.findNow,Instr.sameNow,if_true,ha];rw [ZK k v l2 t (i+1) (n+1) (λp hp=>h p (BH _ hp))];simp only [BB];rw [show n+1+t.length=n+(t.length+1)by omega]
def pK(k v v':Int)(l2:List (Int×Int)):∀(l1:List (Int×Int))(i:Nat),(Ik i (l1++(k,v)::l2)).modify l1.length (λe=>{e with key:= .int .i64 k,val:= .int .i64 v'})=Ik i (l1++(k,v')::l2)
 | [],i=>rfl
 | (a,b)::t,i=>by
   simp only [Cj,Ik,BB,List.modify_succ_cons];rw [pK k v v' l2 t (i+1)]
def KN(w:World)(mb:Nat)(l:List (Int×Int)):Prop:=w.heap[mb]? =some (.map (Ik 0 l).toArray l.length)
def KN.lt{w:World}{mb:Nat}{l:List (Int×Int)}(h:KN w mb l):mb<w.heap.size:=(Array.getElem?_eq_some_iff.1 h).1
def KN.below{w w':World}{mb:Nat}{l:List (Int×Int)}(h:KN w mb l)(k:η w w'):KN w' mb l:=(k.block _ h.lt).trans h
section
variable{P:Program}{t:TypeId}
def Y8{kt:TypeId}(ht:P.underlying t=some (.map kt kt))(hk:P.underlying kt=some (.int .i64))(hz:∀W,(zeroValue kt).run P W= .ok (.int .i64 0) W)(W:World)(mb:Nat)(l:List (Int×Int))(k:Int)(h:KN W mb l)(hn:∀p∈l,p.1≠k):
 (Instr.lookup t (.map (some mb)) (.int .i64 k) false).run P W= .ok (.int .i64 0) W:=by
 have h1:=run_underlying (P:=P) ht;have h2:=run_underlying (P:=P) hk;have h3:=λb w=>Js (P:=P) hk b 9999 .i64 k w
 have h4:=LC (P:=P) h;have hf:=jU k l 0 0 hn;simp [Instr.lookup,h1,h2,h3,h4,Instr.findKey,hf,hz,Result.andThen]
def Pz{kt et:TypeId}(ht:P.underlying t=some (.map kt et))(hk:P.underlying kt=some (.int .i64))(W:World)(mb:Nat)(l1 l2:List (Int×Int))(k v:Int)(h:KN W mb (l1++(k,v)::l2))(hn:∀p∈l1,p.1≠k):
 (Instr.lookup t (.map (some mb)) (.int .i64 k) false).run P W= .ok (.int .i64 v) W:=
 NV ht hk W mb _ _ k _ _ h (by simpa using ZK k v l2 l1 0 0 hn)
def jV{kt et:TypeId}(ht:P.underlying t=some (.map kt et))(hk:P.underlying kt=some (.int .i64))(W:World)(mb:Nat)(l:List (Int×Int))(k v:Int)(h:KN W mb l)(hn:∀p∈l,p.1≠k):
 (Instr.mapUpdate t (.map (some mb)) (.int .i64 k) (.int .i64 v)).run P W= .ok () (Ef W mb (Ik 0 (l++[(k,v)])).toArray (l++[(k,v)]).length):=by
 rw [Y4 ht hk W mb _ _ k _ h (by simpa using jU k l 0 0 hn),ZI];simp
def Ajz{kt et:TypeId}(ht:P.underlying t=some (.map kt et))(hk:P.underlying kt=some (.int .i64))(W:World)(mb:Nat)(l1 l2:List (Int×Int))(k v v':Int)(h:KN W mb (l1++(k,v)::l2))(hn:∀p∈l1,p.1≠k):
 (Instr.mapUpdate t (.map (some mb)) (.int .i64 k) (.int .i64 v')).run P W= .ok () (Ef W mb (Ik 0 (l1++(k,v')::l2)).toArray (l1++(k,v')::l2).length):=by
 have h1:=run_underlying (P:=P) ht;have h2:=run_underlying (P:=P) hk;have h3:=λw=>Js (P:=P) hk false 9999 .i64 k w
 have h4:=LC (P:=P) h;have h5:=λo=>Ur (P:=P) o h
 have hf:=ZK k v l2 l1 0 0 hn;have hm:=pK k v v' l2 l1 0;have hkey:(((Ik 0 (l1++(k,v)::l2)).toArray[l1.length]?).map (·.key)).getD (.int .i64 k)= .int .i64 k:=by
  have:∀(l1:List (Int×Int))(i:Nat),(((Ik i (l1++(k,v)::l2))[l1.length]?).map (·.key)).getD (.int .i64 k)= .int .i64 k:=by
   intro l1;induction l1 with
   | nil=>intro i;rfl
   | cons p t ih=>intro i;obtain⟨a,b⟩:=p;simpa [Ik]using ih (i+1)
  simpa using this l1 0
 have hks:∀W,(Instr.keyThatStays (.int .i64 k) (.int .i64 k)).run P W= .ok (.int .i64 k) W:=λW=>by
  have hb:Instr.sameBits 10000 (.int .i64 k) (.int .i64 k)=true:=by show Instr.sameBits (9999+1) _ _=true;simp [Instr.sameBits]
  simp [Instr.keyThatStays,hb]
 have hlen:(l1++(k,v')::l2).length=(l1++(k,v)::l2).length:=by simp
 have harr:(Ik 0 (l1++(k,v)::l2)).toArray.modify l1.length (λe=>{e with key:= .int .i64 k,val:= .int .i64 v'})=(Ik 0 (l1++(k,v')::l2)).toArray:=by
  rw [<-hm];simp
 rw [hlen];simp only [Nat.zero_add]at hf;simp only [Instr.mapUpdate,Sem.run_bind,h1,Result.andThen_ok,h4,h3,Instr.findKey,h2,hf,Sem.run_pure,hkey,hks,h5,harr,Ef]
end
