import Derived.Shelf.Spec.TrailingZeros
import Derived.Test.YtekhjimghoibfaaGreatDoorI06
set_option linter.defProp false
set_option maxHeartbeats 32000000
set_option maxRecDepth 100000
open Go.Lib renaming ctz->Xk,hid->Aa
open Nat renaming testBit_two_pow_sub_succ->bP,sub_self->Tz,lt_of_lt_of_le->BI,zero_le->BB,mod_eq_of_lt->Gm,le_refl->Ad
open List renaming find?_eq_none->Abf,mem_range->DY,cons_append->Cj,length_cons->BD,mem_cons_self->BA,mem_cons_of_mem->BO,getElem?_eq_getElem->Ae,length_set->Di,replicate->BC,replicate_succ->UD,set_append_right->Tu,nil_append->EX,getElem?_map->CB,length_map->BX
open UInt64 renaming toNat_lt->XX,ofNat->Aj,toNat_ofNat'->H8
open Int renaming natCast_add->Ai9,natCast_mul->Gx,tdiv_eq_ediv_of_nonneg->eH
open Go.World renaming block_lt_of_cell?->D8
namespace Go.Proofs.YtekhjimghoibfaaGreatDoor
open Go.Proofs.Tryz
def Aga(n c:Nat)(l:n<18446744073709551616)(q:c<=64):jr n c=if Xk 64 (18446744073709551615-n)<c then some (Xk 64 (18446744073709551615-n))else none:=by
 have j:∀a,a<64->(18446744073709551615-n).testBit a= !n.testBit a:=λa b=>by
  have:=bP (n:=64) (x:=n) l a;rw[show 2^64-(n+1)=18446744073709551615-n by omega]at this;rw[this];simp[b]
 unfold jr;by_cases d:18446744073709551615-n=0
 ·have e:Xk 64 (18446744073709551615-n)=64:=by rw[d];rfl
  rw[e,if_neg O,Abf];intro a b;have k:a<c:=DY.1 b;rw[<-j a O,d];simp
 ·obtain⟨o,h,i⟩:=Lib.ctzFrom_spec 64 (18446744073709551615-n) O O;have e:Xk 64 (18446744073709551615-n)=Lib.ctzFrom 64 (18446744073709551615-n):=by unfold Xk;rw[if_neg d]
  rw[e];generalize Lib.ctzFrom 64 (18446744073709551615-n)=f at h i;have hb:∀a,a<64->(!n.testBit a)=(decide (f<=a)&&(2*o+1).testBit (a-f)):=λa b=>by
   rw[<-j a b,h,Nat.testBit_two_pow_mul]
  split
  ·rename_i g;rw[List.find?_range_eq_some];refine⟨?_,DY.2 g,λm p=>?_⟩
   ·rw[hb f i,Tz];simp
   ·rw[hb m O];simp;omega
  ·rename_i g;rw[Abf];intro a b;have k:a<c:=DY.1 b;rw[hb a O];simp;omega
def jT{n b k:Nat}(a:jr n b=some k):k<b:=by
 unfold jr at a;exact DY.1 (List.mem_of_find?_eq_some a)
open Go.RowKit
def Vg(w:World):Prop:=∀a,a<64->w.cell? (Δ 1 a)=some (.int .u8 (Lib.deBruijn64tab.getD a 0:Nat))
def Vg.dr{w w':World}(a:Vg w)(d:Dr w w'):Vg w':=by obtain⟨q,rfl⟩:=d;exact a
def Ajv(w:World):Calls prog 201 #[.int .u64 0] w λa w'=>a=.returned (.int .i64 64)/\w=w':=by
 go_enter func201,ntmps201;go_wp2;go_ret;exact⟨rfl,rfl⟩
def Ajw(x k a:Nat)(w:World)(e:((x:Int)==0)=false)
 (key:IntKind.u64.wrap (bits BinOp.and IntKind.u64 (x:Int) (IntKind.u64.wrap (-(x:Int)))*285870213051353865)/288230376151711744=(a:Int))
 (hi:a<64)(d:k<64)(c:w.cell? (Δ 1 a)=some (.int .u8 k)):
 Calls prog 201 #[.int .u64 x] w λb w'=>b=.returned (.int .i64 k)/\w=w':=by
 go_enter func201,ntmps201
 go_wp2_with(simp only[key])
 go_ret;exact⟨rfl,rfl⟩
def Ank(x:Nat)(e:x<18446744073709551616)(w:World)(g:Vg w):
 Calls prog 201 #[.int .u64 x] w λf w'=>f=.returned (.int .i64 (Xk 64 x))/\w=w':=by
 by_cases a:x=0
 ·subst a;exact Ajv w
 ·obtain⟨h,d⟩:=Lib.lowest_bit 64 x a e;obtain⟨c,i⟩:=Lib.deBruijn64_at _ d;have b:=g _ c;rw[i]at b;exact Ajw x _ _ w (by rw[beq_eq_false_iff_ne];omega) (tz64_key x _ e a h) c d b
def not_eq(n:Nat)(b:n<18446744073709551616):bits .xor .u64 IntKind.u64.max (n:Int)=((18446744073709551615-n:Nat):Int):=by
 rw[show IntKind.u64.max=((18446744073709551615:Nat):Int)from rfl,u64_xor_nat _ _ U b];congr 1;apply Nat.eq_of_testBit_eq;intro a;have c:=bP (n:=64) (x:=n) b a;have d:=Nat.testBit_two_pow_sub_one 64 a;rw[show 2^64-(n+1)=18446744073709551615-n by omega]at c;rw[show 2^64-1=18446744073709551615 by decide]at d;rw[Nat.testBit_xor,c,d];by_cases e:a<64
 ·simp[e]
 ·have:n.testBit a=false:=Nat.testBit_lt_two_pow (BI b (Nat.pow_le_pow_right (n:=2) U (by omega:64<=a)));simp[e,this]
def jU(o:Option Nat):Int:=match o with
 |some a=>(a:Int)
 |none=> -1
def Ajx(n b:Nat)(w:World)(h:n<18446744073709551616)(j:b<=64)(i:Vg w):
 Calls prog 186 #[.int .u64 (n:Int),.int .i64 (b:Int)] w λe w'=>e=.returned (.int .i64 (jU (jr n b)))/\Dr w w':=by
 have g:=Dr.refl w;have k:=not_eq n h;have d:=Aa (Ank (18446744073709551615-n) O w i);have a:=Aga n b h j;generalize Xk 64 (18446744073709551615-n)=c at a d;by_cases f:c<b
 ·rw[if_pos f]at a;rw[a,show jU (some c)=(c:Int)from rfl];have t1:decide ((c:Int)<(b:Int))=true:=decide_eq_true O;clear a;go_enter func186,ntmps186
  go_wp2_with fail
  refine d.out.mono ?_;rintro e w'⟨rfl,rfl⟩
  go_wp2_with fail
  go_ret;exact⟨rfl,g⟩
 ·rw[if_neg f]at a;rw[a,show jU none= -1 from rfl];have t1:decide ((c:Int)<(b:Int))=false:=decide_eq_false O;clear a;go_enter func186,ntmps186
  go_wp2_with fail
  refine d.out.mono ?_;rintro e w'⟨rfl,rfl⟩
  go_wp2_with fail
  go_ret;exact⟨rfl,g⟩
def fK(x c:Nat)(w:World)(l:x<18446744073709551616)(q:c<1000000):Calls prog 185 #[.int .u64 (x:Int),.int .i64 (c:Int)] w λb w'=>b=.returned (.bool (LH x c))/\Dr w w':=by
 have a:=Dr.refl w;have s:=UW x;have f:=Aa (λh=>Uk x h l);have g:=Aa (λh=>GK c h q);cases e:FW x
 ·rw[show LH x c=false by simp[LH,e]];rw[e]at f;clear e;go_enter func185,ntmps185
  go_wp2_with fail
  refine(f.out _).mono ?_;rintro b w'⟨rfl,d⟩;replace a:=a.trans d
  go_wp2_with fail
  go_ret;exact⟨rfl,a⟩
 ·rw[e]at f;by_cases k:0<Bz c
  ·have t1:decide ((0:Int)<((Bz c:Nat):Int))=true:=decide_eq_true O;have j:Hid (LH x c=(decide (x=0)||decide (Ed x=c))):=Aa (by
    have o:(x==0)=decide (x=0):=by rw[Bool.eq_iff_iff,beq_iff_eq,decide_eq_true_iff]
    have p:(Ed x==c)=decide (Ed x=c):=by rw[Bool.eq_iff_iff,beq_iff_eq,decide_eq_true_iff]
    rw[LH,e,decide_eq_true k,o,p];rfl)
   generalize Bz c=r at*;clear e;by_cases i:x=0
   ·have t0:((x:Int)==0)=true:=by rw[beq_iff_eq];omega
    have m:=Aa i;clear i;go_enter func185,ntmps185
    go_wp2_with fail
    refine(f.out _).mono ?_;rintro b w'⟨rfl,d⟩;replace a:=a.trans d
    go_wp2_with fail
    refine(g.out _).mono ?_;rintro b w'⟨rfl,rfl⟩
    go_wp2_with fail
    rw[j.out,decide_eq_true m.out];go_ret;exact⟨rfl,a⟩
   ·have t0:((x:Int)==0)=false:=ζ O;have n:Hid ((((Ed x:Nat):Int)==(c:Int))=decide (Ed x=c)):=Aa (by rw[Bool.eq_iff_iff,beq_iff_eq,decide_eq_true_iff];omega);go_enter func185,ntmps185
    go_wp2_with fail
    refine(f.out _).mono ?_;rintro b w'⟨rfl,d⟩;replace a:=a.trans d
    go_wp2_with fail
    refine(g.out _).mono ?_;rintro b w'⟨rfl,rfl⟩
    go_wp2_with fail
    refine(UX x _ l).mono ?_;rintro b w'⟨rfl,d⟩;replace a:=a.trans d
    go_wp2_with fail
    rw[j.out,decide_eq_false i,n.out];go_ret;exact⟨rfl,a⟩
  ·have t1:decide ((0:Int)<((Bz c:Nat):Int))=false:=decide_eq_false O;rw[show LH x c=false by simp[LH,k]];clear e;go_enter func185,ntmps185
   go_wp2_with fail
   refine(f.out _).mono ?_;rintro b w'⟨rfl,d⟩;replace a:=a.trans d
   go_wp2_with fail
   refine(g.out _).mono ?_;rintro b w'⟨rfl,rfl⟩
   go_wp2_with fail
   go_ret;exact⟨rfl,a⟩
def Wq(x c:Nat)(w:World)(i:x<18446744073709551616)(h:c<1000000)(l:Vg w):Calls prog 165 #[.int .u64 (x:Int),.int .i64 (c:Int)] w λd w'=>d=.returned (.int .i64 (jU (KP x c)))/\Dr w w':=by
 have a:=Dr.refl w;have m:=Ab1 x;have hb:=GI c;have f:=Aa (λg=>fK x c g i h);have j:=Aa (λg(k:Vg g)=>Ajx (JY x) (Bz c) g O O k);cases e:LH x c
 ·rw[show KP x c=none by simp[KP,e],show jU none= -1 from rfl];rw[e]at f;clear e;go_enter func165,ntmps165
  go_wp2_with fail
  refine(f.out _).mono ?_;rintro d w'⟨rfl,b⟩;replace a:=a.trans b
  go_wp2_with fail
  go_ret;exact⟨rfl,a⟩
 ·rw[show KP x c=jr (JY x) (Bz c)by simp[KP,e]];rw[e]at f;clear e;go_enter func165,ntmps165
  go_wp2_with fail
  refine(f.out _).mono ?_;rintro d w'⟨rfl,b⟩;replace a:=a.trans b
  go_wp2_with fail
  refine(fH x _ i).mono ?_;rintro d w'⟨rfl,b⟩;replace a:=a.trans b
  go_wp2_with fail
  refine(GK c _ h).mono ?_;rintro d w'⟨rfl,rfl⟩
  go_wp2_with fail
  refine(j.out _ (l.dr a)).mono ?_;rintro d w'⟨rfl,b⟩;replace a:=a.trans b
  go_wp2_with fail
  go_ret;exact⟨rfl,a⟩
def Zq(x c a:Nat)(b:x<18446744073709551616)(d:a<=16):(FX x c a).1<18446744073709551616:=by
 unfold FX;split
 ·exact b
 ·exact PK _ _ _ _ (PK _ _ _ _ b O) O
def Vh(x a:Nat)(b:x<18446744073709551616)(c:a<=16):(Ee x a).1<18446744073709551616:=by
 unfold Ee;split
 ·exact b
 ·split
  ·decide
  ·exact PK _ _ _ _ b O
def take_any(x c a:Nat)(w:World)(k:x<18446744073709551616)(s:c<4)(r:a<=16):Calls prog 166 #[.int .u64 (x:Int),.int .i64 (c:Int),.int .i64 (a:Int)] w λe w'=>e=.returned (.tuple #[.int .u64 ((FX x c a).1:Nat),.bool (FX x c a).2])/\Dr w w':=by
 have b:=Dr.refl w;have hb:=GI c;have h:=Aa (λg=>fK x c g k O);have t0:decide ((a:Int)<0)=false:=by simp
 cases f:LH x c
 ·rw[show FX x c a=(x,false)by simp[FX,f]];rw[f]at h;clear f;go_enter func166,ntmps166
  go_wp2_with fail
  refine(h.out _).mono ?_;rintro e w'⟨rfl,d⟩;replace b:=b.trans d
  go_wp2_with fail
  go_ret2;exact⟨rfl,b⟩
 ·rw[f]at h;by_cases o:Bz c<=a
  ·have t1:decide (((Bz c:Nat):Int)<=(a:Int))=true:=decide_eq_true O;rw[show FX x c a=(x,false)by simp[FX,o]];clear f;go_enter func166,ntmps166
   go_wp2_with fail
   refine(h.out _).mono ?_;rintro e w'⟨rfl,d⟩;replace b:=b.trans d
   go_wp2_with fail
   refine(GK c _ O).mono ?_;rintro e w'⟨rfl,rfl⟩
   go_wp2_with fail
   go_ret2;exact⟨rfl,b⟩
  ·have t1:decide (((Bz c:Nat):Int)<=(a:Int))=false:=decide_eq_false O;have j:=Aa (λg=>Rz x a g k O);cases i:EH x a
   ·rw[i]at j;have p:=PK x a 1 1 k O;have m:=Aa (λg=>Ry x a 1 1 g k U O);have n:=Aa (λg=>Ry (EG x a 1 1) 16 2 c g p O U);have q:IntKind.u64.wrap (c:Int)=(c:Int):=by rw[IntKind.wrap_u64];omega
    have l:Hid (FX x c a=(EG (EG x a 1 1) 16 2 c,true)):=Aa (by simp only[FX,f,i];simp;omega);clear f i;go_enter func166,ntmps166
    go_wp2_with fail
    refine(h.out _).mono ?_;rintro e w'⟨rfl,d⟩;replace b:=b.trans d
    go_wp2_with fail
    refine(GK c _ O).mono ?_;rintro e w'⟨rfl,rfl⟩
    go_wp2_with fail
    refine(j.out _).mono ?_;rintro e w'⟨rfl,d⟩;replace b:=b.trans d
    go_wp2_with fail
    refine(m.out _).mono ?_;rintro e w'⟨rfl,d⟩;replace b:=b.trans d
    go_wp2_with fail
    refine(n.out _).mono ?_;rintro e w'⟨rfl,d⟩;replace b:=b.trans d
    go_wp2_with fail
    rw[l.out];go_ret2;exact⟨rfl,b⟩
   ·rw[i]at j;rw[show FX x c a=(x,false)by simp[FX,i]];clear f i;go_enter func166,ntmps166
    go_wp2_with fail
    refine(h.out _).mono ?_;rintro e w'⟨rfl,d⟩;replace b:=b.trans d
    go_wp2_with fail
    refine(GK c _ O).mono ?_;rintro e w'⟨rfl,rfl⟩
    go_wp2_with fail
    refine(j.out _).mono ?_;rintro e w'⟨rfl,d⟩;replace b:=b.trans d
    go_wp2_with fail
    go_ret2;exact⟨rfl,b⟩
def Vj(x a:Nat)(w:World)(i:x<18446744073709551616)(m:a<=16):Calls prog 107 #[.int .u64 (x:Int),.int .i64 (a:Int)] w λd w'=>d=.returned (.tuple #[.int .u64 ((Ee x a).1:Nat),.bool (Ee x a).2])/\Dr w w':=by
 have b:=Dr.refl w;have f:=Aa (λg=>Rz x a g i O);cases e:EH x a
 ·rw[e]at f;rw[show Ee x a=(x,false)by simp[Ee,e]];clear e;go_enter func107,ntmps107
  go_wp2_with fail
  refine(f.out _).mono ?_;rintro d w'⟨rfl,c⟩;replace b:=b.trans c
  go_wp2_with fail
  go_ret2;exact⟨rfl,b⟩
 ·rw[e]at f;have l:=PK x a 1 0 i O;have k:=Aa (λg=>Ry x a 1 0 g i U O);have j:=Aa (λg=>fH (EG x a 1 0) g l);by_cases h:JY (EG x a 1 0)=0
  ·have t0:(((JY (EG x a 1 0):Nat):Int)==0)=true:=by rw[beq_iff_eq];omega
   rw[show Ee x a=(0,true)by simp[Ee,e,h]];clear e h;go_enter func107,ntmps107
   go_wp2_with fail
   refine(f.out _).mono ?_;rintro d w'⟨rfl,c⟩;replace b:=b.trans c
   go_wp2_with fail
   refine(k.out _).mono ?_;rintro d w'⟨rfl,c⟩;replace b:=b.trans c
   go_wp2_with fail
   refine(j.out _).mono ?_;rintro d w'⟨rfl,c⟩;replace b:=b.trans c
   go_wp2_with fail
   go_ret2;exact⟨rfl,b⟩
  ·have t0:(((JY (EG x a 1 0):Nat):Int)==0)=false:=ζ O;rw[show Ee x a=(EG x a 1 0,true)by simp[Ee,e,h]];clear e h;go_enter func107,ntmps107
   go_wp2_with fail
   refine(f.out _).mono ?_;rintro d w'⟨rfl,c⟩;replace b:=b.trans c
   go_wp2_with fail
   refine(k.out _).mono ?_;rintro d w'⟨rfl,c⟩;replace b:=b.trans c
   go_wp2_with fail
   refine(j.out _).mono ?_;rintro d w'⟨rfl,c⟩;replace b:=b.trans c
   go_wp2_with fail
   go_ret2;exact⟨rfl,b⟩
def I5:Nat->List (Int×Int)->List MapEntry
 |_,[]=>[]
 |a,(b,c)::t=>{key:=.int .i64 b,val:=.int .i64 c,born:=a}::I5 (a+1) t
def Zr(o v:Int):∀(l:List (Int×Int))(i:Nat),I5 i (l++[(o,v)])=I5 i l++[{key:=.int .i64 o,val:=.int .i64 v,born:=i+l.length}]
 |[],i=>rfl
 |(a,b)::t,i=>by
  simp only[Cj,I5,Zr o v t (i+1),BD];rw[show i+1+t.length=i+(t.length+1)by omega]
def Zt:∀(l:List (Int×Int))(i:Nat),(I5 i l).length=l.length
 |[],_=>rfl
 |(_,_)::t,i=>by simp[I5,Zt t]
def jV(k:Int):∀(l:List (Int×Int))(i n:Nat),(∀p∈l,p.1≠k)->Instr.findNow (.int .i64) (.int .i64 k) (I5 i l) n=some none
 |[],_,_,_=>rfl
 |(a,c)::t,i,n,b=>by
  have e:(k==a)=false:=by rw[beq_eq_false_iff_ne];exact λd=>b (a,c) (BA ..) d.symm
  simp only[I5,Instr.findNow,Instr.sameNow,if_true,e];exact jV k t (i+1) (n+1) (λp f=>b p (BO _ f))
def Zu(k v:Int)(d:List (Int×Int)):∀(a:List (Int×Int))(i n:Nat),(∀p∈a,p.1≠k)->Instr.findNow (.int .i64) (.int .i64 k) (I5 i (a++(k,v)::d)) n=some (some (n+a.length,.int .i64 v))
 |[],_,_,_=>by simp[I5,Instr.findNow,Instr.sameNow]
 |(b,e)::t,i,n,c=>by
  have g:(k==b)=false:=by rw[beq_eq_false_iff_ne];exact λf=>c (b,e) (BA ..) f.symm
  simp only[Cj,I5,Instr.findNow,Instr.sameNow,if_true,g];rw[Zu k v d t (i+1) (n+1) (λp h=>c p (BO _ h))];simp only[BD];rw[show n+1+t.length=n+(t.length+1)by omega]
def oQ(k v c:Int)(b:List (Int×Int)):∀(a:List (Int×Int))(i:Nat),(I5 i (a++(k,v)::b)).modify a.length (λd=>{d with key:=.int .i64 k,val:=.int .i64 c})=I5 i (a++(k,c)::b)
 |[],i=>rfl
 |(e,f)::t,i=>by
  simp only[Cj,I5,BD,List.modify_succ_cons];rw[oQ k v c b t (i+1)]
def KU(w:World)(a:Nat)(l:List (Int×Int)):Prop:=w.heap[a]?=some (.map (I5 0 l).toArray l.length)
def KU.lt{w:World}{a:Nat}{l:List (Int×Int)}(b:KU w a l):a<w.heap.size:=(Array.getElem?_eq_some_iff.1 b).1
def KU.below{w w':World}{b:Nat}{l:List (Int×Int)}(a:KU w b l)(k:η w w'):KU w' b l:=(k.block _ a.lt).trans a
section
variable{P:Program}{t:TypeId}
def jW{b:TypeId}(o:P.underlying t=some (.map b b))(c:P.underlying b=some (.int .i64))(q:∀a,(zeroValue b).run P a=.ok (.int .i64 0) a)(a:World)(d:Nat)(l:List (Int×Int))(k:Int)(f:KU a d l)(n:∀p∈l,p.1≠k):
 (Instr.lookup t (.map (some d)) (.int .i64 k) false).run P a=.ok (.int .i64 0) a:=by
 have g:=run_underlying (P:=P) o;have h:=run_underlying (P:=P) c;have i:=λe w=>J5 (P:=P) c e 9999 .i64 k w
 have j:=Oo (P:=P) f;have m:=jV k l 0 0 n;simp[Instr.lookup,g,h,i,j,Instr.findKey,m,q,Result.andThen]
def RF{d f:TypeId}(j:P.underlying t=some (.map d f))(h:P.underlying d=some (.int .i64))(a:World)(c:Nat)(b e:List (Int×Int))(k v:Int)(g:KU a c (b++(k,v)::e))(i:∀p∈b,p.1≠k):
 (Instr.lookup t (.map (some c)) (.int .i64 k) false).run P a=.ok (.int .i64 v) a:=
 Oq j h a c _ _ k _ _ g (by simpa using Zu k v e b 0 0 i)
def wP{c d:TypeId}(h:P.underlying t=some (.map c d))(f:P.underlying c=some (.int .i64))(a:World)(b:Nat)(l:List (Int×Int))(k v:Int)(e:KU a b l)(g:∀p∈l,p.1≠k):
 (Instr.mapUpdate t (.map (some b)) (.int .i64 k) (.int .i64 v)).run P a=.ok () (EF a b (I5 0 (l++[(k,v)])).toArray (l++[(k,v)]).length):=by
 rw[Yv h f a b _ _ k _ e (by simpa using jV k l 0 0 g),Zr];simp
def Ajy{j m:TypeId}(C:P.underlying t=some (.map j m))(h:P.underlying j=some (.int .i64))(c:World)(e:Nat)(a b:List (Int×Int))(k v d:Int)(f:KU c e (a++(k,v)::b))(B:∀p∈a,p.1≠k):
 (Instr.mapUpdate t (.map (some e)) (.int .i64 k) (.int .i64 d)).run P c=.ok () (EF c e (I5 0 (a++(k,d)::b)).toArray (a++(k,d)::b).length):=by
 have n:=run_underlying (P:=P) C;have o:=run_underlying (P:=P) h;have q:=λw=>J5 (P:=P) h false 9999 .i64 k w
 have r:=Oo (P:=P) f;have s:=λE=>Ul (P:=P) E f
 have g:=Zu k v b a 0 0 B;have A:=oQ k v d b a 0;have x:(((I5 0 (a++(k,v)::b)).toArray[a.length]?).map (·.key)).getD (.int .i64 k)=.int .i64 k:=by
  have:∀(a:List (Int×Int))(i:Nat),(((I5 i (a++(k,v)::b))[a.length]?).map (·.key)).getD (.int .i64 k)=.int .i64 k:=by
   intro a;induction a with
   |nil=>intro i;rfl
   |cons p t D=>intro i;obtain⟨F,G⟩:=p;simpa[I5]using D (i+1)
  simpa using this a 0
 have y:∀c,(Instr.keyThatStays (.int .i64 k) (.int .i64 k)).run P c=.ok (.int .i64 k) c:=λc=>by
  have hb:Instr.sameBits 10000 (.int .i64 k) (.int .i64 k)=true:=by show Instr.sameBits (9999+1) _ _=true;simp[Instr.sameBits]
  simp[Instr.keyThatStays,hb]
 have z:(a++(k,d)::b).length=(a++(k,v)::b).length:=by simp
 have u:(I5 0 (a++(k,v)::b)).toArray.modify a.length (λl=>{l with key:=.int .i64 k,val:=.int .i64 d})=(I5 0 (a++(k,d)::b)).toArray:=by
  rw[<-A];simp
 rw[z];simp only[Nat.zero_add]at g;simp only[Instr.mapUpdate,Sem.run_bind,n,Result.andThen_ok,r,q,Instr.findKey,o,g,Sem.run_pure,x,y,s,u,EF]
end
def Auw{w:World}{g:Nat}{e:TypeId}{a b c d j f i:Value}(h:CQ w g e [a,b,c,d,j,f,i]):
 w.cell? (Φ g)=some a/\w.cell? (Δ g 1)=some b/\w.cell? (Δ g 2)=some c/\w.cell? (Δ g 3)=some d/\w.cell? (Δ g 4)=some j/\w.cell? (Δ g 5)=some f/\w.cell? (Δ g 6)=some i:=
 ⟨h.cell 0,h.cell 1,h.cell 2,h.cell 3,h.cell 4,h.cell 5,h.cell 6⟩
def Ajz{P:Program}{f:FuncId}{args:Array Value}{a:World}{n:Nat}{v:Value}(d:Calls P f args (a.drewN n) λb w'=>b=.returned v/\Dr (a.drewN n) w'):
 Calls P f args (a.drewN n) λb h=>b=.returned v/\∃c,h=a.drewN c:=
 d.mono λ_ _⟨e,c,g⟩=>⟨e,n+c,by rw[g,World.drewN_drewN]⟩
def Aux{P:Program}{f:FuncId}{args:Array Value}{a:World}{n:Nat}{v:Value}(c:Calls P f args (a.drewN n) λb w'=>b=.returned v/\a.drewN n=w'):
 Calls P f args (a.drewN n) λb h=>b=.returned v/\∃g,h=a.drewN g:=
 c.mono λ_ _⟨d,e⟩=>⟨d,n,e.symm⟩
structure Ig(w:World)(d p L:Nat)(s:St)(tb hb n cT cH:Nat):Prop where
 y0:w.cell? (Φ p)=some (Az d)
 y1:w.cell? (Δ p 1)=some (.int .i64 (s.sh.lines:Nat))
 y2:w.cell? (Δ p 2)=some (.int .i64 (s.sh.BQ:Nat))
 y3:w.cell? (Δ p 3)=some (.int .i64 (s.sh.table:Nat))
 y4:w.cell? (Δ p 4)=some (.int .i64 (s.sh.data:Nat))
 y5:w.cell? (Δ p 5)=some (.slice (some (Φ tb)) n cT)
 y6:w.cell? (Δ p 6)=some (.slice (some (Φ hb)) n cH)
 tk:∀i,i<n->w.cell? (Δ tb i)=some (.int .u64 (GU s i:Nat))
 hd:∀i,i<n->w.cell? (Δ hb i)=some (.int .u64 (hdN s i:Nat))
 ok:dH L s.sh
 L1:L<=1024
 bV:n=s.sh.BQ
 OA:s.tk.length=n
def getD_at(xs:List UInt64)(i:Nat)(a:i<xs.length):xs.getD i 0=xs[i]:=by
 rw[List.getD_eq_getElem?_getD,Ae a];rfl
def ET.at{len:Ef}{w:World}{d p L:Nat}{s:St}{tb hb n cT cH:Nat}{own:Nat->Prop}(a:ET len w d p L s tb hb n cT cH own):Ig w d p L s tb hb n cT cH:=by
 obtain⟨f,g,h,i,j,k,l⟩:=Auw a.box;refine⟨f,g,h,i,j,k,l,λc e=>?_,λc e=>?_,IL a.shape,a.L1,a.bV,a.OA⟩
 ·have b:c<s.tk.length:=by rw[a.OA];exact e
  rw[a.tk.cell c b,GU,getD_at _ _ b]
 ·have b:c<s.hd.length:=by rw[a.mX];exact e
  rw[a.hd.cell c b,hdN,getD_at _ _ b]
def Qp(s:St)(i:Nat):GU s i<18446744073709551616:=XX _
def Kr(s:St)(i:Nat):hdN s i<18446744073709551616:=XX _
def Ou(s:St)(i:Nat):CE s i<18446744073709551616:=Nat.or_lt_two_pow (n:=64) (Qp s i) (Kr s i)
section
variable{w:World}{d p L:Nat}{s:St}{tb hb n cT cH:Nat}
def Gy(a:Ig w d p L s tb hb n cT cH):Calls prog 38 #[Az p] w λb w'=>b=.returned (.bool false)/\w=w':=by
 have c:=a.y0;clear a;go_enter func38,ntmps38;go_wp2;go_ret;exact⟨rfl,rfl⟩
def wQ(a:Ig w d p L s tb hb n cT cH)(i:Nat)(hi:i<n):Calls prog 55 #[Az p,.int .i64 (i:Int)] w λb w'=>b=.returned (.int .i64 ((8*(s.sh.table/8+i):Nat):Int))/\w=w':=by
 have e:=a.y3;have c:=a.ok.table;have h:=a.bV;have g:=a.ok.fits;have f:=a.L1;rw[c]at e;rw[show 8*(s.sh.table/8+i)=128+8*i by omega];clear a;go_enter func55,ntmps55;go_wp2;go_ret;exact⟨by go_num,rfl⟩
def LU(a:Ig w d p L s tb hb n cT cH)(i:Nat)(hi:i<n):Calls prog 150 #[Az p,.int .i64 (i:Int)] w λc w'=>c=.returned (.int .u64 (CE s i:Nat))/\Dr w w':=by
 have g:=a.y5;have h:=a.y6;have e:=a.tk i hi;have f:=a.hd i hi;have b:=Aa (u64_or_nat (GU s i) (hdN s i) (Qp s i) (Kr s i));clear a;go_enter func150,ntmps150
 go_wp2_with fail
 go_quiet(fail)
 go_wp2_with fail
 rw[b.out];go_ret;exact⟨rfl,_,rfl⟩
def Un(e:Ig w d p L s tb hb n cT cH)(i c a:Nat)(hi:i<n)(m:c<4)(k:a<=16):Calls prog 40 #[Az p,.int .i64 (i:Int),.int .i64 (c:Int),.int .i64 (a:Int)] w λj w'=>j=.returned (.int .i64 (CY s.sh i c a:Nat))/\Dr w w':=by
 have A:=e.y4;have t:=e.bV;have o:=e.ok.fits;have l:=e.L1;have q:=fG c;have r:64*Bf c*a<=256*16:=Nat.mul_le_mul O k;have h:Hid (((CY s.sh i c a:Nat):Int)=(s.sh.data:Int)+1024*(i:Int)+64*((Bf c:Nat):Int)*(a:Int)):=Aa (by unfold CY;rw[Ai9,Ai9,Gx,Gx,Gx];rfl);have f:(64:Int)*((Bf c:Nat):Int)*(a:Int)=((64*Bf c*a:Nat):Int):=by rw[Gx,Gx];rfl
 have g:=Aa (Ph c · O);generalize Bf c=b at*;have u:IntKind.i64.wrap (1024*(i:Int))=1024*(i:Int):=IntWalk.i64_in _ O;have v:IntKind.i64.wrap ((s.sh.data:Int)+1024*(i:Int))=(s.sh.data:Int)+1024*(i:Int):=IntWalk.i64_in _ O;have x:IntKind.i64.wrap (64*(b:Int))=64*(b:Int):=IntWalk.i64_in _ O;have y:IntKind.i64.wrap (64*(b:Int)*(a:Int))=64*(b:Int)*(a:Int):=IntWalk.i64_in _ (by rw[f];omega);have z:IntKind.i64.wrap ((s.sh.data:Int)+1024*(i:Int)+64*(b:Int)*(a:Int))=(s.sh.data:Int)+1024*(i:Int)+64*(b:Int)*(a:Int):=IntWalk.i64_in _ (by rw[f];omega);clear e f;go_enter func40,ntmps40
 go_wp2_with fail
 go_quiet((go_at_call 73;exact Aux (g.out _)))
 go_wp2_with fail
 rw[h.out];go_ret;exact⟨rfl,_,rfl⟩
def Ig.dr{w':World}(a:Ig w d p L s tb hb n cT cH)(k:Dr w w'):Ig w' d p L s tb hb n cT cH:=by
 obtain⟨q,rfl⟩:=k;exact⟨a.y0,a.y1,a.y2,a.y3,a.y4,a.y5,a.y6,a.tk,a.hd,a.ok,a.L1,a.bV,a.OA⟩
def IM(s:St)(off:Int):Value:=match Hf s off with
 |some (b,a)=>.tuple #[.int .i64 (b:Int),.int .i64 (a:Int),.bool true]
 |none=>.tuple #[.int .i64 0,.int .i64 0,.bool false]
def IQ(b:Ig w d p L s tb hb n cT cH)(off:Int)(S: -9223372036854775808<=off/\off<=9223372036854775807):Calls prog 106 #[Az p,.int .i64 off] w λh w'=>h=.returned (IM s off)/\Dr w w':=by
 have ac:=b.y4;have ad:=b.y5;have z:=b.bV;have o:=b.OA;have x:=b.ok.fits;have v:=b.L1;have R:=Dr.refl w;have u:=Aa b;by_cases k:off<(s.sh.data:Int)
 ·have t1:decide (off<(s.sh.data:Int))=true:=decide_eq_true k;have i:Hid (IM s off=.tuple #[.int .i64 0,.int .i64 0,.bool false]):=Aa (by rw[IM,Hf,if_pos (.inl k)]);clear b k z o x v;go_enter func106,ntmps106
  go_wp2_with fail
  go_quiet(fail)
  go_wp2_with fail
  go_ret3
  exact⟨by rw[i.out];rfl,_,rfl⟩
 ·have t1:decide (off<(s.sh.data:Int))=false:=decide_eq_false k;have aa:IntKind.i64.wrap (1024*(n:Int))=1024*(n:Int):=IntWalk.i64_in _ O;have ab:IntKind.i64.wrap ((s.sh.data:Int)+1024*(n:Int))=(s.sh.data:Int)+1024*(n:Int):=IntWalk.i64_in _ O;by_cases r:(s.sh.data:Int)+1024*(n:Int)<=off
  ·have t2:decide ((s.sh.data:Int)+1024*(n:Int)<=off)=true:=decide_eq_true r;have i:Hid (IM s off=.tuple #[.int .i64 0,.int .i64 0,.bool false]):=Aa (by rw[IM,Hf,if_pos (.inr (by rw[o];omega))]);clear b k r z o x v;go_enter func106,ntmps106
   go_wp2_with fail
   go_quiet(fail)
   go_wp2_with fail
   go_ret3
   exact⟨by rw[i.out];rfl,_,rfl⟩
  ·have t2:decide ((s.sh.data:Int)+1024*(n:Int)<=off)=false:=decide_eq_false r;have j:Hid (Hf s off=if Bf (Bc (CE s ((off.toNat-s.sh.data)/1024)))=0\/(off.toNat-s.sh.data)%1024%(64*Bf (Bc (CE s ((off.toNat-s.sh.data)/1024))))≠0 then none else
    some ((off.toNat-s.sh.data)/1024,(off.toNat-s.sh.data)%1024/(64*Bf (Bc (CE s ((off.toNat-s.sh.data)/1024)))))):=Aa (by rw[Hf,if_neg (by rw[o];omega)])
   obtain⟨c,A,F⟩:∃c:Nat,off.toNat-s.sh.data=c/\off=(s.sh.data:Int)+(c:Int):=⟨off.toNat-s.sh.data,rfl,O⟩;rw[A]at j;have T:c<1024*n:=O;have J:IntKind.i64.wrap (off-(s.sh.data:Int))=(c:Int):=by rw[IntWalk.i64_in _ O];omega
   have K:(c:Int).tdiv 1024=((c/1024:Nat):Int):=by rw[eH O];omega
   have M:(c:Int).tmod 1024=((c%1024:Nat):Int):=by rw[Int.tmod_eq_emod_of_nonneg O];omega
   have y:c/1024<n:=O;have W:c%1024<1024:=Nat.mod_lt _ U;generalize c/1024=a at*;generalize c%1024=e at*;have N:IntKind.i64.wrap (a:Int)=(a:Int):=IntWalk.i64_in _ O;have P:IntKind.i64.wrap (e:Int)=(e:Int):=IntWalk.i64_in _ O;have Q:=NT (CE s a);have G:=fG (Bc (CE s a));clear b k r A F z o x v;by_cases q:Bf (Bc (CE s a))=0
   ·have i:Hid (IM s off=.tuple #[.int .i64 0,.int .i64 0,.bool false]):=Aa (by rw[IM,j.out,if_pos (.inl q)]);have l:=Aa (Ph (Bc (CE s a)) · O);rw[q]at l;clear q G j;go_enter func106,ntmps106
    go_wp2_with fail
    go_quiet(fail)
    go_wp2_with fail
    go_quiet(fail)
    go_wp2_with fail
    refine(LU (u.out.dr (Dr.one w _)) a y).mono ?_;rintro h C⟨rfl,f⟩;replace f:=(Dr.one w _).trans f
    go_wp2_with fail
    refine(Hu (CE s a) _ (Ou s a)).mono ?_;rintro h D⟨rfl,g⟩;replace g:=f.trans g
    go_wp2_with fail
    refine(l.out _).mono ?_;rintro h E⟨rfl,rfl⟩
    go_wp2_with fail
    go_ret3
    exact⟨by rw[i.out];rfl,g⟩
   ·have l:=Aa (Ph (Bc (CE s a)) · O);have X:((64:Int)*((Bf (Bc (CE s a)):Nat):Int)==0)=false:=ζ O;have t:(e:Int)%(64*((Bf (Bc (CE s a)):Nat):Int))=((e%(64*Bf (Bc (CE s a))):Nat):Int):=by rw[Int.natCast_emod,Gx];rfl
    by_cases m:e%(64*Bf (Bc (CE s a)))=0
    ·have i:Hid (IM s off=.tuple #[.int .i64 (a:Int),.int .i64 ((e/(64*Bf (Bc (CE s a))):Nat):Int),.bool true]):=Aa (by rw[IM,j.out,if_neg (by rintro(b|b);exact q b;exact b m)]);have I:((e:Int)%(64*((Bf (Bc (CE s a)):Nat):Int))!=0)=false:=by rw[t,m];rfl
     have Y:(e:Int).tdiv (64*((Bf (Bc (CE s a)):Nat):Int))=((e/(64*Bf (Bc (CE s a))):Nat):Int):=by rw[eH O,Int.natCast_ediv,Gx];rfl
     have V:e/(64*Bf (Bc (CE s a)))<=e:=Nat.div_le_self _ _;generalize e/(64*Bf (Bc (CE s a)))=B at*;have Z:IntKind.i64.wrap (B:Int)=(B:Int):=IntWalk.i64_in _ O;generalize Bf (Bc (CE s a))=H at*;clear t j m;go_enter func106,ntmps106
     go_wp2_with fail
     go_quiet(fail)
     go_wp2_with fail
     go_quiet(fail)
     go_wp2_with fail
     refine(LU (u.out.dr (Dr.one w _)) a y).mono ?_;rintro h C⟨rfl,f⟩;replace f:=(Dr.one w _).trans f
     go_wp2_with fail
     refine(Hu (CE s a) _ (Ou s a)).mono ?_;rintro h D⟨rfl,g⟩;replace g:=f.trans g
     go_wp2_with fail
     refine(l.out _).mono ?_;rintro h E⟨rfl,rfl⟩
     go_wp2_with fail
     go_quiet(fail)
     go_wp2_with fail
     go_ret3
     exact⟨by rw[i.out];rfl,g.trans (Dr.one _ _)⟩
    ·have i:Hid (IM s off=.tuple #[.int .i64 0,.int .i64 0,.bool false]):=Aa (by rw[IM,j.out,if_pos (.inr m)]);have I:((e:Int)%(64*((Bf (Bc (CE s a)):Nat):Int))!=0)=true:=by rw[t,bne_iff_ne];omega
     generalize Bf (Bc (CE s a))=H at*;clear t j m;go_enter func106,ntmps106
     go_wp2_with fail
     go_quiet(fail)
     go_wp2_with fail
     go_quiet(fail)
     go_wp2_with fail
     refine(LU (u.out.dr (Dr.one w _)) a y).mono ?_;rintro h C⟨rfl,f⟩;replace f:=(Dr.one w _).trans f
     go_wp2_with fail
     refine(Hu (CE s a) _ (Ou s a)).mono ?_;rintro h D⟨rfl,g⟩;replace g:=f.trans g
     go_wp2_with fail
     refine(l.out _).mono ?_;rintro h E⟨rfl,rfl⟩
     go_wp2_with fail
     go_ret3
     exact⟨by rw[i.out];rfl,g⟩
end
inductive Pw where
 |up(lf:Int)
 |down(P:(Nat->UInt64)->Prop)
def Pw.mode:Pw->Ef
 | .up lf=>.up (MU lf)
 | .down P=>.down P
structure Ms where
 pw:Pw
 s:St
def Lj(q:Ms)(N:Nat)(a:Nat->UInt64):Ms×Int:=
 match q.pw with
 | .up b=>if b<0\/(N:Int)<=b then(⟨if bU b N=0 then .down (λc=>c=a)else .up (bU b N),{q.s with ws:=a}⟩,0)else(⟨.down (Half q.s.ws a),{q.s with ws:=a}⟩,12)
 | .down P=>(⟨.down P,{q.s with ws:=a}⟩,12)
abbrev Ll(w:World)(d p L:Nat)(q:Ms)(F:Nat->Prop):Prop:=Ej q.pw.mode w d p L q.s F
def Arh(q:Ms)(N:Nat)(a:Nat->UInt64):(Lj q N a).1.s={q.s with ws:=a}:=by
 unfold Lj;cases q.pw with
 |up b=>simp only;split<;>rfl
 |down P=>rfl
def Agb(q:Ms)(N:Nat)(a:Nat->UInt64):(Lj q N a).2=0\/(Lj q N a).2=12:=by
 unfold Lj;cases q.pw with
 |up b=>simp only;split<;>simp
 |down P=>exact .inr rfl
def Qq(s:St)(N:Nat)(a:Nat->UInt64):Lj ⟨.up (-1),s⟩ N a=(⟨.up (-1),{s with ws:=a}⟩,0):=by
 unfold Lj;simp only;rw[if_pos (.inl U),Ajt,if_neg U]
section
variable{w w':World}{d p L:Nat}{s:St}{F:Nat->Prop}{q:Ms}
def Ej.Agc{P:(Nat->UInt64)->Prop}(a:Ej (.down P) w d p L s F)(b:Nat->UInt64):Ej (.down P) w d p L {s with ws:=b} F:=by
 obtain⟨tb,hb,n,cT,cH,own,a,hF⟩:=a;exact⟨tb,hb,n,cT,cH,own,⟨a.dev,a.L0,a.L1,a.shape,a.box,a.tk,a.hd,a.OA,a.mX,a.bV,a.cT,a.cH,a.dp,a.dt,a.dh,a.pt,a.ph,a.th,a.tabs,a.g1,a.g2⟩,hF⟩
def Qo.blk{P:(Nat->UInt64)->Prop}{own:Nat->Prop}(c:Qo w d L P own):∃a g h,CQ w d 70 [.slice (some (Φ a)) L L,.bool true,g,h]:=by
 obtain⟨i,k,mark,e,⟨a,hb,f,_⟩,_⟩:=c;obtain⟨j,b⟩:=f.box;rw[decide_eq_true e]at b;exact⟨a,_,_,b⟩
def ET.Ari{lf:Int}{N:Nat}{tb hb n cT cH g:Nat}{own:Nat->Prop}{x:Nat->Option Nat}{a:Nat}{xs:List UInt64}{c:Int}(f:ET (.up (MU lf)) w d p L s tb hb n cT cH own)(hF:∀e,F e<->(own e\/e=p\/e=tb\/e=hb))(o:∀e,own e<->Dq d L g x e)
 (hd:Wrote lf N w d L g x s.ws a xs c w'):c=(Lj ⟨.up lf,s⟩ N (BK s.ws a xs)).2/\∃b,Ll w' d p L (Lj ⟨.up lf,s⟩ N (BK s.ws a xs)).1 b/\AP F b w w':=by
 have E:=f.dev.2;change lf≠0 at E;rcases hd with⟨l,u,m⟩|⟨l,u,m,len,H,mark,z,A,v,B,C⟩
 ·have k:Lj ⟨.up lf,s⟩ N (BK s.ws a xs)=(⟨if bU lf N=0 then .down (λr=>r=BK s.ws a xs)else .up (bU lf N),{s with ws:=BK s.ws a xs}⟩,0):=by
   unfold Lj;simp only;rw[if_pos u]
  rw[k];refine⟨l,?_⟩;by_cases j:bU lf N=0
  ·obtain⟨b,i,h⟩:=f.cut (P:=λr=>r=BK s.ws a xs) hF o m j (λ_=>BB _) (λ_ _ f=>nomatch f) (λy _=>by funext q;unfold PI;rw[show((MU (bU lf N)).NC (q/8))=[]from rfl,List.drop_nil];rfl) (BK s.ws a xs);refine⟨b,?_,h⟩;unfold Ll;simp only[if_pos j];exact i
  ·obtain⟨b,i,h⟩:=f.wrote hF o m j;refine⟨b,?_,h⟩;unfold Ll;simp only[if_neg j];exact i
 ·have k:Lj ⟨.up lf,s⟩ N (BK s.ws a xs)=(⟨.down (Half s.ws (BK s.ws a xs)),{s with ws:=BK s.ws a xs}⟩,12):=by
   unfold Lj;simp only;rw[if_neg O]
  rw[k];obtain⟨b,i,h⟩:=f.cut (P:=Half s.ws (BK s.ws a xs)) hF o C z A (λG c D=>by
   obtain⟨t,t1,t2,_⟩:=v G c D;exact⟨t,t1,t2⟩) (λy _=>wO v B y) (BK s.ws a xs)
  exact⟨l,b,i,h⟩
def RG(a:Ll w d p L q F)(b:Nat)(x:UInt64)(j:b<8*L):
 Calls prog 50 #[Az d,.int .i64 ((8*b:Nat):Int),.int .u64 (x.toNat:Int)] w λc w'=>c=.returned (.int .i64 (Lj q 3 (D9 q.s.ws b x)).2)/\
  ∃f,Ll w' d p L (Lj q 3 (D9 q.s.ws b x)).1 f/\AP F f w w':=by
 obtain⟨r,s⟩:=q;have m:=a;obtain⟨tb,hb,n,cT,cH,own,a,hF⟩:=a;cases r with
 |up o=>
  obtain⟨⟨e,h,l,k⟩,y⟩:=a.dev;refine(Af7 o d L e h s.ws b x w a.L0 a.L1 l j).mono ?_;rintro c w'⟨v,rfl,i⟩;have:=a.Ari hF k i;rw[Ab8]at this;exact⟨by rw[this.1],this.2⟩
 |down P=>
  obtain⟨e,t,u,g⟩:=Qo.blk a.dev;refine(Af8 d L e b x t u own w a.L0 a.L1 g).mono ?_;rintro c w'⟨rfl,hb⟩;exact⟨rfl,F,Ej.Agc (Ej.below m hb) _,AP.of_below hb⟩
def X4(a:Ll w d p L q F)(b n c:Nat)(A:Option Addr)(xs:List UInt64)(h:b+n<=8*L)(i:0<n)(j:Ws w A n xs):
 Calls prog 79 #[Az d,.int .i64 ((8*b:Nat):Int),.slice A n c] w λe w'=>e=.returned (.int .i64 (Lj q (n+((b+n-1)/8-b/8+1)+1) (BK q.s.ws b xs)).2)/\
  ∃g,Ll w' d p L (Lj q (n+((b+n-1)/8-b/8+1)+1) (BK q.s.ws b xs)).1 g/\AP F g w w':=by
 obtain⟨v,s⟩:=q;have t:=a;obtain⟨tb,hb,B,cT,cH,own,a,hF⟩:=a;cases v with
 |up u=>
  obtain⟨⟨f,l,r,o⟩,z⟩:=a.dev;refine(X3 u d L f l s.ws b n c A xs w a.L0 a.L1 r h i j).mono ?_;rintro e w'⟨c,rfl,m⟩;have:=a.Ari hF o m;exact⟨by rw[this.1],this.2⟩
 |down P=>
  obtain⟨f,x,y,k⟩:=Qo.blk a.dev;refine(oO d L f b n c A xs x y w a.L0 a.L1 k h i j).mono ?_;rintro e w'⟨rfl,hb⟩;exact⟨rfl,F,Ej.Agc (Ej.below t hb) _,AP.of_below hb⟩
end
def L8(q:Ms)(i:Nat)(x:UInt64):Ms×Int:=
 match Lj q 3 (D9 q.s.ws (q.s.sh.table/8+i) x)with
 |(b,a)=>if a=0 then(⟨b.pw,We q.s i x⟩,0)else(b,a)
def IP(q:Ms)(off:Int):Ms×Int:=
 match Hf q.s off with
 |none=>(q,7)
 |some (a,b)=>if EH (hdN q.s a) b then
  match L8 q a (Aj (FX (GU q.s a) (Bc (hdN q.s a)) b).1)with
  |(c,d)=>if d=0 then(⟨c.pw,{c.s with hd:=q.s.hd.set a (Aj (Ee (hdN q.s a) b).1)}⟩,0)else(c,d)
  else(q,7)
def Eh(q:Ms)(off:Int):Ms×Int:=
 match Hf q.s off with
 |none=>(q,7)
 |some (a,b)=>
  if(Ee (hdN q.s a) b).2 then(⟨q.pw,{q.s with hd:=q.s.hd.set a (Aj (Ee (hdN q.s a) b).1)}⟩,0)
  else if(Ee (GU q.s a) b).2 then L8 q a (Aj (Ee (GU q.s a) b).1)
  else(q,7)
def fM(s:St)(i:Nat)(x:UInt64):L8 ⟨.up (-1),s⟩ i x=(⟨.up (-1),We s i x⟩,0):=by
 unfold L8;rw[Qq];rfl
def Agd{q r:Ms}{i:Nat}{x:UInt64}(a:L8 q i x=(r,0)):r.s=We q.s i x:=by
 unfold L8 at a;split at a;split at a
 ·injection a with a _;rw[<-a]
 ·rename_i b;injection a with _ a;exact absurd a b
def fO(s:St)(off:Int):IP ⟨.up (-1),s⟩ off=(⟨.up (-1),(GV s off).1⟩,(GV s off).2):=by
 unfold IP GV;cases Hf s off with
 |none=>rfl
 |some c=>
  obtain⟨b,a⟩:=c;simp only[fM];cases EH (hdN s b) a<;>rfl
def NV(s:St)(off:Int):Eh ⟨.up (-1),s⟩ off=(⟨.up (-1),(Fj s off).1⟩,(Fj s off).2):=by
 unfold Eh Fj;cases Hf s off with
 |none=>rfl
 |some c=>
  obtain⟨b,a⟩:=c;simp only[fM];cases(Ee (hdN s b) a).2
  ·cases(Ee (GU s b) a).2<;>rfl
  ·rfl
def Ov{s:St}{off:Int}{i a:Nat}(b:Hf s off=some (i,a)):i<s.tk.length/\a<16/\off=((CY s.sh i (Bc (CE s i)) a:Nat):Int)/\1<=Bf (Bc (CE s i))/\Bf (Bc (CE s i))*a+Bf (Bc (CE s i))<=16:=by
 unfold Hf at b;split at b
 ·cases b
 ·rename_i m;obtain⟨d,l⟩:∃d,off.toNat-s.sh.data=d:=⟨_,rfl⟩;rw[l]at b;have o:off=((s.sh.data+d:Nat):Int):=O;have n:d<1024*s.tk.length:=O;split at b
  ·cases b
  ·rename_i e;injection b with b
   injection b with j f
   rw[j]at e f;have g:Bf (Bc (CE s i))≠0:=λc=>e (.inl c)
   have h:d%1024%(64*Bf (Bc (CE s i)))=0:=Classical.byContradiction λc=>e (.inr c)
   have k:Bf (Bc (CE s i))=1\/Bf (Bc (CE s i))=4:=by
    unfold Bf at g⊢;split at g<;>simp_all
   unfold CY;rcases k with c|c
   ·rw[c]at h f⊢;refine⟨O,O,O,O,O⟩
   ·rw[c]at h f⊢;refine⟨O,O,O,O,O⟩
section
variable{w:World}{d p L:Nat}{s:St}{tb hb n cT cH:Nat}{own:Nat->Prop}
def Zv(k:Ig w d p L s tb hb n cT cH)(off:Int)(v: -9223372036854775808<=off/\off<=9223372036854775807):Calls prog 67 #[Az p,.int .i64 off] w λc w'=>c=.returned (.int .i64 (DC s off:Nat))/\Dr w w':=by
 have f:=Aa k;cases g:Hf s off with
 |none=>
  have i:Hid (DC s off=0):=Aa (by rw[DC,g]);have m:Hid (IM s off=.tuple #[.int .i64 0,.int .i64 0,.bool false]):=Aa (by rw[IM,g]);clear k g;go_enter func67,ntmps67
  go_wp2_with fail
  refine(Gy f.out).mono ?_;rintro c w'⟨rfl,rfl⟩
  go_wp2_with fail
  refine(IQ f.out off v).mono ?_;rintro c x⟨rfl,e⟩;rw[m.out]
  go_wp2_with fail
  go_ret;exact⟨by rw[i.out];rfl,e⟩
 |some A=>
  obtain⟨b,q⟩:=A;obtain⟨t,C,-⟩:=Ov g;rw[k.OA]at t;have m:Hid (IM s off=.tuple #[.int .i64 (b:Int),.int .i64 (q:Int),.bool true]):=Aa (by rw[IM,g]);have o:=Aa (Rz (GU s b) q · (Qp s b) O);have y:=Aa (Hu (GU s b) · (Qp s b));have h:DC s off=if EH (GU s b) q then Bc (GU s b)else 0:=by rw[DC,g]
  cases r:EH (GU s b) q
  ·rw[r]at h o;have i:=Aa h;clear k g h r;go_enter func67,ntmps67
   go_wp2_with fail
   refine(Gy f.out).mono ?_;rintro c w'⟨rfl,rfl⟩
   go_wp2_with fail
   refine(IQ f.out off v).mono ?_;rintro c x⟨rfl,e⟩;rw[m.out];have a:=f.out.dr e;have l:=a.y5;have j:=a.tk b t;clear a
   go_wp2_with fail
   refine(o.out _).mono ?_;rintro c B⟨rfl,u⟩;clear l j
   go_wp2_with fail
   go_ret;exact⟨by rw[i.out];rfl,e.trans u⟩
  ·rw[r]at h o;have i:=Aa h;clear k g h r;go_enter func67,ntmps67
   go_wp2_with fail
   refine(Gy f.out).mono ?_;rintro c w'⟨rfl,rfl⟩
   go_wp2_with fail
   refine(IQ f.out off v).mono ?_;rintro c x⟨rfl,e⟩;rw[m.out];have a:=f.out.dr e;have l:=a.y5;have j:=a.tk b t;clear a
   go_wp2_with fail
   refine(o.out _).mono ?_;rintro c B⟨rfl,u⟩;clear l j;replace e:=e.trans u;have a:=f.out.dr e;have l:=a.y5;have j:=a.tk b t;clear a
   go_wp2_with fail
   refine(y.out _).mono ?_;rintro c D⟨rfl,z⟩;clear l j
   go_wp2_with fail
   go_ret;exact⟨by rw[i.out];rfl,e.trans z⟩
def Tabs.set{w:World}(c:Tabs w){b:Nat}(h1:b≠0)(h2:b≠1)(k:Nat)(u:Value):Tabs (w.setCell (Δ b k) u):=
 c.keep (Below.heap_setCell w (Δ b k) u _ (λa=>h1 a.symm)) (Below.heap_setCell w (Δ b k) u _ (λa=>h2 a.symm))
def ET.Arj{len:Ef}(a:ET len w d p L s tb hb n cT cH own)(i:Nat)(x:UInt64):ET len (w.setCell (Δ tb i) (wv x)) d p L {s with tk:=s.tk.set i x} tb hb n cT cH own:=by
 have f:∀b,b≠tb->(w.setCell (Δ tb i) (wv x)).heap[b]?=w.heap[b]?:=λb e=>Below.heap_setCell w (Δ tb i) _ b e
 exact⟨a.dev.touch ((Touch.refl (λb=>b=tb) w).setCell (p:=Δ tb i) (.inl rfl) _) (λb e c=>a.dt (c▸e)),a.L0,a.L1,a.shape,(f p a.pt).trans a.box,a.tk.set i x,a.hd.keep (f hb (λc=>a.th c.symm)),
  by rw[Di];exact a.OA,a.mX,a.bV,a.cT,a.cH,a.dp,a.dt,a.dh,a.pt,a.ph,a.th,a.tabs.set (λc=>a.g1 (.inr (.inr (.inl c.symm)))) (λc=>a.g2 (.inr (.inr (.inl c.symm)))) _ _,a.g1,a.g2⟩
def ET.Agf{len:Ef}(a:ET len w d p L s tb hb n cT cH own)(i:Nat)(x:UInt64):ET len (w.setCell (Δ hb i) (wv x)) d p L {s with hd:=s.hd.set i x} tb hb n cT cH own:=by
 have f:∀b,b≠hb->(w.setCell (Δ hb i) (wv x)).heap[b]?=w.heap[b]?:=λb e=>Below.heap_setCell w (Δ hb i) _ b e
 exact⟨a.dev.touch ((Touch.refl (λb=>b=hb) w).setCell (p:=Δ hb i) (.inl rfl) _) (λb e c=>a.dh (c▸e)),a.L0,a.L1,a.shape,(f p a.ph).trans a.box,a.tk.keep (f tb a.th),a.hd.set i x,
  a.OA,by rw[Di];exact a.mX,a.bV,a.cT,a.cH,a.dp,a.dt,a.dh,a.pt,a.ph,a.th,a.tabs.set (λc=>a.g1 (.inr (.inr (.inr c.symm)))) (λc=>a.g2 (.inr (.inr (.inr c.symm)))) _ _,a.g1,a.g2⟩
def Dr.drew(w:World):Dr w w.drew:=⟨1,rfl⟩
def Ej.dr{len:Ef}{F:Nat->Prop}{w':World}(a:Ej len w d p L s F)(k:Dr w w'):Ej len w' d p L s F:=a.below (k.below _)
def AP.dr{F F':Nat->Prop}{w w' a:World}(b:AP F F' w w')(k:Dr w' a):AP F F' w a:=b.below (k.below _)
def jX(x:Nat)(a:x<18446744073709551616):wv (Aj x)=.int .u64 (x:Int):=by
 simp only[wv,H8];rw[Gm a]
def fP{F:Nat->Prop}{q:Ms}(C:Ll w d p L q F)(i x:Nat)(hi:i<q.s.tk.length)(H:x<18446744073709551616):
 Calls prog 108 #[Az p,.int .i64 (i:Int),.int .u64 (x:Int)] w λo w'=>o=.returned (.int .i64 (L8 q i (Aj x)).2)/\∃v,Ll w' d p L (L8 q i (Aj x)).1 v/\AP F v w w':=by
 have K:=Aa C;obtain⟨tb,hb,n,cT,cH,own,G,hF⟩:=C;have a:=G.at;have S:i<n:=by rw[<-a.OA];exact hi
 have U:=a.y0;have z:=Aa (λm(r:Dr w m)=>wQ (a.dr r) i S);have E:q.s.sh.table/8+i<8*L:=by
  have:=a.ok.table;have:=a.ok.fits;have:=a.ok.KT;have:=a.bV;omega
 have c:=λm(r:Dr w m)=>RG (K.out.dr r) (q.s.sh.table/8+i) (Aj x) E
 rw[show((Aj x).toNat:Int)=(x:Int)by rw[H8,Gm H]]at c;have j:=Arh q 3 (D9 q.s.ws (q.s.sh.table/8+i) (Aj x));obtain⟨⟨k,f⟩,t⟩:∃k,Lj q 3 (D9 q.s.ws (q.s.sh.table/8+i) (Aj x))=k:=⟨_,rfl⟩;have e:Hid (L8 q i (Aj x)=if f=0 then(⟨k.pw,We q.s i (Aj x)⟩,0)else(k,f)):=Aa (by unfold L8;rw[t]);rw[t]at c j;simp only at j;have c:=Aa c;have B:=Aa j;clear a G hF E t j;go_enter func108,ntmps108
 go_wp2_with fail
 go_region_with(first
  |(go_at_call 55;go_loud(refine(z.out _ (Dr.drew _)).mono ?_;rintro o w'⟨rfl,rfl⟩))
  |(go_at_call 50;go_loud(refine(c.out _ (Dr.drew _)).mono ?_;rintro o W⟨rfl,y,u,b⟩)))
 all_goals(replace b:=(AP.of_below ((Dr.drew w).below _)).trans b)
 all_goals(clear U z c)
 all_goals(by_cases g:f=0)
 all_goals first
  |(subst g
    rw[if_pos rfl]at e;obtain⟨l,R,I,Q,P,J,h,D⟩:=u;have a:=h.at;have T:i<I:=by rw[<-a.OA,B.out];exact hi
    have X:=a.y5;have V:=a.tk i T;have f1:=h.tk.frozen i;have A:=Aa (h.Arj i (Aj x));rw[jX x H,B.out]at A;have M:=Aa (b.set (p:=Δ l i) (b.own l ((D l).2 (.inr (.inr (.inl rfl))))) (.int .u64 (x:Int)));clear a h b
    go_wp2_with fail
    go_ret;rw[e.out];exact⟨rfl,y,⟨l,R,I,Q,P,J,A.out,D⟩,M.out⟩)
  |(rw[if_neg g]at e
    have t9:(f==0)=false:=ζ g;have O:=Aa u;have N:=Aa b;clear u b g
    go_wp2_with fail
    go_ret;rw[e.out];exact⟨rfl,y,O.out,N.out⟩)
end
section
variable{w:World}{d p L:Nat}{s:St}{tb hb n cT cH:Nat}{own:Nat->Prop}{F:Nat->Prop}
def ET.dr{len:Ef}{w':World}(a:ET len w d p L s tb hb n cT cH own)(k:Dr w w'):ET len w' d p L s tb hb n cT cH own:=by
 obtain⟨q,rfl⟩:=k;exact⟨a.dev.below ((Dr.one w q).below _),a.L0,a.L1,a.shape,a.box,a.tk,a.hd,a.OA,a.mX,a.bV,a.cT,a.cH,a.dp,a.dt,a.dh,a.pt,a.ph,a.th,a.tabs.below ((Dr.one w q).below _),a.g1,a.g2⟩
def ET.held{m:Ef}(e:ET m w d p L s tb hb n cT cH own)(hF:∀a,F a<->(own a\/a=p\/a=tb\/a=hb))(i x:Nat)(f:x<18446744073709551616){b:World}(k:Dr w b):
 Ej m (b.setCell (Δ hb i) (.int .u64 (x:Int))) d p L {s with hd:=s.hd.set i (Aj x)} F/\AP F F w (b.setCell (Δ hb i) (.int .u64 (x:Int))):=by
 have c:=(e.dr k).Agf i (Aj x);rw[jX x f]at c;exact⟨⟨tb,hb,n,cT,cH,own,c,hF⟩,((AP.refl F w).dr k).set (p:=Δ hb i) (.inl ((hF hb).2 (.inr (.inr (.inr rfl))))) _⟩
def Zw{q:Ms}(K:Ll w d p L q F)(off:Int)(X: -9223372036854775808<=off/\off<=9223372036854775807):
 Calls prog 130 #[Az p,.int .i64 off] w λe w'=>e=.returned (.int .i64 (IP q off).2)/\∃ad,Ll w' d p L (IP q off).1 ad/\AP F ad w w':=by
 obtain⟨l,s⟩:=q;have u:=K;obtain⟨tb,hb,n,cT,cH,own,t,hF⟩:=K;have f:=Aa t.at;have N:=t.OA;cases j:Hf s off with
 |none=>
  have h:Hid (IP ⟨l,s⟩ off=(⟨l,s⟩,7)):=Aa (by rw[IP,j]);have H:Hid (IM s off=.tuple #[.int .i64 0,.int .i64 0,.bool false]):=Aa (by rw[IM,j]);have v:=Aa u;clear u j N t hF;go_enter func130,ntmps130
  go_wp2_with fail
  refine(Gy f.out).mono ?_;rintro e w'⟨rfl,rfl⟩
  go_wp2_with fail
  refine(IQ f.out off X).mono ?_;rintro e ao⟨rfl,c⟩;rw[H.out]
  go_wp2_with fail
  go_ret;rw[h.out];exact⟨rfl,F,v.out.dr c,(AP.refl _ _).dr c⟩
 |some aD=>
  obtain⟨a,i⟩:=aD;obtain⟨k,a4,-⟩:=Ov j;have am:=k;rw[N]at k;have H:Hid (IM s off=.tuple #[.int .i64 (a:Int),.int .i64 (i:Int),.bool true]):=Aa (by rw[IM,j]);have v:=Aa u;have ah:=Aa t;have aM:=Aa hF;have I:=Aa (Rz (hdN s a) i · (Kr s a) O);cases r:EH (hdN s a) i
  ·rw[r]at I;have h:Hid (IP ⟨l,s⟩ off=(⟨l,s⟩,7)):=Aa (by rw[IP,j];simp[r]);clear u j N t hF r;go_enter func130,ntmps130
   go_wp2_with fail
   refine(Gy f.out).mono ?_;rintro e w'⟨rfl,rfl⟩
   go_wp2_with fail
   refine(IQ f.out off X).mono ?_;rintro e ao⟨rfl,c⟩;rw[H.out];have b:=f.out.dr c;have D:=b.y5;have E:=b.y6;have y:=b.tk a k;have z:=b.hd a k;clear b
   go_wp2_with fail
   refine(I.out _).mono ?_;rintro e w'⟨rfl,B⟩;replace c:=c.trans B;clear D E y z B
   go_wp2_with fail
   go_ret;rw[h.out];exact⟨rfl,F,v.out.dr c,(AP.refl _ _).dr c⟩
  ·rw[r]at I;obtain⟨m,Q⟩:∃m,(FX (GU s a) (Bc (hdN s a)) i).1=m:=⟨_,rfl⟩;obtain⟨C,R⟩:∃C,(Ee (hdN s a) i).1=C:=⟨_,rfl⟩;have az:m<18446744073709551616:=by rw[<-Q];exact Zq _ _ _ (Qp s a) O
   have aB:C<18446744073709551616:=by rw[<-R];exact Vh _ _ (Kr s a) O
   have Y:=λ(g:Ms)(K:L8 ⟨l,s⟩ a (Aj m)=(g,0))=>Agd K
   obtain⟨⟨g,x⟩,Z⟩:∃g,L8 ⟨l,s⟩ a (Aj m)=g:=⟨_,rfl⟩;have h:Hid (IP ⟨l,s⟩ off=if x=0 then(⟨g.pw,{g.s with hd:=s.hd.set a (Aj C)}⟩,0)else(g,x)):=Aa (by rw[IP,j];simp[r,Q,R,Z]);have S:=Aa (Hu (hdN s a) · (Kr s a));have J:=Aa (take_any (GU s a) (Bc (hdN s a)) i · (Qp s a) (NT _) O);have G:=Aa (Vj (hdN s a) i · (Kr s a) O);rw[Q]at J;rw[R]at G;have o:=λU(ab:Dr w U)=>fP (q:=⟨l,s⟩) (u.dr ab) a m am az
   rw[Z]at o Y;have o:=Aa o;have T:Hid (x=0->g.s=We s a (Aj m)):=Aa (λe=>Y g (by rw[e]));generalize(FX (GU s a) (Bc (hdN s a)) i).2=aR at*;generalize(Ee (hdN s a) i).2=a0 at*;clear u j N t hF r Q R Z Y;go_enter func130,ntmps130
   go_wp2_with fail
   refine(Gy f.out).mono ?_;rintro e w'⟨rfl,rfl⟩
   go_wp2_with fail
   refine(IQ f.out off X).mono ?_;rintro e ao⟨rfl,c⟩;rw[H.out];have b:=f.out.dr c;have D:=b.y5;have E:=b.y6;have y:=b.tk a k;have z:=b.hd a k;clear b
   go_wp2_with fail
   refine(I.out _).mono ?_;rintro e w'⟨rfl,B⟩;replace c:=c.trans B;clear D E y z B;have b:=f.out.dr c;have D:=b.y5;have E:=b.y6;have y:=b.tk a k;have z:=b.hd a k;clear b
   go_wp2_with fail
   go_quiet(first
    |(go_at_call 41;exact Ajz (S.out _))
    |(go_at_call 166;exact Ajz (J.out _)))
   clear D E y z;replace c:=c.trans (Dr.one _ nq)
   go_wp2_with fail
   refine(o.out _ c).mono ?_;rintro e ac⟨rfl,af,aa,V⟩;have W:=((AP.refl F w).dr c).trans V;by_cases A:x=0
   ·have an:=T.out A;subst A;rw[if_pos rfl]at h;obtain⟨a5,a6⟩:=g;simp only at an;subst an;simp only at h;obtain⟨a7,a3,aE,a2,a1,aL,P,av⟩:=aa;have M:=P.at;have aw:a<aE:=by rw[<-M.OA,We];simpa using am
    have aH:=M.y6;have ap:=M.hd a aw;rw[show hdN (We s a (Aj m)) a=hdN s a from rfl]at ap;have aG:=P.hd.frozen a;have al:=Aa (λU(ab:Dr ac U)=>P.held av a C aB ab);clear V M P o ah v f S J T
    go_wp2_with fail
    go_region_with(go_at_call 107;go_loud(refine(G.out _).mono ?_;rintro e a8⟨rfl,q,rfl⟩))
    all_goals(clear aH ap aG G)
    all_goals(go_wp2_with fail)
    all_goals(go_ret)
    all_goals(rw[h.out])
    all_goals(first
     |exact⟨rfl,af,(al.out _ (Dr.one ac _)).1,W.trans (al.out _ (Dr.one ac _)).2⟩)
   ·rw[if_neg A]at h;have t9:(x !=0)=true:=by rw[bne_iff_ne];exact A
    have ar:=Aa aa;have aq:=Aa W;clear aa W V A o ah v f S J G T
    go_wp2_with fail
    go_ret;rw[h.out];exact⟨rfl,af,ar.out,aq.out⟩
def Ace{m:Ef}(C:Ej m w d p L s F)(off:Int)(D: -9223372036854775808<=off/\off<=9223372036854775807){i a:Nat}(l:Hf s off=some (i,a))(u:(Ee (hdN s i) a).2=true):
 Calls prog 62 #[Az p,.int .i64 off] w λf w'=>f=.returned (.int .i64 0)/\Ej m w' d p L {s with hd:=s.hd.set i (Aj (Ee (hdN s i) a).1)} F/\AP F F w w':=by
 obtain⟨tb,hb,n,cT,cH,own,h,hF⟩:=C;have e:=Aa h.at;have x:=h.OA;obtain⟨g,H,-⟩:=Ov l;rw[x]at g;have z:Hid (IM s off=.tuple #[.int .i64 (i:Int),.int .i64 (a:Int),.bool true]):=Aa (by rw[IM,l]);have q:=Aa h;have A:=Aa hF;obtain⟨k,j⟩:∃k,(Ee (hdN s i) a).1=k:=⟨_,rfl⟩;have E:k<18446744073709551616:=by rw[<-j];exact Vh _ _ (Kr s i) O
 have o:=Aa (Vj (hdN s i) a · (Kr s i) O);rw[j,u]at o;rw[j];clear l x h hF u j;go_enter func62,ntmps62
 go_wp2_with fail
 refine(Gy e.out).mono ?_;rintro f w'⟨rfl,rfl⟩
 go_wp2_with fail
 refine(IQ e.out off D).mono ?_;rintro f I⟨rfl,c⟩;rw[z.out];have b:=e.out.dr c;have G:=b.y5;have y:=b.y6;have B:=b.tk i g;have t:=b.hd i g;clear b
 go_wp2_with fail
 refine(o.out _).mono ?_;rintro f w'⟨rfl,v⟩;replace c:=c.trans v;clear G y B t v;have b:=e.out.dr c;have y:=b.y6;have t:=b.hd i g;have f2:=(q.out.dr c).hd.frozen i;have r:=Aa (q.out.held A.out i k E c);clear b
 go_wp2_with fail
 go_ret;exact⟨rfl,r.out.1,r.out.2⟩
def LV{q:Ms}(M:Ll w d p L q F)(off:Int)(H: -9223372036854775808<=off/\off<=9223372036854775807):
 Calls prog 62 #[Az p,.int .i64 off] w λe w'=>e=.returned (.int .i64 (Eh q off).2)/\∃K,Ll w' d p L (Eh q off).1 K/\AP F K w w':=by
 obtain⟨j,s⟩:=q;have t:=M;obtain⟨tb,hb,n,cT,cH,own,y,hF⟩:=M;have h:=Aa y.at;have G:=y.OA;cases g:Hf s off with
 |none=>
  have k:Hid (Eh ⟨j,s⟩ off=(⟨j,s⟩,7)):=Aa (by rw[Eh,g]);have E:Hid (IM s off=.tuple #[.int .i64 0,.int .i64 0,.bool false]):=Aa (by rw[IM,g]);have J:=Aa t;clear t g G y hF;go_enter func62,ntmps62
  go_wp2_with fail
  refine(Gy h.out).mono ?_;rintro e w'⟨rfl,rfl⟩
  go_wp2_with fail
  refine(IQ h.out off H).mono ?_;rintro e P⟨rfl,c⟩;rw[E.out]
  go_wp2_with fail
  go_ret;rw[k.out];exact⟨rfl,F,J.out.dr c,(AP.refl _ _).dr c⟩
 |some Y=>
  obtain⟨b,l⟩:=Y;obtain⟨i,ac,-⟩:=Ov g;have U:=i;rw[G]at i;have E:Hid (IM s off=.tuple #[.int .i64 (b:Int),.int .i64 (l:Int),.bool true]):=Aa (by rw[IM,g]);have J:=Aa t;have ab:=Aa y;have aa:=Aa hF;obtain⟨I,z⟩:∃I,(Ee (hdN s b) l).1=I:=⟨_,rfl⟩;have ad:I<18446744073709551616:=by rw[<-z];exact Vh _ _ (Kr s b) O
  have D:=Aa (Vj (hdN s b) l · (Kr s b) O);rw[z]at D;cases r:(Ee (hdN s b) l).2
  ·rw[r]at D;obtain⟨C,B⟩:∃C,(Ee (GU s b) l).1=C:=⟨_,rfl⟩;have X:C<18446744073709551616:=by rw[<-B];exact Vh _ _ (Qp s b) O
   have A:=Aa (Vj (GU s b) l · (Qp s b) O);rw[B]at A;cases x:(Ee (GU s b) l).2
   ·rw[x]at A;have k:Hid (Eh ⟨j,s⟩ off=(⟨j,s⟩,7)):=Aa (by rw[Eh,g];simp[r,x]);clear t g G y hF r x B z;go_enter func62,ntmps62
    go_wp2_with fail
    refine(Gy h.out).mono ?_;rintro e w'⟨rfl,rfl⟩
    go_wp2_with fail
    refine(IQ h.out off H).mono ?_;rintro e P⟨rfl,c⟩;rw[E.out];have a:=h.out.dr c;have u:=a.y5;have v:=a.y6;have m:=a.tk b i;have o:=a.hd b i;clear a
    go_wp2_with fail
    refine(D.out _).mono ?_;rintro e w'⟨rfl,f⟩;replace c:=c.trans f;clear u v m o f;have a:=h.out.dr c;have u:=a.y5;have v:=a.y6;have m:=a.tk b i;have o:=a.hd b i;clear a
    go_wp2_with fail
    refine(A.out _).mono ?_;rintro e w'⟨rfl,f⟩;replace c:=c.trans f;clear u v m o f
    go_wp2_with fail
    go_ret;rw[k.out];exact⟨rfl,F,J.out.dr c,(AP.refl _ _).dr c⟩
   ·rw[x]at A;have k:Hid (Eh ⟨j,s⟩ off=L8 ⟨j,s⟩ b (Aj C)):=Aa (by rw[Eh,g];simp[r,x,B]);have R:=Aa (λS(Z:Dr w S)=>fP (q:=⟨j,s⟩) (t.dr Z) b C U X);clear t g G y hF r x B z;go_enter func62,ntmps62
    go_wp2_with fail
    refine(Gy h.out).mono ?_;rintro e w'⟨rfl,rfl⟩
    go_wp2_with fail
    refine(IQ h.out off H).mono ?_;rintro e P⟨rfl,c⟩;rw[E.out];have a:=h.out.dr c;have u:=a.y5;have v:=a.y6;have m:=a.tk b i;have o:=a.hd b i;clear a
    go_wp2_with fail
    refine(D.out _).mono ?_;rintro e w'⟨rfl,f⟩;replace c:=c.trans f;clear u v m o f;have a:=h.out.dr c;have u:=a.y5;have v:=a.y6;have m:=a.tk b i;have o:=a.hd b i;clear a
    go_wp2_with fail
    refine(A.out _).mono ?_;rintro e w'⟨rfl,f⟩;replace c:=c.trans f;clear u v m o f
    go_wp2_with fail
    refine(R.out _ c).mono ?_;rintro e af⟨rfl,Q,W,V⟩
    go_wp2_with fail
    go_ret;rw[k.out];exact⟨rfl,Q,W,((AP.refl F w).dr c).trans V⟩
  ·have k:Hid (Eh ⟨j,s⟩ off=(⟨j,{s with hd:=s.hd.set b (Aj I)}⟩,0)):=Aa (by rw[Eh,g];simp[r,z]);refine(Ace t off H g r).mono ?_;rintro e w'⟨rfl,N,T⟩;rw[k.out];rw[z]at N;exact⟨rfl,F,N,T⟩
def fQ(c:Sys w d p L s F)(off:Int)(e: -9223372036854775808<=off/\off<=9223372036854775807):
 Calls prog 62 #[Az p,.int .i64 off] w λb w'=>b=.returned (.int .i64 (Fj s off).2)/\∃a,Sys w' d p L (Fj s off).1 a/\AP F a w w':=by
 have:=LV (q:=⟨.up (-1),s⟩) c off e;rw[NV]at this;exact this
end
def fU(k:Nat)(w:World)(d:k<=10000):Calls prog 125 #[.int .i64 (k:Int)] w λa w'=>a=.returned (.int .i64 (JX k:Nat))/\w=w':=by
 have b:((k:Int)+8-1)/8=(((k+7)/8:Nat):Int):=O;have c:(2:Int)+(((k+7)/8:Nat):Int)=(JX k:Nat):=by unfold JX;omega
 have hb:(k+7)/8<=2000:=O;generalize(k+7)/8=q at*;go_enter func125,ntmps125;go_wp2;go_ret;exact⟨by rw[<-c];simp[b],rfl⟩
def Agi(k b:Nat)(w:World)(e:k<=10000)(hb:w.cell? (Φ b)=some (.func (.func 125) #[] #[])):
 Calls prog 126 #[.int .i64 (k:Int),Az b] w λa w'=>a=.returned (.int .i64 (Oi k:Nat))/\w=w':=by
 have f:JX k<=3000:=by unfold JX;omega
 have c:=Aa (fU k w e);have d:((JX k:Nat):Int)+16*(k:Int)=(Oi k:Nat):=by unfold Oi;omega
 generalize JX k=q at*;go_enter func126,ntmps126
 go_wp2_with fail
 refine c.out.mono ?_;rintro a w'⟨rfl,rfl⟩
 go_wp2_with fail
 go_ret;exact⟨by rw[<-d];rfl,rfl⟩
def ofV(L:Nat):Value:=match shapeOf L with
 |some a=>.tuple #[.agg #[.int .i64 (a.lines:Nat),.int .i64 (a.BQ:Nat),.int .i64 (a.table:Nat),.int .i64 (a.data:Nat)],.bool true]
 |none=>.tuple #[.agg #[.int .i64 0,.int .i64 0,.int .i64 0,.int .i64 0],.bool false]
def jY(L k:Nat)(d:k<L)(b:Oi (k+1)<=L):JW L (L-k) k=JW L (L-(k+1)) (k+1):=by
 obtain⟨a,c⟩:∃a,L-k=a+1:=⟨L-k-1,O⟩;rw[c,show L-(k+1)=a by omega,JW,if_pos b]
def jZ(L k:Nat)(a:¬Oi (k+1)<=L):JW L (L-k) k=k:=by
 cases c:L-k with
 |zero=>rfl
 |succ b=>rw[JW,if_neg a]
def wR{P:Program}(a:Addr)(F:Fn)(c b:Array Value)(w:World):(store a (.func F c b)).run P w=stored P w a (.func F c b) .plain:=run_store P w a _ .plain rfl
def fV{h:Ending->World->Prop}{e:World}{f:Array Value}(g:Nat){a b c d:Value}(i:CQ e g 108 [a,b,c,d])(v:Value)(h2:f[2]?=some (Az g))(h3:f[3]?=some v)
 (j:h (.returned (.tuple #[.agg #[a,b,c,d],v])) e):bodyPost prog Tryz.f77 h Exit.ret {tmps:=f,defers:=[]} e:=by
 obtain⟨k,l,m,n,f0,f1,f2,f3⟩:=CO i;have o:=run_underlying (P:=prog) underlying108;refine bodyPost_ret (v:=.tuple #[.agg #[a,b,c,d],v]) (by simp[results,results77,go_sem,h2,h3,k,l,m,n]) rfl j
def Uo(L:Nat)(w:World)(K:L<=1024):Calls prog 77 #[.int .i64 (L:Int)] w λc w'=>c=.returned (ofV L)/\η w w':=by
 have t1:decide ((1024:Int)<(L:Int))=false:=decide_eq_false O;have t:CQ (w.alloc (.cells #[.int .i64 0,.int .i64 0,.int .i64 0,.int .i64 0] 108)) w.heap.size 108 [.int .i64 0,.int .i64 0,.int .i64 0,.int .i64 0]:=heap_alloc_new _ _;have o:(w.alloc (.cells #[.int .i64 0,.int .i64 0,.int .i64 0,.int .i64 0] 108)).heap.size=w.heap.size+1:=by simp
 have k:CQ ((w.alloc (.cells #[.int .i64 0,.int .i64 0,.int .i64 0,.int .i64 0] 108)).alloc (.cells #[.nilFunc] 141)) (w.heap.size+1) 141 [.nilFunc]:=by rw[<-o];exact heap_alloc_new _ _
 have y:=k.cell 0;have f1:=k.frozen 0;simp only[List.getElem?_cons_zero]at y;have Q:=λF H G b=>wR (P:=prog) F (.func 125) H G b
 go_enter func77,ntmps77
 go_wp2_with fail
 obtain⟨b,e⟩:=ε (((w.alloc (.cells #[.int .i64 0,.int .i64 0,.int .i64 0,.int .i64 0] 108)).alloc (.cells #[.func (.func 125) #[] #[]] 141)));rw[<-e];have r:CQ b (w.heap.size+1) 141 [.func (.func 125) #[] #[]]:=by rw[e,<-o];exact heap_alloc_new _ _
 have C:CQ b w.heap.size 108 [.int .i64 0,.int .i64 0,.int .i64 0,.int .i64 0]:=by
  rw[e];exact(χ _ _ O).trans t
 have A:η w b:=by rw[e];exact(((Below.refl _ _).alloc (Ad _) _).alloc Θ _)
 have v:=Aa (r.cell 0);have m:=Aa C;have u:=Aa A;clear t k y f1 e r C o A
 go_loopw [6](λq wr=>∃a,a<=L/\q=.int .i64 (a:Nat)/\wr=b/\JW L (L-a) a=Qj L)(λq _=>L-(intOf q).toNat)
 case atStart=>exact⟨0,BB _,rfl,rfl,by rw[Nat.sub_zero];rfl⟩
 case round=>
  obtain⟨a,N,rfl,rfl,i⟩:=hrel;have g:=Aa (Agi (a+1) (w.heap.size+1) wr O (by have:=v.out;simpa using this));by_cases d:Oi (a+1)<=L
  ·have I:a<L:=by unfold Oi at d;omega
   have t2:decide (((Oi (a+1):Nat):Int)<=(L:Int))=true:=decide_eq_true O;have J:decide (Oi (a+1)<=L)=true:=decide_eq_true O;have E:Hid (JW L (L-(a+1)) (a+1)=Qj L):=Aa (by rw[<-jY L a I d];exact i);generalize Oi (a+1)=f at*;clear i
   go_wp2_with fail
   rw[show(a:Int)+1=((a+1:Nat):Int)by omega];refine g.out.mono ?_;rintro c w'⟨rfl,rfl⟩
   go_wp2_with fail
   go_roundw
   case rel=>exact⟨a+1,O,by go_num,trivial,E.out⟩
   case measure=>simp[intOf];omega
  ·have j:Qj L=a:=by rw[<-i];exact jZ L a d
   obtain⟨f,B⟩:∃f,Oi (a+1)=f:=⟨_,rfl⟩;rw[B]at g d;have t2:decide ((f:Int)<=(L:Int))=false:=decide_eq_false O;have J:decide (f<=L)=false:=decide_eq_false O;clear i d B;have D:=Aa (fU a wr O);obtain⟨R,S,T,U,f0,f1,f2,f3⟩:=CO m.out;by_cases z:a=0
   ·subst z;have l:Hid (ofV L=.tuple #[.agg #[.int .i64 0,.int .i64 0,.int .i64 0,.int .i64 0],.bool false]):=Aa (by
     unfold ofV shapeOf;rw[if_neg O];simp[j])
    have h:=g.out;rw[show(((0+1:Nat)):Int)=1 from rfl]at h;have h:=Aa h;clear j
    go_wp2_with fail
    refine h.out.mono ?_;rintro c w'⟨rfl,rfl⟩
    go_wp2_with fail
    have s:=(((m.out.AZ 0 (.int .i64 0)).AZ 1 (.int .i64 0)).AZ 2 (.int .i64 0)).AZ 3 (.int .i64 0);have n:=(((u.out.setCell (p:=Φ w.heap.size) (Ad _) (.int .i64 0)).setCell (p:=Δ w.heap.size 1) (Ad _) (.int .i64 0)).setCell (p:=Δ w.heap.size 2) (Ad _) (.int .i64 0)).setCell (p:=Δ w.heap.size 3) (Ad _) (.int .i64 0);refine fV w.heap.size s (.bool false) rfl rfl ?_;exact⟨by rw[l.out],n⟩
   ·have l:Hid (ofV L=.tuple #[.agg #[.int .i64 (L:Nat),.int .i64 (a:Nat),.int .i64 128,.int .i64 ((64*JX a:Nat):Int)],.bool true]):=Aa (by
     unfold ofV shapeOf;rw[if_neg O];simp[j,z,Nat.mul_comm])
    have t3:((a:Int)==0)=false:=ζ O;have M:JX a<=3000:=by unfold JX;omega
    have r:wr.cell? (Φ (w.heap.size+1))=some (.func (.func 125) #[] #[]):=by have:=v.out;simpa using this
    generalize JX a=x at*;clear j
    go_wp2_with fail
    rw[show(a:Int)+1=((a+1:Nat):Int)by omega];refine g.out.mono ?_;rintro c w'⟨rfl,rfl⟩
    go_wp2_with fail
    refine D.out.mono ?_;rintro c w'⟨rfl,rfl⟩
    go_wp2_with fail
    have s:=(((m.out.AZ 0 (.int .i64 (L:Int))).AZ 1 (.int .i64 (a:Int))).AZ 2 (.int .i64 128)).AZ 3 (.int .i64 ((x:Int)*64));have n:=(((u.out.setCell (p:=Φ w.heap.size) (Ad _) (.int .i64 (L:Int))).setCell (p:=Δ w.heap.size 1) (Ad _) (.int .i64 (a:Int))).setCell (p:=Δ w.heap.size 2) (Ad _) (.int .i64 128)).setCell (p:=Δ w.heap.size 3) (Ad _) (.int .i64 ((x:Int)*64));refine fV w.heap.size s (.bool true) rfl rfl ?_;exact⟨by rw[l.out];simp[Int.mul_comm],n⟩
def wS(sh:Sh):Value:=.agg #[.int .i64 (sh.lines:Nat),.int .i64 (sh.BQ:Nat),.int .i64 (sh.table:Nat),.int .i64 (sh.data:Nat)]
def Acf(x:Nat)(a:x<18446744073709551616):wv (Aj x)=.int .u64 (x:Int):=by
 simp only[wv,H8];rw[Gm a]
def TM:∀n,leBytes (BC n (0:UInt64))=BC (8*n) (0:UInt8)
 |0=>rfl
 |n+1=>by
  rw[UD,leBytes,TM n,show VZ 0=BC 8 (0:UInt8)by decide,List.replicate_append_replicate,show 8+8*n=8*(n+1)by omega]
def QO(H:List UInt64)(k:Nat):List UInt64:=H.take k++BC (H.length-k) 0
def ku(H:List UInt64)(k:Nat)(a:k<=H.length):(QO H k).length=H.length:=by simp[QO];omega
def Acg(H:List UInt64)(k:Nat)(b:k<H.length):(QO H k).set k H[k]=QO H (k+1):=by
 obtain⟨a,c⟩:∃a,H.length-k=a+1:=⟨H.length-k-1,O⟩;unfold QO;rw[c,show H.length-(k+1)=a by omega,Tu _ _ (by simp;omega)];simp only[List.length_take,Nat.min_eq_left (Nat.le_of_lt b),Tz,UD,List.set_cons_zero];rw[List.take_succ_eq_append_getElem b,List.append_assoc];rfl
def Ach(H:List UInt64):QO H H.length=H:=by simp[QO]
def TN(sh:Sh)(w:World)(aa:sh.lines<=1024)(L:shapeOf sh.lines=some sh)(E:Ajq w):Calls prog 80 #[wS sh] w λd w'=>∃an,d=.returned an/\w'.ownsRow w.heap.size 43 1 an 8 ((wordsOf sh).map wv)/\η w w':=by
 have ac:=λaz=>Uo sh.lines az aa
 have A:Hid (ofV sh.lines=.tuple #[wS sh,.bool true]):=Aa (by rw[ofV,L];rfl);have X:=Aa ac;have i:=IL L;have aD:=i.fits;obtain⟨f,M⟩:∃c,sh.BQ=c:=⟨_,rfl⟩;obtain⟨tb,N⟩:∃c,sh.table=c:=⟨_,rfl⟩;obtain⟨e,G⟩:∃c,sh.data=c:=⟨_,rfl⟩;obtain⟨h,Q⟩:∃c,sh.lines=c:=⟨_,rfl⟩;have am:wS sh=.agg #[.int .i64 (h:Int),.int .i64 (f:Int),.int .i64 (tb:Int),.int .i64 (e:Int)]:=by rw[wS,M,N,G,Q]
 rw[am]at A⊢;rw[Q]at A X aa;clear ac am;go_enter func80,ntmps80
 go_wp2_with fail
 have V:CQ (w.alloc (.cells #[.int .i64 (h:Int),.int .i64 (f:Int),.int .i64 (tb:Int),.int .i64 (e:Int)] 108)) w.heap.size 108 [.int .i64 (h:Int),.int .i64 (f:Int),.int .i64 (tb:Int),.int .i64 (e:Int)]:=heap_alloc_new _ _;refine(X.out _).mono ?_;rintro d g⟨rfl,F⟩;have z:=V.below F Θ;have W:η w g:=((Below.refl _ _).alloc (Ad _) _).trans (F.mono Θ);have bq:w.heap.size<g.heap.size:=z.lt;obtain⟨bh,bi,bj,bk,f0,f1,f2,f3⟩:=CO z;clear F V f0 f1 f2 f3;rw[A.out];obtain⟨bc,a4,a9,ba,bb⟩:=info_parts Tryz.infoByte;obtain⟨a,y⟩:∃a,headW sh=a:=⟨_,rfl⟩;have k:a.length=6:=by rw[<-y];rfl
 have al:[Value.int .u64 465675318387,.int .u64 1,.int .u64 (h:Int),.int .u64 (f:Int),.int .u64 (tb:Int),.int .u64 (e:Int),.int .u64 0,.int .u64 0]=(a++[0,0]).map wv:=by
  have d:∀c:Nat,c<1000000->((Aj c).toNat:Int)=(c:Int):=λc bt=>by rw[H8,Gm O]
  have aR:=d h O;have a0:=d f (Ω i.fits);have a1:=d tb (Ω i.table);have a2:=d e (Ω i.fits);rw[<-y,headW,Q,M,N,G];simp only[Cj,EX,List.map_cons,List.map_nil,wv,aR,a0,a1,a2];rfl
 have bl:f<=1000000:=Ω i.fits;have bm:tb<=1000000:=Ω i.table;have bo:e<=1000000:=Ω i.fits;have bd:=Aa al;have aq:=Aa y;clear al y i aD M N G L
 go_wp2_with(at_make;go_loud(refine wpList_make_full _ rfl _ _ 23 rfl w.heap.size 5 bc (.int .u8 0) 1 underlying23 a4 a9 ba .i64 .i64 _ _ 48 rfl rfl rfl rfl (by rw[bb];decide) U (by simp;omega) ?_);intro bg t H)
 obtain⟨m,r⟩:=ε ((g.alloc (.cells #[.int .i64 (h:Int),.int .i64 (f:Int),.int .i64 (tb:Int),.int .i64 (e:Int)] 108)).alloc (.cells #[.int .u64 465675318387,.int .u64 1,.int .u64 (h:Int),.int .u64 (f:Int),.int .u64 (tb:Int),.int .u64 (e:Int),.int .u64 0,.int .u64 0] 43));have D:CQ m (g.heap.size+1) 43 ((a++[0,0]).map wv):=by
  have d:(g.alloc (.cells #[.int .i64 (h:Int),.int .i64 (f:Int),.int .i64 (tb:Int),.int .i64 (e:Int)] 108)).heap.size=g.heap.size+1:=by simp
  rw[<-bd.out,<-d,r];exact heap_alloc_new _ _
 have ah:η w m:=by rw[r];exact(W.alloc O _).alloc (by simp;omega) _
 rw[<-r]at H t;have a8:m.heap.size=g.heap.size+1+1:=by rw[r];simp
 rw[a8]at t;have a7:=D.lt;have T:η m bg:=(Below.refl _ _).grown H (Ad _) Θ;rw[Qg,show BC 48 (0:UInt8)=leBytes (QO a 0)by rw[QO,List.take_zero,EX,k,TM]]at t;have ar:=Aa D;have v:=Aa ah;clear D ah H r bh bi bj bk z W
 go_loopw [6,39](λaB P wr=>∃b q o,b<=6/\P=.int .i64 (b:Nat)/\aB=.slice (some (Φ q)) 48 o/\wr.ownsRow w.heap.size 5 1 (.slice (some (Φ q)) 48 o) 48 ((leBytes (QO a b)).map bv)/\η m wr)(λ_ P _=>6-(intOf P).toNat)
 case atStart=>
  refine⟨0,_,_,BB _,rfl,rfl,t,T⟩
 case round=>
  obtain⟨b,q,o,br,rfl,rfl,s,l⟩:=hrel;clear t T;have j:=ar.out.below l a7;by_cases bs:b<6
  ·have J:b<a.length:=O;have aE:=j.cell b;have Z:((a++[0,0]).map wv)[b]?=some (.int .u64 (a[b].toNat:Int)):=by
    rw[CB,List.getElem?_append_left J,Ae J];rfl
   rw[Z]at aE;have Y:=Aa (Xy (some (Φ q)) 48 o b (QO a b) a[b] wr U (CV s).2 (by rw[ku a b O];omega));have be:=Aa (Acg a b J);generalize a[b]=c at*;have x:=Aa l;clear j Z s l
   go_wp2_with fail
   refine Y.out.mono ?_;rintro d bw⟨aM,aG,rfl,K,af⟩;rw[be.out]at K;have aw:=Aa (Fe (base':=w.heap.size) K (Nat.le_trans v.out.size x.out.size));have ap:=Aa (τ x.out af);clear K af Y
   go_wp2_with fail
   go_roundw
   case rel=>exact⟨b+1,aM,aG,O,by go_num,rfl,aw.out,ap.out⟩
   case measure=>simp[intOf];omega
  ·have a5:b=6:=O;subst a5;rw[show QO a 6=a by rw[<-k];exact Ach a]at s;have ad:Ajq wr:=λu I=>(l.cell (p:=Δ 0 u) (BI (D8 w _ (E u I)) v.out.size)).trans ((v.out.cell (p:=Δ 0 u) (D8 w _ (E u I))).trans (E u I))
   have ao:=Aa (vV (some (Φ q)) 48 o (leBytes a) wr U (CV s).2 ad);have bp:ML 0 (leBytes a)<4294967296:=by
    unfold ML;have:=YN 0 (leBytes a) U (leBytes a).length (Ad _);rw[PG,List.take_length]at this;exact Nat.xor_lt_two_pow (n:=32) this U
   have R:Hid (wordsOf sh=a++[Aj (ML 0 (leBytes a)),0]):=Aa (by rw[wordsOf,aq.out]);generalize ML 0 (leBytes a)=C at*;have a3:=j;have aH:=j.cell 6;rw[CB,List.getElem?_append_right O,k]at aH;have f6:=j.frozen 6;have av:=Aa j;have x:=Aa l;clear j a3 s l ad
   go_wp2_with fail
   refine ao.out.mono ?_;rintro d w'⟨rfl,rfl⟩
   go_wp2_with fail
   trace_state
   go_ret;have ab:=av.out.AZ 6 (.int .u64 (C:Int));have aL:((a++[0,0]).map wv).set 6 (.int .u64 (C:Int))=(wordsOf sh).map wv:=by
    rw[R.out,<-Acf C O,<-List.map_set,Tu _ _ O,k];rfl
   rw[aL]at ab;have S:=ab.own (B:=w.heap.size) O (by rw[BX,R.out];simp[k];decide);have a6:((wordsOf sh).map wv).length=8:=by rw[BX,R.out];simp[k]
   rw[a6]at S;exact⟨_,rfl,S,(τ v.out x.out).setCell (p:=Δ (g.heap.size+1) 6) (by show w.heap.size<=g.heap.size+1;omega) _⟩
def Qr{h:Ending->World->Prop}{e:World}{f:Array Value}{i:Func}(l:i.results= #[.cell 2 108,.tmp 3])(g:Nat){a b c d:Value}(j:CQ e g 108 [a,b,c,d])(v:Value)(h2:f[2]?=some (Az g))(h3:f[3]?=some v)
 (k:h (.returned (.tuple #[.agg #[a,b,c,d],v])) e):bodyPost prog i h Exit.ret {tmps:=f,defers:=[]} e:=by
 obtain⟨m,n,o,p,f0,f1,f2,f3⟩:=CO j;have q:=run_underlying (P:=prog) underlying108;refine bodyPost_ret (v:=.tuple #[.agg #[a,b,c,d],v]) (by simp[results,l,go_sem,h2,h3,m,n,o,p]) rfl k
def Dev.box{w:World}{d L:Nat}{ws:Nat->UInt64}{len:Mode}{mark:Nat->Nat}{own:Nat->Prop}(b:Dev w d L ws len mark own):∃a f g h,CQ w d 70 [.slice (some (Φ a)) L L,f,g,h]:=by
 obtain⟨a,hb,e,_⟩:=b;obtain⟨i,c⟩:=e.box;exact⟨a,_,_,_,c⟩
def Dev.size{w:World}{d L:Nat}{ws:Nat->UInt64}{len:Mode}{mark:Nat->Nat}{own:Nat->Prop}(c:Dev w d L ws len mark own)(e:L<=1024):Calls prog 21 #[Az d] w λa w'=>a=.returned (.int .i64 ((L*64:Nat):Int))/\w=w':=by
 obtain⟨b,_,_,_,f⟩:=c.box;exact Ot d L b _ _ _ w e f
def wX{w:World}{d L:Nat}{ws:Nat->UInt64}{own:Nat->Prop}{sh:Sh}(ac:0<L)(q:L<=1024)(F:shapeOf L=some sh)(a:Dev w d L ws M0 (λ_=>0) own)(bl:Tabs w)(bi:¬own 0)(bj:¬own 1):
 Calls prog 45 #[Az d] w λc w'=>c=.returned (.tuple #[wS sh,.int .i64 0])/\
  ∃aM,Dev w' d L (BK (BK ws 0 (BC (8*L) 0)) 0 (wordsOf sh)) M0 (λ_=>0) aM/\AP own aM w w':=by
 have bx:=IL F;have bB:=bx.lines;have D:=a.lt;obtain⟨bc,af⟩:=ε (L*64);have bE:=Aa (λz(a:Dev z d L ws M0 (λ_=>0) own)=>by have:=a.size q;rw[<-af]at this;exact this);have bL:(bc:Int)/64=(L:Int):=O;have t1:((L:Int)==0)=false:=ζ O;have ba:=Aa (λz=>Uo L z q);have V:Hid (ofV L=.tuple #[wS sh,.bool true]):=Aa (by rw[ofV,F];rfl);obtain⟨f,g,h,i,G⟩:∃f g h i:Nat,wS sh=.agg #[.int .i64 (f:Int),.int .i64 (g:Int),.int .i64 (h:Int),.int .i64 (i:Int)]:=⟨_,_,_,_,rfl⟩;have T:=Aa G;rw[G]at V;have n:CQ (w.alloc (.cells #[.int .i64 0,.int .i64 0,.int .i64 0,.int .i64 0] 108)) w.heap.size 108 [.int .i64 0,.int .i64 0,.int .i64 0,.int .i64 0]:=heap_alloc_new _ _;have s:η w (w.alloc (.cells #[.int .i64 0,.int .i64 0,.int .i64 0,.int .i64 0] 108)):=(Below.refl _ _).alloc (Ad _) _;have P:=Aa a;clear a af G;go_enter func45,ntmps45
 go_wp2_with fail
 obtain⟨be,av⟩:=ε (w.alloc (.cells #[.int .i64 0,.int .i64 0,.int .i64 0,.int .i64 0] 108));rw[<-av]at n s⊢;have bo:w.heap.size<be.heap.size:=n.lt;clear av;refine(bE.out _ (P.out.below s)).mono ?_;rintro c w'⟨rfl,rfl⟩
 go_wp2_with fail
 refine(ba.out _).mono ?_;rintro c l⟨rfl,C⟩;rw[V.out];have M:=τ s C;have K:=n.below C bo;have N:=Aa M;have bh:=Aa K;clear s C n K M
 go_wp2_with fail
 obtain⟨A,r⟩:=ε (l.alloc (.cells #[.int .i64 (f:Int),.int .i64 (g:Int),.int .i64 (h:Int),.int .i64 (i:Int)] 108));have an:CQ A l.heap.size 108 [.int .i64 (f:Int),.int .i64 (g:Int),.int .i64 (h:Int),.int .i64 (i:Int)]:=by rw[r];exact heap_alloc_new _ _
 have x:η l A:=by rw[r];exact(Below.refl _ _).alloc (Ad _) _
 have ah:=bh.out.ξ x;have o:=τ N.out x;have bO:w.heap.size<=l.heap.size:=N.out.size;have Y:=P.out.below o;have aq:=bl.below o;rw[<-r];clear r x;have Q:=Aa ah;have S:=Aa an;have a5:=Aa o;have v:=Aa aq;have W:=Aa (Acd ac q Y);clear ah an o aq Y;refine W.out.mono ?_;rintro c aR⟨rfl,u,Z,e,E⟩;have aH:¬own w.heap.size:=λa=>Ω (D _ a)
 have aL:¬own l.heap.size:=λa=>Ω (D _ a)
 have al:=Q.out.touch e aH;have B:=S.out.touch e aL;have ar:=v.out.keep (e.block _ v.out.lt.1 bi) (e.block _ v.out.lt.2 bj);have ad:AP own u w aR:=(AP.of_below a5.out).trans ⟨e,E⟩;obtain⟨a0,a1,a2,a3,_,_,_,_⟩:=CO B;have aE:∀b,b<A.heap.size->¬own b->¬u b:=λb D bp a=>(E b a).elim bp (λa=>O)
 have aG:=aE _ Q.out.lt aH;have bs:=aE _ S.out.lt aL;have bb:=Aa al;have bd:=Aa B;have a6:=Aa Z;have a8:=Aa ad;have m:=TN sh aR O (by rw[bB];exact F) ar.fours;rw[T.out]at m;have m:=Aa m;clear Z e E al B ar ad W
 go_wp2_with fail
 refine m.out.mono ?_;rintro c bA⟨bR,rfl,az,k⟩;obtain⟨a4,bg,rfl,bN,aB⟩:=CS az;obtain⟨bk,bm,aD,aw⟩:=a6.out;have aa:Dev bA d L (BK ws 0 (BC (8*L) 0)) M0 (λ_=>0) u:=⟨bk,bm,aD.below k,aw⟩;have j:=Zp ac q aa 0 8 bg a4 (wordsOf sh) O U aB;rw[show((8*0:Nat):Int)=0 from rfl]at j;have j:=Aa j;have am:=bb.out.ξ k;have ao:=bd.out.ξ k;have R:=Aa am;have bw:=Aa ao;have a9:=Aa (a8.out.below k);clear aa aD aw az aB k am ao a0 a1 a2 a3 m
 go_wp2_with fail
 refine j.out.mono ?_;rintro c I⟨rfl,J,ab,t,y⟩;have H:=R.out.touch t aG;have ap:=bw.out.touch t bs;have X:=Aa (a9.out.trans ⟨t,y⟩);have bt:¬J w.heap.size:=λa=>(y _ a).elim aG (λa=>Ω R.out.lt)
 have a7:=Aa ab;obtain⟨a0,a1,a2,a3,_,_,_,_⟩:=CO ap;obtain⟨bS,bT,bV,bW,f0,f1,f2,f3⟩:=CO H;have bq:=Aa H;clear ab t y H ap j
 go_wp2_with fail
 have br:=(((bq.out.AZ 0 (.int .i64 (f:Int))).AZ 1 (.int .i64 (g:Int))).AZ 2 (.int .i64 (h:Int))).AZ 3 (.int .i64 (i:Int));have t9:Touch (λb=>b=w.heap.size) I ((((I.setCell (Φ w.heap.size) (.int .i64 (f:Int))).setCell (Δ w.heap.size 1) (.int .i64 (g:Int))).setCell (Δ w.heap.size 2) (.int .i64 (h:Int))).setCell (Δ w.heap.size 3) (.int .i64 (i:Int))):=
  ((((Touch.refl (λb=>b=w.heap.size) I).setCell (p:=Φ w.heap.size) (.inl rfl) _).setCell (p:=Δ w.heap.size 1) (.inl rfl) _).setCell (p:=Δ w.heap.size 2) (.inl rfl) _).setCell (p:=Δ w.heap.size 3) (.inl rfl) _
 refine Qr rfl w.heap.size br (.int .i64 0) rfl rfl ?_;refine⟨by rw[T.out],J,a7.out.touch t9 (λb hb c=>bt (c▸hb)),⟨?_,X.out.own⟩⟩;exact(X.out.touch.trans t9 (λb hb=>.inr O))
def Vl(ws:Nat->UInt64)(sh:Sh):Value:=if wordsAt ws 0 8=wordsOf sh then .tuple #[wS sh,.int .i64 0]else .tuple #[.agg #[.int .i64 0,.int .i64 0,.int .i64 0,.int .i64 0],.int .i64 5]
def fZ{len:Mode}{w:World}{d L:Nat}{ws:Nat->UInt64}{own:Nat->Prop}{sh:Sh}(aR:0<L)(F:L<=1024)(I:shapeOf L=some sh)(a5:len.lf≠0)(m:Dev w d L ws len (λ_=>0) own)(a0:Tabs w):
 Calls prog 53 #[Az d] w λc w'=>c=.returned (Vl ws sh)/\η w w':=by
 have a9:=IL I;have bc:=a9.lines;obtain⟨aE,ad⟩:=ε (L*64);have bd:=Aa (λf(m:Dev f d L ws len (λ_=>0) own)=>by have:=m.size F;rw[<-ad]at this;exact this);have bk:(aE:Int)/64=(L:Int):=O;have t1:((L:Int)==0)=false:=ζ O;have az:=Aa (λf=>Uo L f F);have aa:Hid (ofV L=.tuple #[wS sh,.bool true]):=Aa (by rw[ofV,I];rfl);obtain⟨h,i,j,k,J⟩:∃h i j k:Nat,wS sh=.agg #[.int .i64 (h:Int),.int .i64 (i:Int),.int .i64 (j:Int),.int .i64 (k:Int)]:=⟨_,_,_,_,rfl⟩;have Z:=Aa J;rw[J]at aa;have t:CQ (w.alloc (.cells #[.int .i64 0,.int .i64 0,.int .i64 0,.int .i64 0] 108)) w.heap.size 108 [.int .i64 0,.int .i64 0,.int .i64 0,.int .i64 0]:=heap_alloc_new _ _;have n:η w (w.alloc (.cells #[.int .i64 0,.int .i64 0,.int .i64 0,.int .i64 0] 108)):=(Below.refl _ _).alloc (Ad _) _;have bj:=Aa m;have X:=Aa (λf(a6:η w f)=>(m.below a6:Dev f d L ws len (λ_=>0) own));clear m ad J;go_enter func53,ntmps53
 go_wp2_with fail
 obtain⟨ab,ah⟩:=ε (w.alloc (.cells #[.int .i64 0,.int .i64 0,.int .i64 0,.int .i64 0] 108));rw[<-ah]at t n⊢;have a2:w.heap.size<ab.heap.size:=t.lt;clear ah;refine(bd.out _ (X.out _ n)).mono ?_;rintro c w'⟨rfl,rfl⟩;obtain⟨aM,a1,aq,a4⟩:=X.out _ n;have l:=jP d L ws _ _ aM a1 0 8 ab aR F a5 aq O;rw[show((8*0:Nat):Int)=0 from rfl]at l;have l:=Aa l;clear aq a4
 go_wp2_with fail
 refine l.out.mono ?_;rintro c ba⟨bo,rfl,al,H⟩;obtain⟨P,aH,rfl,bl,an⟩:=CS al;have V:=τ n H;have S:=t.below H a2;have Y:Hid (Ws ba P 8 (wordsAt ws 0 8)):=Aa an;have av:=Aa V;have E:=Aa S;clear n H t S V al an l
 go_wp2_with fail
 refine(az.out _).mono ?_;rintro c N⟨rfl,x⟩;rw[aa.out];have T:=τ av.out x;have a3:=E.out.lt;have Q:=E.out.below x a3;have ao:=Y.out.below x;obtain⟨B,v⟩:=ε (N.alloc (.cells #[.int .i64 (h:Int),.int .i64 (i:Int),.int .i64 (j:Int),.int .i64 (k:Int)] 108));have u:η N B:=by rw[v];exact(Below.refl _ _).alloc (Ad _) _
 have af:CQ B N.heap.size 108 [.int .i64 (h:Int),.int .i64 (i:Int),.int .i64 (j:Int),.int .i64 (k:Int)]:=by rw[v];exact heap_alloc_new _ _
 have R:=Q.ξ u;have A:=τ T u;have s:=TN sh B O (by rw[bc];exact I) (a0.below A).fours;rw[Z.out]at s;have s:=Aa s;have aB:=Aa (ao.below u);have aG:=Aa af;have a7:=Aa R;have aw:=Aa A;have aD:=Aa v;clear T Q ao u af R A x v E Y
 go_wp2_with fail
 rw[<-aD.out];refine s.out.mono ?_;rintro c b⟨bp,rfl,am,o⟩;obtain⟨ar,aL,rfl,bm,ap⟩:=CS am;have HEq:=Aa (Qn P ar 8 8 aH aL (wordsAt ws 0 8) (wordsOf sh) b U U (aB.out.below o) ap);have a8:=Aa (aG.out.ξ o);have ac:=Aa (a7.out.ξ o);have W:=Aa (τ aw.out o);clear am ap o s;by_cases g:wordsAt ws 0 8=wordsOf sh
 ·rw[decide_eq_true g]at HEq;have y:Hid (Vl ws sh=.tuple #[wS sh,.int .i64 0]):=Aa (by rw[Vl,if_pos g]);clear g
  go_wp2_with fail
  refine HEq.out.mono ?_;rintro c bb⟨rfl,q,rfl⟩;have G:=a8.out.ξ ((Dr.one b q).below _);have a:=ac.out.ξ ((Dr.one b q).below _);obtain⟨C,e⟩:=ε (b.drewN q);have r:η w C:=W.out.trans ((by rw[e];exact(Dr.one b q).below _));rw[<-e]at G a⊢;clear e;obtain⟨bq,br,bs,bt,_,_,_,_⟩:=CO G;obtain⟨be,bg,bh,bi,f0,f1,f2,f3⟩:=CO a;have K:=Aa a;have z:=Aa r;clear a G r
  go_wp2_with fail
  have M:=(((K.out.AZ 0 (.int .i64 (h:Int))).AZ 1 (.int .i64 (i:Int))).AZ 2 (.int .i64 (j:Int))).AZ 3 (.int .i64 (k:Int));have D:=(((z.out.setCell (p:=Φ w.heap.size) (Ad _) (.int .i64 (h:Int))).setCell (p:=Δ w.heap.size 1) (Ad _) (.int .i64 (i:Int))).setCell (p:=Δ w.heap.size 2) (Ad _) (.int .i64 (j:Int))).setCell (p:=Δ w.heap.size 3) (Ad _) (.int .i64 (k:Int));refine Qr rfl w.heap.size M (.int .i64 0) rfl rfl ?_;exact⟨by rw[y.out,Z.out],D⟩
 ·rw[decide_eq_false g]at HEq;have y:Hid (Vl ws sh=.tuple #[.agg #[.int .i64 0,.int .i64 0,.int .i64 0,.int .i64 0],.int .i64 5]):=Aa (by rw[Vl,if_neg g]);clear g
  go_wp2_with fail
  refine HEq.out.mono ?_;rintro c bb⟨rfl,q,rfl⟩;have a:=ac.out.ξ ((Dr.one b q).below _);obtain⟨C,e⟩:=ε (b.drewN q);have r:η w C:=W.out.trans ((by rw[e];exact(Dr.one b q).below _));rw[<-e]at a⊢;clear e;obtain⟨be,bg,bh,bi,f0,f1,f2,f3⟩:=CO a;have K:=Aa a;have z:=Aa r;clear a r
  go_wp2_with fail
  have M:=(((K.out.AZ 0 (.int .i64 0)).AZ 1 (.int .i64 0)).AZ 2 (.int .i64 0)).AZ 3 (.int .i64 0);have D:=(((z.out.setCell (p:=Φ w.heap.size) (Ad _) (.int .i64 0)).setCell (p:=Δ w.heap.size 1) (Ad _) (.int .i64 0)).setCell (p:=Δ w.heap.size 2) (Ad _) (.int .i64 0)).setCell (p:=Δ w.heap.size 3) (Ad _) (.int .i64 0);refine Qr rfl w.heap.size M (.int .i64 5) rfl rfl ?_;exact⟨by rw[y.out],D⟩
structure Jm where
 s:Ms
 made:List Int
def JF(a n:Nat):Nat:=n+((a+n-1)/8-a/8+1)+1
def DD(a:Jm)(n:Nd):Jm×UInt64×Int:=
 if !Cf n then(a,0,5)else
 match CP a.s.s (Dl n)with
 |none=>(a,0,6)
 |some (b,f)=>
  match Lj ⟨a.s.pw,f⟩ (JF (b/8) (DT n).length) (BK f.ws (b/8) (DT n))with
  |(e,c)=>if c=0 then
     match IP e b with
     |(g,d)=>if d=0 then(⟨g,a.made++[(b:Int)]⟩,Aj b,0)else(⟨g,a.made++[(b:Int)]⟩,0,d)
   else(⟨e,a.made++[(b:Int)]⟩,0,c)
def Gj(a:Jm)(n:Nd)(c:UInt8)(b:UInt64)(e:Int):Jm×UInt64×Int:=
 if e≠0 then(a,0,e)else
 if Jy n c b then DD a (Ib n c b)else(a,0,5)
def JA:Nat->Jm->List UInt8->UInt64->Jm×UInt64×Int
 |0,b,_,_=>(b,0,5)
 |e+1,b,a,c=>
  if a.length<=15 then DD b ⟨a,c,[],[]⟩else
  match JA e b (a.drop 16) c with
  |(f,g,d)=>Gj f ⟨a.take 15,0,[],[]⟩ (a.getD 15 0) g d
def Jd(e:Jm)(x:Nd)(rest:List UInt8)(d:UInt64):Jm×UInt64×Int:=
 if common x.pre rest=x.pre.length then
  match JA (rest.length+1) e (rest.drop (common x.pre rest+1)) d with
  |(a,c,b)=>Gj a x (rest.getD (common x.pre rest) 0) c b
 else
  match DD e {x with pre:=x.pre.drop (common x.pre rest+1)}with
  |(a,c,b)=>
   if common x.pre rest=rest.length then Gj a ⟨x.pre.take (common x.pre rest),d,[],[]⟩ (x.pre.getD (common x.pre rest) 0) c b else
   if b≠0 then(a,0,b)else
   if Jy ⟨x.pre.take (common x.pre rest),0,[],[]⟩ (x.pre.getD (common x.pre rest) 0) c then
    match JA (rest.length+1) a (rest.drop (common x.pre rest+1)) d with
    |(h,f,g)=>Gj h (Ib ⟨x.pre.take (common x.pre rest),0,[],[]⟩ (x.pre.getD (common x.pre rest) 0) c) (rest.getD (common x.pre rest) 0) f g
   else(a,0,5)
def Kt(q:Ms)(l:List Int):Ms:=l.foldl (λq a=>(Eh q a).1) q
def J6:Ms->List Int->Int->Ms×Int
 |q,[],a=>(q,a)
 |q,b::c,a=>J6 (Eh q b).1 c (if a=0 then(Eh q b).2 else a)
def Ey(a:Jm)(e:Int)(g:Int)(d:UInt64)(f:List Int):Ms×Int:=
 if e≠0 then(Kt a.s a.made,e)else
 match Lj a.s 3 (D9 a.s.s.ws (g.toNat/8) d)with
 |(c,b)=>if b=0 then J6 c f 0 else(Kt c a.made,b)
def LW(q:Ms)(a:Pl)(n:UInt64):Ms×Int:=Lj q 3 (D9 q.s.ws (a.off.toNat/8+2) n)
def Na(q:Ms)(key:List UInt8)(c:UInt64):Ms×Int:=
 if 16<key.length then(q,3)else if c=0 then(q,2)else
 match EY q.s key with
 |none=>(q,5)
 |some (g,b)=>match CX g b with
  |some a=>LW q a c
  |none=>match g.getLast? with
   |none=>match JA (b.length+1) ⟨q,[]⟩ b c with
    |(e,f,d)=>Ey e d 72 f []
   |some a=>match Jd ⟨q,[]⟩ a.nd b c with
    |(e,f,d)=>Ey e d a.word f [a.off]
def LX(a:Jm)(c:List Pl):Ms×Int:=
 match Hg c (c.length-1) [(c.getLast?.map (·.off)).getD 0]with
 |(0,d)=>Ey a 0 72 0 d
 |(e+1,d)=>match c[e]?,c[e+1]? with
  |some b,some f=>match Jk b.nd.labels f.label with
   |some h=>if Cf b.nd then match DD a (Ru b.nd h)with
    |(i,j,g)=>Ey i g b.word j (d++[b.off])
    else(a.s,5)
   |none=>(a.s,5)
  |_,_=>(a.s,5)
def Ox(q:Ms)(key:List UInt8):Ms×UInt64×Int:=
 if 16<key.length then(q,0,3)else
 match EY q.s key with
 |none=>(q,0,5)
 |some (f,g)=>match CX f g with
  |none=>(q,0,7)
  |some a=>if a.nd.val=0 then(q,0,7)else
   match(if a.nd.kids.length=0 then LX ⟨q,[]⟩ f else(q,6))with
   |(c,b)=>if b=6 then match LW c a 0 with
    |(e,d)=>if d=0 then(e,a.nd.val,0)else(e,0,d)
    else if b=0 then(c,a.nd.val,0)else(c,0,b)
def uM(a:Jb):Jm:=⟨⟨.up (-1),a.s⟩,a.made⟩
def Qu(a:Jb)(n:Nd):DD (uM a) n=(uM (FY a n).1,(FY a n).2):=by
 unfold DD FY;cases Cf n
 ·rfl
 ·simp only[Bool.not_true,Bool.false_eq_true,if_false,uM];cases CP a.s (Dl n)with
  |none=>rfl
  |some b=>
   obtain⟨c,d⟩:=b;simp only[Qq,fO,if_true];split<;>rfl
def Qv(a:Jb)(n:Nd)(c:UInt8)(b:UInt64)(e:Int):Gj (uM a) n c b e=(uM (Iy a n c b e).1,(Iy a n c b e).2):=by
 unfold Gj Iy;split
 ·rfl
 ·split
  ·exact Qu _ _
  ·rfl
def SN:∀(f:Nat)(a:Jb)(l:List UInt8)(b:UInt64),JA f (uM a) l b=(uM (MV f a l b).1,(MV f a l b).2)
 |0,a,l,b=>rfl
 |f+1,a,l,b=>by
  unfold JA MV;split
  ·exact Qu _ _
  ·rw[SN f];exact Qv _ _ _ _ _
def Aci(a:Jb)(x:Nd)(rest:List UInt8)(b:UInt64):Jd (uM a) x rest b=(uM (QM a x rest b).1,(QM a x rest b).2):=by
 unfold Jd QM;split
 ·rw[SN];exact Qv _ _ _ _ _
 ·rw[Qu];generalize FY a {x with pre:=x.pre.drop (common x.pre rest+1)}=c;obtain⟨e,f,d⟩:=c;simp only;split
  ·exact Qv _ _ _ _ _
  ·split
   ·rfl
   ·split
    ·rw[SN];exact Qv _ _ _ _ _
    ·rfl
def Zy:∀(l:List Int)(s:St),Kt ⟨.up (-1),s⟩ l=⟨.up (-1),Ez s l⟩
 |[],s=>rfl
 |a::l,s=>by
  show Kt (Eh ⟨.up (-1),s⟩ a).1 l=_;rw[NV];exact Zy l _
def X5:∀(l:List Int)(s:St)(e:Int),J6 ⟨.up (-1),s⟩ l e=(⟨.up (-1),(JZ s l e).1⟩,(JZ s l e).2)
 |[],s,e=>rfl
 |a::l,s,e=>by
  unfold J6 JZ;rw[NV];exact X5 l _ _
def OL(a:Jb)(e d:Int)(b:UInt64)(c:List Int):Ey (uM a) e d b c=(⟨.up (-1),(EI a e d b c).1⟩,(EI a e d b c).2):=by
 unfold Ey EI;split
 ·simp only[uM,Zy]
 ·simp only[uM,Qq,if_true,X5]
def Us(s:St)(pl:Pl)(n:UInt64):LW ⟨.up (-1),s⟩ pl n=(⟨.up (-1),Qk s pl n⟩,0):=Qq _ _ _
def Zz(s:St)(key:List UInt8)(a:UInt64):Na ⟨.up (-1),s⟩ key a=(⟨.up (-1),(JD s key a).1⟩,(JD s key a).2):=by
 unfold Na JD;split
 ·rfl
 ·split
  ·rfl
  ·cases EY s key with
   |none=>rfl
   |some wr=>
    obtain⟨b,d⟩:=wr;simp only;cases CX b d with
    |some c=>exact Us _ _ _
    |none=>
     simp only;cases b.getLast? with
     |none=>
      simp only;rw[show(⟨⟨.up (-1),s⟩,[]⟩:Jm)=uM ⟨s,[]⟩from rfl,SN];exact OL _ _ _ _ _
     |some c=>
      simp only;rw[show(⟨⟨.up (-1),s⟩,[]⟩:Jm)=uM ⟨s,[]⟩from rfl,Aci];exact OL _ _ _ _ _
def wZ(c:Jb)(a:List Pl):LX (uM c) a=(⟨.up (-1),(Ko c a).1⟩,(Ko c a).2):=by
 unfold LX Ko;generalize Hg a (a.length-1) [(a.getLast?.map (·.off)).getD 0]=e;obtain⟨b,h⟩:=e;cases b with
 |zero=>exact OL _ _ _ _ _
 |succ b=>
  simp only;cases a[b]? with
  |none=>rfl
  |some f=>
   cases a[b+1]? with
   |none=>rfl
   |some d=>
    simp only;cases Jk f.nd.labels d.label with
    |none=>rfl
    |some g=>
     simp only;split
     ·rw[Qu];exact OL _ _ _ _ _
     ·rfl
def oW(s:St)(key:List UInt8):Ox ⟨.up (-1),s⟩ key=(⟨.up (-1),(QX s key).1⟩,(QX s key).2):=by
 unfold Ox QX;split
 ·rfl
 ·cases EY s key with
  |none=>rfl
  |some wr=>
   obtain⟨a,c⟩:=wr;simp only;cases CX a c with
   |none=>rfl
   |some e=>
    simp only;split
    ·rfl
    ·split
     ·rw[show(⟨⟨.up (-1),s⟩,[]⟩:Jm)=uM ⟨s,[]⟩from rfl,wZ];generalize Ko ⟨s,[]⟩ a=b;obtain⟨f,d⟩:=b;simp only;split
      ·rw[Us];rfl
      ·split<;>rfl
     ·simp only[if_true,Us]
def oZ(w:World):Calls prog 53 #[.pointer none] w λc w'=>c=.returned (.tuple #[.agg #[.int .i64 0,.int .i64 0,.int .i64 0,.int .i64 0],.int .i64 1])/\η w w':=by
 have j:=λg=>Aa (size_nil g)
 have a:CQ (w.alloc (.cells #[.int .i64 0,.int .i64 0,.int .i64 0,.int .i64 0] 108)) w.heap.size 108 [.int .i64 0,.int .i64 0,.int .i64 0,.int .i64 0]:=heap_alloc_new _ _;have b:η w (w.alloc (.cells #[.int .i64 0,.int .i64 0,.int .i64 0,.int .i64 0] 108)):=(Below.refl _ _).alloc (Ad _) _;go_enter func53,ntmps53
 go_wp2_with fail
 obtain⟨k,d⟩:=ε (w.alloc (.cells #[.int .i64 0,.int .i64 0,.int .i64 0,.int .i64 0] 108));rw[<-d]at a b⊢;clear d;refine(j _).out.mono ?_;rintro c w'⟨rfl,rfl⟩;obtain⟨l,m,n,o,f0,f1,f2,f3⟩:=CO a;have e:=Aa a;have f:=Aa b;clear a b
 go_wp2_with fail
 have i:=(((e.out.AZ 0 (.int .i64 0)).AZ 1 (.int .i64 0)).AZ 2 (.int .i64 0)).AZ 3 (.int .i64 0);have h:=(((f.out.setCell (p:=Φ w.heap.size) (Ad _) (.int .i64 0)).setCell (p:=Δ w.heap.size 1) (Ad _) (.int .i64 0)).setCell (p:=Δ w.heap.size 2) (Ad _) (.int .i64 0)).setCell (p:=Δ w.heap.size 3) (Ad _) (.int .i64 0);refine Qr rfl w.heap.size i (.int .i64 1) rfl rfl ?_;exact⟨rfl,h⟩
section
variable{dv:Value}{er:Nat}
def Z4{w:World}(f:0<er)(d:Calls prog 53 #[dv] w λa w'=>a=.returned (.tuple #[.agg #[.int .i64 0,.int .i64 0,.int .i64 0,.int .i64 0],.int .i64 (er:Int)])/\η w w'):
 Calls prog 26 #[dv] w λa w'=>a=.returned (.tuple #[.pointer none,.int .i64 (er:Int)])/\η w w':=by
 have t0:((er:Int)==0)=false:=ζ O;have t1:(er==0)=false:=ζ O;have c:=Aa d;clear d;go_enter func26,ntmps26
 go_wp2_with fail
 refine c.out.mono ?_;rintro a g⟨rfl,e⟩;have b:=Aa e;clear e c
 go_wp2_with fail
 go_ret2;exact⟨rfl,b.out.alloc b.out.size _⟩
def Z5{w:World}(C:0<er)(j:∀b,η w b->Calls prog 26 #[dv] b λc w'=>c=.returned (.tuple #[.pointer none,.int .i64 (er:Int)])/\η b w'):
 Calls prog 10 #[dv] w λc w'=>c=.returned (.tuple #[.agg #[.pointer none,.pointer none,.int .u64 0],.int .i64 (er:Int)])/\η w w':=by
 have t0:((er:Int)==0)=false:=ζ O;have t1:(er==0)=false:=ζ O;obtain⟨x,l,e,i⟩:=Fz w 45 [.pointer none,.pointer none,.int .u64 0];have g:=Aa (j x e);have q:=Aa e;have r:=Aa i;have t:=Aa l;clear j e i l;go_enter func10,ntmps10
 go_wp2_with fail
 rw[<-t.out];refine g.out.mono ?_;rintro c y⟨rfl,f⟩;have u:=Aa (τ q.out f);have a:=r.out.ξ f;have f0:=a.frozen 0;have f1:=a.frozen 1;have f2:=a.frozen 2;obtain⟨z,A,B⟩:=a.p3;have s:=Aa a;clear f a g
 go_wp2_with fail
 have d:=((s.out.AZ 0 (.pointer none)).AZ 1 (.pointer none)).AZ 2 (.int .u64 0);have h:=((u.out.setCell (p:=Φ w.heap.size) (Ad _) (.pointer none)).setCell (p:=Δ w.heap.size 1) (Ad _) (.pointer none)).setCell (p:=Δ w.heap.size 2) (Ad _) (.int .u64 0);obtain⟨b,k⟩:=ε (((y.setCell (Φ w.heap.size) (.pointer none)).setCell (Δ w.heap.size 1) (.pointer none)).setCell (Δ w.heap.size 2) (.int .u64 0));rw[<-k];rw[<-k]at d h;have m:=d.cell 0;have n:=d.cell 1;have o:=d.cell 2;simp at m n o;refine bodyPost_ret (v:=.tuple #[.agg #[.pointer none,.pointer none,.int .u64 0],.int .i64 (er:Int)]) (by simp[results,results10,go_sem,m,n,o]) rfl ?_;exact⟨rfl,h⟩
end
def pg(w:World):Calls prog 10 #[.pointer none] w λb w'=>b=.returned (.tuple #[.agg #[.pointer none,.pointer none,.int .u64 0],.int .i64 1])/\η w w':=
 Z5 (er:=1) U (λa _=>Z4 (er:=1) U (oZ a))
def Arl:Sh:={lines:=40,BQ:=2,table:=128,data:=192}
def Aj0:shapeOf 40=some Arl:=by decide+kernel
def pq{w:World}{d:Nat}{own:Nat->Prop}(c:Dev w d 40 (λ_=>0) M0 (λ_=>0) own)(e:Tabs w):Calls prog 10 #[Az d] w λb w'=>b=.returned (.tuple #[.agg #[.pointer none,.pointer none,.int .u64 0],.int .i64 5])/\η w w':=by
 have f:Vl (λ_=>0) Arl=.tuple #[.agg #[.int .i64 0,.int .i64 0,.int .i64 0,.int .i64 0],.int .i64 5]:=by
  unfold Vl;rw[if_neg (by decide+kernel)]
 refine Z5 (er:=5) U (λg a=>Z4 (er:=5) U ?_);have:=fZ U U Aj0 U (c.below a) (e.below a);rw[f]at this;exact this
