import Derived.Shelf.Spec.TrailingZeros
import Derived.Test.YtfmkofmaabgbkaaGreatDoorJ06
set_option linter.defProp false
set_option maxHeartbeats 32000000
set_option maxRecDepth 100000
open Go.Lib renaming ctz->Yb,hid->Ac
open Nat renaming testBit_two_pow_sub_succ->fJ,sub_self->U5,lt_of_lt_of_le->Be,zero_le->BA,mod_eq_of_lt->Gs,le_refl->Ae
open List renaming find?_eq_none->Xk,mem_range->GK,getElem?_eq_getElem->Ah,length_set->Dh,replicate->BB,replicate_succ->VG,set_append_right->U3,cons_append->BD,nil_append->EK,getElem?_map->DJ,length_map->CZ,length_cons->Bv,mem_cons_self->Bo,mem_cons_of_mem->Bz
open UInt64 renaming toNat_lt->YJ,ofNat->Az,toNat_ofNat'->Ia
open Int renaming natCast_add->Alj,natCast_mul->GI,tdiv_eq_ediv_of_nonneg->JZ
open Go.World renaming block_lt_of_cell?->Gu
open Go.Value renaming slice->fD,int->fP,bool->fU,tuple->gJ,agg->gU
open Go.Ending renaming returned->gY
open Go.IntKind renaming i64->gZ,u64->ig
open Go.Obj renaming cells->iy
open Option renaming some->iC
open Bool renaming true->jm,false->jw
open Go renaming World->jD,Value->jL
namespace Go.Proofs.YtfmkofmaabgbkaaGreatDoor
open Go.Proofs.Tryz
def Ah4(n c:Nat)(m:n<18446744073709551616)(r:c<=64):lQ n c=if Yb 64 (18446744073709551615-n)<c then iC (Yb 64 (18446744073709551615-n))else none:=by
 have k:∀a,a<64->(18446744073709551615-n).testBit a= !n.testBit a:=λa b=>by
  have:=fJ (n:=64) (x:=n) m a;rw[show 2^64-(n+1)=18446744073709551615-n by omega]at this;rw[this];simp[b]
 unfold lQ;by_cases d:18446744073709551615-n=0
 ·have e:Yb 64 (18446744073709551615-n)=64:=by rw[d];rfl
  rw[e,ku O,Xk];intro a b;have l:a<c:=GK.1 b;rw[<-k a O,d];simp
 ·obtain⟨p,i,j⟩:=Lib.ctzFrom_spec 64 (18446744073709551615-n) O O;have e:Yb 64 (18446744073709551615-n)=Lib.ctzFrom 64 (18446744073709551615-n):=by unfold Yb;rw[ku d]
  rw[e];generalize Lib.ctzFrom 64 (18446744073709551615-n)=f at i j;have hb:∀a,a<64->(!n.testBit a)=(decide (f<=a)&&(2*p+1).testBit (a-f)):=λa b=>by
   rw[<-k a b,i,Nat.testBit_two_pow_mul]
  split
  ·rename_i g;rw[List.find?_range_eq_some];refine⟨?_,GK.2 g,λo q=>?_⟩
   ·rw[hb f j,U5];simp
   ·rw[hb o O];simp;omega
  ·rename_i g;rw[Xk];intro a b;have l:a<c:=GK.1 b;rw[hb a O];simp;omega
def mY{n a k:Nat}(h:lQ n a=iC k):k<a:=by
 unfold lQ at h;exact GK.1 (List.mem_of_find?_eq_some h)
open Go.RowKit
def Wl(w:jD):Prop:=∀a,a<64->w.cell? (Δ 1 a)=iC (fP .u8 (Lib.deBruijn64tab.getD a 0:Nat))
def Wl.dr{w w':jD}(h:Wl w)(d:Dr w w'):Wl w':=by obtain⟨q,rfl⟩:=d;exact h
def Al9(w:jD):Calls prog 235 #[fP ig 0] w λa w'=>a=gY (fP gZ 64)/\w=w':=by
 go_enter func235,ntmps235;go_wp2;go_ret;exact⟨rfl,rfl⟩
def Ama(x k a:Nat)(w:jD)(e:((x:Int)==0)=jw)
 (key:IntKind.u64.wrap (bits BinOp.and IntKind.u64 (x:Int) (IntKind.u64.wrap (-(x:Int)))*285870213051353865)/288230376151711744=(a:Int))
 (hi:a<64)(d:k<64)(c:w.cell? (Δ 1 a)=iC (fP .u8 k)):
 Calls prog 235 #[fP ig x] w λb w'=>b=gY (fP gZ k)/\w=w':=by
 go_enter func235,ntmps235
 go_wp2_with(simp only[key])
 go_ret;exact⟨rfl,rfl⟩
def Apr(x:Nat)(e:x<18446744073709551616)(w:jD)(g:Wl w):
 Calls prog 235 #[fP ig x] w λf w'=>f=gY (fP gZ (Yb 64 x))/\w=w':=by
 by_cases a:x=0
 ·subst a;exact Al9 w
 ·obtain⟨i,d⟩:=Lib.lowest_bit 64 x a e;obtain⟨c,j⟩:=Lib.deBruijn64_at _ d;have b:=g _ c;rw[j]at b;exact Ama x _ _ w (by rw[beq_eq_false_iff_ne];omega) (tz64_key x _ e a i) c d b
def not_eq(n:Nat)(b:n<18446744073709551616):bits .xor ig IntKind.u64.max (n:Int)=((18446744073709551615-n:Nat):Int):=by
 rw[show IntKind.u64.max=((18446744073709551615:Nat):Int)from rfl,u64_xor_nat _ _ U b];congr 1;apply Nat.eq_of_testBit_eq;intro a;have c:=fJ (n:=64) (x:=n) b a;have d:=Nat.testBit_two_pow_sub_one 64 a;rw[show 2^64-(n+1)=18446744073709551615-n by omega]at c;rw[show 2^64-1=18446744073709551615 by decide]at d;rw[Nat.testBit_xor,c,d];by_cases e:a<64
 ·simp[e]
 ·have:n.testBit a=jw:=Nat.testBit_lt_two_pow (Be b (Nat.pow_le_pow_right (n:=2) U (by omega:64<=a)));simp[e,this]
def mZ(o:Option Nat):Int:=match o with
 |some a=>(a:Int)
 |none=> -1
def Amb(n b:Nat)(w:jD)(i:n<18446744073709551616)(k:b<=64)(j:Wl w):
 Calls prog 231 #[fP ig (n:Int),fP gZ (b:Int)] w λe w'=>e=gY (fP gZ (mZ (lQ n b)))/\Dr w w':=by
 have g:=Dr.refl w;have l:=not_eq n i;have c:=Ac (Apr (18446744073709551615-n) O w j);have a:=Ah4 n b i k;generalize Yb 64 (18446744073709551615-n)=d at a c;by_cases f:d<b
 ·rw[jM f]at a;rw[a,show mZ (iC d)=(d:Int)from rfl];clear a;go_enter func231,ntmps231
  go_wp2_with fail
  refine c.mono ?_;rintro e w'⟨rfl,rfl⟩
  go_wp2_with fail
  go_ret;exact⟨rfl,g⟩
 ·rw[ku f]at a;rw[a,show mZ none= -1 from rfl];clear a;go_enter func231,ntmps231
  go_wp2_with fail
  refine c.mono ?_;rintro e w'⟨rfl,rfl⟩
  go_wp2_with fail
  go_ret;exact⟨rfl,g⟩
def ja(x c:Nat)(w:jD)(m:x<18446744073709551616)(r:c<1000000):Calls prog 230 #[fP ig (x:Int),fP gZ (c:Int)] w λb w'=>b=gY (fU (MC x c))/\Dr w w':=by
 have a:=Dr.refl w;have f:=Ac (λi=>Vl x i m);have g:=Ac (λi=>GU c i r);cases e:Gx x
 ·rw[show MC x c=jw by simp[MC,e]];rw[e]at f;clear e;go_enter func230,ntmps230
  go_wp2_with fail
  refine(f _).mono ?_;rintro b w'⟨rfl,d⟩;replace a:=a.trans d
  go_wp2_with fail
  go_ret;exact⟨rfl,a⟩
 ·rw[e]at f;by_cases l:0<Bi c
  ·have t1:decide ((0:Int)<((Bi c:Nat):Int))=jm:=decide_eq_true O;have k:Hid (MC x c=(decide (x=0)||decide (Eb x=c))):=Ac (by
    have p:(x==0)=decide (x=0):=by rw[Bool.eq_iff_iff,beq_iff_eq,decide_eq_true_iff]
    have q:(Eb x==c)=decide (Eb x=c):=by rw[Bool.eq_iff_iff,beq_iff_eq,decide_eq_true_iff]
    rw[MC,e,decide_eq_true l,p,q];rfl)
   generalize Bi c=s at*;clear e;by_cases j:x=0
   ·have t0:((x:Int)==0)=jm:=by rw[beq_iff_eq];omega
    have n:=Ac j;clear j;go_enter func230,ntmps230
    go_wp2_with fail
    refine(f _).mono ?_;rintro b w'⟨rfl,d⟩;replace a:=a.trans d
    go_wp2_with fail
    refine(g _).mono ?_;rintro b w'⟨rfl,rfl⟩
    go_wp2_with fail
    rw[k.out,decide_eq_true n.out];go_ret;exact⟨rfl,a⟩
   ·have t0:((x:Int)==0)=jw:=ζ O;have o:Hid ((((Eb x:Nat):Int)==(c:Int))=decide (Eb x=c)):=Ac (by rw[Bool.eq_iff_iff,beq_iff_eq,decide_eq_true_iff];omega);go_enter func230,ntmps230
    go_wp2_with fail
    refine(f _).mono ?_;rintro b w'⟨rfl,d⟩;replace a:=a.trans d
    go_wp2_with fail
    refine(g _).mono ?_;rintro b w'⟨rfl,rfl⟩
    go_wp2_with fail
    refine(VX x _ m).mono ?_;rintro b w'⟨rfl,d⟩;replace a:=a.trans d
    go_wp2_with fail
    rw[k.out,decide_eq_false j,o.out];go_ret;exact⟨rfl,a⟩
  ·have t1:decide ((0:Int)<((Bi c:Nat):Int))=jw:=decide_eq_false O;rw[show MC x c=jw by simp[MC,l]];clear e;go_enter func230,ntmps230
   go_wp2_with fail
   refine(f _).mono ?_;rintro b w'⟨rfl,d⟩;replace a:=a.trans d
   go_wp2_with fail
   refine(g _).mono ?_;rintro b w'⟨rfl,rfl⟩
   go_wp2_with fail
   go_ret;exact⟨rfl,a⟩
def Xx(x c:Nat)(w:jD)(j:x<18446744073709551616)(i:c<1000000)(l:Wl w):Calls prog 220 #[fP ig (x:Int),fP gZ (c:Int)] w λd w'=>d=gY (fP gZ (mZ (Lh x c)))/\Dr w w':=by
 have a:=Dr.refl w;have m:=Adw x;have hb:=Js c;have f:=Ac (λg=>ja x c g j i);have k:=Ac (λg(h:Wl g)=>Amb (KA x) (Bi c) g O O h);cases e:MC x c
 ·rw[show Lh x c=none by simp[Lh,e],show mZ none= -1 from rfl];rw[e]at f;clear e;go_enter func220,ntmps220
  go_wp2_with fail
  refine(f _).mono ?_;rintro d w'⟨rfl,b⟩;replace a:=a.trans b
  go_wp2_with fail
  go_ret;exact⟨rfl,a⟩
 ·rw[show Lh x c=lQ (KA x) (Bi c)by simp[Lh,e]];rw[e]at f;clear e;go_enter func220,ntmps220
  go_wp2_with fail
  refine(f _).mono ?_;rintro d w'⟨rfl,b⟩;replace a:=a.trans b
  go_wp2_with fail
  refine(iV x _ j).mono ?_;rintro d w'⟨rfl,b⟩;replace a:=a.trans b
  go_wp2_with fail
  refine(GU c _ i).mono ?_;rintro d w'⟨rfl,rfl⟩
  go_wp2_with fail
  refine(k _ (l.dr a)).mono ?_;rintro d w'⟨rfl,b⟩;replace a:=a.trans b
  go_wp2_with fail
  go_ret;exact⟨rfl,a⟩
def aC(x c a:Nat)(b:x<18446744073709551616)(d:a<=16):(FU x c a).1<18446744073709551616:=by
 unfold FU;split
 ·exact b
 ·exact Qs _ _ _ _ (Qs _ _ _ _ b O) O
def aG(x a:Nat)(b:x<18446744073709551616)(c:a<=16):(Em x a).1<18446744073709551616:=by
 unfold Em;split
 ·exact b
 ·split
  ·decide
  ·exact Qs _ _ _ _ b O
def take_any(x c a:Nat)(w:jD)(l:x<18446744073709551616)(t:c<4)(s:a<=16):Calls prog 221 #[fP ig (x:Int),fP gZ (c:Int),fP gZ (a:Int)] w λe w'=>e=gY (gJ #[fP ig ((FU x c a).1:Nat),fU (FU x c a).2])/\Dr w w':=by
 have b:=Dr.refl w;have i:=Ac (λg=>ja x c g l O);have t0:decide ((a:Int)<0)=jw:=by simp
 cases f:MC x c
 ·rw[show FU x c a=(x,jw)by simp[FU,f]];rw[f]at i;clear f;go_enter func221,ntmps221
  go_wp2_with fail
  refine(i _).mono ?_;rintro e w'⟨rfl,d⟩;replace b:=b.trans d
  go_wp2_with fail
  go_ret2;exact⟨rfl,b⟩
 ·rw[f]at i;by_cases p:Bi c<=a
  ·have t1:decide (((Bi c:Nat):Int)<=(a:Int))=jm:=decide_eq_true O;rw[show FU x c a=(x,jw)by simp[FU,p]];clear f;go_enter func221,ntmps221
   go_wp2_with fail
   refine(i _).mono ?_;rintro e w'⟨rfl,d⟩;replace b:=b.trans d
   go_wp2_with fail
   refine(GU c _ O).mono ?_;rintro e w'⟨rfl,rfl⟩
   go_wp2_with fail
   go_ret2;exact⟨rfl,b⟩
  ·have t1:decide (((Bi c:Nat):Int)<=(a:Int))=jw:=decide_eq_false O;have k:=Ac (λg=>Tn x a g l O);cases j:EM x a
   ·rw[j]at k;have q:=Qs x a 1 1 l O;have n:=Ac (λg=>Tm x a 1 1 g l U O);have o:=Ac (λg=>Tm (EC x a 1 1) 16 2 c g q O U);have r:IntKind.u64.wrap (c:Int)=(c:Int):=by rw[IntKind.wrap_u64];omega
    have m:Hid (FU x c a=(EC (EC x a 1 1) 16 2 c,jm)):=Ac (by simp only[FU,f,j];simp;omega);clear f j;go_enter func221,ntmps221
    go_wp2_with fail
    refine(i _).mono ?_;rintro e w'⟨rfl,d⟩;replace b:=b.trans d
    go_wp2_with fail
    refine(GU c _ O).mono ?_;rintro e w'⟨rfl,rfl⟩
    go_wp2_with fail
    refine(k _).mono ?_;rintro e w'⟨rfl,d⟩;replace b:=b.trans d
    go_wp2_with fail
    refine(n _).mono ?_;rintro e w'⟨rfl,d⟩;replace b:=b.trans d
    go_wp2_with fail
    refine(o _).mono ?_;rintro e w'⟨rfl,d⟩;replace b:=b.trans d
    go_wp2_with fail
    rw[m.out];go_ret2;exact⟨rfl,b⟩
   ·rw[j]at k;rw[show FU x c a=(x,jw)by simp[FU,j]];clear f j;go_enter func221,ntmps221
    go_wp2_with fail
    refine(i _).mono ?_;rintro e w'⟨rfl,d⟩;replace b:=b.trans d
    go_wp2_with fail
    refine(GU c _ O).mono ?_;rintro e w'⟨rfl,rfl⟩
    go_wp2_with fail
    refine(k _).mono ?_;rintro e w'⟨rfl,d⟩;replace b:=b.trans d
    go_wp2_with fail
    go_ret2;exact⟨rfl,b⟩
def Wn(x a:Nat)(w:jD)(j:x<18446744073709551616)(n:a<=16):Calls prog 146 #[fP ig (x:Int),fP gZ (a:Int)] w λd w'=>d=gY (gJ #[fP ig ((Em x a).1:Nat),fU (Em x a).2])/\Dr w w':=by
 have b:=Dr.refl w;have f:=Ac (λg=>Tn x a g j O);cases e:EM x a
 ·rw[e]at f;rw[show Em x a=(x,jw)by simp[Em,e]];clear e;go_enter func146,ntmps146
  go_wp2_with fail
  refine(f _).mono ?_;rintro d w'⟨rfl,c⟩;replace b:=b.trans c
  go_wp2_with fail
  go_ret2;exact⟨rfl,b⟩
 ·rw[e]at f;have m:=Qs x a 1 0 j O;have l:=Ac (λg=>Tm x a 1 0 g j U O);have k:=Ac (λg=>iV (EC x a 1 0) g m);by_cases i:KA (EC x a 1 0)=0
  ·have t0:(((KA (EC x a 1 0):Nat):Int)==0)=jm:=by rw[beq_iff_eq];omega
   rw[show Em x a=(0,jm)by simp[Em,e,i]];clear e i;go_enter func146,ntmps146
   go_wp2_with fail
   refine(f _).mono ?_;rintro d w'⟨rfl,c⟩;replace b:=b.trans c
   go_wp2_with fail
   refine(l _).mono ?_;rintro d w'⟨rfl,c⟩;replace b:=b.trans c
   go_wp2_with fail
   refine(k _).mono ?_;rintro d w'⟨rfl,c⟩;replace b:=b.trans c
   go_wp2_with fail
   go_ret2;exact⟨rfl,b⟩
  ·have t0:(((KA (EC x a 1 0):Nat):Int)==0)=jw:=ζ O;rw[show Em x a=(EC x a 1 0,jm)by simp[Em,e,i]];clear e i;go_enter func146,ntmps146
   go_wp2_with fail
   refine(f _).mono ?_;rintro d w'⟨rfl,c⟩;replace b:=b.trans c
   go_wp2_with fail
   refine(l _).mono ?_;rintro d w'⟨rfl,c⟩;replace b:=b.trans c
   go_wp2_with fail
   refine(k _).mono ?_;rintro d w'⟨rfl,c⟩;replace b:=b.trans c
   go_wp2_with fail
   go_ret2;exact⟨rfl,b⟩
def Av1{w:jD}{g:Nat}{e:TypeId}{a b c d j f i:jL}(h:CB w g e [a,b,c,d,j,f,i]):
 w.cell? (Φ g)=iC a/\w.cell? (Δ g 1)=iC b/\w.cell? (Δ g 2)=iC c/\w.cell? (Δ g 3)=iC d/\w.cell? (Δ g 4)=iC j/\w.cell? (Δ g 5)=iC f/\w.cell? (Δ g 6)=iC i:=
 ⟨h.cell 0,h.cell 1,h.cell 2,h.cell 3,h.cell 4,h.cell 5,h.cell 6⟩
def Amc{P:Program}{f:FuncId}{args:Array jL}{a:jD}{n:Nat}{v:jL}(h:Calls P f args (a.drewN n) λb w'=>b=gY v/\Dr (a.drewN n) w'):
 Calls P f args (a.drewN n) λb g=>b=gY v/\∃c,g=a.drewN c:=
 h.mono λ_ _⟨d,c,e⟩=>⟨d,n+c,by rw[e,World.drewN_drewN]⟩
def Av2{P:Program}{f:FuncId}{args:Array jL}{a:jD}{n:Nat}{v:jL}(h:Calls P f args (a.drewN n) λb w'=>b=gY v/\a.drewN n=w'):
 Calls P f args (a.drewN n) λb g=>b=gY v/\∃e,g=a.drewN e:=
 h.mono λ_ _⟨c,d⟩=>⟨c,n,d.symm⟩
structure IX(w:jD)(d p L:Nat)(s:St)(tb hb n cT cH:Nat):Prop where
 y0:w.cell? (Φ p)=iC (ptr0 d)
 y1:w.cell? (Δ p 1)=iC (fP gZ (s.sh.lines:Nat))
 y2:w.cell? (Δ p 2)=iC (fP gZ (s.sh.BO:Nat))
 y3:w.cell? (Δ p 3)=iC (fP gZ (s.sh.table:Nat))
 y4:w.cell? (Δ p 4)=iC (fP gZ (s.sh.data:Nat))
 y5:w.cell? (Δ p 5)=iC (fD (iC (Φ tb)) n cT)
 y6:w.cell? (Δ p 6)=iC (fD (iC (Φ hb)) n cH)
 tk:∀i,i<n->w.cell? (Δ tb i)=iC (fP ig (GZ s i:Nat))
 hd:∀i,i<n->w.cell? (Δ hb i)=iC (fP ig (hdN s i:Nat))
 ok:gI L s.sh
 L1:L<=1024
 iZ:n=s.sh.BO
 Rj:s.tk.length=n
def getD_at(xs:List UInt64)(i:Nat)(h:i<xs.length):xs.getD i 0=xs[i]:=by
 rw[List.getD_eq_getElem?_getD,Ah h];rfl
def EO.at{len:Dq}{w:jD}{d p L:Nat}{s:St}{tb hb n cT cH:Nat}{own:Nat->Prop}(h:EO len w d p L s tb hb n cT cH own):IX w d p L s tb hb n cT cH:=by
 obtain⟨e,f,g,i,j,k,l⟩:=Av1 h.box;refine⟨e,f,g,i,j,k,l,λb c=>?_,λb c=>?_,IK h.shape,h.L1,h.iZ,h.Rj⟩
 ·have a:b<s.tk.length:=by rw[h.Rj];exact c
  rw[h.tk.cell b a,GZ,getD_at _ _ a]
 ·have a:b<s.hd.length:=by rw[h.xn];exact c
  rw[h.hd.cell b a,hdN,getD_at _ _ a]
def Rk(s:St)(i:Nat):GZ s i<18446744073709551616:=YJ _
def MM(s:St)(i:Nat):hdN s i<18446744073709551616:=YJ _
def OJ(s:St)(i:Nat):C9 s i<18446744073709551616:=Nat.or_lt_two_pow (n:=64) (Rk s i) (MM s i)
section
variable{w:jD}{d p L:Nat}{s:St}{tb hb n cT cH:Nat}
def Hf(h:IX w d p L s tb hb n cT cH):Calls prog 59 #[ptr0 p] w λa w'=>a=gY (fU jw)/\w=w':=by
 have b:=h.y0;clear h;go_enter func59,ntmps59;go_wp2;go_ret;exact⟨rfl,rfl⟩
def yO(h:IX w d p L s tb hb n cT cH)(i:Nat)(hi:i<n):Calls prog 115 #[ptr0 p,fP gZ (i:Int)] w λa w'=>a=gY (fP gZ ((8*(s.sh.table/8+i):Nat):Int))/\w=w':=by
 have c:=h.y3;have b:=h.ok.table;have g:=h.iZ;have f:=h.ok.fits;have e:=h.L1;rw[b]at c;rw[show 8*(s.sh.table/8+i)=128+8*i by omega];clear h;go_enter func115,ntmps115;go_wp2;go_ret;exact⟨by go_num,rfl⟩
def MN(h:IX w d p L s tb hb n cT cH)(i:Nat)(hi:i<n):Calls prog 174 #[ptr0 p,fP gZ (i:Int)] w λb w'=>b=gY (fP ig (C9 s i:Nat))/\Dr w w':=by
 have f:=h.y5;have g:=h.y6;have c:=h.tk i hi;have e:=h.hd i hi;have a:=Ac (u64_or_nat (GZ s i) (hdN s i) (Rk s i) (MM s i));clear h;go_enter func174,ntmps174
 go_wp2_with fail
 go_quiet(fail)
 go_wp2_with fail
 rw[a.out];go_ret;exact⟨rfl,_,rfl⟩
def Vp(h:IX w d p L s tb hb n cT cH)(i c a:Nat)(hi:i<n)(m:c<4)(k:a<=16):Calls prog 61 #[ptr0 p,fP gZ (i:Int),fP gZ (c:Int),fP gZ (a:Int)] w λj w'=>j=gY (fP gZ (Df s.sh i c a:Nat))/\Dr w w':=by
 have A:=h.y4;have t:=h.iZ;have o:=h.ok.fits;have l:=h.L1;have q:=iU c;have r:64*Bd c*a<=256*16:=Nat.mul_le_mul O k;have g:Hid (((Df s.sh i c a:Nat):Int)=(s.sh.data:Int)+1024*(i:Int)+64*((Bd c:Nat):Int)*(a:Int)):=Ac (by unfold Df;rw[Alj,Alj,GI,GI,GI];rfl);have e:(64:Int)*((Bd c:Nat):Int)*(a:Int)=((64*Bd c*a:Nat):Int):=by rw[GI,GI];rfl
 have f:=Ac (PV c · O);generalize Bd c=b at*;have u:IntKind.i64.wrap (1024*(i:Int))=1024*(i:Int):=IntWalk.i64_in _ O;have v:IntKind.i64.wrap ((s.sh.data:Int)+1024*(i:Int))=(s.sh.data:Int)+1024*(i:Int):=IntWalk.i64_in _ O;have x:IntKind.i64.wrap (64*(b:Int))=64*(b:Int):=IntWalk.i64_in _ O;have y:IntKind.i64.wrap (64*(b:Int)*(a:Int))=64*(b:Int)*(a:Int):=IntWalk.i64_in _ (by rw[e];omega);have z:IntKind.i64.wrap ((s.sh.data:Int)+1024*(i:Int)+64*(b:Int)*(a:Int))=(s.sh.data:Int)+1024*(i:Int)+64*(b:Int)*(a:Int):=IntWalk.i64_in _ (by rw[e];omega);clear h e;go_enter func61,ntmps61
 go_wp2_with fail
 go_quiet((go_at_call 100;exact Av2 (f _)))
 go_wp2_with fail
 rw[g.out];go_ret;exact⟨rfl,_,rfl⟩
def IX.dr{w':jD}(h:IX w d p L s tb hb n cT cH)(k:Dr w w'):IX w' d p L s tb hb n cT cH:=by
 obtain⟨q,rfl⟩:=k;exact⟨h.y0,h.y1,h.y2,h.y3,h.y4,h.y5,h.y6,h.tk,h.hd,h.ok,h.L1,h.iZ,h.Rj⟩
def IL(s:St)(off:Int):jL:=match Iq s off with
 |some (b,a)=>gJ #[fP gZ (b:Int),fP gZ (a:Int),fU jm]
 |none=>gJ #[fP gZ 0,fP gZ 0,fU jw]
def IU(h:IX w d p L s tb hb n cT cH)(off:Int)(R: -9223372036854775808<=off/\off<=9223372036854775807):Calls prog 145 #[ptr0 p,fP gZ off] w λg w'=>g=gY (IL s off)/\Dr w w':=by
 have aa:=h.y4;have ab:=h.y5;have z:=h.iZ;have o:=h.Rj;have x:=h.ok.fits;have v:=h.L1;have u:=Ac h;by_cases k:off<(s.sh.data:Int)
 ·have t1:decide (off<(s.sh.data:Int))=jm:=decide_eq_true k;have i:Hid (IL s off=gJ #[fP gZ 0,fP gZ 0,fU jw]):=Ac (by rw[IL,Iq,jM (.inl k)]);clear h k z o x v;go_enter func145,ntmps145
  go_wp2_with fail
  go_quiet(fail)
  go_wp2_with fail
  go_ret3
  exact⟨by rw[i.out];rfl,_,rfl⟩
 ·have t1:decide (off<(s.sh.data:Int))=jw:=decide_eq_false k;have Y:IntKind.i64.wrap (1024*(n:Int))=1024*(n:Int):=IntWalk.i64_in _ O;have Z:IntKind.i64.wrap ((s.sh.data:Int)+1024*(n:Int))=(s.sh.data:Int)+1024*(n:Int):=IntWalk.i64_in _ O;by_cases r:(s.sh.data:Int)+1024*(n:Int)<=off
  ·have t2:decide ((s.sh.data:Int)+1024*(n:Int)<=off)=jm:=decide_eq_true r;have i:Hid (IL s off=gJ #[fP gZ 0,fP gZ 0,fU jw]):=Ac (by rw[IL,Iq,jM (.inr (by rw[o];omega))]);clear h k r z o x v;go_enter func145,ntmps145
   go_wp2_with fail
   go_quiet(fail)
   go_wp2_with fail
   go_ret3
   exact⟨by rw[i.out];rfl,_,rfl⟩
  ·have t2:decide ((s.sh.data:Int)+1024*(n:Int)<=off)=jw:=decide_eq_false r;have j:Hid (Iq s off=if Bd (Ba (C9 s ((off.toNat-s.sh.data)/1024)))=0\/(off.toNat-s.sh.data)%1024%(64*Bd (Ba (C9 s ((off.toNat-s.sh.data)/1024))))≠0 then none else
    iC ((off.toNat-s.sh.data)/1024,(off.toNat-s.sh.data)%1024/(64*Bd (Ba (C9 s ((off.toNat-s.sh.data)/1024)))))):=Ac (by rw[Iq,ku (by rw[o];omega)])
   obtain⟨c,A,F⟩:∃c:Nat,off.toNat-s.sh.data=c/\off=(s.sh.data:Int)+(c:Int):=⟨off.toNat-s.sh.data,rfl,O⟩;rw[A]at j;have J:IntKind.i64.wrap (off-(s.sh.data:Int))=(c:Int):=by rw[IntWalk.i64_in _ O];omega
   have K:(c:Int).tdiv 1024=((c/1024:Nat):Int):=by rw[JZ O];omega
   have M:(c:Int).tmod 1024=((c%1024:Nat):Int):=by rw[Int.tmod_eq_emod_of_nonneg O];omega
   have y:c/1024<n:=O;have T:c%1024<1024:=Nat.mod_lt _ U;generalize c/1024=a at*;generalize c%1024=b at*;have N:IntKind.i64.wrap (a:Int)=(a:Int):=IntWalk.i64_in _ O;have P:IntKind.i64.wrap (b:Int)=(b:Int):=IntWalk.i64_in _ O;have Q:=Ou (C9 s a);have G:=iU (Ba (C9 s a));clear h k r A F z o x v;by_cases q:Bd (Ba (C9 s a))=0
   ·have i:Hid (IL s off=gJ #[fP gZ 0,fP gZ 0,fU jw]):=Ac (by rw[IL,j.out,jM (.inl q)]);have l:=Ac (PV (Ba (C9 s a)) · O);rw[q]at l;clear q G j;go_enter func145,ntmps145
    go_wp2_with fail
    go_quiet(fail)
    go_wp2_with fail
    go_quiet(fail)
    go_wp2_with fail
    refine(MN (u.dr (Dr.one w _)) a y).mono ?_;rintro g C⟨rfl,e⟩;replace e:=(Dr.one w _).trans e
    go_wp2_with fail
    refine(H7 (C9 s a) _ (OJ s a)).mono ?_;rintro g D⟨rfl,f⟩;replace f:=e.trans f
    go_wp2_with fail
    refine(l _).mono ?_;rintro g E⟨rfl,rfl⟩
    go_wp2_with fail
    go_ret3
    exact⟨by rw[i.out];rfl,f⟩
   ·have l:=Ac (PV (Ba (C9 s a)) · O);have V:((64:Int)*((Bd (Ba (C9 s a)):Nat):Int)==0)=jw:=ζ O;have t:(b:Int)%(64*((Bd (Ba (C9 s a)):Nat):Int))=((b%(64*Bd (Ba (C9 s a))):Nat):Int):=by rw[Int.natCast_emod,GI];rfl
    by_cases m:b%(64*Bd (Ba (C9 s a)))=0
    ·have i:Hid (IL s off=gJ #[fP gZ (a:Int),fP gZ ((b/(64*Bd (Ba (C9 s a))):Nat):Int),fU jm]):=Ac (by rw[IL,j.out,ku (by rintro(h|h);exact q h;exact h m)]);have I:((b:Int)%(64*((Bd (Ba (C9 s a)):Nat):Int))!=0)=jw:=by rw[t,m];rfl
     have W:(b:Int).tdiv (64*((Bd (Ba (C9 s a)):Nat):Int))=((b/(64*Bd (Ba (C9 s a))):Nat):Int):=by rw[JZ O,Int.natCast_ediv,GI];rfl
     have S:b/(64*Bd (Ba (C9 s a)))<=b:=Nat.div_le_self _ _;generalize b/(64*Bd (Ba (C9 s a)))=B at*;have X:IntKind.i64.wrap (B:Int)=(B:Int):=IntWalk.i64_in _ O;generalize Bd (Ba (C9 s a))=H at*;clear t j m;go_enter func145,ntmps145
     go_wp2_with fail
     go_quiet(fail)
     go_wp2_with fail
     go_quiet(fail)
     go_wp2_with fail
     refine(MN (u.dr (Dr.one w _)) a y).mono ?_;rintro g C⟨rfl,e⟩;replace e:=(Dr.one w _).trans e
     go_wp2_with fail
     refine(H7 (C9 s a) _ (OJ s a)).mono ?_;rintro g D⟨rfl,f⟩;replace f:=e.trans f
     go_wp2_with fail
     refine(l _).mono ?_;rintro g E⟨rfl,rfl⟩
     go_wp2_with fail
     go_quiet(fail)
     go_wp2_with fail
     go_ret3
     exact⟨by rw[i.out];rfl,f.trans (Dr.one _ _)⟩
    ·have i:Hid (IL s off=gJ #[fP gZ 0,fP gZ 0,fU jw]):=Ac (by rw[IL,j.out,jM (.inr m)]);have I:((b:Int)%(64*((Bd (Ba (C9 s a)):Nat):Int))!=0)=jm:=by rw[t,bne_iff_ne];omega
     generalize Bd (Ba (C9 s a))=H at*;clear t j m;go_enter func145,ntmps145
     go_wp2_with fail
     go_quiet(fail)
     go_wp2_with fail
     go_quiet(fail)
     go_wp2_with fail
     refine(MN (u.dr (Dr.one w _)) a y).mono ?_;rintro g C⟨rfl,e⟩;replace e:=(Dr.one w _).trans e
     go_wp2_with fail
     refine(H7 (C9 s a) _ (OJ s a)).mono ?_;rintro g D⟨rfl,f⟩;replace f:=e.trans f
     go_wp2_with fail
     refine(l _).mono ?_;rintro g E⟨rfl,rfl⟩
     go_wp2_with fail
     go_ret3
     exact⟨by rw[i.out];rfl,f⟩
end
inductive Pw where
 |up(lf:Int)
 |down(P:(Nat->UInt64)->Prop)
def Pw.mode:Pw->Dq
 | .up lf=>.up (MU lf)
 | .down P=>.down P
structure Ms where
 pw:Pw
 s:St
def JE(q:Ms)(N:Nat)(a:Nat->UInt64):Ms×Int:=
 match q.pw with
 | .up b=>if b<0\/(N:Int)<=b then(⟨if fO b N=0 then .down (λc=>c=a)else .up (fO b N),{q.s with ws:=a}⟩,0)else(⟨.down (Half q.s.ws a),{q.s with ws:=a}⟩,12)
 | .down P=>(⟨.down P,{q.s with ws:=a}⟩,12)
abbrev KF(w:jD)(d p L:Nat)(q:Ms)(F:Nat->Prop):Prop:=EE q.pw.mode w d p L q.s F
def Atd(q:Ms)(N:Nat)(a:Nat->UInt64):(JE q N a).1.s={q.s with ws:=a}:=by
 unfold JE;cases q.pw with
 |up b=>simp only;split<;>rfl
 |down P=>rfl
def Ah5(q:Ms)(N:Nat)(a:Nat->UInt64):(JE q N a).2=0\/(JE q N a).2=12:=by
 unfold JE;cases q.pw with
 |up b=>simp only;split<;>simp
 |down P=>exact .inr rfl
def Rl(s:St)(N:Nat)(a:Nat->UInt64):JE ⟨.up (-1),s⟩ N a=(⟨.up (-1),{s with ws:=a}⟩,0):=by
 unfold JE;simp only;rw[jM (.inl U),Al7,ku U]
section
variable{w w':jD}{d p L:Nat}{s:St}{F:Nat->Prop}{q:Ms}
def EE.Ah6{P:(Nat->UInt64)->Prop}(h:EE (.down P) w d p L s F)(a:Nat->UInt64):EE (.down P) w d p L {s with ws:=a} F:=by
 obtain⟨tb,hb,n,cT,cH,own,h,hF⟩:=h;exact⟨tb,hb,n,cT,cH,own,⟨h.dev,h.L0,h.L1,h.shape,h.box,h.tk,h.hd,h.Rj,h.xn,h.iZ,h.cT,h.cH,h.dp,h.dt,h.dh,h.pt,h.ph,h.th,h.tabs,h.g1,h.g2⟩,hF⟩
def Uc.blk{P:(Nat->UInt64)->Prop}{own:Nat->Prop}(h:Uc w d L P own):∃a f g,CB w d 83 [fD (iC (Φ a)) L L,fU jm,f,g]:=by
 obtain⟨i,k,mark,c,⟨a,hb,e,_⟩,_⟩:=h;obtain⟨j,b⟩:=e.box;rw[decide_eq_true c]at b;exact⟨a,_,_,b⟩
def EO.Ate{lf:Int}{N:Nat}{tb hb n cT cH g:Nat}{own:Nat->Prop}{x:Nat->Option Nat}{j:Nat}{xs:List UInt64}{c:Int}(h:EO (.up (MU lf)) w d p L s tb hb n cT cH own)(hF:∀b,F b<->(own b\/b=p\/b=tb\/b=hb))(o:∀b,own b<->Fe d L g x b)
 (hd:Wrote lf N w d L g x s.ws j xs c w'):c=(JE ⟨.up lf,s⟩ N (BX s.ws j xs)).2/\∃a,KF w' d p L (JE ⟨.up lf,s⟩ N (BX s.ws j xs)).1 a/\AL F a w w':=by
 have E:=h.dev.2;change lf≠0 at E;rcases hd with⟨l,u,m⟩|⟨l,u,m,len,H,mark,z,A,v,B,C⟩
 ·have k:JE ⟨.up lf,s⟩ N (BX s.ws j xs)=(⟨if fO lf N=0 then .down (λr=>r=BX s.ws j xs)else .up (fO lf N),{s with ws:=BX s.ws j xs}⟩,0):=by
   unfold JE;simp only;rw[jM u]
  rw[k];refine⟨l,?_⟩;by_cases i:fO lf N=0
  ·obtain⟨a,f,e⟩:=h.cut (P:=λr=>r=BX s.ws j xs) hF o m i (λ_=>BA _) (λ_ _ h=>nomatch h) (λy _=>by funext q;unfold qZ;rw[show((MU (fO lf N)).YR (q/8))=[]from rfl,List.drop_nil];rfl) (BX s.ws j xs);refine⟨a,?_,e⟩;unfold KF;simp only[jM i];exact f
  ·obtain⟨a,f,e⟩:=h.wrote hF o m i;refine⟨a,?_,e⟩;unfold KF;simp only[ku i];exact f
 ·have k:JE ⟨.up lf,s⟩ N (BX s.ws j xs)=(⟨.down (Half s.ws (BX s.ws j xs)),{s with ws:=BX s.ws j xs}⟩,12):=by
   unfold JE;simp only;rw[ku O]
  rw[k];obtain⟨a,f,e⟩:=h.cut (P:=Half s.ws (BX s.ws j xs)) hF o C z A (λG c D=>by
   obtain⟨t,t1,t2,_⟩:=v G c D;exact⟨t,t1,t2⟩) (λy _=>yN v B y) (BX s.ws j xs)
  exact⟨l,a,f,e⟩
def Qw(h:KF w d p L q F)(j:Nat)(x:UInt64)(i:j<8*L):
 Calls prog 142 #[ptr0 d,fP gZ ((8*j:Nat):Int),fP ig (x.toNat:Int)] w λa w'=>a=gY (fP gZ (JE q 3 (Dt q.s.ws j x)).2)/\
  ∃c,KF w' d p L (JE q 3 (Dt q.s.ws j x)).1 c/\AL F c w w':=by
 obtain⟨r,s⟩:=q;have m:=h;obtain⟨tb,hb,n,cT,cH,own,h,hF⟩:=h;cases r with
 |up o=>
  obtain⟨⟨b,f,l,k⟩,y⟩:=h.dev;refine(Ah1 o d L b f s.ws j x w h.L0 h.L1 l i).mono ?_;rintro a w'⟨v,rfl,g⟩;have:=h.Ate hF k g;rw[Ad3]at this;exact⟨by rw[this.1],this.2⟩
 |down P=>
  obtain⟨b,t,u,e⟩:=Uc.blk h.dev;refine(Ah2 d L b j x t u own w h.L0 h.L1 e).mono ?_;rintro a w'⟨rfl,hb⟩;exact⟨rfl,F,EE.Ah6 (EE.below m hb) _,AL.of_below hb⟩
def Yr(h:KF w d p L q F)(j n c:Nat)(A:Option Addr)(xs:List UInt64)(f:j+n<=8*L)(g:0<n)(i:Ws w A n xs):
 Calls prog 36 #[ptr0 d,fP gZ ((8*j:Nat):Int),fD A n c] w λa w'=>a=gY (fP gZ (JE q (n+((j+n-1)/8-j/8+1)+1) (BX q.s.ws j xs)).2)/\
  ∃e,KF w' d p L (JE q (n+((j+n-1)/8-j/8+1)+1) (BX q.s.ws j xs)).1 e/\AL F e w w':=by
 obtain⟨v,s⟩:=q;have t:=h;obtain⟨tb,hb,B,cT,cH,own,h,hF⟩:=h;cases v with
 |up u=>
  obtain⟨⟨b,l,r,o⟩,z⟩:=h.dev;refine(Yq u d L b l s.ws j n c A xs w h.L0 h.L1 r f g i).mono ?_;rintro a w'⟨c,rfl,m⟩;have:=h.Ate hF o m;exact⟨by rw[this.1],this.2⟩
 |down P=>
  obtain⟨b,x,y,k⟩:=Uc.blk h.dev;refine(rJ d L b j n c A xs x y w h.L0 h.L1 k f g i).mono ?_;rintro a w'⟨rfl,hb⟩;exact⟨rfl,F,EE.Ah6 (EE.below t hb) _,AL.of_below hb⟩
end
def Mc(q:Ms)(i:Nat)(x:UInt64):Ms×Int:=
 match JE q 3 (Dt q.s.ws (q.s.sh.table/8+i) x)with
 |(b,a)=>if a=0 then(⟨b.pw,Xq q.s i x⟩,0)else(b,a)
def IM(q:Ms)(off:Int):Ms×Int:=
 match Iq q.s off with
 |none=>(q,7)
 |some (a,b)=>if EM (hdN q.s a) b then
  match Mc q a (Az (FU (GZ q.s a) (Ba (hdN q.s a)) b).1)with
  |(c,d)=>if d=0 then(⟨c.pw,{c.s with hd:=q.s.hd.set a (Az (Em (hdN q.s a) b).1)}⟩,0)else(c,d)
  else(q,7)
def Dz(q:Ms)(off:Int):Ms×Int:=
 match Iq q.s off with
 |none=>(q,7)
 |some (a,b)=>
  if(Em (hdN q.s a) b).2 then(⟨q.pw,{q.s with hd:=q.s.hd.set a (Az (Em (hdN q.s a) b).1)}⟩,0)
  else if(Em (GZ q.s a) b).2 then Mc q a (Az (Em (GZ q.s a) b).1)
  else(q,7)
def jc(s:St)(i:Nat)(x:UInt64):Mc ⟨.up (-1),s⟩ i x=(⟨.up (-1),Xq s i x⟩,0):=by
 unfold Mc;rw[Rl];rfl
def Ah7{q r:Ms}{i:Nat}{x:UInt64}(h:Mc q i x=(r,0)):r.s=Xq q.s i x:=by
 unfold Mc at h;split at h;split at h
 ·injection h with h _;rw[<-h]
 ·rename_i a;injection h with _ h;exact absurd h a
def jd(s:St)(off:Int):IM ⟨.up (-1),s⟩ off=(⟨.up (-1),(Lj s off).1⟩,(Lj s off).2):=by
 unfold IM Lj;cases Iq s off with
 |none=>rfl
 |some c=>
  obtain⟨b,a⟩:=c;simp only[jc];cases EM (hdN s b) a<;>rfl
def Ox(s:St)(off:Int):Dz ⟨.up (-1),s⟩ off=(⟨.up (-1),(FM s off).1⟩,(FM s off).2):=by
 unfold Dz FM;cases Iq s off with
 |none=>rfl
 |some c=>
  obtain⟨b,a⟩:=c;simp only[jc];cases(Em (hdN s b) a).2
  ·cases(Em (GZ s b) a).2<;>rfl
  ·rfl
def OL{s:St}{off:Int}{i a:Nat}(h:Iq s off=iC (i,a)):i<s.tk.length/\a<16/\off=((Df s.sh i (Ba (C9 s i)) a:Nat):Int)/\1<=Bd (Ba (C9 s i))/\Bd (Ba (C9 s i))*a+Bd (Ba (C9 s i))<=16:=by
 unfold Iq at h;split at h
 ·cases h
 ·rename_i m;obtain⟨c,l⟩:∃c,off.toNat-s.sh.data=c:=⟨_,rfl⟩;rw[l]at h;have n:off=((s.sh.data+c:Nat):Int):=O;split at h
  ·cases h
  ·rename_i d;injection h with h
   injection h with j e
   rw[j]at d e;have f:Bd (Ba (C9 s i))≠0:=λb=>d (.inl b)
   have g:c%1024%(64*Bd (Ba (C9 s i)))=0:=Classical.byContradiction λb=>d (.inr b)
   have k:Bd (Ba (C9 s i))=1\/Bd (Ba (C9 s i))=4:=by
    unfold Bd at f⊢;split at f<;>simp_all
   unfold Df;rcases k with b|b
   ·rw[b]at g e⊢;refine⟨O,O,O,O,O⟩
   ·rw[b]at g e⊢;refine⟨O,O,O,O,O⟩
section
variable{w:jD}{d p L:Nat}{s:St}{tb hb n cT cH:Nat}{own:Nat->Prop}
def aH(h:IX w d p L s tb hb n cT cH)(off:Int)(v: -9223372036854775808<=off/\off<=9223372036854775807):Calls prog 135 #[ptr0 p,fP gZ off] w λc w'=>c=gY (fP gZ (DD s off:Nat))/\Dr w w':=by
 have f:=Ac h;cases g:Iq s off with
 |none=>
  have j:Hid (DD s off=0):=Ac (by rw[DD,g]);have m:Hid (IL s off=gJ #[fP gZ 0,fP gZ 0,fU jw]):=Ac (by rw[IL,g]);clear h g;go_enter func135,ntmps135
  go_wp2_with fail
  refine(Hf f.out).mono ?_;rintro c w'⟨rfl,rfl⟩
  go_wp2_with fail
  refine(IU f.out off v).mono ?_;rintro c x⟨rfl,e⟩;rw[m.out]
  go_wp2_with fail
  go_ret;exact⟨by rw[j.out];rfl,e⟩
 |some A=>
  obtain⟨b,q⟩:=A;obtain⟨t,C,-⟩:=OL g;rw[h.Rj]at t;have m:Hid (IL s off=gJ #[fP gZ (b:Int),fP gZ (q:Int),fU jm]):=Ac (by rw[IL,g]);have o:=Ac (Tn (GZ s b) q · (Rk s b) O);have y:=Ac (H7 (GZ s b) · (Rk s b));have i:DD s off=if EM (GZ s b) q then Ba (GZ s b)else 0:=by rw[DD,g]
  cases r:EM (GZ s b) q
  ·rw[r]at i o;have j:=Ac i;clear h g i r;go_enter func135,ntmps135
   go_wp2_with fail
   refine(Hf f.out).mono ?_;rintro c w'⟨rfl,rfl⟩
   go_wp2_with fail
   refine(IU f.out off v).mono ?_;rintro c x⟨rfl,e⟩;rw[m.out];have a:=f.dr e;have l:=a.y5;have k:=a.tk b t;clear a
   go_wp2_with fail
   refine(o _).mono ?_;rintro c B⟨rfl,u⟩;clear l k
   go_wp2_with fail
   go_ret;exact⟨by rw[j.out];rfl,e.trans u⟩
  ·rw[r]at i o;have j:=Ac i;clear h g i r;go_enter func135,ntmps135
   go_wp2_with fail
   refine(Hf f.out).mono ?_;rintro c w'⟨rfl,rfl⟩
   go_wp2_with fail
   refine(IU f.out off v).mono ?_;rintro c x⟨rfl,e⟩;rw[m.out];have a:=f.dr e;have l:=a.y5;have k:=a.tk b t;clear a
   go_wp2_with fail
   refine(o _).mono ?_;rintro c B⟨rfl,u⟩;clear l k;replace e:=e.trans u;have a:=f.dr e;have l:=a.y5;have k:=a.tk b t;clear a
   go_wp2_with fail
   refine(y _).mono ?_;rintro c D⟨rfl,z⟩;clear l k
   go_wp2_with fail
   go_ret;exact⟨by rw[j.out];rfl,e.trans z⟩
def Tabs.set{w:jD}(h:Tabs w){b:Nat}(h1:b≠0)(h2:b≠1)(k:Nat)(u:jL):Tabs (w.setCell (Δ b k) u):=
 h.keep (Below.heap_setCell w (Δ b k) u _ (λa=>h1 a.symm)) (Below.heap_setCell w (Δ b k) u _ (λa=>h2 a.symm))
def EO.Atf{len:Dq}(h:EO len w d p L s tb hb n cT cH own)(i:Nat)(x:UInt64):EO len (w.setCell (Δ tb i) (wv x)) d p L {s with tk:=s.tk.set i x} tb hb n cT cH own:=by
 have e:∀a,a≠tb->(w.setCell (Δ tb i) (wv x)).heap[a]?=w.heap[a]?:=λa c=>Below.heap_setCell w (Δ tb i) _ a c
 exact⟨h.dev.touch ((Touch.refl (λa=>a=tb) w).setCell (p:=Δ tb i) (.inl rfl) _) (λa c b=>h.dt (b▸c)),h.L0,h.L1,h.shape,(e p h.pt).trans h.box,h.tk.set i x,h.hd.keep (e hb (λb=>h.th b.symm)),
  by rw[Dh];exact h.Rj,h.xn,h.iZ,h.cT,h.cH,h.dp,h.dt,h.dh,h.pt,h.ph,h.th,h.tabs.set (λb=>h.g1 (.inr (.inr (.inl b.symm)))) (λb=>h.g2 (.inr (.inr (.inl b.symm)))) _ _,h.g1,h.g2⟩
def EO.Ah8{len:Dq}(h:EO len w d p L s tb hb n cT cH own)(i:Nat)(x:UInt64):EO len (w.setCell (Δ hb i) (wv x)) d p L {s with hd:=s.hd.set i x} tb hb n cT cH own:=by
 have e:∀a,a≠hb->(w.setCell (Δ hb i) (wv x)).heap[a]?=w.heap[a]?:=λa c=>Below.heap_setCell w (Δ hb i) _ a c
 exact⟨h.dev.touch ((Touch.refl (λa=>a=hb) w).setCell (p:=Δ hb i) (.inl rfl) _) (λa c b=>h.dh (b▸c)),h.L0,h.L1,h.shape,(e p h.ph).trans h.box,h.tk.keep (e tb h.th),h.hd.set i x,
  h.Rj,by rw[Dh];exact h.xn,h.iZ,h.cT,h.cH,h.dp,h.dt,h.dh,h.pt,h.ph,h.th,h.tabs.set (λb=>h.g1 (.inr (.inr (.inr b.symm)))) (λb=>h.g2 (.inr (.inr (.inr b.symm)))) _ _,h.g1,h.g2⟩
def Dr.drew(w:jD):Dr w w.drew:=⟨1,rfl⟩
def EE.dr{len:Dq}{F:Nat->Prop}{w':jD}(h:EE len w d p L s F)(k:Dr w w'):EE len w' d p L s F:=h.below (k.below _)
def AL.dr{F F':Nat->Prop}{w w' a:jD}(h:AL F F' w w')(k:Dr w' a):AL F F' w a:=h.below (k.below _)
def ni(x:Nat)(a:x<18446744073709551616):wv (Az x)=fP ig (x:Int):=by
 simp only[wv,Ia];rw[Gs a]
def je{F:Nat->Prop}{q:Ms}(h:KF w d p L q F)(i x:Nat)(hi:i<q.s.tk.length)(H:x<18446744073709551616):
 Calls prog 147 #[ptr0 p,fP gZ (i:Int),fP ig (x:Int)] w λr w'=>r=gY (fP gZ (Mc q i (Az x)).2)/\∃y,KF w' d p L (Mc q i (Az x)).1 y/\AL F y w w':=by
 have K:=Ac h;obtain⟨tb,hb,n,cT,cH,own,G,hF⟩:=h;have a:=G.at;have S:i<n:=by rw[<-a.Rj];exact hi
 have U:=a.y0;have A:=Ac (λo(t:Dr w o)=>yO (a.dr t) i S);have E:q.s.sh.table/8+i<8*L:=by
  have:=a.ok.table;have:=a.ok.fits;have:=a.ok.OI;have:=a.iZ;omega
 have c:=λo(t:Dr w o)=>Qw (K.dr t) (q.s.sh.table/8+i) (Az x) E
 rw[show((Az x).toNat:Int)=(x:Int)by rw[Ia,Gs H]]at c;have k:=Atd q 3 (Dt q.s.ws (q.s.sh.table/8+i) (Az x));obtain⟨⟨l,f⟩,u⟩:∃l,JE q 3 (Dt q.s.ws (q.s.sh.table/8+i) (Az x))=l:=⟨_,rfl⟩;have e:Hid (Mc q i (Az x)=if f=0 then(⟨l.pw,Xq q.s i (Az x)⟩,0)else(l,f)):=Ac (by unfold Mc;rw[u]);rw[u]at c k;simp only at k;have c:=Ac c;have C:=Ac k;clear a G hF E u k;go_enter func147,ntmps147
 go_wp2_with fail
 go_region_with(first
  |(go_at_call 115;go_loud(refine(A _ (Dr.drew _)).mono ?_;rintro r w'⟨rfl,rfl⟩))
  |(go_at_call 142;go_loud(refine(c.out _ (Dr.drew _)).mono ?_;rintro r W⟨rfl,z,v,b⟩)))
 all_goals(replace b:=(AL.of_below ((Dr.drew w).below _)).trans b)
 all_goals(clear U A c)
 all_goals(by_cases g:f=0)
 all_goals first
  |(subst g
    rw[jM rfl]at e;obtain⟨m,R,I,Q,P,J,j,D⟩:=v;have a:=j.at;have T:i<I:=by rw[<-a.Rj,C.out];exact hi
    have X:=a.y5;have V:=a.tk i T;have f1:=j.tk.frozen i;have B:=Ac (j.Atf i (Az x));rw[ni x H,C.out]at B;have M:=Ac (b.set (p:=Δ m i) (b.own m ((D m).2 (.inr (.inr (.inl rfl))))) (fP ig (x:Int)));clear a j b
    go_wp2_with fail
    go_ret;rw[e.out];exact⟨rfl,z,⟨m,R,I,Q,P,J,B.out,D⟩,M.out⟩)
  |(rw[ku g]at e
    have t9:(f==0)=jw:=ζ g;have O:=Ac v;have N:=Ac b;clear v b g
    go_wp2_with fail
    go_ret;rw[e.out];exact⟨rfl,z,O.out,N.out⟩)
end
section
variable{w:jD}{d p L:Nat}{s:St}{tb hb n cT cH:Nat}{own:Nat->Prop}{F:Nat->Prop}
def EO.dr{len:Dq}{w':jD}(h:EO len w d p L s tb hb n cT cH own)(k:Dr w w'):EO len w' d p L s tb hb n cT cH own:=by
 obtain⟨q,rfl⟩:=k;exact⟨h.dev.below ((Dr.one w q).below _),h.L0,h.L1,h.shape,h.box,h.tk,h.hd,h.Rj,h.xn,h.iZ,h.cT,h.cH,h.dp,h.dt,h.dh,h.pt,h.ph,h.th,h.tabs.below ((Dr.one w q).below _),h.g1,h.g2⟩
def EO.held{m:Dq}(h:EO m w d p L s tb hb n cT cH own)(hF:∀a,F a<->(own a\/a=p\/a=tb\/a=hb))(i x:Nat)(e:x<18446744073709551616){b:jD}(k:Dr w b):
 EE m (b.setCell (Δ hb i) (fP ig (x:Int))) d p L {s with hd:=s.hd.set i (Az x)} F/\AL F F w (b.setCell (Δ hb i) (fP ig (x:Int))):=by
 have c:=(h.dr k).Ah8 i (Az x);rw[ni x e]at c;exact⟨⟨tb,hb,n,cT,cH,own,c,hF⟩,((AL.refl F w).dr k).set (p:=Δ hb i) (.inl ((hF hb).2 (.inr (.inr (.inr rfl))))) _⟩
def aI{q:Ms}(h:KF w d p L q F)(off:Int)(W: -9223372036854775808<=off/\off<=9223372036854775807):
 Calls prog 205 #[ptr0 p,fP gZ off] w λe w'=>e=gY (fP gZ (IM q off).2)/\∃ad,KF w' d p L (IM q off).1 ad/\AL F ad w w':=by
 obtain⟨m,s⟩:=q;have u:=h;obtain⟨tb,hb,n,cT,cH,own,C,hF⟩:=h;have f:=Ac C.at;have N:=C.Rj;cases k:Iq s off with
 |none=>
  have i:Hid (IM ⟨m,s⟩ off=(⟨m,s⟩,7)):=Ac (by rw[IM,k]);have I:Hid (IL s off=gJ #[fP gZ 0,fP gZ 0,fU jw]):=Ac (by rw[IL,k]);have v:=Ac u;clear u k N C hF;go_enter func205,ntmps205
  go_wp2_with fail
  refine(Hf f.out).mono ?_;rintro e w'⟨rfl,rfl⟩
  go_wp2_with fail
  refine(IU f.out off W).mono ?_;rintro e an⟨rfl,c⟩;rw[I.out]
  go_wp2_with fail
  go_ret;rw[i.out];exact⟨rfl,F,v.dr c,(AL.refl _ _).dr c⟩
 |some aD=>
  obtain⟨a,j⟩:=aD;obtain⟨l,aZ,-⟩:=OL k;have al:=l;rw[N]at l;have I:Hid (IL s off=gJ #[fP gZ (a:Int),fP gZ (j:Int),fU jm]):=Ac (by rw[IL,k]);have v:=Ac u;have J:=Ac (Tn (hdN s a) j · (MM s a) O);cases t:EM (hdN s a) j
  ·rw[t]at J;have i:Hid (IM ⟨m,s⟩ off=(⟨m,s⟩,7)):=Ac (by rw[IM,k];simp[t]);clear u k N C hF t;go_enter func205,ntmps205
   go_wp2_with fail
   refine(Hf f.out).mono ?_;rintro e w'⟨rfl,rfl⟩
   go_wp2_with fail
   refine(IU f.out off W).mono ?_;rintro e an⟨rfl,c⟩;rw[I.out];have b:=f.dr c;have E:=b.y5;have G:=b.y6;have y:=b.tk a l;have z:=b.hd a l;clear b
   go_wp2_with fail
   refine(J _).mono ?_;rintro e w'⟨rfl,B⟩;replace c:=c.trans B;clear E G y z B
   go_wp2_with fail
   go_ret;rw[i.out];exact⟨rfl,F,v.dr c,(AL.refl _ _).dr c⟩
  ·rw[t]at J;obtain⟨o,Q⟩:∃o,(FU (GZ s a) (Ba (hdN s a)) j).1=o:=⟨_,rfl⟩;obtain⟨D,R⟩:∃D,(Em (hdN s a) j).1=D:=⟨_,rfl⟩;have aw:o<18446744073709551616:=by rw[<-Q];exact aC _ _ _ (Rk s a) O
   have az:D<18446744073709551616:=by rw[<-R];exact aG _ _ (MM s a) O
   have X:=λ(g:Ms)(h:Mc ⟨m,s⟩ a (Az o)=(g,0))=>Ah7 h
   obtain⟨⟨g,x⟩,Y⟩:∃g,Mc ⟨m,s⟩ a (Az o)=g:=⟨_,rfl⟩;have i:Hid (IM ⟨m,s⟩ off=if x=0 then(⟨g.pw,{g.s with hd:=s.hd.set a (Az D)}⟩,0)else(g,x)):=Ac (by rw[IM,k];simp[t,Q,R,Y]);have S:=Ac (H7 (hdN s a) · (MM s a));have K:=Ac (take_any (GZ s a) (Ba (hdN s a)) j · (Rk s a) (Ou _) O);have H:=Ac (Wn (hdN s a) j · (MM s a) O);rw[Q]at K;rw[R]at H;have r:=λU(aa:Dr w U)=>je (q:=⟨m,s⟩) (u.dr aa) a o al aw
   rw[Y]at r X;have r:=Ac r;have T:Hid (x=0->g.s=Xq s a (Az o)):=Ac (λe=>X g (by rw[e]));generalize(FU (GZ s a) (Ba (hdN s a)) j).2=aM at*;generalize(Em (hdN s a) j).2=aR at*;clear u k N C hF t Q R Y X;go_enter func205,ntmps205
   go_wp2_with fail
   refine(Hf f.out).mono ?_;rintro e w'⟨rfl,rfl⟩
   go_wp2_with fail
   refine(IU f.out off W).mono ?_;rintro e an⟨rfl,c⟩;rw[I.out];have b:=f.dr c;have E:=b.y5;have G:=b.y6;have y:=b.tk a l;have z:=b.hd a l;clear b
   go_wp2_with fail
   refine(J _).mono ?_;rintro e w'⟨rfl,B⟩;replace c:=c.trans B;clear E G y z B;have b:=f.dr c;have E:=b.y5;have G:=b.y6;have y:=b.tk a l;have z:=b.hd a l;clear b
   go_wp2_with fail
   go_quiet(first
    |(go_at_call 62;exact Amc (S _))
    |(go_at_call 221;exact Amc (K _)))
   clear E G y z;replace c:=c.trans (Dr.one _ nq)
   go_wp2_with fail
   refine(r.out _ c).mono ?_;rintro e ac⟨rfl,ae,Z,V⟩;have ab:=((AL.refl F w).dr c).trans V;by_cases A:x=0
   ·have am:=T A;subst A;rw[jM rfl]at i;obtain⟨a0,a1⟩:=g;simp only at am;subst am;simp only at i;obtain⟨a2,aX,aE,aW,aV,aL,P,ar⟩:=Z;have M:=P.at;have av:a<aE:=by rw[<-M.Rj,Xq];simpa using al
    have aJ:=M.y6;have ao:=M.hd a av;rw[show hdN (Xq s a (Az o)) a=hdN s a from rfl]at ao;have aF:=P.hd.frozen a;have ah:=Ac (λU(aa:Dr ac U)=>P.held ar a D az aa);clear V M P r v f S K T
    go_wp2_with fail
    go_region_with(go_at_call 146;go_loud(refine(H _).mono ?_;rintro e a3⟨rfl,q,rfl⟩))
    all_goals(clear aJ ao aF H)
    all_goals(go_wp2_with fail)
    all_goals(go_ret)
    all_goals(rw[i.out])
    all_goals(first
     |exact⟨rfl,ae,(ah _ (Dr.one ac _)).1,ab.trans (ah _ (Dr.one ac _)).2⟩)
   ·rw[ku A]at i;have t9:(x !=0)=jm:=by rw[bne_iff_ne];exact A
    have aq:=Ac Z;have ap:=Ac ab;clear Z ab V A r v f S K H T
    go_wp2_with fail
    go_ret;rw[i.out];exact⟨rfl,ae,aq.out,ap.out⟩
def Ad9{m:Dq}(h:EE m w d p L s F)(off:Int)(C: -9223372036854775808<=off/\off<=9223372036854775807){i a:Nat}(l:Iq s off=iC (i,a))(v:(Em (hdN s i) a).2=jm):
 Calls prog 97 #[ptr0 p,fP gZ off] w λf w'=>f=gY (fP gZ 0)/\EE m w' d p L {s with hd:=s.hd.set i (Az (Em (hdN s i) a).1)} F/\AL F F w w':=by
 obtain⟨tb,hb,n,cT,cH,own,g,hF⟩:=h;have e:=Ac g.at;have y:=g.Rj;obtain⟨o,E,-⟩:=OL l;rw[y]at o;have A:Hid (IL s off=gJ #[fP gZ (i:Int),fP gZ (a:Int),fU jm]):=Ac (by rw[IL,l]);have r:=Ac g;have B:=Ac hF;obtain⟨k,j⟩:∃k,(Em (hdN s i) a).1=k:=⟨_,rfl⟩;have D:k<18446744073709551616:=by rw[<-j];exact aG _ _ (MM s i) O
 have q:=Ac (Wn (hdN s i) a · (MM s i) O);rw[j,v]at q;rw[j];clear l y g hF v j;go_enter func97,ntmps97
 go_wp2_with fail
 refine(Hf e.out).mono ?_;rintro f w'⟨rfl,rfl⟩
 go_wp2_with fail
 refine(IU e.out off C).mono ?_;rintro f G⟨rfl,c⟩;rw[A.out];have b:=e.dr c;have z:=b.y6;have u:=b.hd i o;clear b
 go_wp2_with fail
 refine(q _).mono ?_;rintro f w'⟨rfl,x⟩;replace c:=c.trans x;clear z u x;have b:=e.dr c;have z:=b.y6;have u:=b.hd i o;have f2:=(r.dr c).hd.frozen i;have t:=Ac (r.held B.out i k D c);clear b
 go_wp2_with fail
 go_ret;exact⟨rfl,t.1,t.2⟩
def KG{q:Ms}(h:KF w d p L q F)(off:Int)(I: -9223372036854775808<=off/\off<=9223372036854775807):
 Calls prog 97 #[ptr0 p,fP gZ off] w λe w'=>e=gY (fP gZ (Dz q off).2)/\∃M,KF w' d p L (Dz q off).1 M/\AL F M w w':=by
 obtain⟨k,s⟩:=q;have u:=h;obtain⟨tb,hb,n,cT,cH,own,A,hF⟩:=h;have i:=Ac A.at;have H:=A.Rj;cases g:Iq s off with
 |none=>
  have l:Hid (Dz ⟨k,s⟩ off=(⟨k,s⟩,7)):=Ac (by rw[Dz,g]);have G:Hid (IL s off=gJ #[fP gZ 0,fP gZ 0,fU jw]):=Ac (by rw[IL,g]);have J:=Ac u;clear u g H A hF;go_enter func97,ntmps97
  go_wp2_with fail
  refine(Hf i.out).mono ?_;rintro e w'⟨rfl,rfl⟩
  go_wp2_with fail
  refine(IU i.out off I).mono ?_;rintro e P⟨rfl,c⟩;rw[G.out]
  go_wp2_with fail
  go_ret;rw[l.out];exact⟨rfl,F,J.dr c,(AL.refl _ _).dr c⟩
 |some Y=>
  obtain⟨b,m⟩:=Y;obtain⟨j,aa,-⟩:=OL g;have U:=j;rw[H]at j;have G:Hid (IL s off=gJ #[fP gZ (b:Int),fP gZ (m:Int),fU jm]):=Ac (by rw[IL,g]);have J:=Ac u;obtain⟨K,C⟩:∃K,(Em (hdN s b) m).1=K:=⟨_,rfl⟩;have E:=Ac (Wn (hdN s b) m · (MM s b) O);rw[C]at E;cases t:(Em (hdN s b) m).2
  ·rw[t]at E;obtain⟨D,B⟩:∃D,(Em (GZ s b) m).1=D:=⟨_,rfl⟩;have X:D<18446744073709551616:=by rw[<-B];exact aG _ _ (Rk s b) O
   have z:=Ac (Wn (GZ s b) m · (Rk s b) O);rw[B]at z;cases y:(Em (GZ s b) m).2
   ·rw[y]at z;have l:Hid (Dz ⟨k,s⟩ off=(⟨k,s⟩,7)):=Ac (by rw[Dz,g];simp[t,y]);clear u g H A hF t y B C;go_enter func97,ntmps97
    go_wp2_with fail
    refine(Hf i.out).mono ?_;rintro e w'⟨rfl,rfl⟩
    go_wp2_with fail
    refine(IU i.out off I).mono ?_;rintro e P⟨rfl,c⟩;rw[G.out];have a:=i.dr c;have v:=a.y5;have x:=a.y6;have o:=a.tk b j;have r:=a.hd b j;clear a
    go_wp2_with fail
    refine(E _).mono ?_;rintro e w'⟨rfl,f⟩;replace c:=c.trans f;clear v x o r f;have a:=i.dr c;have v:=a.y5;have x:=a.y6;have o:=a.tk b j;have r:=a.hd b j;clear a
    go_wp2_with fail
    refine(z _).mono ?_;rintro e w'⟨rfl,f⟩;replace c:=c.trans f;clear v x o r f
    go_wp2_with fail
    go_ret;rw[l.out];exact⟨rfl,F,J.dr c,(AL.refl _ _).dr c⟩
   ·rw[y]at z;have l:Hid (Dz ⟨k,s⟩ off=Mc ⟨k,s⟩ b (Az D)):=Ac (by rw[Dz,g];simp[t,y,B]);have R:=Ac (λS(Z:Dr w S)=>je (q:=⟨k,s⟩) (u.dr Z) b D U X);clear u g H A hF t y B C;go_enter func97,ntmps97
    go_wp2_with fail
    refine(Hf i.out).mono ?_;rintro e w'⟨rfl,rfl⟩
    go_wp2_with fail
    refine(IU i.out off I).mono ?_;rintro e P⟨rfl,c⟩;rw[G.out];have a:=i.dr c;have v:=a.y5;have x:=a.y6;have o:=a.tk b j;have r:=a.hd b j;clear a
    go_wp2_with fail
    refine(E _).mono ?_;rintro e w'⟨rfl,f⟩;replace c:=c.trans f;clear v x o r f;have a:=i.dr c;have v:=a.y5;have x:=a.y6;have o:=a.tk b j;have r:=a.hd b j;clear a
    go_wp2_with fail
    refine(z _).mono ?_;rintro e w'⟨rfl,f⟩;replace c:=c.trans f;clear v x o r f
    go_wp2_with fail
    refine(R _ c).mono ?_;rintro e ab⟨rfl,Q,W,V⟩
    go_wp2_with fail
    go_ret;rw[l.out];exact⟨rfl,Q,W,((AL.refl F w).dr c).trans V⟩
  ·have l:Hid (Dz ⟨k,s⟩ off=(⟨k,{s with hd:=s.hd.set b (Az K)}⟩,0)):=Ac (by rw[Dz,g];simp[t,C]);refine(Ad9 u off I g t).mono ?_;rintro e w'⟨rfl,N,T⟩;rw[l.out];rw[C]at N;exact⟨rfl,F,N,T⟩
end
def jf(k:Nat)(w:jD)(d:k<=10000):Calls prog 63 #[fP gZ (k:Int)] w λa w'=>a=gY (fP gZ (Kz k:Nat))/\w=w':=by
 have b:((k:Int)+8-1)/8=(((k+7)/8:Nat):Int):=O;have c:(2:Int)+(((k+7)/8:Nat):Int)=(Kz k:Nat):=by unfold Kz;omega
 have hb:(k+7)/8<=2000:=O;generalize(k+7)/8=q at*;go_enter func63,ntmps63;go_wp2;go_ret;exact⟨by rw[<-c];simp[b],rfl⟩
def Aia(k b:Nat)(w:jD)(e:k<=10000)(hb:w.cell? (Φ b)=iC (.func (.func 63) #[] #[])):
 Calls prog 64 #[fP gZ (k:Int),ptr0 b] w λa w'=>a=gY (fP gZ (Pz k:Nat))/\w=w':=by
 have f:Kz k<=3000:=by unfold Kz;omega
 have c:=Ac (jf k w e);have d:((Kz k:Nat):Int)+16*(k:Int)=(Pz k:Nat):=by unfold Pz;omega
 generalize Kz k=q at*;go_enter func64,ntmps64
 go_wp2_with fail
 refine c.mono ?_;rintro a w'⟨rfl,rfl⟩
 go_wp2_with fail
 go_ret;exact⟨by rw[<-d];rfl,rfl⟩
def ofV(L:Nat):jL:=match shapeOf L with
 |some a=>gJ #[gU #[fP gZ (a.lines:Nat),fP gZ (a.BO:Nat),fP gZ (a.table:Nat),fP gZ (a.data:Nat)],fU jm]
 |none=>gJ #[gU #[fP gZ 0,fP gZ 0,fP gZ 0,fP gZ 0],fU jw]
def nz(L k:Nat)(c:k<L)(h:Pz (k+1)<=L):Ky L (L-k) k=Ky L (L-(k+1)) (k+1):=by
 obtain⟨a,b⟩:∃a,L-k=a+1:=⟨L-k-1,O⟩;rw[b,show L-(k+1)=a by omega,Ky,jM h]
def nC(L k:Nat)(h:¬Pz (k+1)<=L):Ky L (L-k) k=k:=by
 cases b:L-k with
 |zero=>rfl
 |succ a=>rw[Ky,ku h]
def yP{P:Program}(a:Addr)(F:Fn)(c b:Array jL)(w:jD):(store a (.func F c b)).run P w=stored P w a (.func F c b) .plain:=run_store P w a _ .plain rfl
def jh{i:Ending->jD->Prop}{e:jD}{f:Array jL}(g:Nat){a b c d:jL}(h:CB e g 48 [a,b,c,d])(v:jL)(h2:f[2]?=iC (ptr0 g))(h3:f[3]?=iC v)
 (j:i (gY (gJ #[gU #[a,b,c,d],v])) e):bodyPost prog Tryz.f34 i Exit.ret {tmps:=f,defers:=[]} e:=by
 obtain⟨k,l,m,n,f0,f1,f2,f3⟩:=CS h;refine bodyPost_ret (v:=gJ #[gU #[a,b,c,d],v]) (by simp[results,results34,go_sem,h2,h3,k,l,m,n]) rfl j
def Vq(L:Nat)(w:jD)(M:L<=1024):Calls prog 34 #[fP gZ (L:Int)] w λc w'=>c=gY (ofV L)/\η w w':=by
 have t1:decide ((1024:Int)<(L:Int))=jw:=decide_eq_false O;have u:CB (w.alloc (iy #[fP gZ 0,fP gZ 0,fP gZ 0,fP gZ 0] 48)) w.heap.size 48 [fP gZ 0,fP gZ 0,fP gZ 0,fP gZ 0]:=heap_alloc_new _ _;have q:(w.alloc (iy #[fP gZ 0,fP gZ 0,fP gZ 0,fP gZ 0] 48)).heap.size=w.heap.size+1:=by simp
 have l:CB ((w.alloc (iy #[fP gZ 0,fP gZ 0,fP gZ 0,fP gZ 0] 48)).alloc (iy #[.nilFunc] 131)) (w.heap.size+1) 131 [.nilFunc]:=by rw[<-q];exact heap_alloc_new _ _
 have z:=l.cell 0;have f1:=l.frozen 0;simp only[List.getElem?_cons_zero]at z;have R:=λG I H b=>yP (P:=prog) G (.func 63) I H b
 go_enter func34,ntmps34
 go_wp2_with fail
 obtain⟨b,e⟩:=ε (((w.alloc (iy #[fP gZ 0,fP gZ 0,fP gZ 0,fP gZ 0] 48)).alloc (iy #[.func (.func 63) #[] #[]] 131)));rw[<-e];have s:CB b (w.heap.size+1) 131 [.func (.func 63) #[] #[]]:=by rw[e,<-q];exact heap_alloc_new _ _
 have D:CB b w.heap.size 48 [fP gZ 0,fP gZ 0,fP gZ 0,fP gZ 0]:=by
  rw[e];exact(χ _ _ O).trans u
 have B:η w b:=by rw[e];exact(((Below.refl _ _).alloc (Ae _) _).alloc Θ _)
 have x:=Ac (s.cell 0);have n:=Ac D;have v:=Ac B;clear u l z f1 e s D q B
 go_loopw [6](λr wr=>∃a,a<=L/\r=fP gZ (a:Nat)/\wr=b/\Ky L (L-a) a=QY L)(λr _=>L-(intOf r).toNat)
 case atStart=>exact⟨0,BA _,rfl,rfl,by rw[Nat.sub_zero];rfl⟩
 case round=>
  obtain⟨a,Q,rfl,rfl,i⟩:=hrel;have f:=Ac (Aia (a+1) (w.heap.size+1) wr O (by have:=x.out;simpa using this));by_cases d:Pz (a+1)<=L
  ·have J:a<L:=by unfold Pz at d;omega
   have K:decide (Pz (a+1)<=L)=jm:=decide_eq_true O;have F:Hid (Ky L (L-(a+1)) (a+1)=QY L):=Ac (by rw[<-nz L a J d];exact i);generalize Pz (a+1)=k at*;clear i
   go_wp2_with fail
   rw[show(a:Int)+1=((a+1:Nat):Int)by omega];refine f.mono ?_;rintro c w'⟨rfl,rfl⟩
   go_wp2_with fail
   go_roundw
   case rel=>exact⟨a+1,O,by go_num,trivial,F.out⟩
   case measure=>simp[intOf];omega
  ·have j:QY L=a:=by rw[<-i];exact nC L a d
   obtain⟨k,C⟩:∃k,Pz (a+1)=k:=⟨_,rfl⟩;rw[C]at f d;have K:decide (k<=L)=jw:=decide_eq_false O;clear i d C;have E:=Ac (jf a wr O);obtain⟨S,T,U,V,f0,f1,f2,f3⟩:=CS n.out;by_cases A:a=0
   ·subst A;have m:Hid (ofV L=gJ #[gU #[fP gZ 0,fP gZ 0,fP gZ 0,fP gZ 0],fU jw]):=Ac (by
     unfold ofV shapeOf;rw[ku O];simp[j])
    have g:=f.out;rw[show(((0+1:Nat)):Int)=1 from rfl]at g;have g:=Ac g;clear j
    go_wp2_with fail
    refine g.out.mono ?_;rintro c w'⟨rfl,rfl⟩
    go_wp2_with fail
    have t:=(((n.AX 0 (fP gZ 0)).AX 1 (fP gZ 0)).AX 2 (fP gZ 0)).AX 3 (fP gZ 0);have o:=(((v.setCell (p:=Φ w.heap.size) (Ae _) (fP gZ 0)).setCell (p:=Δ w.heap.size 1) (Ae _) (fP gZ 0)).setCell (p:=Δ w.heap.size 2) (Ae _) (fP gZ 0)).setCell (p:=Δ w.heap.size 3) (Ae _) (fP gZ 0);refine jh w.heap.size t (fU jw) rfl rfl ?_;exact⟨by rw[m.out],o⟩
   ·have m:Hid (ofV L=gJ #[gU #[fP gZ (L:Nat),fP gZ (a:Nat),fP gZ 128,fP gZ ((64*Kz a:Nat):Int)],fU jm]):=Ac (by
     unfold ofV shapeOf;rw[ku O];simp[j,A,Nat.mul_comm])
    have t3:((a:Int)==0)=jw:=ζ O;have N:Kz a<=3000:=by unfold Kz;omega
    have s:wr.cell? (Φ (w.heap.size+1))=iC (.func (.func 63) #[] #[]):=by have:=x.out;simpa using this
    generalize Kz a=y at*;clear j
    go_wp2_with fail
    rw[show(a:Int)+1=((a+1:Nat):Int)by omega];refine f.mono ?_;rintro c w'⟨rfl,rfl⟩
    go_wp2_with fail
    refine E.mono ?_;rintro c w'⟨rfl,rfl⟩
    go_wp2_with fail
    have t:=(((n.AX 0 (fP gZ (L:Int))).AX 1 (fP gZ (a:Int))).AX 2 (fP gZ 128)).AX 3 (fP gZ ((y:Int)*64));have o:=(((v.setCell (p:=Φ w.heap.size) (Ae _) (fP gZ (L:Int))).setCell (p:=Δ w.heap.size 1) (Ae _) (fP gZ (a:Int))).setCell (p:=Δ w.heap.size 2) (Ae _) (fP gZ 128)).setCell (p:=Δ w.heap.size 3) (Ae _) (fP gZ ((y:Int)*64));refine jh w.heap.size t (fU jm) rfl rfl ?_;exact⟨by rw[m.out];simp[Int.mul_comm],o⟩
def yQ(sh:Sh):jL:=gU #[fP gZ (sh.lines:Nat),fP gZ (sh.BO:Nat),fP gZ (sh.table:Nat),fP gZ (sh.data:Nat)]
def Aea(x:Nat)(a:x<18446744073709551616):wv (Az x)=fP ig (x:Int):=by
 simp only[wv,Ia];rw[Gs a]
def UM:∀n,leBytes (BB n (0:UInt64))=BB (8*n) (0:UInt8)
 |0=>rfl
 |n+1=>by
  rw[VG,leBytes,UM n,show Xp 0=BB 8 (0:UInt8)by decide,List.replicate_append_replicate,show 8+8*n=8*(n+1)by omega]
def Sm(H:List UInt64)(k:Nat):List UInt64:=H.take k++BB (H.length-k) 0
def nD(H:List UInt64)(k:Nat)(a:k<=H.length):(Sm H k).length=H.length:=by simp[Sm];omega
def Aeb(H:List UInt64)(k:Nat)(b:k<H.length):(Sm H k).set k H[k]=Sm H (k+1):=by
 obtain⟨a,c⟩:∃a,H.length-k=a+1:=⟨H.length-k-1,O⟩;unfold Sm;rw[c,show H.length-(k+1)=a by omega,U3 _ _ (by simp;omega)];simp only[List.length_take,Nat.min_eq_left (Nat.le_of_lt b),U5,VG,List.set_cons_zero];rw[List.take_succ_eq_append_getElem b,List.append_assoc];rfl
def Aec(H:List UInt64):Sm H H.length=H:=by simp[Sm]
def UN(sh:Sh)(w:jD)(ab:sh.lines<=1024)(N:shapeOf sh.lines=iC sh)(F:Al3 w):Calls prog 37 #[yQ sh] w λd w'=>∃ao,d=gY ao/\w'.ownsRow w.heap.size 40 1 ao 8 ((wordsOf sh).map wv)/\η w w':=by
 have ad:=λaE=>Vq sh.lines aE ab
 have C:Hid (ofV sh.lines=gJ #[yQ sh,fU jm]):=Ac (by rw[ofV,N];rfl);have Y:=Ac ad;have j:=IK N;have aJ:=j.fits;obtain⟨f,P⟩:∃c,sh.BO=c:=⟨_,rfl⟩;obtain⟨tb,Q⟩:∃c,sh.table=c:=⟨_,rfl⟩;obtain⟨e,H⟩:∃c,sh.data=c:=⟨_,rfl⟩;obtain⟨i,L⟩:∃c,sh.lines=c:=⟨_,rfl⟩;have an:yQ sh=gU #[fP gZ (i:Int),fP gZ (f:Int),fP gZ (tb:Int),fP gZ (e:Int)]:=by rw[yQ,P,Q,H,L]
 rw[an]at C⊢;rw[L]at C Y ab;clear ad an;go_enter func37,ntmps37
 go_wp2_with fail
 have W:CB (w.alloc (iy #[fP gZ (i:Int),fP gZ (f:Int),fP gZ (tb:Int),fP gZ (e:Int)] 48)) w.heap.size 48 [fP gZ (i:Int),fP gZ (f:Int),fP gZ (tb:Int),fP gZ (e:Int)]:=heap_alloc_new _ _;refine(Y _).mono ?_;rintro d g⟨rfl,G⟩;have A:=W.below G Θ;have X:η w g:=((Below.refl _ _).alloc (Ae _) _).trans (G.mono Θ);have bm:w.heap.size<g.heap.size:=A.lt;obtain⟨bd,be,bg,bh,f0,f1,f2,f3⟩:=CS A;clear G W f0 f1 f2 f3;rw[C.out];obtain⟨bb,a3,a8,a9,ba⟩:=info_parts Tryz.infoByte;obtain⟨a,z⟩:∃a,headW sh=a:=⟨_,rfl⟩;have k:a.length=6:=by rw[<-z];rfl
 have am:[Value.int ig 465675318387,fP ig 1,fP ig (i:Int),fP ig (f:Int),fP ig (tb:Int),fP ig (e:Int),fP ig 0,fP ig 0]=(a++[0,0]).map wv:=by
  have d:∀c:Nat,c<1000000->((Az c).toNat:Int)=(c:Int):=λc bq=>by rw[Ia,Gs O]
  have aZ:=d i O;have a0:=d f (Ω j.fits);have a1:=d tb (Ω j.table);have a2:=d e (Ω j.fits);rw[<-z,headW,L,P,Q,H];simp only[BD,EK,List.map_cons,List.map_nil,wv,aZ,a0,a1,a2];rfl
 have bi:f<=1000000:=Ω j.fits;have bj:tb<=1000000:=Ω j.table;have bk:e<=1000000:=Ω j.fits;have aX:=Ac am;have av:=Ac z;clear am z j aJ P Q H N
 go_wp2_with(at_make;go_loud(refine wpList_make_full _ rfl _ _ 22 rfl w.heap.size 5 bb (fP .u8 0) 1 underlying22 a3 a8 a9 gZ gZ _ _ 48 rfl rfl rfl rfl (by rw[ba];decide) U (by simp;omega) ?_);intro bc u I)
 obtain⟨o,s⟩:=ε ((g.alloc (iy #[fP gZ (i:Int),fP gZ (f:Int),fP gZ (tb:Int),fP gZ (e:Int)] 48)).alloc (iy #[fP ig 465675318387,fP ig 1,fP ig (i:Int),fP ig (f:Int),fP ig (tb:Int),fP ig (e:Int),fP ig 0,fP ig 0] 40));have E:CB o (g.heap.size+1) 40 ((a++[0,0]).map wv):=by
  have d:(g.alloc (iy #[fP gZ (i:Int),fP gZ (f:Int),fP gZ (tb:Int),fP gZ (e:Int)] 48)).heap.size=g.heap.size+1:=by simp
  rw[<-aX.out,<-d,s];exact heap_alloc_new _ _
 have al:η w o:=by rw[s];exact(X.alloc O _).alloc (by simp;omega) _
 rw[<-s]at I u;have a7:o.heap.size=g.heap.size+1+1:=by rw[s];simp
 rw[a7]at u;have a6:=E.lt;have V:η o bc:=(Below.refl _ _).grown I (Ae _) Θ;rw[QV,show BB 48 (0:UInt8)=leBytes (Sm a 0)by rw[Sm,List.take_zero,EK,k,UM]]at u;have aw:=Ac E;have x:=Ac al;clear E al I s bd be bg bh A X
 go_loopw [6,39](λaF R wr=>∃b r q,b<=6/\R=fP gZ (b:Nat)/\aF=fD (iC (Φ r)) 48 q/\wr.ownsRow w.heap.size 5 1 (fD (iC (Φ r)) 48 q) 48 ((leBytes (Sm a b)).map bv)/\η o wr)(λ_ R _=>6-(intOf R).toNat)
 case atStart=>
  refine⟨0,_,_,BA _,rfl,rfl,u,V⟩
 case round=>
  obtain⟨b,r,q,bo,rfl,rfl,t,m⟩:=hrel;clear u V;have l:=aw.below m a6;by_cases bp:b<6
  ·have K:b<a.length:=O;have aL:=l.cell b;have aa:((a++[0,0]).map wv)[b]?=iC (fP ig (a[b].toNat:Int)):=by
    rw[DJ,List.getElem?_append_left K,Ah K];rfl
   rw[aa]at aL;have Z:=Ac (Yn (iC (Φ r)) 48 q b (Sm a b) a[b] wr U (CQ t).2 (by rw[nD a b O];omega));have ap:=Ac (Aeb a b K);generalize a[b]=c at*;have y:=Ac m;clear l aa t m
   go_wp2_with fail
   refine Z.mono ?_;rintro d br⟨aW,aM,rfl,M,ah⟩;rw[ap.out]at M;have aD:=Ac (EU (base':=w.heap.size) M (Nat.le_trans x.size y.size));have ar:=Ac (τ y.out ah);clear M ah Z
   go_wp2_with fail
   go_roundw
   case rel=>exact⟨b+1,aW,aM,O,by go_num,rfl,aD.out,ar.out⟩
   case measure=>simp[intOf];omega
  ·have a4:b=6:=O;subst a4;rw[show Sm a 6=a by rw[<-k];exact Aec a]at t;have ae:Al3 wr:=λv J=>(m.cell (p:=Δ 0 v) (Be (Gu w _ (F v J)) x.size)).trans ((x.cell (p:=Δ 0 v) (Gu w _ (F v J))).trans (F v J))
   have aq:=Ac (yz (iC (Φ r)) 48 q (leBytes a) wr U (CQ t).2 ae);have bl:Nj 0 (leBytes a)<4294967296:=by
    unfold Nj;have:=ZG 0 (leBytes a) U (leBytes a).length (Ae _);rw[Qq,List.take_length]at this;exact Nat.xor_lt_two_pow (n:=32) this U
   have S:Hid (wordsOf sh=a++[Az (Nj 0 (leBytes a)),0]):=Ac (by rw[wordsOf,av.out]);generalize Nj 0 (leBytes a)=D at*;have aR:=l.cell 6;rw[DJ,List.getElem?_append_right O,k]at aR;have f6:=l.frozen 6;have az:=Ac l;have y:=Ac m;clear l t m ae
   go_wp2_with fail
   refine aq.mono ?_;rintro d w'⟨rfl,rfl⟩
   go_wp2_with fail
   trace_state
   go_ret;have ac:=az.AX 6 (fP ig (D:Int));have aV:((a++[0,0]).map wv).set 6 (fP ig (D:Int))=(wordsOf sh).map wv:=by
    rw[S.out,<-Aea D O,<-List.map_set,U3 _ _ O,k];rfl
   rw[aV]at ac;have T:=ac.own (B:=w.heap.size) O (by rw[CZ,S.out];simp[k];decide);have a5:((wordsOf sh).map wv).length=8:=by rw[CZ,S.out];simp[k]
   rw[a5]at T;exact⟨_,rfl,T,(τ x.out y.out).setCell (p:=Δ (g.heap.size+1) 6) (by show w.heap.size<=g.heap.size+1;omega) _⟩
def Vr{i:Ending->jD->Prop}{e:jD}{f:Array jL}{j:Func}(l:j.results= #[.cell 2 48,.tmp 3])(g:Nat){a b c d:jL}(h:CB e g 48 [a,b,c,d])(v:jL)(h2:f[2]?=iC (ptr0 g))(h3:f[3]?=iC v)
 (k:i (gY (gJ #[gU #[a,b,c,d],v])) e):bodyPost prog j i Exit.ret {tmps:=f,defers:=[]} e:=by
 obtain⟨m,n,o,p,f0,f1,f2,f3⟩:=CS h;refine bodyPost_ret (v:=gJ #[gU #[a,b,c,d],v]) (by simp[results,l,go_sem,h2,h3,m,n,o,p]) rfl k
def Dev.box{w:jD}{d L:Nat}{ws:Nat->UInt64}{len:Mode}{mark:Nat->Nat}{own:Nat->Prop}(h:Dev w d L ws len mark own):∃a e f g,CB w d 83 [fD (iC (Φ a)) L L,e,f,g]:=by
 obtain⟨a,hb,c,_⟩:=h;obtain⟨i,b⟩:=c.box;exact⟨a,_,_,_,b⟩
def Dev.size{w:jD}{d L:Nat}{ws:Nat->UInt64}{len:Mode}{mark:Nat->Nat}{own:Nat->Prop}(h:Dev w d L ws len mark own)(c:L<=1024):Calls prog 33 #[ptr0 d] w λa w'=>a=gY (fP gZ ((L*64:Nat):Int))/\w=w':=by
 obtain⟨b,_,_,_,e⟩:=h.box;exact Tq d L b _ _ _ w c e
def yS{w:jD}{d L:Nat}{ws:Nat->UInt64}{own:Nat->Prop}{sh:Sh}(ad:0<L)(q:L<=1024)(F:shapeOf L=iC sh)(h:Dev w d L ws M0 (λ_=>0) own)(bl:Tabs w)(bi:¬own 0)(bj:¬own 1):
 Calls prog 17 #[ptr0 d] w λb w'=>b=gY (gJ #[yQ sh,fP gZ 0])/\
  ∃aR,Dev w' d L (BX (BX ws 0 (BB (8*L) 0)) 0 (wordsOf sh)) M0 (λ_=>0) aR/\AL own aR w w':=by
 have bw:=IK F;have bo:=bw.lines;have C:=h.lt;obtain⟨bd,ah⟩:=ε (L*64);have bc:=Ac (λy(h:Dev y d L ws M0 (λ_=>0) own)=>by have:=h.size q;rw[<-ah]at this;exact this);have bA:(bd:Int)/64=(L:Int):=O;have t1:((L:Int)==0)=jw:=ζ O;have a8:=Ac (λy=>Vq L y q);have V:Hid (ofV L=gJ #[yQ sh,fU jm]):=Ac (by rw[ofV,F];rfl);obtain⟨e,f,g,i,G⟩:∃e f g i:Nat,yQ sh=gU #[fP gZ (e:Int),fP gZ (f:Int),fP gZ (g:Int),fP gZ (i:Int)]:=⟨_,_,_,_,rfl⟩;have T:=Ac G;rw[G]at V;have n:CB (w.alloc (iy #[fP gZ 0,fP gZ 0,fP gZ 0,fP gZ 0] 48)) w.heap.size 48 [fP gZ 0,fP gZ 0,fP gZ 0,fP gZ 0]:=heap_alloc_new _ _;have s:η w (w.alloc (iy #[fP gZ 0,fP gZ 0,fP gZ 0,fP gZ 0] 48)):=(Below.refl _ _).alloc (Ae _) _;have P:=Ac h;clear h ah G;go_enter func17,ntmps17
 go_wp2_with fail
 obtain⟨bg,av⟩:=ε (w.alloc (iy #[fP gZ 0,fP gZ 0,fP gZ 0,fP gZ 0] 48));rw[<-av]at n s⊢;have bp:w.heap.size<bg.heap.size:=n.lt;clear av;refine(bc _ (P.below s)).mono ?_;rintro b w'⟨rfl,rfl⟩
 go_wp2_with fail
 refine(a8 _).mono ?_;rintro b l⟨rfl,B⟩;rw[V.out];have M:=τ s B;have K:=n.below B bp;have N:=Ac M;have a2:=Ac K;clear s B n K M
 go_wp2_with fail
 obtain⟨z,r⟩:=ε (l.alloc (iy #[fP gZ (e:Int),fP gZ (f:Int),fP gZ (g:Int),fP gZ (i:Int)] 48));have ao:CB z l.heap.size 48 [fP gZ (e:Int),fP gZ (f:Int),fP gZ (g:Int),fP gZ (i:Int)]:=by rw[r];exact heap_alloc_new _ _
 have x:η l z:=by rw[r];exact(Below.refl _ _).alloc (Ae _) _
 have al:=a2.out.ξ x;have o:=τ N.out x;have bC:w.heap.size<=l.heap.size:=N.size;have Z:=P.below o;have ar:=bl.below o;rw[<-r];clear r x;have Q:=Ac al;have S:=Ac ao;have a3:=Ac o;have v:=Ac ar;have W:=Ac (Ad7 ad q Z);clear al ao o ar Z;refine W.mono ?_;rintro b aV⟨rfl,u,aa,c,D⟩;have aL:¬own w.heap.size:=λh=>Ω (C _ h)
 have aM:¬own l.heap.size:=λh=>Ω (C _ h)
 have am:=Q.touch c aL;have A:=S.touch c aM;have Y:=v.keep (c.block _ v.lt.1 bi) (c.block _ v.lt.2 bj);have ae:AL own u w aV:=(AL.of_below a3.out).trans ⟨c,D⟩;obtain⟨aW,aX,aZ,a0,_,_,_,_⟩:=CS A;have aF:∀a,a<z.heap.size->¬own a->¬u a:=λa C bq h=>(D a h).elim bq (λh=>O)
 have aJ:=aF _ Q.lt aL;have bs:=aF _ S.lt aM;have a9:=Ac am;have be:=Ac A;have a4:=Ac aa;have a6:=Ac ae;have m:=UN sh aV O (by rw[bo];exact F) Y.fours;rw[T.out]at m;have m:=Ac m;clear aa c D am A Y ae W
 go_wp2_with fail
 refine m.out.mono ?_;rintro b bx⟨bD,rfl,az,k⟩;obtain⟨a1,bh,rfl,bB,aD⟩:=Cj az;obtain⟨bk,bm,aE,aw⟩:=a4.out;have ab:Dev bx d L (BX ws 0 (BB (8*L) 0)) M0 (λ_=>0) u:=⟨bk,bm,aE.below k,aw⟩;have j:=aB ad q ab 0 8 bh a1 (wordsOf sh) O U aD;rw[show((8*0:Nat):Int)=0 from rfl]at j;have j:=Ac j;have an:=a9.out.ξ k;have ap:=be.out.ξ k;have R:=Ac an;have bb:=Ac ap;have a7:=Ac (a6.below k);clear ab aE aw az aD k an ap aW aX aZ a0 m
 go_wp2_with fail
 refine j.out.mono ?_;rintro b I⟨rfl,J,ac,t,E⟩;have H:=R.touch t aJ;have aq:=bb.touch t bs;have X:=Ac (a7.trans ⟨t,E⟩);have bt:¬J w.heap.size:=λh=>(E _ h).elim aJ (λh=>Ω R.lt)
 have a5:=Ac ac;obtain⟨aW,aX,aZ,a0,_,_,_,_⟩:=CS aq;obtain⟨bE,bG,bH,bJ,f0,f1,f2,f3⟩:=CS H;have ba:=Ac H;clear ac t E H aq j
 go_wp2_with fail
 have br:=(((ba.AX 0 (fP gZ (e:Int))).AX 1 (fP gZ (f:Int))).AX 2 (fP gZ (g:Int))).AX 3 (fP gZ (i:Int));have t9:Touch (λa=>a=w.heap.size) I ((((I.setCell (Φ w.heap.size) (fP gZ (e:Int))).setCell (Δ w.heap.size 1) (fP gZ (f:Int))).setCell (Δ w.heap.size 2) (fP gZ (g:Int))).setCell (Δ w.heap.size 3) (fP gZ (i:Int))):=
  ((((Touch.refl (λa=>a=w.heap.size) I).setCell (p:=Φ w.heap.size) (.inl rfl) _).setCell (p:=Δ w.heap.size 1) (.inl rfl) _).setCell (p:=Δ w.heap.size 2) (.inl rfl) _).setCell (p:=Δ w.heap.size 3) (.inl rfl) _
 refine Vr rfl w.heap.size br (fP gZ 0) rfl rfl ?_;refine⟨by rw[T.out],J,a5.touch t9 (λa hb b=>bt (b▸hb)),⟨?_,X.own⟩⟩;exact(X.touch.trans t9 (λa hb=>.inr O))
def aK(ws:Nat->UInt64)(sh:Sh):jL:=if wordsAt ws 0 8=wordsOf sh then gJ #[yQ sh,fP gZ 0]else gJ #[gU #[fP gZ 0,fP gZ 0,fP gZ 0,fP gZ 0],fP gZ 5]
def Aee{len:Mode}{w:jD}{d L:Nat}{ws:Nat->UInt64}{own:Nat->Prop}{sh:Sh}(aZ:0<L)(G:L<=1024)(J:shapeOf L=iC sh)(a6:len.lf≠0)(h:Dev w d L ws len (λ_=>0) own)(a0:Tabs w):
 Calls prog 113 #[ptr0 d] w λc w'=>c=gY (aK ws sh)/\η w w':=by
 have a8:=IK J;have a2:=a8.lines;obtain⟨aM,ac⟩:=ε (L*64);have aJ:=Ac (λf(h:Dev f d L ws len (λ_=>0) own)=>by have:=h.size G;rw[<-ac]at this;exact this);have bg:(aM:Int)/64=(L:Int):=O;have t1:((L:Int)==0)=jw:=ζ O;have aD:=Ac (λf=>Vq L f G);have aa:Hid (ofV L=gJ #[yQ sh,fU jm]):=Ac (by rw[ofV,J];rfl);obtain⟨i,j,k,l,K⟩:∃i j k l:Nat,yQ sh=gU #[fP gZ (i:Int),fP gZ (j:Int),fP gZ (k:Int),fP gZ (l:Int)]:=⟨_,_,_,_,rfl⟩;have Z:=Ac K;rw[K]at aa;have t:CB (w.alloc (iy #[fP gZ 0,fP gZ 0,fP gZ 0,fP gZ 0] 48)) w.heap.size 48 [fP gZ 0,fP gZ 0,fP gZ 0,fP gZ 0]:=heap_alloc_new _ _;have n:η w (w.alloc (iy #[fP gZ 0,fP gZ 0,fP gZ 0,fP gZ 0] 48)):=(Below.refl _ _).alloc (Ae _) _;have X:=Ac (λf(a7:η w f)=>(h.below a7:Dev f d L ws len (λ_=>0) own));clear h ac K;go_enter func113,ntmps113
 go_wp2_with fail
 obtain⟨ab,ae⟩:=ε (w.alloc (iy #[fP gZ 0,fP gZ 0,fP gZ 0,fP gZ 0] 48));rw[<-ae]at t n⊢;have a3:w.heap.size<ab.heap.size:=t.lt;clear ae;refine(aJ _ (X _ n)).mono ?_;rintro c w'⟨rfl,rfl⟩;obtain⟨aX,a1,ap,a5⟩:=X _ n;have m:=mO d L ws _ _ aX a1 0 8 ab aZ G a6 ap O;rw[show((8*0:Nat):Int)=0 from rfl]at m;have m:=Ac m;clear ap a5
 go_wp2_with fail
 refine m.out.mono ?_;rintro c a9⟨bj,rfl,ah,I⟩;obtain⟨P,aV,rfl,bh,am⟩:=Cj ah;have V:=τ n I;have S:=t.below I a3;have Y:Hid (Ws a9 P 8 (wordsAt ws 0 8)):=Ac am;have aw:=Ac V;have y:=Ac S;clear n I t S V ah am m
 go_wp2_with fail
 refine(aD _).mono ?_;rintro c N⟨rfl,x⟩;rw[aa.out];have T:=τ aw.out x;have a4:=y.lt;have Q:=y.below x a4;have an:=Y.below x;obtain⟨D,v⟩:=ε (N.alloc (iy #[fP gZ (i:Int),fP gZ (j:Int),fP gZ (k:Int),fP gZ (l:Int)] 48));have u:η N D:=by rw[v];exact(Below.refl _ _).alloc (Ae _) _
 have ad:CB D N.heap.size 48 [fP gZ (i:Int),fP gZ (j:Int),fP gZ (k:Int),fP gZ (l:Int)]:=by rw[v];exact heap_alloc_new _ _
 have R:=Q.ξ u;have B:=τ T u;have s:=UN sh D O (by rw[a2];exact J) (a0.below B).fours;rw[Z.out]at s;have s:=Ac s;have aE:=Ac (an.below u);have aR:=Ac ad;have av:=Ac R;have az:=Ac B;have aL:=Ac v;clear T Q an u ad R B x v y Y
 go_wp2_with fail
 rw[<-aL.out];refine s.out.mono ?_;rintro c b⟨bk,rfl,al,o⟩;obtain⟨ar,aW,rfl,bi,ao⟩:=Cj al;have HEq:=Ac (Ri P ar 8 8 aV aW (wordsAt ws 0 8) (wordsOf sh) b U U (aE.below o) ao);have aF:=Ac (aR.out.ξ o);have aq:=Ac (av.out.ξ o);have W:=Ac (τ az.out o);clear al ao o s;by_cases g:wordsAt ws 0 8=wordsOf sh
 ·rw[decide_eq_true g]at HEq;have A:Hid (aK ws sh=gJ #[yQ sh,fP gZ 0]):=Ac (by rw[aK,jM g]);clear g
  go_wp2_with fail
  refine HEq.mono ?_;rintro c ba⟨rfl,q,rfl⟩;have H:=aF.out.ξ ((Dr.one b q).below _);have a:=aq.out.ξ ((Dr.one b q).below _);obtain⟨E,e⟩:=ε (b.drewN q);have r:η w E:=W.trans ((by rw[e];exact(Dr.one b q).below _));rw[<-e]at H a⊢;clear e;obtain⟨bl,bm,bo,bp,_,_,_,_⟩:=CS H;obtain⟨bb,bc,bd,be,f0,f1,f2,f3⟩:=CS a;have z:=Ac a;have C:=Ac r;clear a H r
  go_wp2_with fail
  have M:=(((z.AX 0 (fP gZ (i:Int))).AX 1 (fP gZ (j:Int))).AX 2 (fP gZ (k:Int))).AX 3 (fP gZ (l:Int));have F:=(((C.setCell (p:=Φ w.heap.size) (Ae _) (fP gZ (i:Int))).setCell (p:=Δ w.heap.size 1) (Ae _) (fP gZ (j:Int))).setCell (p:=Δ w.heap.size 2) (Ae _) (fP gZ (k:Int))).setCell (p:=Δ w.heap.size 3) (Ae _) (fP gZ (l:Int));refine Vr rfl w.heap.size M (fP gZ 0) rfl rfl ?_;exact⟨by rw[A.out,Z.out],F⟩
 ·rw[decide_eq_false g]at HEq;have A:Hid (aK ws sh=gJ #[gU #[fP gZ 0,fP gZ 0,fP gZ 0,fP gZ 0],fP gZ 5]):=Ac (by rw[aK,ku g]);clear g
  go_wp2_with fail
  refine HEq.mono ?_;rintro c ba⟨rfl,q,rfl⟩;have a:=aq.out.ξ ((Dr.one b q).below _);obtain⟨E,e⟩:=ε (b.drewN q);have r:η w E:=W.trans ((by rw[e];exact(Dr.one b q).below _));rw[<-e]at a⊢;clear e;obtain⟨bb,bc,bd,be,f0,f1,f2,f3⟩:=CS a;have z:=Ac a;have C:=Ac r;clear a r
  go_wp2_with fail
  have M:=(((z.AX 0 (fP gZ 0)).AX 1 (fP gZ 0)).AX 2 (fP gZ 0)).AX 3 (fP gZ 0);have F:=(((C.setCell (p:=Φ w.heap.size) (Ae _) (fP gZ 0)).setCell (p:=Δ w.heap.size 1) (Ae _) (fP gZ 0)).setCell (p:=Δ w.heap.size 2) (Ae _) (fP gZ 0)).setCell (p:=Δ w.heap.size 3) (Ae _) (fP gZ 0);refine Vr rfl w.heap.size M (fP gZ 5) rfl rfl ?_;exact⟨by rw[A.out],F⟩
structure Jm where
 s:Ms
 made:List Int
def Lp(j n:Nat):Nat:=n+((j+n-1)/8-j/8+1)+1
def D8(j:Jm)(n:Nd):Jm×UInt64×Int:=
 if !BU n then(j,0,5)else
 match DT j.s.s (Dp n)with
 |none=>(j,0,6)
 |some (a,e)=>
  match JE ⟨j.s.pw,e⟩ (Lp (a/8) (DL n).length) (BX e.ws (a/8) (DL n))with
  |(d,b)=>if b=0 then
     match IM d a with
     |(f,c)=>if c=0 then(⟨f,j.made++[(a:Int)]⟩,Az a,0)else(⟨f,j.made++[(a:Int)]⟩,0,c)
   else(⟨d,j.made++[(a:Int)]⟩,0,b)
def Gn(j:Jm)(n:Nd)(b:UInt8)(a:UInt64)(e:Int):Jm×UInt64×Int:=
 if e≠0 then(j,0,e)else
 if JA n b a then D8 j (Ie n b a)else(j,0,5)
def JO:Nat->Jm->List UInt8->UInt64->Jm×UInt64×Int
 |0,b,_,_=>(b,0,5)
 |e+1,b,a,c=>
  if a.length<=15 then D8 b ⟨a,c,[],[]⟩else
  match JO e b (a.drop 16) c with
  |(f,g,d)=>Gn f ⟨a.take 15,0,[],[]⟩ (a.getD 15 0) g d
def Jf(j:Jm)(x:Nd)(rest:List UInt8)(d:UInt64):Jm×UInt64×Int:=
 if common x.pre rest=x.pre.length then
  match JO (rest.length+1) j (rest.drop (common x.pre rest+1)) d with
  |(a,c,b)=>Gn a x (rest.getD (common x.pre rest) 0) c b
 else
  match D8 j {x with pre:=x.pre.drop (common x.pre rest+1)}with
  |(a,c,b)=>
   if common x.pre rest=rest.length then Gn a ⟨x.pre.take (common x.pre rest),d,[],[]⟩ (x.pre.getD (common x.pre rest) 0) c b else
   if b≠0 then(a,0,b)else
   if JA ⟨x.pre.take (common x.pre rest),0,[],[]⟩ (x.pre.getD (common x.pre rest) 0) c then
    match JO (rest.length+1) a (rest.drop (common x.pre rest+1)) d with
    |(g,e,f)=>Gn g (Ie ⟨x.pre.take (common x.pre rest),0,[],[]⟩ (x.pre.getD (common x.pre rest) 0) c) (rest.getD (common x.pre rest) 0) e f
   else(a,0,5)
def KH(q:Ms)(l:List Int):Ms:=l.foldl (λq a=>(Dz q a).1) q
def JF:Ms->List Int->Int->Ms×Int
 |q,[],a=>(q,a)
 |q,b::c,a=>JF (Dz q b).1 c (if a=0 then(Dz q b).2 else a)
def Eo(j:Jm)(e:Int)(f:Int)(c:UInt64)(d:List Int):Ms×Int:=
 if e≠0 then(KH j.s j.made,e)else
 match JE j.s 3 (Dt j.s.s.ws (f.toNat/8) c)with
 |(b,a)=>if a=0 then JF b d 0 else(KH b j.made,a)
def MO(q:Ms)(a:Pl)(n:UInt64):Ms×Int:=JE q 3 (Dt q.s.ws (a.off.toNat/8+2) n)
def N7(q:Ms)(key:List UInt8)(c:UInt64):Ms×Int:=
 if 16<key.length then(q,3)else if c=0 then(q,2)else
 match ER q.s key with
 |none=>(q,5)
 |some (g,b)=>match CV g b with
  |some a=>MO q a c
  |none=>match g.getLast? with
   |none=>match JO (b.length+1) ⟨q,[]⟩ b c with
    |(e,f,d)=>Eo e d 72 f []
   |some a=>match Jf ⟨q,[]⟩ a.nd b c with
    |(e,f,d)=>Eo e d a.word f [a.off]
def MP(j:Jm)(b:List Pl):Ms×Int:=
 match Ho b (b.length-1) [(b.getLast?.map (·.off)).getD 0]with
 |(0,c)=>Eo j 0 72 0 c
 |(d+1,c)=>match b[d]?,b[d+1]? with
  |some a,some e=>match Jq a.nd.labels e.label with
   |some g=>if BU a.nd then match D8 j (Tc a.nd g)with
    |(i,k,f)=>Eo i f a.word k (c++[a.off])
    else(j.s,5)
   |none=>(j.s,5)
  |_,_=>(j.s,5)
def GX(q:Ms)(key:List UInt8):Ms×UInt64×Int:=
 if 16<key.length then(q,0,3)else
 match ER q.s key with
 |none=>(q,0,5)
 |some (f,g)=>match CV f g with
  |none=>(q,0,7)
  |some a=>if a.nd.val=0 then(q,0,7)else
   match(if a.nd.kids.length=0 then MP ⟨q,[]⟩ f else(q,6))with
   |(c,b)=>if b=6 then match MO c a 0 with
    |(e,d)=>if d=0 then(e,a.nd.val,0)else(e,0,d)
    else if b=0 then(c,a.nd.val,0)else(c,0,b)
def xq(j:Jb):Jm:=⟨⟨.up (-1),j.s⟩,j.made⟩
def Rn(j:Jb)(n:Nd):D8 (xq j) n=(xq (FV j n).1,(FV j n).2):=by
 unfold D8 FV;cases BU n
 ·rfl
 ·simp only[Bool.not_true,Bool.false_eq_true,if_false,xq];cases DT j.s (Dp n)with
  |none=>rfl
  |some a=>
   obtain⟨b,c⟩:=a;simp only[Rl,jd,if_true];split<;>rfl
def Ro(j:Jb)(n:Nd)(b:UInt8)(a:UInt64)(e:Int):Gn (xq j) n b a e=(xq (Iw j n b a e).1,(Iw j n b a e).2):=by
 unfold Gn Iw;split
 ·rfl
 ·split
  ·exact Rn _ _
  ·rfl
def Ue:∀(f:Nat)(j:Jb)(l:List UInt8)(a:UInt64),JO f (xq j) l a=(xq (Nw f j l a).1,(Nw f j l a).2)
 |0,j,l,a=>rfl
 |f+1,j,l,a=>by
  unfold JO Nw;split
  ·exact Rn _ _
  ·rw[Ue f];exact Ro _ _ _ _ _
def Aef(j:Jb)(x:Nd)(rest:List UInt8)(a:UInt64):Jf (xq j) x rest a=(xq (Sj j x rest a).1,(Sj j x rest a).2):=by
 unfold Jf Sj;split
 ·rw[Ue];exact Ro _ _ _ _ _
 ·rw[Rn];generalize FV j {x with pre:=x.pre.drop (common x.pre rest+1)}=b;obtain⟨d,e,c⟩:=b;simp only;split
  ·exact Ro _ _ _ _ _
  ·split
   ·rfl
   ·split
    ·rw[Ue];exact Ro _ _ _ _ _
    ·rfl
def aN:∀(l:List Int)(s:St),KH ⟨.up (-1),s⟩ l=⟨.up (-1),Et s l⟩
 |[],s=>rfl
 |a::l,s=>by
  show KH (Dz ⟨.up (-1),s⟩ a).1 l=_;rw[Ox];exact aN l _
def Yt:∀(l:List Int)(s:St)(e:Int),JF ⟨.up (-1),s⟩ l e=(⟨.up (-1),(KC s l e).1⟩,(KC s l e).2)
 |[],s,e=>rfl
 |a::l,s,e=>by
  unfold JF KC;rw[Ox];exact Yt l _ _
def PE(j:Jb)(e c:Int)(a:UInt64)(b:List Int):Eo (xq j) e c a b=(⟨.up (-1),(EG j e c a b).1⟩,(EG j e c a b).2):=by
 unfold Eo EG;split
 ·simp only[xq,aN]
 ·simp only[xq,Rl,if_true,Yt]
def Vt(s:St)(a:Pl)(n:UInt64):MO ⟨.up (-1),s⟩ a n=(⟨.up (-1),QZ s a n⟩,0):=Rl _ _ _
def rO(s:St)(key:List UInt8)(a:UInt64):N7 ⟨.up (-1),s⟩ key a=(⟨.up (-1),(Qn s key a).1⟩,(Qn s key a).2):=by
 unfold N7 Qn;split
 ·rfl
 ·split
  ·rfl
  ·cases ER s key with
   |none=>rfl
   |some wr=>
    obtain⟨b,d⟩:=wr;simp only;cases CV b d with
    |some c=>exact Vt _ _ _
    |none=>
     simp only;cases b.getLast? with
     |none=>
      simp only;rw[show(⟨⟨.up (-1),s⟩,[]⟩:Jm)=xq ⟨s,[]⟩from rfl,Ue];exact PE _ _ _ _ _
     |some c=>
      simp only;rw[show(⟨⟨.up (-1),s⟩,[]⟩:Jm)=xq ⟨s,[]⟩from rfl,Aef];exact PE _ _ _ _ _
def yU(j:Jb)(a:List Pl):MP (xq j) a=(⟨.up (-1),(KD j a).1⟩,(KD j a).2):=by
 unfold MP KD;generalize Ho a (a.length-1) [(a.getLast?.map (·.off)).getD 0]=d;obtain⟨b,g⟩:=d;cases b with
 |zero=>exact PE _ _ _ _ _
 |succ b=>
  simp only;cases a[b]? with
  |none=>rfl
  |some e=>
   cases a[b+1]? with
   |none=>rfl
   |some c=>
    simp only;cases Jq e.nd.labels c.label with
    |none=>rfl
    |some f=>
     simp only;split
     ·rw[Rn];exact PE _ _ _ _ _
     ·rfl
def rP(s:St)(key:List UInt8):GX ⟨.up (-1),s⟩ key=(⟨.up (-1),(Qo s key).1⟩,(Qo s key).2):=by
 unfold GX Qo;split
 ·rfl
 ·cases ER s key with
  |none=>rfl
  |some wr=>
   obtain⟨a,c⟩:=wr;simp only;cases CV a c with
   |none=>rfl
   |some e=>
    simp only;split
    ·rfl
    ·split
     ·rw[show(⟨⟨.up (-1),s⟩,[]⟩:Jm)=xq ⟨s,[]⟩from rfl,yU];generalize KD ⟨s,[]⟩ a=b;obtain⟨f,d⟩:=b;simp only;split
      ·rw[Vt];rfl
      ·split<;>rfl
     ·simp only[if_true,Vt]
def I5:Nat->List (Int×Int)->List MapEntry
 |_,[]=>[]
 |a,(b,c)::t=>{key:=fP gZ b,val:=fP gZ c,born:=a}::I5 (a+1) t
def aO(o v:Int):∀(l:List (Int×Int))(i:Nat),I5 i (l++[(o,v)])=I5 i l++[{key:=fP gZ o,val:=fP gZ v,born:=i+l.length}]
 |[],i=>rfl
 |(a,b)::t,i=>by
  simp only[BD,I5,aO o v t (i+1),Bv];rw[show i+1+t.length=i+(t.length+1)by omega]
def aP:∀(l:List (Int×Int))(i:Nat),(I5 i l).length=l.length
 |[],_=>rfl
 |(_,_)::t,i=>by simp[I5,aP t]
def nG(k:Int):∀(l:List (Int×Int))(i n:Nat),(∀p∈l,p.1≠k)->Instr.findNow (.int gZ) (fP gZ k) (I5 i l) n=iC none
 |[],_,_,_=>rfl
 |(a,b)::t,i,n,h=>by
  have d:(k==a)=jw:=by rw[beq_eq_false_iff_ne];exact λc=>h (a,b) (Bo ..) c.symm
  simp only[I5,Instr.findNow,Instr.sameNow,if_true,d];exact nG k t (i+1) (n+1) (λp e=>h p (Bz _ e))
def aQ(k v:Int)(c:List (Int×Int)):∀(a:List (Int×Int))(i n:Nat),(∀p∈a,p.1≠k)->Instr.findNow (.int gZ) (fP gZ k) (I5 i (a++(k,v)::c)) n=iC (iC (n+a.length,fP gZ v))
 |[],_,_,_=>by simp[I5,Instr.findNow,Instr.sameNow]
 |(b,d)::t,i,n,h=>by
  have f:(k==b)=jw:=by rw[beq_eq_false_iff_ne];exact λe=>h (b,d) (Bo ..) e.symm
  simp only[BD,I5,Instr.findNow,Instr.sameNow,if_true,f];rw[aQ k v c t (i+1) (n+1) (λp g=>h p (Bz _ g))];simp only[Bv];rw[show n+1+t.length=n+(t.length+1)by omega]
def rQ(k v c:Int)(b:List (Int×Int)):∀(a:List (Int×Int))(i:Nat),(I5 i (a++(k,v)::b)).modify a.length (λd=>{d with key:=fP gZ k,val:=fP gZ c})=I5 i (a++(k,c)::b)
 |[],i=>rfl
 |(e,f)::t,i=>by
  simp only[BD,I5,Bv,List.modify_succ_cons];rw[rQ k v c b t (i+1)]
def Lr(w:jD)(a:Nat)(l:List (Int×Int)):Prop:=w.heap[a]?=iC (.map (I5 0 l).toArray l.length)
def Lr.lt{w:jD}{a:Nat}{l:List (Int×Int)}(h:Lr w a l):a<w.heap.size:=(Array.getElem?_eq_some_iff.1 h).1
def Lr.below{w w':jD}{a:Nat}{l:List (Int×Int)}(h:Lr w a l)(k:η w w'):Lr w' a l:=(k.block _ h.lt).trans h
section
variable{P:Program}{t:TypeId}
def nH{b:TypeId}(o:P.underlying t=iC (.map b b))(c:P.underlying b=iC (.int gZ))(q:∀a,(zeroValue b).run P a=.ok (fP gZ 0) a)(a:jD)(d:Nat)(l:List (Int×Int))(k:Int)(h:Lr a d l)(n:∀p∈l,p.1≠k):
 (Instr.lookup t (.map (iC d)) (fP gZ k) jw).run P a=.ok (fP gZ 0) a:=by
 have f:=run_underlying (P:=P) o;have g:=run_underlying (P:=P) c;have i:=λe w=>JD (P:=P) c e 9999 gZ k w
 have j:=ML (P:=P) h;have m:=nG k l 0 0 n;simp[Instr.lookup,f,g,i,j,Instr.findKey,m,q,Result.andThen]
def Tu{d f:TypeId}(j:P.underlying t=iC (.map d f))(g:P.underlying d=iC (.int gZ))(a:jD)(c:Nat)(b e:List (Int×Int))(k v:Int)(h:Lr a c (b++(k,v)::e))(i:∀p∈b,p.1≠k):
 (Instr.lookup t (.map (iC c)) (fP gZ k) jw).run P a=.ok (fP gZ v) a:=
 OG j g a c _ _ k _ _ h (by simpa using aQ k v e b 0 0 i)
def yV{c d:TypeId}(g:P.underlying t=iC (.map c d))(e:P.underlying c=iC (.int gZ))(a:jD)(b:Nat)(l:List (Int×Int))(k v:Int)(h:Lr a b l)(f:∀p∈l,p.1≠k):
 (Instr.mapUpdate t (.map (iC b)) (fP gZ k) (fP gZ v)).run P a=.ok () (Eu a b (I5 0 (l++[(k,v)])).toArray (l++[(k,v)]).length):=by
 rw[Zi g e a b _ _ k _ h (by simpa using nG k l 0 0 f),aO];simp
def Amd{j m:TypeId}(C:P.underlying t=iC (.map j m))(g:P.underlying j=iC (.int gZ))(c:jD)(e:Nat)(a b:List (Int×Int))(k v d:Int)(h:Lr c e (a++(k,v)::b))(B:∀p∈a,p.1≠k):
 (Instr.mapUpdate t (.map (iC e)) (fP gZ k) (fP gZ d)).run P c=.ok () (Eu c e (I5 0 (a++(k,d)::b)).toArray (a++(k,d)::b).length):=by
 have n:=run_underlying (P:=P) C;have o:=run_underlying (P:=P) g;have q:=λw=>JD (P:=P) g jw 9999 gZ k w
 have r:=ML (P:=P) h;have s:=λE=>Vm (P:=P) E h
 have f:=aQ k v b a 0 0 B;have A:=rQ k v d b a 0;have x:(((I5 0 (a++(k,v)::b)).toArray[a.length]?).map (·.key)).getD (fP gZ k)=fP gZ k:=by
  have:∀(a:List (Int×Int))(i:Nat),(((I5 i (a++(k,v)::b))[a.length]?).map (·.key)).getD (fP gZ k)=fP gZ k:=by
   intro a;induction a with
   |nil=>intro i;rfl
   |cons p t D=>intro i;obtain⟨F,G⟩:=p;simpa[I5]using D (i+1)
  simpa using this a 0
 have y:∀c,(Instr.keyThatStays (fP gZ k) (fP gZ k)).run P c=.ok (fP gZ k) c:=λc=>by
  have hb:Instr.sameBits 10000 (fP gZ k) (fP gZ k)=jm:=by show Instr.sameBits (9999+1) _ _=jm;simp[Instr.sameBits]
  simp[Instr.keyThatStays,hb]
 have z:(a++(k,d)::b).length=(a++(k,v)::b).length:=by simp
 have u:(I5 0 (a++(k,v)::b)).toArray.modify a.length (λl=>{l with key:=fP gZ k,val:=fP gZ d})=(I5 0 (a++(k,d)::b)).toArray:=by
  rw[<-A];simp
 rw[z];simp only[Nat.zero_add]at f;simp only[Instr.mapUpdate,Sem.run_bind,n,Result.andThen_ok,r,q,Instr.findKey,o,f,Sem.run_pure,x,y,s,u,Eu]
end
