import Derived.Deep.RegionHeldLaw
import Derived.Test.YtfmkofmaabgbkaaGreatDoorJ13
set_option linter.defProp false
set_option maxHeartbeats 32000000
set_option maxRecDepth 100000
open List renaming range_succ->UF,map_append->CE,length_cons->Bv,drop_eq_getElem_cons->Cf,drop_of_length_le->DR
open Int renaming tmod_eq_emod_of_nonneg->DU,tdiv_eq_ediv_of_nonneg->JZ
open Nat renaming zero_le->BA,add_assoc->TW
open Go.World renaming ownsRow_nil->CP
open Go.Lib renaming hid->Ac
open Go.Value renaming slice->fD,int->fP,string->fQ
open Go.Ending renaming returned->gY
open Bool renaming false->jw
namespace Go.Proofs.YtfmkofmaabgbkaaGreatDoor
open Go.Proofs.Tryz
structure Sp where
 what:Nat
 id:Nat
 key:ByteArray
 text:ByteArray
def XA(c k:Nat):List UInt8:=(List.range k).map λa=>UInt8.ofNat (97+c/4^(a+1)%4)
def keyS(c:Nat):ByteArray:=⟨(XA c (c%4)).toArray⟩
def WL(t k:Nat):List UInt8:=List.replicate k (UInt8.ofNat (115+t/8%8))
def textS(t:Nat):ByteArray:=⟨(WL t (t%8)).toArray⟩
def stepS(x y a:UInt8):Sp:=⟨x.toNat%9,x.toNat/9%8,keyS y.toNat,textS a.toNat⟩
def zU(b:List UInt8)(k:Nat):Sp:=stepS (b.getD (3*k) 0) (b.getD (3*k+1) 0) (b.getD (3*k+2) 0)
def OV(b:List UInt8)(k:Nat):List Sp:=(List.range k).map (zU b)
def decP(b:List UInt8):List Sp:=OV b (min (b.length/3) 400)
def Ae2(c k:Nat):XA c (k+1)=XA c k++[UInt8.ofNat (97+c/4^(k+1)%4)]:=by simp[XA,UF]
def zV(t k:Nat):WL t (k+1)=WL t k++[UInt8.ofNat (115+t/8%8)]:=by simp[WL,List.replicate_succ']
def Ai4(c k:Nat):(XA c k).length=k:=by simp[XA]
def Ae3(t k:Nat):(WL t k).length=k:=by simp[WL]
def zW(b:List UInt8)(k:Nat):OV b (k+1)=OV b k++[zU b k]:=by simp[OV,UF]
def Ae4(b:List UInt8)(k:Nat):(OV b k).length=k:=by simp[OV]
open Go.RowKit
def Tryz.IQ:Ig prog 22 5 (fP .u8 0) 1 1:=⟨underlying22,by kernel_rfl,rfl⟩
def u8w(n:Nat)(h:n<256):IntKind.u8.wrap (n:Int)=(n:Int):=by
 simp only[IntKind.wrap,IntKind.bits,IntKind.signed,Bool.false_and,Bool.false_eq_true,if_false,show(2:Int)^8=256 from rfl];omega
def Aqo(c:UInt8)(w:World):Calls prog 14 #[fP .u8 (c.toNat:Int)] w λH P=>H=gY (fQ (keyS c.toNat))/\η w P:=by
 have y:=c.toNat_lt;unfold keyS;generalize c.toNat=b at*;have Y:b<256:=y;have t0:IntKind.u8.wrap ((b:Int).tmod 4)=((b%4:Nat):Int):=by rw[DU O1,show(b:Int)%4=((b%4:Nat):Int)by omega];exact u8w _ O1
 have N:(b:Int).tmod 4=((b%4:Nat):Int):=by rw[DU O1];omega
 obtain⟨r,E⟩:=ε (b%4);have X:r<4:=O1;rw[<-E]at t0 N⊢;clear E y;go_enter func14,ntmps14
 go_wp2_with fail
 go_loopw [3,4,8](λs i B wr=>∃a:Nat,a<=r/\B=fP .u8 (a:Nat)/\i=fP .u8 ((b/4^a:Nat):Int)/\wr.ownsRow w.heap.size 5 1 s a ((XA b a).map bv)/\η w wr)(λ_ _ B _=>r-(intOf B).toNat)
 case atStart=>exact⟨0,BA _,rfl,by simp,CP _ _ _ _,Below.refl _ _⟩
 case round=>
  obtain⟨a,W,rfl,rfl,F,D⟩:=hrel;have q:=Ac F;have g:=Ac D;clear F D;by_cases J:a<r
  ·obtain⟨L,M⟩:=qy J;have aa:IntKind.u8.wrap ((a:Int)+1)=(a:Int)+1:=by rw[show(a:Int)+1=((a+1:Nat):Int)by omega];exact u8w _ O1
   have p:=Ac (Ae2 b a);have K:b/4^a<=b:=Nat.div_le_self _ _;have z:b/4^(a+1)=b/4^a/4:=by rw[Nat.pow_succ,Nat.div_div_eq_div_mul]
   rw[z]at p;have t:=Ac z;generalize b/4^a=o at*;have Q:(o:Int).tdiv 4=((o/4:Nat):Int):=by rw[JZ O1];omega
   have R:IntKind.u8.wrap ((o/4:Nat):Int)=((o/4:Nat):Int):=u8w _ O1;have ab:o/4<256:=O1;generalize o/4=u at*;have S:(u:Int).tmod 4=((u%4:Nat):Int):=by rw[DU O1];omega
   have Z:u%4<4:=Nat.mod_lt _ U;generalize u%4=i at*;have T:IntKind.u8.wrap (i:Int)=(i:Int):=u8w _ O1;have A:i=0\/i=1\/i=2\/i=3:=O1;clear z K;rcases A with rfl|rfl|rfl|rfl
   ·go_wp2_with(at_builtin;refine BC rfl (.tmp 12) (.tmp 16) 22 rfl Tryz.IQ wr w.heap.size u3 a ((XA b a).map bv) [fP .u8 97] rfl (by exact q.out) rfl _ 1 rfl rfl rfl U (by intro s f;simp at f;subst f;rfl) O1 U (by exact g.size) ?_;intro x v C e d n k)
    have m:=Ac e;have j:=Ac (g.trans d);clear e d n k
    go_wp2_with fail
    go_roundw
    case rel=>exact⟨a+1,O1,by go_num,by rw[t.out],by rw[p.out,CE];exact m.out,j.out⟩
    case measure=>simp[intOf];omega
   ·go_wp2_with(at_builtin;refine BC rfl (.tmp 12) (.tmp 16) 22 rfl Tryz.IQ wr w.heap.size u3 a ((XA b a).map bv) [fP .u8 98] rfl (by exact q.out) rfl _ 1 rfl rfl rfl U (by intro s f;simp at f;subst f;rfl) O1 U (by exact g.size) ?_;intro x v C e d n k)
    have m:=Ac e;have j:=Ac (g.trans d);clear e d n k
    go_wp2_with fail
    go_roundw
    case rel=>exact⟨a+1,O1,by go_num,by rw[t.out],by rw[p.out,CE];exact m.out,j.out⟩
    case measure=>simp[intOf];omega
   ·go_wp2_with(at_builtin;refine BC rfl (.tmp 12) (.tmp 16) 22 rfl Tryz.IQ wr w.heap.size u3 a ((XA b a).map bv) [fP .u8 99] rfl (by exact q.out) rfl _ 1 rfl rfl rfl U (by intro s f;simp at f;subst f;rfl) O1 U (by exact g.size) ?_;intro x v C e d n k)
    have m:=Ac e;have j:=Ac (g.trans d);clear e d n k
    go_wp2_with fail
    go_roundw
    case rel=>exact⟨a+1,O1,by go_num,by rw[t.out],by rw[p.out,CE];exact m.out,j.out⟩
    case measure=>simp[intOf];omega
   ·go_wp2_with(at_builtin;refine BC rfl (.tmp 12) (.tmp 16) 22 rfl Tryz.IQ wr w.heap.size u3 a ((XA b a).map bv) [fP .u8 100] rfl (by exact q.out) rfl _ 1 rfl rfl rfl U (by intro s f;simp at f;subst f;rfl) O1 U (by exact g.size) ?_;intro x v C e d n k)
    have m:=Ac e;have j:=Ac (g.trans d);clear e d n k
    go_wp2_with fail
    go_roundw
    case rel=>exact⟨a+1,O1,by go_num,by rw[t.out],by rw[p.out,CE];exact m.out,j.out⟩
    case measure=>simp[intOf];omega
  ·have I:a=r:=O1;subst I;have L:decide ((a:Int)<(a:Int))=jw:=decide_eq_false O1;have M:decide (a<a)=jw:=decide_eq_false O1;obtain⟨G,c,rfl,y,A⟩:=Cj q.out;have V:=Abx (A:=G) (n:=a) (l:=XA b a) A c
   go_wp2_with fail
   go_ret;exact⟨rfl,g.out⟩
def Am9(c:UInt8)(w:World):Calls prog 15 #[fP .u8 (c.toNat:Int)] w λH P=>H=gY (fQ (textS c.toNat))/\η w P:=by
 have B:=c.toNat_lt;unfold textS;generalize c.toNat=g at*;have t0:IntKind.u8.wrap ((g:Int).tmod 8)=((g%8:Nat):Int):=by rw[DU O1,show(g:Int)%8=((g%8:Nat):Int)by omega];exact u8w _ O1
 have N:(g:Int).tmod 8=((g%8:Nat):Int):=by rw[DU O1];omega
 obtain⟨v,C⟩:=ε (g%8);have V:v<8:=O1;rw[<-C]at t0 N⊢;have G:=Ac (λa=>zV g a);have F:Hid (WL g 0=[]):=Ac rfl;have Q:(g:Int).tdiv 8=((g/8:Nat):Int):=by rw[JZ O1];omega
 have R:IntKind.u8.wrap ((g/8:Nat):Int)=((g/8:Nat):Int):=u8w _ O1;have aa:g/8<256:=O1;clear C B;generalize I:WL g=n at*;clear I;generalize g/8=x at*;have S:(x:Int).tmod 8=((x%8:Nat):Int):=by rw[DU O1];omega
 have Y:x%8<8:=Nat.mod_lt _ U;generalize x%8=o at*;have T:IntKind.u8.wrap (o:Int)=(o:Int):=u8w _ O1;have y:o=0\/o=1\/o=2\/o=3\/o=4\/o=5\/o=6\/o=7:=O1;go_enter func15,ntmps15
 go_wp2_with fail
 go_loopw [3,6](λq z wr=>∃a:Nat,a<=v/\z=fP .u8 (a:Nat)/\wr.ownsRow w.heap.size 5 1 q a ((n a).map bv)/\η w wr)(λ_ z _=>v-(intOf z).toNat)
 case atStart=>exact⟨0,BA _,rfl,by rw[F.out];exact CP _ _ _ _,Below.refl _ _⟩
 case round=>
  obtain⟨a,X,rfl,D,A⟩:=hrel;have p:=Ac D;have f:=Ac A;clear D A;by_cases K:a<v
  ·obtain⟨L,M⟩:=qy K;have Z:IntKind.u8.wrap ((a:Int)+1)=(a:Int)+1:=by rw[show(a:Int)+1=((a+1:Nat):Int)by omega];exact u8w _ O1
   have r:=Ac (G a);rcases y with rfl|rfl|rfl|rfl|rfl|rfl|rfl|rfl
   ·go_wp2_with(at_builtin;refine BC rfl (.tmp 8) (.tmp 13) 22 rfl Tryz.IQ wr w.heap.size u3 a ((n a).map bv) [fP .u8 115] rfl (by exact p.out) rfl _ 1 rfl rfl rfl U (by intro q e;simp at e;subst e;rfl) O1 U (by exact f.size) ?_;intro t s u d b m j)
    have k:=Ac d;have i:=Ac (f.trans b);clear d b m j
    go_wp2_with fail
    go_roundw
    case rel=>exact⟨a+1,O1,by go_num,by rw[r.out,CE];exact k.out,i.out⟩
    case measure=>simp[intOf];omega
   ·go_wp2_with(at_builtin;refine BC rfl (.tmp 8) (.tmp 13) 22 rfl Tryz.IQ wr w.heap.size u3 a ((n a).map bv) [fP .u8 116] rfl (by exact p.out) rfl _ 1 rfl rfl rfl U (by intro q e;simp at e;subst e;rfl) O1 U (by exact f.size) ?_;intro t s u d b m j)
    have k:=Ac d;have i:=Ac (f.trans b);clear d b m j
    go_wp2_with fail
    go_roundw
    case rel=>exact⟨a+1,O1,by go_num,by rw[r.out,CE];exact k.out,i.out⟩
    case measure=>simp[intOf];omega
   ·go_wp2_with(at_builtin;refine BC rfl (.tmp 8) (.tmp 13) 22 rfl Tryz.IQ wr w.heap.size u3 a ((n a).map bv) [fP .u8 117] rfl (by exact p.out) rfl _ 1 rfl rfl rfl U (by intro q e;simp at e;subst e;rfl) O1 U (by exact f.size) ?_;intro t s u d b m j)
    have k:=Ac d;have i:=Ac (f.trans b);clear d b m j
    go_wp2_with fail
    go_roundw
    case rel=>exact⟨a+1,O1,by go_num,by rw[r.out,CE];exact k.out,i.out⟩
    case measure=>simp[intOf];omega
   ·go_wp2_with(at_builtin;refine BC rfl (.tmp 8) (.tmp 13) 22 rfl Tryz.IQ wr w.heap.size u3 a ((n a).map bv) [fP .u8 118] rfl (by exact p.out) rfl _ 1 rfl rfl rfl U (by intro q e;simp at e;subst e;rfl) O1 U (by exact f.size) ?_;intro t s u d b m j)
    have k:=Ac d;have i:=Ac (f.trans b);clear d b m j
    go_wp2_with fail
    go_roundw
    case rel=>exact⟨a+1,O1,by go_num,by rw[r.out,CE];exact k.out,i.out⟩
    case measure=>simp[intOf];omega
   ·go_wp2_with(at_builtin;refine BC rfl (.tmp 8) (.tmp 13) 22 rfl Tryz.IQ wr w.heap.size u3 a ((n a).map bv) [fP .u8 119] rfl (by exact p.out) rfl _ 1 rfl rfl rfl U (by intro q e;simp at e;subst e;rfl) O1 U (by exact f.size) ?_;intro t s u d b m j)
    have k:=Ac d;have i:=Ac (f.trans b);clear d b m j
    go_wp2_with fail
    go_roundw
    case rel=>exact⟨a+1,O1,by go_num,by rw[r.out,CE];exact k.out,i.out⟩
    case measure=>simp[intOf];omega
   ·go_wp2_with(at_builtin;refine BC rfl (.tmp 8) (.tmp 13) 22 rfl Tryz.IQ wr w.heap.size u3 a ((n a).map bv) [fP .u8 120] rfl (by exact p.out) rfl _ 1 rfl rfl rfl U (by intro q e;simp at e;subst e;rfl) O1 U (by exact f.size) ?_;intro t s u d b m j)
    have k:=Ac d;have i:=Ac (f.trans b);clear d b m j
    go_wp2_with fail
    go_roundw
    case rel=>exact⟨a+1,O1,by go_num,by rw[r.out,CE];exact k.out,i.out⟩
    case measure=>simp[intOf];omega
   ·go_wp2_with(at_builtin;refine BC rfl (.tmp 8) (.tmp 13) 22 rfl Tryz.IQ wr w.heap.size u3 a ((n a).map bv) [fP .u8 121] rfl (by exact p.out) rfl _ 1 rfl rfl rfl U (by intro q e;simp at e;subst e;rfl) O1 U (by exact f.size) ?_;intro t s u d b m j)
    have k:=Ac d;have i:=Ac (f.trans b);clear d b m j
    go_wp2_with fail
    go_roundw
    case rel=>exact⟨a+1,O1,by go_num,by rw[r.out,CE];exact k.out,i.out⟩
    case measure=>simp[intOf];omega
   ·go_wp2_with(at_builtin;refine BC rfl (.tmp 8) (.tmp 13) 22 rfl Tryz.IQ wr w.heap.size u3 a ((n a).map bv) [fP .u8 122] rfl (by exact p.out) rfl _ 1 rfl rfl rfl U (by intro q e;simp at e;subst e;rfl) O1 U (by exact f.size) ?_;intro t s u d b m j)
    have k:=Ac d;have i:=Ac (f.trans b);clear d b m j
    go_wp2_with fail
    go_roundw
    case rel=>exact⟨a+1,O1,by go_num,by rw[r.out,CE];exact k.out,i.out⟩
    case measure=>simp[intOf];omega
  ·have J:a=v:=O1;subst J;have L:decide ((a:Int)<(a:Int))=jw:=decide_eq_false O1;have M:decide (a<a)=jw:=decide_eq_false O1;obtain⟨E,c,rfl,B,y⟩:=Cj p.out;have W:=Abx (A:=E) (n:=a) (l:=n a) y c
   go_wp2_with fail
   go_ret;exact⟨rfl,f.out⟩
def spC(x:Sp):List Value:=[fP .i64 (x.what:Int),fP .i64 (x.id:Int),fQ x.key,fQ x.text]
def cO(l:List Sp):List Value:=(l.map spC).flatten
def Ai5(l:List Sp)(a:Sp):cO (l++[a])=cO l++spC a:=by simp[cO]
def Tryz.Ana:Ig prog 24 33 (.agg #[fP .i64 0,fP .i64 0,fQ ⟨#[]⟩,fQ ⟨#[]⟩]) 4 48:=⟨underlying24,by kernel_rfl,rfl⟩
def Ai6(w:World)(e:TypeId)(xs:List Value)(k:Nat)(a:xs.length=k):Rd (w.alloc (.cells xs.toArray e)) (some (Φ w.heap.size)) (1*k) xs:=
 ⟨by rw[Nat.one_mul];exact a,λ_=>⟨w.heap.size,0,rfl,by simp,λb _=>by rw[Nat.zero_add];exact(show CB (w.alloc (.cells xs.toArray e)) w.heap.size e xs from heap_alloc_new _ _).cell b⟩⟩
def scrDecode(l:List UInt8)(A:Option Addr)(c:Nat)(w:World)(Z:l.length<=maxLen)(an:l.length<=c)(h:Bs w A l.length l):
 Calls prog 5 #[fD A l.length c] w λg t=>∃o,g=gY o/\t.ownsRow w.heap.size 33 4 o (decP l).length (cO (decP l))/\η w t:=by
 unfold maxLen at Z;have ad:=Ac h;by_cases W:l.length<3
 ·have t1:decide ((3:Int)<=(l.length:Int))=jw:=decide_eq_false O1;have v:Hid (decP l=[]):=Ac (by unfold decP;rw[show l.length/3=0 by omega];rfl);generalize l.length=s at*;clear h W;go_enter func5,ntmps5
  go_wp2_with fail
  go_loopw [0,3](λn o wr=>n=fD A s c/\o=fD none 0 0/\wr=w)(λ_ _ _=>0)
  case atStart=>exact⟨rfl,rfl,rfl⟩
  case round=>
   obtain⟨rfl,rfl,rfl⟩:=hrel
   go_wp2_with fail
   go_ret;exact⟨_,rfl,by rw[v.out];exact CP _ _ _ _,Below.refl _ _⟩
 ·obtain⟨_,x,j,rfl,z,_⟩:=h.at (k:=0) O1;obtain⟨s,K⟩:=ε l.length;rw[<-K]at Z an W⊢;have R:=Ac K;clear h K z;go_enter func5,ntmps5
  go_wp2_with fail
  go_loopw [0,3](λn o wr=>∃a f m P:Nat,s=3*a+f/\c=3*a+m/\a<=400/\n=fD (some (Δ x P)) f m/\(0<m->P=j+3*a)/\wr.ownsRow w.heap.size 33 4 o a (cO (OV l a))/\η w wr)(λn _ _=>match n with| .slice _ f _=>f|_=>0)
  case atStart=>exact⟨0,s,c,j,O1,O1,O1,rfl,λ_=>O1,CP _ _ _ _,Below.refl _ _⟩
  case round=>
   obtain⟨a,f,m,P,a1,a0,aZ,rfl,aa,L,z⟩:=hrel;obtain⟨D,E,rfl,aW,_⟩:=own_rowk L;have S:=Ac L;have d:=Ac z;clear L z;by_cases I:3<=f/\a<400
   ·obtain⟨aq,aE⟩:=I;obtain rfl:=aa O1;clear aa;have t1:decide ((3:Int)<=(f:Int))=true:=decide_eq_true O1;have t2:decide ((a:Int)<400)=true:=decide_eq_true O1;have k:∀r,r<3->∀i,η w i->i.cell? (Δ x (j+3*a+r))=some (fP .u8 ((l.getD (3*a+r) 0).toNat:Int)):=λr aX i F=>by
     obtain⟨ap,aF,a3,g,_,ao⟩:=(ad.below F).at (k:=3*a+r) (Ω R.out);injection g with g
     injection g with T V
     subst T V;rw[TW,ao,List.getD_eq_getElem?_getD,List.getElem?_eq_getElem ap];rfl
    have aw:=k 0 U wr d.out;have az:=k 1 U wr d.out;have aD:=k 2 U wr d.out;have ah:Hid (cO (OV l (a+1))=cO (OV l a)++spC (stepS (l.getD (3*a) 0) (l.getD (3*a+1) 0) (l.getD (3*a+2) 0))):=Ac (by rw[zW,Ai5];rfl);rw[Nat.add_zero]at aw;have p:=Ac (k 1 U);have q:=Ac (k 2 U);generalize l.getD (3*a) 0=b at*;generalize l.getD (3*a+1) 0=B at*;generalize l.getD (3*a+2) 0=C at*;have a2:=b.toNat_lt;have T:IntKind.i64.wrap (b.toNat:Int)=(b.toNat:Int):=IntWalk.i64_in _ O1;have V:(b.toNat:Int).tmod 9=((b.toNat%9:Nat):Int):=by rw[DU O1];omega
    have aJ:(b.toNat:Int).tdiv 9=((b.toNat/9:Nat):Int):=by rw[JZ O1];omega
    have aL:((b.toNat/9:Nat):Int).tmod 8=((b.toNat/9%8:Nat):Int):=by rw[DU O1];omega
    have aM:IntKind.i64.wrap ((b.toNat%9:Nat):Int)=((b.toNat%9:Nat):Int):=IntWalk.i64_in _ O1;have aR:IntKind.i64.wrap ((b.toNat/9:Nat):Int)=((b.toNat/9:Nat):Int):=IntWalk.i64_in _ O1;have aV:IntKind.i64.wrap ((b.toNat/9%8:Nat):Int)=((b.toNat/9%8:Nat):Int):=IntWalk.i64_in _ O1;have al:Hid (∀i,η wr i->i.ownsRow w.heap.size 33 4 (fD D a E) a (cO (OV l a))):=Ac (λi F=>Ew S.out F);clear k
    go_wp2_with fail
    go_region_held_law(λt=>t.cell? (Δ x (j+3*a+1))=some (fP .u8 (B.toNat:Int))/\t.cell? (Δ x (j+3*a+2))=some (fP .u8 (C.toNat:Int)))
     (first|exact⟨az,aD⟩|exact⟨p _ (τ d.out J),q _ (τ d.out J)⟩|exact⟨p _ (τ d.out N),q _ (τ d.out N)⟩|exact⟨p _ (τ d.out e),q _ (τ d.out e)⟩|exact⟨p _ (τ d.out (e.alloc e.size _)),q _ (τ d.out (e.alloc e.size _))⟩|exact⟨p _ y,q _ y⟩)
     (first
     |(go_at_call 14;refine(Aqo B _).mono ?_;first|(have M:=N;rintro g u⟨rfl,G⟩;have e:η wr u:=τ M G)|(rintro g av⟨rfl,G⟩;have J:η wr av:=((Dr.drew wr).below _).trans G))
     |(go_at_call 15;refine(Am9 C _).mono ?_;first|(have M:=J;rintro g u⟨rfl,H⟩;have e:η wr u:=τ M H)|(rintro g wt⟨rfl,H⟩;have N:η wr wt:=((Dr.drew wr).below _).trans H))
     |(rw[jM (by rfl)];refine rD (.tmp 17) (.tmp 32) 24 rfl Tryz.Ana U w.heap.size (.slice D a E) a (cO (OV l a)) rfl (al _ (e.alloc e.size _)) (some (Φ u.heap.size)) 1 1 (spC (stepS b B C)) rfl (Ai6 u 33 (spC (stepS b B C)) 4 rfl) (by intro n ab;simp[spC]at ab;rcases ab with rfl|rfl|rfl|rfl<;>rfl) O1 U (Nat.le_trans d.size (e.alloc e.size _).size) ?_;intro a4 ar Y X am;have y:η w ar:=(τ d.out (e.alloc e.size _)).trans X))
    all_goals(
     have ae:=Ac Y;have ac:=Ac y;clear Y X am y)
    all_goals(go_wp2_with fail)
    all_goals(go_roundw)
    all_goals first
     |(case measure=>simp;omega)
     |(case rel=>exact⟨a+1,f-3,m-3,if m=3 then j+3*a else j+3*a+3,O1,O1,O1,by split<;>rfl,λh=>by rw[ku O1];omega,by rw[ah.out];exact ae.out,ac.out⟩)
   ·have v:Hid (decP l=OV l a):=Ac (by unfold decP;rw[<-R.out,show min (s/3) 400=a by omega]);have Q:Hid (wr.ownsRow w.heap.size 33 4 (fD D a E) (OV l a).length (cO (OV l a))):=Ac (by rw[Ae4];exact S.out);by_cases aq:3<=f
    ·have t1:decide ((3:Int)<=(f:Int))=true:=decide_eq_true O1;have t2:decide ((a:Int)<400)=jw:=decide_eq_false O1;clear I
     go_wp2_with fail
     go_ret;exact⟨_,rfl,by rw[v.out];exact Q.out,d.out⟩
    ·have t1:decide ((3:Int)<=(f:Int))=jw:=decide_eq_false O1;clear I
     go_wp2_with fail
     go_ret;exact⟨_,rfl,by rw[v.out];exact Q.out,d.out⟩
def VF{a:Type}(f:a->a->Bool):List a->List a->Bool
 |[],[]=>true
 |d::b,e::c=>f d e&&VF f b c
 |_,_=>jw
def Acm{c:Type}{f:c->c->Bool}:∀{a b:List c},VF f a b=true->a.length=b.length
 |[],[],_=>rfl
 |_::a,_::b,h=>by
  rw[VF,Bool.and_eq_true]at h;rw[Bv,Bv,Acm h.2]
 |[],_::_,h=>by cases h
 |_::_,[],h=>by cases h
def Acn{c:Type}{f:c->c->Bool}{a b:List c}(h:a.length≠b.length):VF f a b=jw:=by
 cases d:VF f a b
 ·rfl
 ·exact absurd (Acm d) h
def cZ{c:Type}{f:c->c->Bool}(d:∀b,f b b=true):∀a:List c,VF f a a=true
 |[]=>rfl
 |b::a=>by rw[VF,d,cZ d a];rfl
def ug{e:Type}{f:e->e->Bool}(g:∀c d,f c d=f d c):∀a b:List e,VF f a b=VF f b a
 |[],[]=>rfl
 |c::a,d::b=>by rw[VF,VF,g,ug g a b]
 |[],_::_=>rfl
 |_::_,[]=>rfl
def uh{c:Type}{f:c->c->Bool}{a b:List c}{k:Nat}(d:k<a.length)(e:k<b.length):VF f (a.drop k) (b.drop k)=(f a[k] b[k]&&VF f (a.drop (k+1)) (b.drop (k+1))):=by
 rw[Cf d,Cf e,VF]
def Aco{c:Type}{f:c->c->Bool}{a b:List c}{k:Nat}(d:a.length<=k)(e:b.length<=k):VF f (a.drop k) (b.drop k)=true:=by
 rw[DR d,DR e];rfl
structure Pr where
 key:ByteArray
 text:ByteArray
def Gy(a b:Pr):Bool:=(a.key.toList==b.key.toList)&&(a.text.toList==b.text.toList)
def Yy(a:Pr):Gy a a=true:=by simp[Gy]
def XB(a b:List UInt8):(a==b)=(b==a):=by rw[Bool.eq_iff_iff,beq_iff_eq,beq_iff_eq];exact eq_comm
def ui(a b:Pr):Gy a b=Gy b a:=by unfold Gy;rw[XB a.key.toList,XB a.text.toList]
structure An where
 text:ByteArray
 pairs:List Pr
 n:Int
 done:Bool
 e:Int
def RJ(a b:An):Bool:=(a.text.toList==b.text.toList)&&((a.n==b.n)&&((a.done==b.done)&&((a.e==b.e)&&VF Gy a.pairs b.pairs)))
def uj(a:An):RJ a a=true:=by simp[RJ,cZ Yy]
def Ao0(a b:An):RJ a b=RJ b a:=by
 unfold RJ;rw[XB a.text.toList,ug ui a.pairs,show(a.n==b.n)=(b.n==a.n)by rw[Bool.eq_iff_iff,beq_iff_eq,beq_iff_eq];exact eq_comm,show(a.e==b.e)=(b.e==a.e)by rw[Bool.eq_iff_iff,beq_iff_eq,beq_iff_eq];exact eq_comm,show(a.done==b.done)=(b.done==a.done)by cases a.done<;>cases b.done<;>rfl]
def Ai7(a b:Sp):Bool:=(((a.what:Int)==(b.what:Int))&&((a.id:Int)==(b.id:Int)))&&((a.key.toList==b.key.toList)&&(a.text.toList==b.text.toList))
def Ao1(a:Sp):Ai7 a a=true:=by simp[Ai7]
def uk(p:Pr):List Value:=[fQ p.key,fQ p.text]
def Gw(l:List Pr):List Value:=(l.map uk).flatten
def Ai8(l:List Pr)(a:Pr):Gw (l++[a])=Gw l++uk a:=by simp[Gw]
def PrR(w:World)(A:Option Addr)(l:List Pr):Prop:=Rd w A (l.length*2) (Gw l)
def PrR.below{w w':World}{A:Option Addr}{l:List Pr}(h:PrR w A l)(k:η w w'):PrR w' A l:=Rd.below h k
def PrR.at{w:World}{A:Option Addr}{l:List Pr}(h:PrR w A l)(k:Nat)(j:k<l.length):∃a c,A=some (Δ a c)/\a<w.heap.size/\w.cell? (Δ a (c+k*2))=some (fQ l[k].key)/\w.cell? (Δ a (c+k*2+1))=some (fQ l[k].text):=by
 obtain⟨a,c,e,f,g⟩:=h.2 O1;have d:∀b,b<2->w.cell? (Δ a (c+k*2+b))=(uk l[k])[b]?:=λb i=>by
  rw[TW,g (k*2+b) O1];exact flat_get uk 2 (λ_=>rfl) l k b j i
 exact⟨a,c,e,f,d 0 U,d 1 U⟩
def PrR.nil(w:World):PrR w none []:=⟨rfl,λh=>absurd h Θ⟩
def Tryz.Aqp(a b c d:ByteArray)(w:World):(Op.equalIn 10000 80 (.agg #[fQ a,fQ b]) (.agg #[fQ c,fQ d])).run prog w=.ok (a.toList==c.toList&&b.toList==d.toList) w:=by
 have e:prog.underlying 80=some (.struct (prog.fieldsOf 80)):=by kernel_rfl
 rw[show(10000:Nat)=9999+1 from rfl]
 first
  |rw[run_equalIn_agg w 9999 80 _ _ e Γ]
  |rw[run_equalIn_agg w 9999 80 _ _ e (λw=>by kernel_rfl)]
 have u9:=underlying9;simp only[Program.fieldsOf,underlying80];go_simp;by_cases f:a.toList=c.toList<;>by_cases g:b.toList=d.toList<;>simp[f,g]
def Tryz.Anb(a b c d:ByteArray)(w:World):(Op.equalIn 10000 96 (.agg #[fQ a,fQ b]) (.agg #[fQ c,fQ d])).run prog w=.ok (a.toList==c.toList&&b.toList==d.toList) w:=by
 have e:prog.underlying 96=some (.struct (prog.fieldsOf 96)):=by kernel_rfl
 rw[show(10000:Nat)=9999+1 from rfl]
 first
  |rw[run_equalIn_agg w 9999 96 _ _ e Γ]
  |rw[run_equalIn_agg w 9999 96 _ _ e (λw=>by kernel_rfl)]
 have u9:=underlying9;simp only[Program.fieldsOf,underlying96];go_simp;by_cases f:a.toList=c.toList<;>by_cases g:b.toList=d.toList<;>simp[f,g]
def Anc(a b:List Pr)(A B:Option Addr)(c d:Nat)(w:World)(H:a.length<=1000000)(s:PrR w A a)(t:PrR w B b):Calls prog 32 #[fD A a.length c,fD B b.length d] w λE K=>E=gY (.bool (VF Gy a b))/\Dr w K:=by
 have y:=Ac s;have z:=Ac t;clear s t;by_cases l:a.length=b.length
 ·obtain⟨m,n⟩:=ε b.length;have j:=Ac n;have r:=Ac l;rw[l,<-n];have Q:m<=1000000:=O1;clear n H l;go_enter func32,ntmps32
  go_wp2_with fail
  go_loopw [13](λo wr=>∃e:Nat,e<=m/\o=fP .i64 (e:Nat)/\VF Gy a b=VF Gy (a.drop e) (b.drop e)/\Dr w wr)(λo _=>m-(intOf o).toNat)
  case atStart=>exact⟨0,BA _,rfl,rfl,Dr.refl _⟩
  case round=>
   obtain⟨e,N,rfl,x,u⟩:=hrel;have g:=Ac u;have k:=Ac x;clear u x;by_cases v:e<m
   ·have p:e<a.length:=Ψ j.out r.out;have q:e<b.length:=Ω j.out;obtain⟨L,W,rfl,_,Y,Z⟩:=(y.below (g.below _)).at e p;obtain⟨M,X,rfl,_,aa,ab⟩:=(z.below (g.below _)).at e q;obtain⟨I,T,J⟩:=ltT v;have S:=wk1 e O1;have P:prog.eqGuardType prog.depth 80=jw:=by kernel_rfl
    have R:=λD=>Tryz.Aqp a[e].key a[e].text b[e].key b[e].text D
    have i:=Ac (k.trans (uh (f:=Gy) p q));rw[show Gy a[e] b[e]=((a[e].key.toList==b[e].key.toList)&&(a[e].text.toList==b[e].text.toList))from rfl]at i;generalize(a[e].key.toList==b[e].key.toList)=F at*;generalize(a[e].text.toList==b[e].text.toList)=G at*;clear k;cases F<;>cases G
    case true.true=>
     go_wp2_with fail
     go_quiet(fail)
     go_wp2_with fail
     go_roundw
     case rel=>exact⟨e+1,O1,by go_num,i.out,by first|exact g.trans (Dr.one _ _)|exact g.out⟩
     case measure=>simp[intOf];omega
    all_goals(go_wp2_with fail)
    all_goals(go_quiet(fail))
    all_goals(go_wp2_with fail)
    all_goals(go_ret)
    all_goals(exact⟨by rw[show VF Gy a b=jw from i.out];rfl,by first|exact g.trans (Dr.one _ _)|exact g.out⟩)
   ·obtain⟨I,J⟩:=qA v;have i:Hid (VF Gy a b=true):=Ac (k.trans (Aco (Ψ j.out r.out) (Ω j.out)));clear k
    go_wp2_with fail
    go_ret;exact⟨by rw[i.out];rfl,g.out⟩
 ·have t1:((a.length:Int)!=(b.length:Int))=true:=by simp;omega
  have C:Hid (VF Gy a b=jw):=Ac (Acn l);generalize a.length=U at*;generalize b.length=V at*;go_enter func32,ntmps32
  go_wp2_with fail
  go_ret;exact⟨by rw[C.out];rfl,Dr.refl _⟩
def Ajb(a b:List Pr)(A B:Option Addr)(c d:Nat)(w:World)(H:a.length<=1000000)(s:PrR w A a)(t:PrR w B b):Calls prog 19 #[fD A a.length c,fD B b.length d] w λE K=>E=gY (.bool (VF Gy a b))/\Dr w K:=by
 have y:=Ac s;have z:=Ac t;clear s t;by_cases l:a.length=b.length
 ·obtain⟨m,n⟩:=ε b.length;have j:=Ac n;have r:=Ac l;rw[l,<-n];have Q:m<=1000000:=O1;clear n H l;go_enter func19,ntmps19
  go_wp2_with fail
  go_loopw [5](λo wr=>∃e:Nat,e<=m/\o=fP .i64 (e:Nat)/\VF Gy a b=VF Gy (a.drop e) (b.drop e)/\Dr w wr)(λo _=>m-(intOf o).toNat)
  case atStart=>exact⟨0,BA _,rfl,rfl,Dr.refl _⟩
  case round=>
   obtain⟨e,N,rfl,x,u⟩:=hrel;have g:=Ac u;have k:=Ac x;clear u x;by_cases v:e<m
   ·have p:e<a.length:=Ψ j.out r.out;have q:e<b.length:=Ω j.out;obtain⟨L,W,rfl,_,Y,Z⟩:=(y.below (g.below _)).at e p;obtain⟨M,X,rfl,_,aa,ab⟩:=(z.below (g.below _)).at e q;obtain⟨I,T,J⟩:=ltT v;have S:=wk1 e O1;have P:prog.eqGuardType prog.depth 96=jw:=by kernel_rfl
    have R:=λD=>Tryz.Anb a[e].key a[e].text b[e].key b[e].text D
    have i:=Ac (k.trans (uh (f:=Gy) p q));rw[show Gy a[e] b[e]=((a[e].key.toList==b[e].key.toList)&&(a[e].text.toList==b[e].text.toList))from rfl]at i;generalize(a[e].key.toList==b[e].key.toList)=F at*;generalize(a[e].text.toList==b[e].text.toList)=G at*;clear k;cases F<;>cases G
    case true.true=>
     go_wp2_with fail
     go_quiet(fail)
     go_wp2_with fail
     go_roundw
     case rel=>exact⟨e+1,O1,by go_num,i.out,by first|exact g.trans (Dr.one _ _)|exact g.out⟩
     case measure=>simp[intOf];omega
    all_goals(go_wp2_with fail)
    all_goals(go_quiet(fail))
    all_goals(go_wp2_with fail)
    all_goals(go_ret)
    all_goals(exact⟨by rw[show VF Gy a b=jw from i.out];rfl,by first|exact g.trans (Dr.one _ _)|exact g.out⟩)
   ·obtain⟨I,J⟩:=qA v;have i:Hid (VF Gy a b=true):=Ac (k.trans (Aco (Ψ j.out r.out) (Ω j.out)));clear k
    go_wp2_with fail
    go_ret;exact⟨by rw[i.out];rfl,g.out⟩
 ·have t1:((a.length:Int)!=(b.length:Int))=true:=by simp;omega
  have C:Hid (VF Gy a b=jw):=Ac (Acn l);generalize a.length=U at*;generalize b.length=V at*;go_enter func19,ntmps19
  go_wp2_with fail
  go_ret;exact⟨by rw[C.out];rfl,Dr.refl _⟩
