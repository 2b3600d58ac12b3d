import Derived.Deep.LoopGhost
import Derived.Test.YtkimaejoeapmnaaGreatDoorH05
set_option linter.defProp false
set_option maxHeartbeats 32000000
set_option maxRecDepth 100000
open List renaming getElem_of_mem->CB,any_eq_false->PT
open Nat renaming lt_or_ge->Il,le_refl->Ad
open Go.Lib renaming hid->Aa
namespace Go.Proofs.YtkimaejoeapmnaaGreatDoor
open Go.RowKit
open Go.Proofs.Tryz
def U3(l:List UInt8)(x:UInt8):Nat:=l.countP λy=>decide (y.toNat<x.toNat)
def Ac4(l:List UInt8)(x:UInt8):U3 l x<=l.length:=List.countP_le_length
def search_end(l:List UInt8)(x:UInt8)(i:Nat)(hi:i<=l.length)(h1:∀t(h:t<l.length),t<i->l[t].toNat<x.toNat)(h2:∀t(h:t<l.length),i<=t->x.toNat<=l[t].toNat):U3 l x=i:=by
 unfold U3
 conv=>lhs;rw [<-List.take_append_drop i l]
 rw [List.countP_append];have e1:(l.take i).countP (λy=>decide (y.toNat<x.toNat))=i:=by
  have:(l.take i).length=i:=by simp;omega
  conv=>rhs;rw [<-this]
  rw [List.countP_eq_length];intro a ha;obtain⟨t,ht,rfl⟩:=CB ha;simp at ht;simpa using h1 t O O
 have e2:(l.drop i).countP (λy=>decide (y.toNat<x.toNat))=0:=by
  rw [List.countP_eq_zero];intro a ha;obtain⟨t,ht,rfl⟩:=CB ha;simp at ht;have:=h2 (i+t) O O;simp;omega
 omega
def yf(l:List UInt8)(x:UInt8)(i:Nat)(h1:∀t(h:t<l.length),t<i->l[t].toNat<x.toNat)(h2:∀t(h:t<l.length),i<=t->x.toNat<=l[t].toNat)
 (hs:∀a b(ha:a<l.length)(hb:b<l.length),a<b->l[a].toNat<l[b].toNat)(hi:i<l.length)(hx:l[i].toNat≠x.toNat):(l.any λy=>y.toNat==x.toNat)=false:=by
 rw [PT];intro a ha;obtain⟨t,ht,rfl⟩:=CB ha;simp;rcases Il t i with h| h
 ·have:=h1 t ht h;omega
 ·rcases Il i t with h'| h'
  ·have:=hs i t hi ht h';have:=h2 i hi (Ad _);omega
  ·obtain rfl:t=i:=O
   exact hx
def qL(l:List UInt8)(x:UInt8)(h1:∀t(h:t<l.length),t<l.length->l[t].toNat<x.toNat):(l.any λy=>y.toNat==x.toNat)=false:=by
 rw [PT];intro a ha;obtain⟨t,ht,rfl⟩:=CB ha;have:=h1 t ht ht;simp;omega
def yg(l:List UInt8)(x:UInt8)(i:Nat)(hi:i<l.length)(hx:l[i].toNat=x.toNat):(l.any λy=>y.toNat==x.toNat)=true:=by
 rw [List.any_eq_true];exact⟨l[i],List.getElem_mem _,by simpa using hx⟩
def yh(x:Int)(w:World):Calls prog 209 #[.int .u8 x] w λe w'=>e= .returned (.bool false)/\w=w':=by
 go_enter func209,ntmps209;go_wp2;go_ret;exact⟨by simp,rfl⟩
def aH(x:Int)(w:World):Calls prog 203 #[.int .u8 x] w λe w'=>e= .returned (.bool false)/\w=w':=by
 go_enter func203,ntmps203;go_wp2;go_ret;exact⟨by simp,rfl⟩
def XH(x y:Int)(w:World):Calls prog 202 #[.int .u8 x,.int .u8 y] w λe w'=>e= .returned (.bool (decide (x<y)))/\w=w':=by
 go_enter func202,ntmps202
 go_wp2_with(go_at_call 209;refine(yh _ _).mono ?_;rintro e w'⟨rfl,rfl⟩)
 go_ret;exact⟨rfl,rfl⟩
def XI(A:Option Addr)(n c:Nat)(l:List UInt8)(x:UInt8)(w:World)(hbig:n<=1000000)(h:Bs w A n l)(hs:∀a b(ha:a<l.length)(hb:b<l.length),a<b->l[a].toNat<l[b].toNat):
 Calls prog 189 #[.slice A n c,.int .u8 (x.toNat:Int)] w λe w'=>e= .returned (.tuple #[.int .i64 (U3 l x:Nat),.bool (l.any λy=>y.toNat==x.toNat)])/\w=w':=by
 have hl:=h.len;subst hl;have S:=Aa hs;clear hs;go_enter func189,ntmps189;go_wp2
 go_loopg [7,8]l.length(λg s7 s8 wr=>∃lo hi:Nat,s7= .int .i64 lo/\s8= .int .i64 hi/\lo<=hi/\hi<=l.length/\hi-lo<=g/\wr=w/\(∀t(h:t<l.length),t<lo->l[t].toNat<x.toNat)/\(∀t(h:t<l.length),hi<=t->x.toNat<=l[t].toNat))
 case atStart=>exact⟨0,l.length,rfl,rfl,Nat.zero_le _,Ad _,O,rfl,λt _ ht=>absurd ht (Nat.not_lt_zero _),λt h1 h2=>O⟩
 case round=>
  obtain⟨lo,hi,rfl,rfl,hlh,hin,hg,rfl,h1,h2⟩:=hrel;have I1:=Aa h1;have I2:=Aa h2;clear h1 h2;by_cases hlt:lo<hi
  ·obtain⟨hq,p,off,rfl,hp,hc⟩:=h.at (show(lo+hi)/2<l.length by omega);generalize hy:l[(lo+hi)/2]=y at hc;have Y:=Aa hy;have hyb:y.toNat<256:=y.toNat_lt;have hxb:x.toNat<256:=x.toNat_lt;clear hy;by_cases hyx:y.toNat<x.toNat
   ·have hd:decide ((y.toNat:Int)<(x.toNat:Int))=true:=by simp;omega
    go_wp2_with(go_at_call 202;refine(XH _ _ _).mono ?_;rintro e w'⟨rfl,rfl⟩)
    go_roundg(hi- ((lo+hi)/2+1))
    case measure=>omega
    case rel=>
     refine⟨(lo+hi)/2+1,hi,by rw [show((lo:Int)+(hi:Int))/2+1=(((lo+hi)/2+1:Nat):Int)by omega],rfl,O,hin,Ad _,rfl,λt ht htl=> ?_,I2.out⟩;rcases Il t ((lo+hi)/2)with h'| h'
     ·have:=S.out t ((lo+hi)/2) ht hq h';rw [Y.out]at this;omega
     ·obtain rfl:t=(lo+hi)/2:=O
      rw [Y.out];exact hyx
   ·have hd:decide ((y.toNat:Int)<(x.toNat:Int))=false:=by simp;omega
    go_wp2_with(go_at_call 202;refine(XH _ _ _).mono ?_;rintro e w'⟨rfl,rfl⟩)
    go_roundg((lo+hi)/2-lo)
    case measure=>omega
    case rel=>
     refine⟨lo,(lo+hi)/2,rfl,by rw [show((lo:Int)+(hi:Int))/2=(((lo+hi)/2:Nat):Int)by omega],O,O,Ad _,rfl,I1.out,λt ht htn=> ?_⟩;rcases Il ((lo+hi)/2) t with h'| h'
     ·have:=S.out ((lo+hi)/2) t hq ht h';rw [Y.out]at this;omega
     ·obtain rfl:t=(lo+hi)/2:=O
      rw [Y.out];omega
  ·have:hi=lo:=O
   subst this;have E:=Aa (search_end l x hi hin I1.out I2.out);by_cases hn:hi<l.length
   ·obtain⟨hq,p,off,rfl,hp,hc⟩:=h.at hn;generalize hy:l[hi]=y at hc;have Y:=Aa hy;clear hy;by_cases hyx:y.toNat=x.toNat
    ·have E2:=Aa (yg l x hi hn (by rw [Y.out];exact hyx));have hd:((y.toNat:Int)==(x.toNat:Int))=true:=by simp;omega
     clear hyx
     go_wp2_with(go_at_call 203;refine(aH _ _).mono ?_;rintro e w'⟨rfl,rfl⟩)
     go_ret2;exact⟨by rw [E.out,E2.out];rfl,rfl⟩
    ·have E2:=Aa (yf l x hi I1.out I2.out S.out hn (by rw [Y.out];exact hyx));have hd:((y.toNat:Int)==(x.toNat:Int))=false:=by rw [beq_eq_false_iff_ne];omega
     clear hyx
     go_wp2_with(go_at_call 203;refine(aH _ _).mono ?_;rintro e w'⟨rfl,rfl⟩)
     go_ret2;exact⟨by rw [E.out,E2.out];rfl,rfl⟩
   ·have hle:hi=l.length:=O
    have E2:=Aa (qL l x (λt ht _=>I1.out t ht O));clear hle
    go_wp2_with fail
    go_ret2;exact⟨by rw [E.out,E2.out];rfl,rfl⟩
