import Derived.Deep.LoopGhost
import Derived.Test.YtkimaejoeapmnaaGreatDoorG05
set_option maxHeartbeats 32000000
set_option maxRecDepth 100000
open List renaming getElem_of_mem->CU,any_eq_false->Px
open Nat renaming lt_or_ge->Ih,le_refl->Ad
open Go.Lib renaming hid->Aa
namespace Go.Proofs.YtkimaejoeapmnaaGreatDoor
open Go.RowKit
def TZ(l:List UInt8)(x:UInt8):Nat:=l.countP fun y=>decide (y.toNat<x.toNat)
theorem Abx(l:List UInt8)(x:UInt8):TZ l x<=l.length:=List.countP_le_length
theorem search_end(l:List UInt8)(x:UInt8)(i:Nat)(hi:i<=l.length)(h1:∀t(h:t<l.length),t<i->l[t].toNat<x.toNat)(h2:∀t(h:t<l.length),i<=t->x.toNat<=l[t].toNat):TZ l x=i:=by
 unfold TZ
 conv=>lhs;rw [<-List.take_append_drop i l]
 rw [List.countP_append];have e1:(l.take i).countP (fun y=>decide (y.toNat<x.toNat))=i:=by
  have:(l.take i).length=i:=by simp;omega
  conv=>rhs;rw [<-this]
  rw [List.countP_eq_length];intro a ha;obtain⟨t,ht,rfl⟩:=CU ha;simp at ht;simpa using h1 t (by omega) (by omega)
 have e2:(l.drop i).countP (fun y=>decide (y.toNat<x.toNat))=0:=by
  rw [List.countP_eq_zero];intro a ha;obtain⟨t,ht,rfl⟩:=CU ha;simp at ht;have:=h2 (i+t) (by omega) (by omega);simp;omega
 omega
theorem wE(l:List UInt8)(x:UInt8)(i:Nat)(h1:∀t(h:t<l.length),t<i->l[t].toNat<x.toNat)(h2:∀t(h:t<l.length),i<=t->x.toNat<=l[t].toNat)
 (hs:∀a b(ha:a<l.length)(hb:b<l.length),a<b->l[a].toNat<l[b].toNat)(hi:i<l.length)(hx:l[i].toNat≠x.toNat):(l.any fun y=>y.toNat==x.toNat)=false:=by
 rw [Px];intro a ha;obtain⟨t,ht,rfl⟩:=CU ha;simp;rcases Ih t i with h| h
 ·have:=h1 t ht h;omega
 ·rcases Ih i t with h'| h'
  ·have:=hs i t hi ht h';have:=h2 i hi (Ad _);omega
  ·obtain rfl:t=i:=by omega
   exact hx
theorem oH(l:List UInt8)(x:UInt8)(h1:∀t(h:t<l.length),t<l.length->l[t].toNat<x.toNat):(l.any fun y=>y.toNat==x.toNat)=false:=by
 rw [Px];intro a ha;obtain⟨t,ht,rfl⟩:=CU ha;have:=h1 t ht ht;simp;omega
theorem wF(l:List UInt8)(x:UInt8)(i:Nat)(hi:i<l.length)(hx:l[i].toNat=x.toNat):(l.any fun y=>y.toNat==x.toNat)=true:=by
 rw [List.any_eq_true];exact⟨l[i],List.getElem_mem _,by simpa using hx⟩
theorem wG(x:Int)(w:World):Calls Tryz.prog 209 #[.int .u8 x] w fun e w'=>e= .returned (.bool false)/\w=w':=by
 go_enter Tryz.func209,Tryz.ntmps209;go_wp2;go_ret;exact⟨by simp,rfl⟩
theorem Z7(x:Int)(w:World):Calls Tryz.prog 203 #[.int .u8 x] w fun e w'=>e= .returned (.bool false)/\w=w':=by
 go_enter Tryz.func203,Tryz.ntmps203;go_wp2;go_ret;exact⟨by simp,rfl⟩
theorem Xf(x y:Int)(w:World):Calls Tryz.prog 202 #[.int .u8 x,.int .u8 y] w fun e w'=>e= .returned (.bool (decide (x<y)))/\w=w':=by
 go_enter Tryz.func202,Tryz.ntmps202
 go_wp2_with(go_at_call 209;refine(wG _ _).mono ?_;rintro e w'⟨rfl,rfl⟩)
 go_ret;exact⟨rfl,rfl⟩
theorem Xg(A:Option Addr)(n c:Nat)(l:List UInt8)(x:UInt8)(w:World)(hbig:n<=1000000)(h:Bs w A n l)(hs:∀a b(ha:a<l.length)(hb:b<l.length),a<b->l[a].toNat<l[b].toNat):
 Calls Tryz.prog 189 #[.slice A n c,.int .u8 (x.toNat:Int)] w fun e w'=>e= .returned (.tuple #[.int .i64 (TZ l x:Nat),.bool (l.any fun y=>y.toNat==x.toNat)])/\w=w':=by
 have hl:=h.len;subst hl;have S:=Aa hs;clear hs;go_enter Tryz.func189,Tryz.ntmps189;go_wp2
 go_loopg [7,8]l.length(fun g s7 s8 wr=>∃lo hi:Nat,s7= .int .i64 lo/\s8= .int .i64 hi/\lo<=hi/\hi<=l.length/\hi-lo<=g/\wr=w/\(∀t(h:t<l.length),t<lo->l[t].toNat<x.toNat)/\(∀t(h:t<l.length),hi<=t->x.toNat<=l[t].toNat))
 case atStart=>exact⟨0,l.length,rfl,rfl,Nat.zero_le _,Ad _,by omega,rfl,fun t _ ht=>absurd ht (Nat.not_lt_zero _),fun t h1 h2=>by omega⟩
 case round=>
  obtain⟨lo,hi,rfl,rfl,hlh,hin,hg,rfl,h1,h2⟩:=hrel;have I1:=Aa h1;have I2:=Aa h2;clear h1 h2;by_cases hlt:lo<hi
  ·obtain⟨hq,p,off,rfl,hp,hc⟩:=h.at (show(lo+hi)/2<l.length by omega);generalize hy:l[(lo+hi)/2]=y at hc;have Y:=Aa hy;have hyb:y.toNat<256:=y.toNat_lt;have hxb:x.toNat<256:=x.toNat_lt;clear hy;by_cases hyx:y.toNat<x.toNat
   ·have hd:decide ((y.toNat:Int)<(x.toNat:Int))=true:=by simp;omega
    go_wp2_with(go_at_call 202;refine(Xf _ _ _).mono ?_;rintro e w'⟨rfl,rfl⟩)
    go_roundg(hi- ((lo+hi)/2+1))
    case measure=>omega
    case rel=>
     refine⟨(lo+hi)/2+1,hi,by rw [show((lo:Int)+(hi:Int))/2+1=(((lo+hi)/2+1:Nat):Int)by omega],rfl,by omega,hin,Ad _,rfl,fun t ht htl=> ?_,I2.out⟩;rcases Ih t ((lo+hi)/2)with h'| h'
     ·have:=S.out t ((lo+hi)/2) ht hq h';rw [Y.out]at this;omega
     ·obtain rfl:t=(lo+hi)/2:=by omega
      rw [Y.out];exact hyx
   ·have hd:decide ((y.toNat:Int)<(x.toNat:Int))=false:=by simp;omega
    go_wp2_with(go_at_call 202;refine(Xf _ _ _).mono ?_;rintro e w'⟨rfl,rfl⟩)
    go_roundg((lo+hi)/2-lo)
    case measure=>omega
    case rel=>
     refine⟨lo,(lo+hi)/2,rfl,by rw [show((lo:Int)+(hi:Int))/2=(((lo+hi)/2:Nat):Int)by omega],by omega,by omega,Ad _,rfl,I1.out,fun t ht htn=> ?_⟩;rcases Ih ((lo+hi)/2) t with h'| h'
     ·have:=S.out ((lo+hi)/2) t hq ht h';rw [Y.out]at this;omega
     ·obtain rfl:t=(lo+hi)/2:=by omega
      rw [Y.out];omega
  ·have:hi=lo:=by omega
   subst this;have E:=Aa (search_end l x hi hin I1.out I2.out);by_cases hn:hi<l.length
   ·obtain⟨hq,p,off,rfl,hp,hc⟩:=h.at hn;generalize hy:l[hi]=y at hc;have Y:=Aa hy;clear hy;by_cases hyx:y.toNat=x.toNat
    ·have E2:=Aa (wF l x hi hn (by rw [Y.out];exact hyx));have hd:((y.toNat:Int)==(x.toNat:Int))=true:=by simp;omega
     clear hyx
     go_wp2_with(go_at_call 203;refine(Z7 _ _).mono ?_;rintro e w'⟨rfl,rfl⟩)
     go_ret2;exact⟨by rw [E.out,E2.out];rfl,rfl⟩
    ·have E2:=Aa (wE l x hi I1.out I2.out S.out hn (by rw [Y.out];exact hyx));have hd:((y.toNat:Int)==(x.toNat:Int))=false:=by rw [beq_eq_false_iff_ne];omega
     clear hyx
     go_wp2_with(go_at_call 203;refine(Z7 _ _).mono ?_;rintro e w'⟨rfl,rfl⟩)
     go_ret2;exact⟨by rw [E.out,E2.out];rfl,rfl⟩
   ·have hle:hi=l.length:=by omega
    have E2:=Aa (oH l x (fun t ht _=>I1.out t ht (by omega)));clear hle
    go_wp2_with fail
    go_ret2;exact⟨by rw [E.out,E2.out];rfl,rfl⟩
