import Derived.Test.YtfmkofmaabgbkaaGreatDoorJ28
set_option linter.defProp false
set_option maxHeartbeats 32000000
set_option maxRecDepth 100000
open Go.Lib renaming hid->Ac
open UInt64 renaming toNat_inj->DN
open Go.Value renaming string->fQ
namespace Go.Proofs.YtfmkofmaabgbkaaGreatDoor
open Go.Proofs.Tryz
section
open Go.RowKit Go.Shelf
attribute [local go_sem]Oper.semAt_some
end
section
open Go.RowKit
section
variable{w w':World}{d L:Nat}{ws:Nat->UInt64}{m:Mode}{mark:Nat->Nat}{g:Nat}{a:Nat->Option Nat}
end
section
variable{w:World}{d p L:Nat}{s:St}{F:Nat->Prop}
end
section
variable{X:Nat->Prop}{L:Nat}{s:St}{c:List Kv}
end
section
variable{w:World}{x d p L:Nat}{s:St}{F:Nat->Prop}{c:List Kv}{P:(Nat->UInt64)->Prop}
def Af8(h:J6 (.down P) w x d p L s F):Calls prog 128 #[ptr0 x] w λi w'=>i=.returned (.tuple #[.int .u64 0,.int .i64 12])/\η w w':=by
 have z:=h.box.p1;obtain⟨m,n,f,_⟩:=h.L0;obtain⟨v,a,u,t,r,own,k,hF⟩:=h.sys;obtain⟨g,o,q,j⟩:=Uc.blk k.dev;have e:=Ah3 d L g 9 1 o q w m n j (Ξ f.fits f.OI f.BO) U;rw[show((8*9:Nat):Int)=72 from rfl,show((1:Nat):Int)=1 from rfl]at e;have e:=Ac e;clear h f k hF j;go_enter func128,ntmps128
 go_wp2_with fail
 refine e.out.mono ?_;rintro i y⟨rfl,a⟩;have l:=Ac a;clear a e
 go_wp2_with fail
 go_ret2;exact⟨rfl,l.out⟩
def TV(h:J6 (.down P) w x d p L s F)(key:ByteArray)(y:key.size<=1000):Calls prog 84 #[ptr0 x,fQ key] w λe w'=>e=.returned (.tuple #[.slice none 0 0,.slice none 0 0,.int .i64 12])/\η w w':=by
 have g:=Ac (Ahg key w O1);have i:=Ac (λ(n:World)(o:η w n)=>Af8 (h.below o));clear h;go_enter func84,ntmps84
 go_wp2_with fail
 refine g.mono ?_;rintro e r⟨z,rfl,l,j⟩;obtain⟨t,u,rfl,v,q⟩:=Cj l;have f:=Ac j;clear g l q j
 go_wp2_with fail
 refine(i r f.out).mono ?_;rintro e A⟨rfl,k⟩;have m:=Ac (τ f.out k);clear k i
 go_wp2_with fail
 refine bodyPost_ret (v:=.tuple #[.slice none 0 0,.slice none 0 0,.int .i64 12]) (by simp[results,results84,go_sem]) rfl ?_;exact⟨rfl,m.out⟩
end
section
variable{w:World}{x d p L:Nat}{s:St}{F:Nat->Prop}{P:(Nat->UInt64)->Prop}{q:Ms}
def Avc(h:jy w x d p L q F)(key:ByteArray)(n:key.size<=16):Calls prog 45 #[ptr0 x,fQ key] w (GetPost (getD q key.data.toList) w):=by
 obtain⟨l,s⟩:=q;cases l with
 |up k=>exact jR (len:=MU k) h key O1
 |down P=>
  have h:J6 (.down P) w x d p L s F:=h;have e:=Ac (Ih h key O1);have f:=Ac (TV h key O1);rw[ku (show¬16<key.size by omega)]at e;show Calls _ _ _ _ (GetPost (0,12) w);clear h;go_enter func45,ntmps45
  go_wp2_with fail
  refine e.mono ?_;rintro j m⟨rfl,rfl⟩;clear e
  go_wp2_with fail
  refine f.mono ?_;rintro j m⟨rfl,g⟩;have i:=Ac g;clear g f
  go_wp2_with fail
  go_ret2;exact⟨rfl,i.out⟩
def Ao6(h:jy w x d p L q F)(key:ByteArray)(r:key.size<=16)(e:UInt64)(l:e≠0):Calls prog 120 #[ptr0 x,fQ key,.int .u64 (e.toNat:Int)] w (L9 (UC q key.data.toList e) x d p L F w):=by
 obtain⟨n,s⟩:=q;cases n with
 |up t=>exact Aae h key O1 e
 |down P=>
  have h:J6 (.down P) w x d p L s F:=h;have f:=Ac (Ih h key O1);have i:=Ac (TV h key O1);have m:=Ac h;rw[ku (show¬16<key.size by omega)]at f;have t1:((e.toNat:Int)==0)=false:=by
   rw[beq_eq_false_iff_ne];intro j;exact l (DN.1 (by simp;omega))
  show Calls _ _ _ _ (L9 (⟨.down P,s⟩,12) x d p L F w);clear h l;go_enter func120,ntmps120
  go_wp2_with fail
  refine f.mono ?_;rintro j o⟨rfl,rfl⟩;clear f
  go_wp2_with fail
  refine i.mono ?_;rintro j o⟨rfl,k⟩;have g:=Ac k;clear k i
  go_wp2_with fail
  go_ret;exact⟨rfl,F,m.below g.out,AL.of_below g.out⟩
def Avd(h:jy w x d p L q F)(key:ByteArray)(n:key.size<=16):Calls prog 96 #[ptr0 x,fQ key] w (QG (vW q key.data.toList) x d p L F w):=by
 obtain⟨l,s⟩:=q;cases l with
 |up o=>exact vV h key O1
 |down P=>
  have h:J6 (.down P) w x d p L s F:=h;have e:=Ac (Ih h key O1);have g:=Ac (TV h key O1);have j:=Ac h;rw[ku (show¬16<key.size by omega)]at e;show Calls _ _ _ _ (QG (⟨.down P,s⟩,0,12) x d p L F w);clear h;go_enter func96,ntmps96
  go_wp2_with fail
  refine e.mono ?_;rintro k m⟨rfl,rfl⟩;clear e
  go_wp2_with fail
  refine g.mono ?_;rintro k m⟨rfl,i⟩;have f:=Ac i;clear i g
  go_wp2_with fail
  go_ret2;exact⟨rfl,F,j.below f.out,AL.of_below f.out⟩
end
def An6{w:World}{x d p L:Nat}{q:Ms}{F:Nat->Prop}(h:jy w x d p L q F){u:Nat}{stamp:UInt64}{vs z:Value}{y:Int}(o:UA w u x d p stamp vs z false y F)(key:ByteArray)(s:key.size<=16)(v:UInt64):
 Calls prog 262 #[ptr0 u,fQ key,.int .u64 (v.toNat:Int)] w λk w'=>k=.returned (.int .i64 (La q key.data.toList v).2)/\∃r,jy w' x d p L (La q key.data.toList v).1 r/\AL F r w w':=by
 have t:=o.box.cell 2;unfold Eh at t;simp only[List.getElem?_cons_zero,List.getElem?_cons_succ]at t;by_cases f:v=0
 ·have e:=Ac (Avd h key s);have g:Hid (La q key.data.toList v=((vW q key.data.toList).1,(vW q key.data.toList).2.2)):=Ac (by unfold La;rw[jM f]);subst f;rw[show((0:UInt64).toNat:Int)=0 from rfl];clear h o;go_enter func262,ntmps262
  go_wp2_with fail
  refine e.mono ?_;rintro k A⟨rfl,l,j,i⟩;have n:=Ac j;have m:=Ac i;clear e j i
  go_wp2_with fail
  go_ret;exact⟨by rw[g.out];rfl,l,by rw[g.out];exact n.out,m.out⟩
 ·have e:=Ac (Ao6 h key s v f);have g:Hid (La q key.data.toList v=UC q key.data.toList v):=Ac (by unfold La;rw[ku f]);have t1:((v.toNat:Int)==0)=false:=ζ λk=>f (DN.1 (by simp;omega))
  clear h o f;unfold L9 at e;go_enter func262,ntmps262
  go_wp2_with fail
  refine e.mono ?_;rintro k A⟨rfl,l,j,i⟩;have n:=Ac j;have m:=Ac i;clear e j i
  go_wp2_with fail
  go_ret;exact⟨by rw[g.out];rfl,l,by rw[g.out];exact n.out,m.out⟩
