import Derived.Test.YtbkpiojejmhfcaaGreatDoorG17
import Derived.Test.YtbkpiojejmhfcaaGreatDoorG25
namespace Go.Proofs.YtbkpiojejmhfcaaGreatDoor
open Go.RowKit
theorem Tryz.pairRTyK:RowTyK Tryz.prog 84 164 (.agg #[.string ⟨#[]⟩,.string ⟨#[]⟩]) 2 32:=⟨Tryz.underlying84,by kernel_rfl,rfl⟩
set_option maxHeartbeats 4000000 in
set_option maxRecDepth 100000 in
theorem lawBack(l:List Pr)(A:Option Addr)(c:Nat)(w:World)(hl:l.length≤100000)(h:PrR w A l):
 Calls Tryz.prog 35 #[.slice A l.length c] w fun e w'=>∃v,e= .returned v∧w'.ownsRow w.heap.size 164 2 v l.length (prCs l)∧Below w.heap.size w w':=by
 have HR:=Lib.hid h
 obtain⟨n,hn⟩:∃n,n=l.length:=⟨_,rfl⟩
 have HN:=Lib.hid hn
 rw [←hn]at hl⊢
 clear h hn
 go_enter Tryz.func35,Tryz.ntmps35
 go_wp2_with fail
 go_loopw [3,8](fun v i wr=>∃k:Nat,k≤n∧i= .int .i64 (k:Nat)∧wr.ownsRow w.heap.size 164 2 v k (prCs (l.take k))∧Below w.heap.size w wr)(fun _ i _=>n- (intOf i).toNat)
 case atStart=>exact⟨0,Nat.zero_le _,rfl,World.ownsRow_nil _ _ _ _,Below.refl _ _⟩
 case round=>
  obtain⟨k,hk,rfl,hown,hb⟩:=hrel
  have HO:=Lib.hid hown
  have HB:=Lib.hid hb
  clear hown hb
  by_cases hlt:k<n
  ·have hkl:k<l.length:=by have:=HN.out;omega
   obtain⟨b,off,rfl,hbw,q0,q1⟩:=(HR.out.below HB.out).at k hkl
   have hx1:(k:Int)<(n:Int):=by omega
   have hx2:decide ((k:Int)<(n:Int))=true:=decide_eq_true hx1
   have hx5:decide (k<n)=true:=decide_eq_true hlt
   have hwk:IntKind.i64.wrap ((k:Int)+1)=(k:Int)+1:=IntWalk.i64_in _ (by omega)
   have HT:Hid (prCs (l.take (k+1))=prCs (l.take k)++prC l[k]):=Lib.hid (by rw [List.take_succ_eq_append_getElem hkl,prCs_app])
   generalize l[k]=y at*
   obtain⟨y1,y2⟩:=y
   simp only at q0 q1
   obtain⟨W,hW⟩:∃W,W=wr.alloc (.cells #[.string y1,.string y2] 147):=⟨_,rfl⟩
   have hbW:Below wr.heap.size wr W:=hW▸(Below.refl _ _).alloc (Nat.le_refl _) _
   have hOW:=own_below5 HO.out hbW
   have hBW:=HB.out.trans (hbW.mono HB.out.size)
   rw [hW]at hOW hBW
   have HOW:=Lib.hid hOW
   have HBW:=Lib.hid hBW
   clear hW hbW hOW hBW
   go_wp2_with(at_builtin;refine wpList_app_one rfl (.tmp 12) (.tmp 14) 84 rfl Tryz.pairRTyK (wr.alloc (.cells #[.string y1,.string y2] 147)) w.heap.size u3 k (prCs (l.take k)) (prC ⟨y1,y2⟩) rfl (by exact HOW.out) rfl _ 1 rfl (by simp) rfl (by decide) (by intro u hu;simp [prC]at hu;rcases hu with rfl| rfl<;>rfl) (by omega) (by decide) (by exact HBW.out.size) ?_;intro g8 c8 w8 hO8 hB8 hK8 hg8)
   have HO8:=Lib.hid hO8
   have HB8:=Lib.hid (HBW.out.trans hB8)
   clear hO8 hB8 hK8 hg8
   go_wp2_with fail
   go_roundw
   case rel=>exact⟨k+1,by omega,by go_num,by rw [HT.out];exact HO8.out,HB8.out⟩
   case measure=>simp [intOf];omega
  ·have hkn:k=n:=by omega
   subst hkn
   have hx2:decide ((k:Int)<(k:Int))=false:=decide_eq_false (by omega)
   have hx5:decide (k<k)=false:=decide_eq_false (by omega)
   have HO5:=HO.out
   rw [List.take_of_length_le (by rw [←HN.out];omega)]at HO5
   have HO5:=Lib.hid HO5
   go_wp2_with fail
   go_ret
   exact⟨_,rfl,HO5.out,HB.out⟩
set_option maxHeartbeats 4000000 in
set_option maxRecDepth 100000 in
theorem lawInts(a:List Int)(A B:Option Addr)(c d:Nat)(w:World)(hl:a.length≤100000)(ha:Rd w A a.length (ivs a))(hb:Rd w B a.length (ivs a)):
 Calls Tryz.prog 36 #[.slice A a.length c,.slice B a.length d] w fun e w'=>e= .returned (.bool true)∧Dr w w':=by
 have HA:=Lib.hid ha
 have HB:=Lib.hid hb
 obtain⟨n,hn⟩:∃n,n=a.length:=⟨_,rfl⟩
 have HN:=Lib.hid hn
 rw [←hn]at hl HA HB⊢
 have t2:((n:Int)!=(n:Int))=false:=by simp
 clear ha hb hn
 go_enter Tryz.func36,Tryz.ntmps36
 go_wp2_with fail
 go_loopw [13](fun i wr=>∃k:Nat,k≤n∧i= .int .i64 (k:Nat)∧Dr w wr)(fun i _=>n- (intOf i).toNat)
 case atStart=>exact⟨0,Nat.zero_le _,rfl,Dr.refl _⟩
 case round=>
  obtain⟨k,hk,rfl,hdr⟩:=hrel
  have HD:=Lib.hid hdr
  clear hdr
  by_cases hlt:k<n
  ·have hkl:k<a.length:=by have:=HN.out;omega
   obtain⟨ba,oa,rfl,_,qa⟩:=(Rd.below HA.out (HD.out.below _)).2 (by omega)
   obtain⟨bb,ob,rfl,_,qb⟩:=(Rd.below HB.out (HD.out.below _)).2 (by omega)
   have q1:wr.cell? ⟨ba,oa+k,none⟩=some (.int .i64 a[k]):=by rw [qa k hlt];simp [ivs,hkl]
   have q2:wr.cell? ⟨bb,ob+k,none⟩=some (.int .i64 a[k]):=by rw [qb k hlt];simp [ivs,hkl]
   have hx1:(k:Int)<(n:Int):=by omega
   have hx2:decide ((k:Int)<(n:Int))=true:=decide_eq_true hx1
   have hx5:decide (k<n)=true:=decide_eq_true hlt
   have hwk:IntKind.i64.wrap ((k:Int)+1)=(k:Int)+1:=IntWalk.i64_in _ (by omega)
   have t3:(a[k]!=a[k])=false:=by simp
   clear qa qb
   generalize a[k]=y at*
   go_wp2_with fail
   go_quiet(fail)
   go_wp2_with fail
   go_roundw
   case rel=>exact⟨k+1,by omega,by go_num,by first| exact HD.out.trans (Dr.one _ _)| exact HD.out⟩
   case measure=>simp [intOf];omega
  ·have hx2:decide ((k:Int)<(n:Int))=false:=decide_eq_false (by omega)
   have hx5:decide (k<n)=false:=decide_eq_false hlt
   go_wp2_with fail
   go_ret
   exact⟨rfl,HD.out⟩
end Go.Proofs.YtbkpiojejmhfcaaGreatDoor
