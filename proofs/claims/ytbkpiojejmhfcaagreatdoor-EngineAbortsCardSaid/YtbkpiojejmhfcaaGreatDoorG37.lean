import Derived.Test.YtbkpiojejmhfcaaGreatDoorG17
namespace Go.Proofs.YtbkpiojejmhfcaaGreatDoor
open Go.RowKit
def anW(x:An)(A:Option Addr)(c:Nat):Value:= .agg #[.string x.text,.slice A x.pairs.length c,.int .i64 x.n,.bool x.done,.int .i64 x.e]
set_option maxHeartbeats 4000000 in
set_option maxRecDepth 100000 in
theorem scrSame(a b:An)(A B:Option Addr)(c d:Nat)(w:World)(hl:a.pairs.length≤1000000)(ha:PrR w A a.pairs)(hb:PrR w B b.pairs):
 Calls Tryz.prog 39 #[anW a A c,anW b B d] w fun e w'=>e= .returned (.bool (sameAn a b))∧Below w.heap.size w w':=by
 obtain⟨ta,pa,na,da,ea⟩:=a
 obtain⟨tb,pb,nb,db,eb⟩:=b
 unfold anW
 simp only at ha hb hl⊢
 obtain⟨W1,hW1⟩:∃W1,W1=w.alloc (.cells #[.string ta,.slice A pa.length c,.int .i64 na,.bool da,.int .i64 ea] 91):=⟨_,rfl⟩
 obtain⟨W,hW⟩:∃W,W=W1.alloc (.cells #[.string tb,.slice B pb.length d,.int .i64 nb,.bool db,.int .i64 eb] 91):=⟨_,rfl⟩
 have k1:Below w.heap.size w W1:=hW1▸(Below.refl _ _).alloc (Nat.le_refl _) _
 have k2:Below W1.heap.size W1 W:=hW▸(Below.refl _ _).alloc (Nat.le_refl _) _
 have hbW:=k1.trans (k2.mono k1.size)
 have s1:W1.heap.size=w.heap.size+1:=by rw [hW1];simp
 have b1:Blk W1 w.heap.size 91 [.string ta,.slice A pa.length c,.int .i64 na,.bool da,.int .i64 ea]:=hW1▸heap_alloc_new _ _
 have b2:Blk W W1.heap.size 91 [.string tb,.slice B pb.length d,.int .i64 nb,.bool db,.int .i64 eb]:=hW▸heap_alloc_new _ _
 have B1:=b1.below k2 b1.lt
 rw [s1]at b2
 have x0:=B1.cell 0
 have x1:=B1.cell 1
 have x2:=B1.cell 2
 have x3:=B1.cell 3
 have x4:=B1.cell 4
 have y0:=b2.cell 0
 have y1:=b2.cell 1
 have y2:=b2.cell 2
 have y3:=b2.cell 3
 have y4:=b2.cell 4
 simp only [List.getElem?_cons_zero,List.getElem?_cons_succ]at x0 x1 x2 x3 x4 y0 y1 y2 y3 y4
 have HE:=Lib.hid (pairsEq pa pb A B c d W hl (ha.below hbW) (hb.below hbW))
 have HB:=Lib.hid hbW
 have HW1:=Lib.hid hW1
 have HW:=Lib.hid hW
 have HS:Hid (sameAn ⟨ta,pa,na,da,ea⟩ ⟨tb,pb,nb,db,eb⟩=((ta.toList==tb.toList)&&((na==nb)&&((da==db)&&((ea==eb)&&eqL samePr pa pb))))):=Lib.hid rfl
 rw [hW1]at hW
 have HWw:=Lib.hid hW
 obtain⟨e1,h1⟩:∃e1,(ta.toList==tb.toList)=e1:=⟨_,rfl⟩
 obtain⟨e2,h2⟩:∃e2,(na==nb)=e2:=⟨_,rfl⟩
 obtain⟨e4,h4⟩:∃e4,(ea==eb)=e4:=⟨_,rfl⟩
 have q1:(ta.toList !=tb.toList)= !e1:=by rw [←h1];rfl
 have q2:(na !=nb)= !e2:=by rw [←h2];rfl
 have q4:(ea !=eb)= !e4:=by rw [←h4];rfl
 rw [h1,h2,h4]at HS
 generalize eqL samePr pa pb=e5 at*
 clear ha hb hW hW1 k1 k2 hbW b1 b2 B1 s1
 cases e1
 case false=>
  simp only [Bool.not_false]at q1
  go_enter Tryz.func39,Tryz.ntmps39
  go_wp2_with(rw [←HWw.out])
  go_wp2_with fail
  go_ret
  exact⟨by rw [HS.out];rfl,HB.out⟩
 case true=>
  simp only [Bool.not_true]at q1
  cases e2
  case false=>
   simp only [Bool.not_false]at q2
   go_enter Tryz.func39,Tryz.ntmps39
   go_wp2_with(rw [←HWw.out])
   go_wp2_with fail
   go_ret
   exact⟨by rw [HS.out];rfl,HB.out⟩
  case true=>
   simp only [Bool.not_true]at q2
   cases da<;>cases db
   case true.false=>
    go_enter Tryz.func39,Tryz.ntmps39
    go_wp2_with(rw [←HWw.out])
    go_wp2_with fail
    go_ret
    exact⟨by rw [HS.out];rfl,HB.out⟩
   case false.true=>
    go_enter Tryz.func39,Tryz.ntmps39
    go_wp2_with(rw [←HWw.out])
    go_wp2_with fail
    go_ret
    exact⟨by rw [HS.out];rfl,HB.out⟩
   case true.true=>
    cases e4
    case false=>
     simp only [Bool.not_false]at q4
     go_enter Tryz.func39,Tryz.ntmps39
     go_wp2_with(rw [←HWw.out])
     go_wp2_with fail
     go_ret
     exact⟨by rw [HS.out];rfl,HB.out⟩
    case true=>
     simp only [Bool.not_true]at q4
     go_enter Tryz.func39,Tryz.ntmps39
     go_wp2_with(rw [←HWw.out])
     go_wp2_with fail
     refine HE.out.mono ?_
     rintro e w'⟨rfl,hd⟩
     have HB2:=Lib.hid (HB.out.trans (hd.below w.heap.size))
     clear hd HE
     go_wp2_with fail
     go_ret
     exact⟨by rw [HS.out];rfl,HB2.out⟩
   case false.false=>
    cases e4
    case false=>
     simp only [Bool.not_false]at q4
     go_enter Tryz.func39,Tryz.ntmps39
     go_wp2_with(rw [←HWw.out])
     go_wp2_with fail
     go_ret
     exact⟨by rw [HS.out];rfl,HB.out⟩
    case true=>
     simp only [Bool.not_true]at q4
     go_enter Tryz.func39,Tryz.ntmps39
     go_wp2_with(rw [←HWw.out])
     go_wp2_with fail
     refine HE.out.mono ?_
     rintro e w'⟨rfl,hd⟩
     have HB2:=Lib.hid (HB.out.trans (hd.below w.heap.size))
     clear hd HE
     go_wp2_with fail
     go_ret
     exact⟨by rw [HS.out];rfl,HB2.out⟩
theorem Tryz.pairTyK:RowTyK Tryz.prog 64 147 (.agg #[.string ⟨#[]⟩,.string ⟨#[]⟩]) 2 32:=⟨Tryz.underlying64,by kernel_rfl,rfl⟩
set_option maxHeartbeats 4000000 in
set_option maxRecDepth 100000 in
theorem lawPairs(l:List Pr)(A:Option Addr)(c:Nat)(w:World)(hl:l.length≤100000)(h:PrR w A l):
 Calls Tryz.prog 38 #[.slice A l.length c] w fun e w'=>∃v,e= .returned v∧w'.ownsRow w.heap.size 147 2 v l.length (prCs l)∧Below w.heap.size w w':=by
 have HR:=Lib.hid h
 obtain⟨n,hn⟩:∃n,n=l.length:=⟨_,rfl⟩
 have HN:=Lib.hid hn
 rw [←hn]at hl⊢
 clear h hn
 go_enter Tryz.func38,Tryz.ntmps38
 go_wp2_with fail
 go_loopw [3,8](fun v i wr=>∃k:Nat,k≤n∧i= .int .i64 (k:Nat)∧wr.ownsRow w.heap.size 147 2 v k (prCs (l.take k))∧Below w.heap.size w wr)(fun _ i _=>n- (intOf i).toNat)
 case atStart=>exact⟨0,Nat.zero_le _,rfl,World.ownsRow_nil _ _ _ _,Below.refl _ _⟩
 case round=>
  obtain⟨k,hk,rfl,hown,hb⟩:=hrel
  have HO:=Lib.hid hown
  have HB:=Lib.hid hb
  clear hown hb
  by_cases hlt:k<n
  ·have hkl:k<l.length:=by have:=HN.out;omega
   obtain⟨b,off,rfl,hbw,q0,q1⟩:=(HR.out.below HB.out).at k hkl
   have hx1:(k:Int)<(n:Int):=by omega
   have hx2:decide ((k:Int)<(n:Int))=true:=decide_eq_true hx1
   have hx5:decide (k<n)=true:=decide_eq_true hlt
   have hwk:IntKind.i64.wrap ((k:Int)+1)=(k:Int)+1:=IntWalk.i64_in _ (by omega)
   have HT:Hid (prCs (l.take (k+1))=prCs (l.take k)++prC l[k]):=Lib.hid (by rw [List.take_succ_eq_append_getElem hkl,prCs_app])
   generalize l[k]=y at*
   obtain⟨y1,y2⟩:=y
   simp only at q0 q1
   obtain⟨W,hW⟩:∃W,W=wr.alloc (.cells #[.string y1,.string y2] 164):=⟨_,rfl⟩
   have hbW:Below wr.heap.size wr W:=hW▸(Below.refl _ _).alloc (Nat.le_refl _) _
   have hOW:=own_below5 HO.out hbW
   have hBW:=HB.out.trans (hbW.mono HB.out.size)
   rw [hW]at hOW hBW
   have HOW:=Lib.hid hOW
   have HBW:=Lib.hid hBW
   clear hW hbW hOW hBW
   go_wp2_with(at_builtin;refine wpList_app_one rfl (.tmp 12) (.tmp 14) 64 rfl Tryz.pairTyK (wr.alloc (.cells #[.string y1,.string y2] 164)) w.heap.size u3 k (prCs (l.take k)) (prC ⟨y1,y2⟩) rfl (by exact HOW.out) rfl _ 1 rfl (by simp) rfl (by decide) (by intro u hu;simp [prC]at hu;rcases hu with rfl| rfl<;>rfl) (by omega) (by decide) (by exact HBW.out.size) ?_;intro g8 c8 w8 hO8 hB8 hK8 hg8)
   have HO8:=Lib.hid hO8
   have HB8:=Lib.hid (HBW.out.trans hB8)
   clear hO8 hB8 hK8 hg8
   go_wp2_with fail
   go_roundw
   case rel=>exact⟨k+1,by omega,by go_num,by rw [HT.out];exact HO8.out,HB8.out⟩
   case measure=>simp [intOf];omega
  ·have hkn:k=n:=by omega
   subst hkn
   have hx2:decide ((k:Int)<(k:Int))=false:=decide_eq_false (by omega)
   have hx5:decide (k<k)=false:=decide_eq_false (by omega)
   have HO5:=HO.out
   rw [List.take_of_length_le (by rw [←HN.out];omega)]at HO5
   have HO5:=Lib.hid HO5
   go_wp2_with fail
   go_ret
   exact⟨_,rfl,HO5.out,HB.out⟩
set_option maxHeartbeats 4000000 in
set_option maxRecDepth 100000 in
theorem lawSame(a b:An)(A B:Option Addr)(c d:Nat)(w:World)(hl:a.pairs.length≤1000000)(ha:PrR w A a.pairs)(hb:PrR w B b.pairs):
 Calls Tryz.prog 40 #[.agg #[.string a.text,.slice A a.pairs.length c,.int .i64 a.n,.bool a.done,.int .i64 a.e],.agg #[.string b.text,.slice B b.pairs.length d,.int .i64 b.n,.bool b.done,.int .i64 b.e]] w fun e w'=>e= .returned (.bool (sameAn a b))∧Below w.heap.size w w':=by
 obtain⟨ta,pa,na,da,ea⟩:=a
 obtain⟨tb,pb,nb,db,eb⟩:=b
 simp only at ha hb hl⊢
 obtain⟨W1,hW1⟩:∃W1,W1=w.alloc (.cells #[.string ta,.slice A pa.length c,.int .i64 na,.bool da,.int .i64 ea] 88):=⟨_,rfl⟩
 obtain⟨W,hW⟩:∃W,W=W1.alloc (.cells #[.string tb,.slice B pb.length d,.int .i64 nb,.bool db,.int .i64 eb] 88):=⟨_,rfl⟩
 have k1:Below w.heap.size w W1:=hW1▸(Below.refl _ _).alloc (Nat.le_refl _) _
 have k2:Below W1.heap.size W1 W:=hW▸(Below.refl _ _).alloc (Nat.le_refl _) _
 have hbW:=k1.trans (k2.mono k1.size)
 have s1:W1.heap.size=w.heap.size+1:=by rw [hW1];simp
 have b1:Blk W1 w.heap.size 88 [.string ta,.slice A pa.length c,.int .i64 na,.bool da,.int .i64 ea]:=hW1▸heap_alloc_new _ _
 have b2:Blk W W1.heap.size 88 [.string tb,.slice B pb.length d,.int .i64 nb,.bool db,.int .i64 eb]:=hW▸heap_alloc_new _ _
 have B1:=b1.below k2 b1.lt
 rw [s1]at b2
 have HB1:=Lib.hid B1
 have HB2:=Lib.hid b2
 have x0:=B1.cell 0
 have x1:=B1.cell 1
 have y0:=b2.cell 0
 have y1:=b2.cell 1
 simp only [List.getElem?_cons_zero,List.getElem?_cons_succ]at x0 x1 y0 y1
 have HE:=Lib.hid (refPairs pa pb A B c d W hl (ha.below hbW) (hb.below hbW))
 have HB:=Lib.hid hbW
 have HS:Hid (sameAn ⟨ta,pa,na,da,ea⟩ ⟨tb,pb,nb,db,eb⟩=((ta.toList==tb.toList)&&((na==nb)&&((da==db)&&((ea==eb)&&eqL samePr pa pb))))):=Lib.hid rfl
 rw [hW1]at hW
 have HWw:=Lib.hid hW
 obtain⟨e1,h1⟩:∃e1,(ta.toList==tb.toList)=e1:=⟨_,rfl⟩
 obtain⟨e2,h2⟩:∃e2,(na==nb)=e2:=⟨_,rfl⟩
 obtain⟨e4,h4⟩:∃e4,(ea==eb)=e4:=⟨_,rfl⟩
 rw [h1,h2,h4]at HS
 generalize eqL samePr pa pb=e5 at*
 clear ha hb hW hW1 k1 k2 hbW b1 b2 B1 s1
 cases e1
 case false=>
  go_enter Tryz.func40,Tryz.ntmps40
  go_wp2_with(rw [←HWw.out])
  go_wp2_with fail
  go_ret
  exact⟨by rw [HS.out];first| rfl| (cases e2<;>rfl)| (cases e2<;>cases da<;>cases db<;>cases e4<;>rfl),HB.out⟩
 case true=>
  cases e5
  case false=>
   go_enter Tryz.func40,Tryz.ntmps40
   go_wp2_with(rw [←HWw.out])
   go_wp2_with fail
   refine HE.out.mono ?_
   rintro e w'⟨rfl,hd⟩
   have HB3:=Lib.hid (HB.out.trans (hd.below w.heap.size))
   have D1:=HB1.out.below (hd.below _) HB1.out.lt
   have D2:=HB2.out.below (hd.below _) HB2.out.lt
   have x2:=D1.cell 2
   have y2:=D2.cell 2
   have x3:=D1.cell 3
   have y3:=D2.cell 3
   have x4:=D1.cell 4
   have y4:=D2.cell 4
   simp only [List.getElem?_cons_zero,List.getElem?_cons_succ]at x2 x3 x4 y2 y3 y4
   clear hd HE D1 D2
   go_wp2_with fail
   go_ret
   exact⟨by rw [HS.out];first| rfl| (cases e2<;>rfl)| (cases e2<;>cases da<;>cases db<;>cases e4<;>rfl),HB3.out⟩
  case true=>
   cases e2
   case false=>
    go_enter Tryz.func40,Tryz.ntmps40
    go_wp2_with(rw [←HWw.out])
    go_wp2_with fail
    refine HE.out.mono ?_
    rintro e w'⟨rfl,hd⟩
    have HB3:=Lib.hid (HB.out.trans (hd.below w.heap.size))
    have D1:=HB1.out.below (hd.below _) HB1.out.lt
    have D2:=HB2.out.below (hd.below _) HB2.out.lt
    have x2:=D1.cell 2
    have y2:=D2.cell 2
    have x3:=D1.cell 3
    have y3:=D2.cell 3
    have x4:=D1.cell 4
    have y4:=D2.cell 4
    simp only [List.getElem?_cons_zero,List.getElem?_cons_succ]at x2 x3 x4 y2 y3 y4
    clear hd HE D1 D2
    go_wp2_with fail
    go_ret
    exact⟨by rw [HS.out];first| rfl| (cases e2<;>rfl)| (cases e2<;>cases da<;>cases db<;>cases e4<;>rfl),HB3.out⟩
   case true=>
    cases da<;>cases db
    case true.false=>
     go_enter Tryz.func40,Tryz.ntmps40
     go_wp2_with(rw [←HWw.out])
     go_wp2_with fail
     refine HE.out.mono ?_
     rintro e w'⟨rfl,hd⟩
     have HB3:=Lib.hid (HB.out.trans (hd.below w.heap.size))
     have D1:=HB1.out.below (hd.below _) HB1.out.lt
     have D2:=HB2.out.below (hd.below _) HB2.out.lt
     have x2:=D1.cell 2
     have y2:=D2.cell 2
     have x3:=D1.cell 3
     have y3:=D2.cell 3
     have x4:=D1.cell 4
     have y4:=D2.cell 4
     simp only [List.getElem?_cons_zero,List.getElem?_cons_succ]at x2 x3 x4 y2 y3 y4
     clear hd HE D1 D2
     go_wp2_with fail
     go_ret
     exact⟨by rw [HS.out];first| rfl| (cases e2<;>rfl)| (cases e2<;>cases da<;>cases db<;>cases e4<;>rfl),HB3.out⟩
    case false.true=>
     go_enter Tryz.func40,Tryz.ntmps40
     go_wp2_with(rw [←HWw.out])
     go_wp2_with fail
     refine HE.out.mono ?_
     rintro e w'⟨rfl,hd⟩
     have HB3:=Lib.hid (HB.out.trans (hd.below w.heap.size))
     have D1:=HB1.out.below (hd.below _) HB1.out.lt
     have D2:=HB2.out.below (hd.below _) HB2.out.lt
     have x2:=D1.cell 2
     have y2:=D2.cell 2
     have x3:=D1.cell 3
     have y3:=D2.cell 3
     have x4:=D1.cell 4
     have y4:=D2.cell 4
     simp only [List.getElem?_cons_zero,List.getElem?_cons_succ]at x2 x3 x4 y2 y3 y4
     clear hd HE D1 D2
     go_wp2_with fail
     go_ret
     exact⟨by rw [HS.out];first| rfl| (cases e2<;>rfl)| (cases e2<;>cases da<;>cases db<;>cases e4<;>rfl),HB3.out⟩
    case true.true=>
     cases e4
     case false=>
      go_enter Tryz.func40,Tryz.ntmps40
      go_wp2_with(rw [←HWw.out])
      go_wp2_with fail
      refine HE.out.mono ?_
      rintro e w'⟨rfl,hd⟩
      have HB3:=Lib.hid (HB.out.trans (hd.below w.heap.size))
      have D1:=HB1.out.below (hd.below _) HB1.out.lt
      have D2:=HB2.out.below (hd.below _) HB2.out.lt
      have x2:=D1.cell 2
      have y2:=D2.cell 2
      have x3:=D1.cell 3
      have y3:=D2.cell 3
      have x4:=D1.cell 4
      have y4:=D2.cell 4
      simp only [List.getElem?_cons_zero,List.getElem?_cons_succ]at x2 x3 x4 y2 y3 y4
      clear hd HE D1 D2
      go_wp2_with fail
      go_ret
      exact⟨by rw [HS.out];first| rfl| (cases e2<;>rfl)| (cases e2<;>cases da<;>cases db<;>cases e4<;>rfl),HB3.out⟩
     case true=>
      go_enter Tryz.func40,Tryz.ntmps40
      go_wp2_with(rw [←HWw.out])
      go_wp2_with fail
      refine HE.out.mono ?_
      rintro e w'⟨rfl,hd⟩
      have HB3:=Lib.hid (HB.out.trans (hd.below w.heap.size))
      have D1:=HB1.out.below (hd.below _) HB1.out.lt
      have D2:=HB2.out.below (hd.below _) HB2.out.lt
      have x2:=D1.cell 2
      have y2:=D2.cell 2
      have x3:=D1.cell 3
      have y3:=D2.cell 3
      have x4:=D1.cell 4
      have y4:=D2.cell 4
      simp only [List.getElem?_cons_zero,List.getElem?_cons_succ]at x2 x3 x4 y2 y3 y4
      clear hd HE D1 D2
      go_wp2_with fail
      go_ret
      exact⟨by rw [HS.out];first| rfl| (cases e2<;>rfl)| (cases e2<;>cases da<;>cases db<;>cases e4<;>rfl),HB3.out⟩
    case false.false=>
     cases e4
     case false=>
      go_enter Tryz.func40,Tryz.ntmps40
      go_wp2_with(rw [←HWw.out])
      go_wp2_with fail
      refine HE.out.mono ?_
      rintro e w'⟨rfl,hd⟩
      have HB3:=Lib.hid (HB.out.trans (hd.below w.heap.size))
      have D1:=HB1.out.below (hd.below _) HB1.out.lt
      have D2:=HB2.out.below (hd.below _) HB2.out.lt
      have x2:=D1.cell 2
      have y2:=D2.cell 2
      have x3:=D1.cell 3
      have y3:=D2.cell 3
      have x4:=D1.cell 4
      have y4:=D2.cell 4
      simp only [List.getElem?_cons_zero,List.getElem?_cons_succ]at x2 x3 x4 y2 y3 y4
      clear hd HE D1 D2
      go_wp2_with fail
      go_ret
      exact⟨by rw [HS.out];first| rfl| (cases e2<;>rfl)| (cases e2<;>cases da<;>cases db<;>cases e4<;>rfl),HB3.out⟩
     case true=>
      go_enter Tryz.func40,Tryz.ntmps40
      go_wp2_with(rw [←HWw.out])
      go_wp2_with fail
      refine HE.out.mono ?_
      rintro e w'⟨rfl,hd⟩
      have HB3:=Lib.hid (HB.out.trans (hd.below w.heap.size))
      have D1:=HB1.out.below (hd.below _) HB1.out.lt
      have D2:=HB2.out.below (hd.below _) HB2.out.lt
      have x2:=D1.cell 2
      have y2:=D2.cell 2
      have x3:=D1.cell 3
      have y3:=D2.cell 3
      have x4:=D1.cell 4
      have y4:=D2.cell 4
      simp only [List.getElem?_cons_zero,List.getElem?_cons_succ]at x2 x3 x4 y2 y3 y4
      clear hd HE D1 D2
      go_wp2_with fail
      go_ret
      exact⟨by rw [HS.out];first| rfl| (cases e2<;>rfl)| (cases e2<;>cases da<;>cases db<;>cases e4<;>rfl),HB3.out⟩
end Go.Proofs.YtbkpiojejmhfcaaGreatDoor
