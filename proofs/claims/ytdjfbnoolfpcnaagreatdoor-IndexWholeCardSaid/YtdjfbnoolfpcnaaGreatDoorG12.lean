import Derived.Test.YtdjfbnoolfpcnaaGreatDoorG01
import Derived.Test.YtdjfbnoolfpcnaaGreatDoorG02
import Derived.Test.YtdjfbnoolfpcnaaGreatDoorG04
import Derived.Test.YtdjfbnoolfpcnaaGreatDoorG08
import Derived.Test.YtdjfbnoolfpcnaaGreatDoorG11
namespace Go.Proofs.YtdjfbnoolfpcnaaGreatDoor
open Go.RowKit
set_option maxHeartbeats 400000 in
theorem equalB_any (A B : Option Addr) (n m c d : Nat) (a b : List UInt8) (w : World) (hn : n ≤ 4294967296) (_hm : m ≤ 4294967296) (ha : Bs w A n a) (hb : Bs w B m b) :
    Calls Tryz.prog 48 #[.slice A n c, .slice B m d] w fun e w' => e = .returned (.bool (decide (a = b))) ∧ Dr w w' := by
  have hla := ha.len
  have hlb := hb.len
  by_cases hnm : n = m
  · subst hnm
    have t1 : ((n : Int) != (n : Int)) = false := by simp
    go_enter Tryz.func48, Tryz.ntmps48
    go_wp2
    go_loopw [13] (fun i wr => ∃ k : Nat, k ≤ n ∧ i = .int .i64 k ∧ (∀ j (h1 : j < a.length) (h2 : j < b.length), j < k → a[j] = b[j]) ∧ Dr w wr) (fun i _ => n - (intOf i).toNat)
    case atStart => exact ⟨0, Nat.zero_le _, rfl, fun j _ _ h => absurd h (by omega), Dr.refl _⟩
    case round =>
      obtain ⟨k, hk, rfl, heq, q, rfl⟩ := hrel
      by_cases hlt : k < n
      · obtain ⟨hq, p, off, rfl, hp, hc⟩ := ha.at hlt
        obtain ⟨hq2, p2, off2, rfl, hp2, hc2⟩ := hb.at hlt
        by_cases he : a[k] = b[k]
        · have t2 : (((a[k].toNat : Int)) != (b[k].toNat : Int)) = false := by simp [he]
          have HE : Hid (∀ j (h1 : j < a.length) (h2 : j < b.length), j < k + 1 → a[j] = b[j]) := Lib.hid fun j h1 h2 hj => by
            by_cases e : j = k
            · subst e; exact he
            · exact heq j h1 h2 (by omega)
          clear heq he
          go_wp2
          go_quiet (fail)
          go_wp2
          go_roundw
          case rel => exact ⟨k + 1, by omega, by go_num, HE.out, by first | exact Dr.one _ _ | exact Dr.two _ _ _⟩
          case measure => simp [intOf]; omega
        · have t2 : (((a[k].toNat : Int)) != (b[k].toNat : Int)) = true := by
            rw [bne_iff_ne]; intro e; exact he (UInt8.toNat_inj.1 (by omega))
          have HD : Hid (decide (a = b) = false) := Lib.hid (by rw [decide_eq_false_iff_not]; intro e; subst e; exact he rfl)
          clear heq he
          go_wp2
          go_quiet (fail)
          go_wp2
          go_ret
          exact ⟨by rw [HD.out]; rfl, by first | exact Dr.one _ _ | exact Dr.two _ _ _⟩
      · have hkn : k = n := by omega
        subst hkn
        have HD : Hid (decide (a = b) = true) := Lib.hid (by
          rw [decide_eq_true_iff]
          apply List.ext_getElem (by omega)
          intro j h1 h2
          exact heq j h1 h2 (by omega))
        clear heq
        go_wp2
        go_ret
        exact ⟨by rw [HD.out]; rfl, Dr.one _ _⟩
  · have t1 : ((n : Int) != (m : Int)) = true := by simp; omega
    have HD : Hid (decide (a = b) = false) := Lib.hid (by rw [decide_eq_false_iff_not]; intro e; subst e; omega)
    go_enter Tryz.func48, Tryz.ntmps48
    go_wp2
    go_ret
    exact ⟨by rw [HD.out]; rfl, Dr.refl _⟩
theorem blk_two(w:World)(o:Obj)(xs:List Value)(t:TypeId):Blk ((w.alloc o).alloc (.cells xs.toArray t)) (w.heap.size+1) t xs:=by
 have:=heap_alloc_new (w.alloc o) (.cells xs.toArray t);rw [show(w.alloc o).heap.size=w.heap.size+1 by simp]at this;exact this
theorem NdV.below{w w':World}{base:Nat}{v:Value}{x:Nd}(h:NdV w base v x)(k:Below w.heap.size w w'):NdV w' base v x:=by
 obtain⟨A1,c1,A2,c2,A3,c3,e,h1,h2,h3⟩:=h;exact⟨A1,c1,A2,c2,A3,c3,e,own_below h1 k,own_below h2 k,own_below h3 k⟩
theorem PlV.len{w:World}{base:Nat}{cs:List Value}{p:Pl}(h:PlV w base cs p):cs.length=7:=by
 obtain⟨a,b,c,d,rfl,_⟩:=h;rfl
theorem PlsV.get{w:World}{base:Nat}:∀(vs:List (List Value))(ps:List Pl),PlsV w base vs ps→∀i(h:i<ps.length),∃cs,PlV w base cs ps[i]∧∀j,j<7→vs.flatten[7*i+j]? =cs[j]?
 | [],[],_,i,hi=>by simp at hi
 | [],_::_,h,_,_=>h.elim
 | _::_,[],h,_,_=>h.elim
 | c::vs,p::ps,h,0,hi=>⟨c,h.1,fun j hj=>by
    have:=h.1.len;rw [List.flatten_cons,List.getElem?_append_left (by omega)];simp⟩
 | c::vs,p::ps,h,i+1,hi=>by
    obtain⟨cs,h1,h2⟩:=PlsV.get vs ps h.2 i (by simpa using hi);refine⟨cs,by simpa using h1,fun j hj=> ?_⟩;have:=h.1.len;rw [List.flatten_cons,List.getElem?_append_right (by omega),←h2 j hj];congr 1;omega
structure WayCell(w:World)(base:Nat)(g i:Nat)(pl:Pl)(a b c d:Value):Prop where
 cells:∀j u,[a,b,c,d,.int .i64 pl.off,.int .u8 (pl.label.toNat:Int),.int .i64 pl.word][j]? =some u→w.cell? ⟨g,7*i+j,none⟩=some u
 nd:NdV w base (.agg #[a,b,c,d]) pl.nd
theorem WayAt.at{w:World}{base:Nat}{v:Value}{way:List Pl}(h:WayAt w base v way)(h0:way≠[]):∃g c,v= .slice (some ⟨g,0,none⟩) way.length c∧way.length≤c∧base≤g∧g<w.heap.size∧
 ∀i(hi:i<way.length),∃a b c' d,WayCell w base g i way[i] a b c' d:=by
 obtain⟨vs,ho,hp⟩:=h;rcases ho.2 with⟨_,h2⟩| ⟨g,cap,cur,h1,h2,h3,h4,h5,h6,h7⟩
 ·exact absurd (List.length_eq_zero_iff.1 h2) h0
 ·refine⟨g,cap,h1,h4,h2,(Array.getElem?_eq_some_iff.1 h3).1,fun i hi=> ?_⟩;obtain⟨cs,⟨a,b,c,d,rfl,hn⟩,hc⟩:=PlsV.get vs way hp i hi;refine⟨a,b,c,d,⟨fun j u hj=> ?_,hn⟩⟩;have hj7:j<7:=by have:=(List.getElem?_eq_some_iff.1 hj).1;simpa using this
  rw [cell_of_row w g _ cur _ (0,0) h3,←hj,←hc j hj7,←h7,List.getElem?_take,if_pos (by omega)];simp
def zeroPl:Value:= .agg #[.slice none 0 0,.int .u64 0,.slice none 0 0,.slice none 0 0,.int .i64 0,.int .u8 0,.int .i64 0]
theorem fro7{w:World}{g:Nat}{e:TypeId}{a b c d k l m:Value}(h:Blk w g e [a,b,c,d,k,l,m]):w.frozen? ⟨g,0,none⟩=false∧w.frozen? ⟨g,1,none⟩=false∧w.frozen? ⟨g,2,none⟩=false∧w.frozen? ⟨g,3,none⟩=false∧w.frozen? ⟨g,4,none⟩=false∧w.frozen? ⟨g,5,none⟩=false∧w.frozen? ⟨g,6,none⟩=false:=
 ⟨h.frozen 0,h.frozen 1,h.frozen 2,h.frozen 3,h.frozen 4,h.frozen 5,h.frozen 6⟩
theorem place_ret{Q:Ending→World→Prop}{W:World}{tmps:Array Value}{fn:Func}(hr:fn.results= #[.cell 4 74,.tmp 5])(g:Nat){a b c d k l m:Value}(h:Blk W g 74 [a,b,c,d,k,l,m])(v:Value)(h2:tmps[4]? =some (.pointer (some ⟨g,0,none⟩)))(h3:tmps[5]? =some v)
 (hq:Q (.returned (.tuple #[.agg #[a,b,c,d,k,l,m],v])) W):bodyPost Tryz.prog fn Q Exit.ret {tmps:=tmps,defers:=[]} W:=by
 obtain⟨y0,y1,y2,y3,y4,y5,y6⟩:=cell7 h;have hu:=run_underlying (P:=Tryz.prog) Tryz.underlying74;refine bodyPost_ret (v:= .tuple #[.agg #[a,b,c,d,k,l,m],v]) (by simp [results,hr,go_sem,h2,h3,y0,y1,y2,y3,y4,y5,y6]) rfl hq
theorem set7{w W:World}{base g:Nat}{e:TypeId}{a0 a1 a2 a3 a4 a5 a6:Value}(h:Blk W g e [a0,a1,a2,a3,a4,a5,a6])(hb:Below base w W)(hg:base≤g)(b0 b1 b2 b3 b4 b5 b6:Value):
 ∃W',W'=(((((((W.setCell ⟨g,0,none⟩ b0).setCell ⟨g,1,none⟩ b1).setCell ⟨g,2,none⟩ b2).setCell ⟨g,3,none⟩ b3).setCell ⟨g,4,none⟩ b4).setCell ⟨g,5,none⟩ b5).setCell ⟨g,6,none⟩ b6)∧Blk W' g e [b0,b1,b2,b3,b4,b5,b6]∧
 Below base w W'∧
 Kept W W' (some g):=
 ⟨_,rfl,((((((h.set_ 0 b0).set_ 1 b1).set_ 2 b2).set_ 3 b3).set_ 4 b4).set_ 5 b5).set_ 6 b6,
   ((((((hb.setCell (p:=⟨g,0,none⟩) hg b0).setCell (p:=⟨g,1,none⟩) hg b1).setCell (p:=⟨g,2,none⟩) hg b2).setCell (p:=⟨g,3,none⟩) hg b3).setCell (p:=⟨g,4,none⟩) hg b4).setCell (p:=⟨g,5,none⟩) hg b5).setCell (p:=⟨g,6,none⟩) hg b6,
   ((((((Kept.set_ W g 0 b0).trans' (Kept.set_ _ g 1 b1)).trans' (Kept.set_ _ g 2 b2)).trans' (Kept.set_ _ g 3 b3)).trans' (Kept.set_ _ g 4 b4)).trans' (Kept.set_ _ g 5 b5)).trans' (Kept.set_ _ g 6 b6)⟩
def StandsPost(way:List Pl)(rest:List UInt8)(base:Nat)(w:World)(e:Ending)(w':World):Prop:=
 Below w.heap.size w w'∧match standsP way rest with
  | none=>e= .returned (.tuple #[zeroPl,.bool false])
  | some last=>∃a b c d,e= .returned (.tuple #[.agg #[a,b,c,d,.int .i64 last.off,.int .u8 (last.label.toNat:Int),.int .i64 last.word],.bool true])∧NdV w' base (.agg #[a,b,c,d]) last.nd
set_option maxHeartbeats 4000000 in
set_option maxRecDepth 100000 in
theorem stands_any{w:World}{base c:Nat}{vw:Value}{way:List Pl}{A:Option Addr}{rest:List UInt8}(hW:WayAt w base vw way)(hl:way.length≤1000000)(hp:∀pl∈way,pl.nd.pre.length≤1000)(hR:Bs w A rest.length rest)(hr:rest.length≤1000000):
 Calls Tryz.prog 24 #[vw,.slice A rest.length c] w (StandsPost way rest base w):=by
 have B0:Blk (w.alloc (.cells #[.slice none 0 0,.int .u64 0,.slice none 0 0,.slice none 0 0,.int .i64 0,.int .u8 0,.int .i64 0] 74)) w.heap.size 74 [.slice none 0 0,.int .u64 0,.slice none 0 0,.slice none 0 0,.int .i64 0,.int .u8 0,.int .i64 0]:=heap_alloc_new _ _;have hb0:Below w.heap.size w (w.alloc (.cells #[.slice none 0 0,.int .u64 0,.slice none 0 0,.slice none 0 0,.int .i64 0,.int .u8 0,.int .i64 0] 74)):=(Below.refl _ _).alloc (Nat.le_refl _) _;by_cases h0:way=[]
 ·subst h0;obtain⟨Av,cv,hvw⟩:∃Av cv,vw= .slice Av 0 cv:=by
   obtain⟨vs,ho,_⟩:=hW;rcases ho.2 with⟨h1,_⟩| ⟨g,cap,cur,h1,_⟩
   ·exact⟨_,_,h1⟩
   ·exact⟨_,_,h1⟩
  subst hvw;have HV:Hid (standsP [] rest=none):=Lib.hid rfl;clear hW hR hl;obtain⟨f0,f1,f2,f3,f4,f5,f6⟩:=fro7 B0;obtain⟨y0,y1,y2,y3,y4,y5,y6⟩:=cell7 B0;go_enter Tryz.func24,Tryz.ntmps24
  go_wp2_with fail
  refine place_ret rfl w.heap.size B0 (.bool false) rfl rfl ⟨hb0,?_⟩;rw [HV.out];rfl
 ·obtain⟨g,cv,rfl,hcv,hbg,hgw,hat⟩:=hW.at h0;have hn0:0<way.length:=List.length_pos_iff.2 h0;obtain⟨a,b,c',d',hwc⟩:=hat (way.length-1) (by omega);have hlast:way.getLast? =some (way[way.length-1]'(by omega)):=by rw [List.getLast?_eq_getElem?,List.getElem?_eq_getElem (by omega)]
  have HPn:=Lib.hid (hp (way[way.length-1]'(by omega)) (List.getElem_mem _));generalize way[way.length-1]'(by omega)=last at*;have HSt:Hid (standsP way rest=if last.nd.pre=rest then some last else none):=Lib.hid (by rw [standsP,hlast]);have t0:((way.length:Int)==0)=false:=by rw [beq_eq_false_iff_ne];omega
  obtain⟨m,hm⟩:∃m,m=way.length-1:=⟨_,rfl⟩;have hw1:IntKind.i64.wrap ((way.length:Int) -1)=(m:Int):=(wrap64 _ (by omega) (by omega)).trans (by omega);have hx1:decide ((m:Int)<(way.length:Int))=true:=decide_eq_true (by omega);have hx2:m<way.length:=by omega
  have hx3:(m:Int)<(way.length:Int):=by omega
  obtain⟨A1,p1,A2,p2,A3,p3,e,o1,o2,o3⟩:=hwc.nd;simp only [Value.agg.injEq]at e;simp at e;obtain⟨rfl,rfl,rfl,rfl⟩:=e;have HC:Hid (∀j v,[Value.slice A1 last.nd.pre.length p1,.int .u64 (last.nd.val.toNat:Int),.slice A2 last.nd.labels.length p2,.slice A3 last.nd.kids.length p3,.int .i64 last.off,.int .u8 (last.label.toNat:Int),.int .i64 last.word][j]? =some v→w.cell? ⟨g,7*m+j,none⟩=some v):=Lib.hid (by rw [hm];exact hwc.cells);have HN:=Lib.hid hwc.nd;have hz:∀j v,[Value.slice A1 last.nd.pre.length p1,.int .u64 (last.nd.val.toNat:Int),.slice A2 last.nd.labels.length p2,.slice A3 last.nd.kids.length p3,.int .i64 last.off,.int .u8 (last.label.toNat:Int),.int .i64 last.word][j]? =some v→(w.alloc (.cells #[.slice none 0 0,.int .u64 0,.slice none 0 0,.slice none 0 0,.int .i64 0,.int .u8 0,.int .i64 0] 74)).cell? ⟨g,m*7+j,none⟩=some v:=fun j v hj=>by
   rw [hb0.cell (p:=⟨g,m*7+j,none⟩) hgw,Nat.mul_comm];exact HC.out j v hj
  have z0:=hz 0 _ rfl;have z1:=hz 1 _ rfl;have z2:=hz 2 _ rfl;have z3:=hz 3 _ rfl;have z4:=hz 4 _ rfl;have z5:=hz 5 _ rfl;have z6:=hz 6 _ rfl;rw [Nat.add_zero]at z0;have HB0:=Lib.hid B0;have Hb0:=Lib.hid hb0;have HR:=Lib.hid hR;clear hat hlast hW hwc o1 o2 o3 hm B0 hz HC hR hb0;go_enter Tryz.func24,Tryz.ntmps24
  go_wp2_with fail
  have B1:=HB0.out.below ((Below.refl _ _).alloc (Nat.le_refl _) (.cells #[Value.slice A1 last.nd.pre.length p1,.int .u64 (last.nd.val.toNat:Int),.slice A2 last.nd.labels.length p2,.slice A3 last.nd.kids.length p3,.int .i64 last.off,.int .u8 (last.label.toNat:Int),.int .i64 last.word] 74)) HB0.out.lt;have B2:Blk ((w.alloc (.cells #[.slice none 0 0,.int .u64 0,.slice none 0 0,.slice none 0 0,.int .i64 0,.int .u8 0,.int .i64 0] 74)).alloc (.cells #[Value.slice A1 last.nd.pre.length p1,.int .u64 (last.nd.val.toNat:Int),.slice A2 last.nd.labels.length p2,.slice A3 last.nd.kids.length p3,.int .i64 last.off,.int .u8 (last.label.toNat:Int),.int .i64 last.word] 74)) (w.heap.size+1) 74 [Value.slice A1 last.nd.pre.length p1,.int .u64 (last.nd.val.toNat:Int),.slice A2 last.nd.labels.length p2,.slice A3 last.nd.kids.length p3,.int .i64 last.off,.int .u8 (last.label.toNat:Int),.int .i64 last.word]:=blk_two _ _ _ _;have hb2:=Hb0.out.alloc Hb0.out.size (.cells #[Value.slice A1 last.nd.pre.length p1,.int .u64 (last.nd.val.toNat:Int),.slice A2 last.nd.labels.length p2,.slice A3 last.nd.kids.length p3,.int .i64 last.off,.int .u8 (last.label.toNat:Int),.int .i64 last.word] 74);clear z0 z1 z2 z3 z4 z5 z6;generalize((w.alloc (.cells #[.slice none 0 0,.int .u64 0,.slice none 0 0,.slice none 0 0,.int .i64 0,.int .u8 0,.int .i64 0] 74)).alloc (.cells #[Value.slice A1 last.nd.pre.length p1,.int .u64 (last.nd.val.toNat:Int),.slice A2 last.nd.labels.length p2,.slice A3 last.nd.kids.length p3,.int .i64 last.off,.int .u8 (last.label.toNat:Int),.int .i64 last.word] 74))=W2 at*;obtain⟨A1',p1',A2',p2',A3',p3',e,o1,o2,o3⟩:=HN.out;simp only [Value.agg.injEq]at e;simp at e;obtain⟨⟨rfl,rfl⟩,⟨rfl,rfl⟩,⟨rfl,rfl⟩⟩:=e;refine(equalB_any A1 A last.nd.pre.length rest.length p1 c last.nd.pre rest W2 (by have:=HPn.out;omega) (by omega) (rd_own (own_below o1 hb2)).2 (HR.out.below hb2)).mono ?_;clear o1 o2 o3;rintro e w3⟨rfl,hd3⟩;have hb3:=hb2.trans ((hd3.below W2.heap.size).mono hb2.size);replace B1:=B1.below (hd3.below _) B1.lt;replace B2:=B2.below (hd3.below _) B2.lt;clear hb2 hd3 HR;obtain⟨f0,f1,f2,f3,f4,f5,f6⟩:=fro7 B1;obtain⟨y0,y1,y2,y3,y4,y5,y6⟩:=cell7 B1;obtain⟨z0,z1,z2,z3,z4,z5,z6⟩:=cell7 B2;have hg1:w.heap.size≠w.heap.size+1:=by omega
  by_cases he:last.nd.pre=rest
  ·have HV:Hid (standsP way rest=some last):=Lib.hid (by rw [HSt.out,if_pos he]);have hd:decide (last.nd.pre=rest)=true:=decide_eq_true he;rw [hd];clear HSt hd he;have HB:=Lib.hid B1;have Hb:=Lib.hid hb3;clear B1 B2 hb3 HB0 Hb0
   go_wp2_with fail
   obtain⟨W9,hW9,BF,hbF, -⟩:=set7 HB.out Hb.out (Nat.le_refl _) (Value.slice A1 last.nd.pre.length p1) (.int .u64 (last.nd.val.toNat:Int)) (.slice A2 last.nd.labels.length p2) (.slice A3 last.nd.kids.length p3) (.int .i64 last.off) (.int .u8 (last.label.toNat:Int)) (.int .i64 last.word);rw [←hW9];refine place_ret rfl w.heap.size BF (.bool true) rfl rfl ⟨hbF,?_⟩;rw [HV.out];exact⟨_,_,_,_,rfl,HN.out.below hbF⟩
  ·have HV:Hid (standsP way rest=none):=Lib.hid (by rw [HSt.out,if_neg he]);have hd:decide (last.nd.pre=rest)=false:=decide_eq_false he;rw [hd];clear HSt hd he;have HB:=Lib.hid B1;have Hb:=Lib.hid hb3;clear B1 B2 hb3 HB0 Hb0 z0 z1 z2 z3 z4 z5 z6
   go_wp2_with fail
   obtain⟨W9,hW9,BF,hbF, -⟩:=set7 HB.out Hb.out (Nat.le_refl _) (.slice none 0 0) (.int .u64 0) (.slice none 0 0) (.slice none 0 0) (.int .i64 0) (.int .u8 0) (.int .i64 0);rw [←hW9];refine place_ret rfl w.heap.size BF (.bool false) rfl rfl ⟨hbF,?_⟩;rw [HV.out];rfl
def KeepB(w w':World):Prop:=w.heap.size≤w'.heap.size∧∀(g:Nat)(cs:Array Value)(e:TypeId)(fz:Nat×Nat),(e=5∨e=23∨e=72)→w.heap[g]? =some (Obj.cells cs e fz)→w'.heap[g]? =w.heap[g]?
theorem KeepB.refl(w:World):KeepB w w:=⟨Nat.le_refl _,fun _ _ _ _ _ _=>rfl⟩
theorem KeepB.of_below{w w':World}(h:Below w.heap.size w w'):KeepB w w':=⟨h.size,fun g _ _ _ _ hg=>h.block g (Array.getElem?_eq_some_iff.1 hg).1⟩
theorem KeepB.trans{a b c:World}(h:KeepB a b)(k:KeepB b c):KeepB a c:=
 ⟨Nat.le_trans h.1 k.1,fun g cs e fz he hg=>by
  have h1:=h.2 g cs e fz he hg;exact(k.2 g cs e fz he (h1.trans hg)).trans h1⟩
theorem KeepB.of_kept{w w':World}{g:Nat}(h:Kept w w' (some g))(hg:∀(cs:Array Value)(e:TypeId)(fz:Nat×Nat),(e=5∨e=23∨e=72)→w.heap[g]?≠some (Obj.cells cs e fz)):KeepB w w':=
 ⟨h.1,fun g' cs e fz he hg'=>h.2 g' (Array.getElem?_eq_some_iff.1 hg').1 (fun e'=>by injection e' with e';subst e';exact hg cs e fz he hg')⟩
theorem KeepB.own{w w':World}{base k n:Nat}{e:TypeId}{v:Value}{xs:List Value}(h:KeepB w w')(he:e=5∨e=23∨e=72)(ho:w.ownsRow base e k v n xs):w'.ownsRow base e k v n xs:=by
 refine⟨ho.1,?_⟩;rcases ho.2 with h1| ⟨g,cap,cur,h1,h2,h3,h4⟩
 ·exact .inl h1
 ·exact .inr ⟨g,cap,cur,h1,h2,(h.2 g _ _ _ he h3).trans h3,h4⟩
theorem KeepB.nd{w w':World}{base:Nat}{v:Value}{x:Nd}(s:KeepB w w')(h:NdV w base v x):NdV w' base v x:=by
 obtain⟨A1,c1,A2,c2,A3,c3,e,h1,h2,h3⟩:=h;exact⟨A1,c1,A2,c2,A3,c3,e,s.own (.inl rfl) h1,s.own (.inl rfl) h2,s.own (.inr (.inl rfl)) h3⟩
theorem KeepB.box{w w':World}{g:Nat}{xs:List Value}(s:KeepB w w')(h:Blk w g 72 xs):Blk w' g 72 xs:=(s.2 g _ _ _ (.inr (.inr rfl)) h).trans h
def Row8(w:World)(A:Option Addr)(l:List UInt8):Prop:=
 Bs w A l.length l∧(∀a,A=some a→∃(g:Nat)(cs:Array Value)(fz:Nat×Nat),a=⟨g,0,none⟩∧w.heap[g]? =some (Obj.cells cs 5 fz))∧(A=none→l=[])
theorem Row8.nil(w:World):Row8 w none []:=by
 refine⟨Rd.nil,?_,fun _=>rfl⟩;intro a e;cases e
theorem Row8.keep{w w':World}{A:Option Addr}{l:List UInt8}(h:Row8 w A l)(s:KeepB w w'):Row8 w' A l:=by
 obtain⟨h1,h2,h3⟩:=h;refine⟨⟨h1.1,fun hn=> ?_⟩,fun a e=> ?_,h3⟩
 ·obtain⟨b,off,e,hb,hc⟩:=h1.2 hn;obtain⟨g,cs,fz,e2,hg⟩:=h2 _ e;injection e2 with e3 e4
  subst e3 e4;exact⟨_,_,e,Nat.lt_of_lt_of_le hb s.1,fun j hj=>(World.cell?_of_block (w:=w) (s.2 _ _ _ _ (.inl rfl) hg)).trans (hc j hj)⟩
 ·obtain⟨g,cs,fz,e2,hg⟩:=h2 a e;exact⟨g,cs,fz,e2,(s.2 _ _ _ _ (.inl rfl) hg).trans hg⟩
theorem Row8.cut{w w':World}{A A':Option Addr}{l m:List UInt8}(h:Row8 w A l)(hr:Rd w' A' (l.length+m.length) (l.map bv++m.map bv))(hb:Below w.heap.size w w')(hc:CutAt w w' 5 A A' m.length):Row8 w' A' (l++m):=by
 refine⟨?_,fun a e=> ?_,fun e=> ?_⟩
 ·rw [List.length_append];show Rd w' A' _ ((l++m).map bv);rw [List.map_append];exact hr
 ·rcases hc with⟨rfl,_⟩| ⟨g,cs,e1,_,e3⟩
  ·obtain⟨g,cs,fz,e2,hg⟩:=h.2.1 a e;exact⟨g,cs,fz,e2,(hb.block _ (Array.getElem?_eq_some_iff.1 hg).1).trans hg⟩
  ·rw [e1]at e;injection e with e
   exact⟨g,cs,_,e.symm,e3⟩
 ·rcases hc with⟨rfl,e2⟩| ⟨g,cs,e1,_⟩
  ·rw [h.2.2 e,List.eq_nil_of_length_eq_zero e2];rfl
  ·rw [e1]at e;exact nomatch e
def itV(p:List UInt8×UInt64):List Value:=[.string ⟨p.1.toArray⟩,.int .u64 (p.2.toNat:Int)]
structure SurvAt(w:World)(base sb mb x:Nat)(items:List (List UInt8×UInt64))(met:List Int)(v:Value):Prop where
 box:Blk w sb 89 [.pointer (some ⟨x,0,none⟩),v,.map (some mb)]
 row:w.ownsRow base 61 2 v items.length (items.map itV).flatten
 map:MapIs w mb (met.map fun o=>(o,1))
 bs:base≤sb
 bm:base≤mb
 vs:v.ownBlock≠some sb
 nod:met.Nodup
 rng:∀o∈met,0≤o∧o≤65536
 len:items.length≤met.length
theorem nodup_le:∀(N:Nat)(l:List Int),l.Nodup→(∀o∈l,0≤o∧o<(N:Int))→l.length≤N
 | 0,l,_,h=>by
   cases l with
   | nil=>simp
   | cons a t=>have:=h a (List.mem_cons_self ..);omega
 | N+1,l,hn,h=>by
   by_cases hm:(N:Int)∈l
   ·have h1:=nodup_le N (l.erase (N:Int)) (hn.erase _) (fun o ho=>by
    have:=(hn.mem_erase_iff).1 ho;have:=h o this.2;omega)
    rw [List.length_erase_of_mem hm]at h1;omega
   ·have:=nodup_le N l hn (fun o ho=>by
    have h2:=h o ho;have:o≠(N:Int):=fun e=>hm (e▸ho)
    omega)
    omega
section
variable{w w':World}{base sb mb x:Nat}{items:List (List UInt8×UInt64)}{met:List Int}{v:Value}
theorem SurvAt.few(h:SurvAt w base sb mb x items met v):items.length≤65537:=
 Nat.le_trans h.len (nodup_le 65537 met h.nod (fun o ho=>by have:=h.rng o ho;omega))
theorem SurvAt.sm(h:SurvAt w base sb mb x items met v):sb≠mb:=by
 intro e;have h1:=h.box;have h2:=h.map;unfold Blk at h1;unfold MapIs at h2;rw [e,h2]at h1;injection h1 with h1
 cases h1
theorem SurvAt.vm(h:SurvAt w base sb mb x items met v):v.ownBlock≠some mb:=by
 intro e;rcases h.row.2 with⟨h1,_⟩| ⟨g,cap,cur,h1,_,h3,_⟩
 ·subst h1;exact nomatch e
 ·subst h1;simp only [Value.ownBlock,Option.some.injEq]at e;subst e;have h2:=h.map;unfold MapIs at h2;rw [h2]at h3;injection h3 with h3
  cases h3
theorem SurvAt.below(h:SurvAt w base sb mb x items met v)(k:Below w.heap.size w w'):SurvAt w' base sb mb x items met v:=
 ⟨h.box.below k h.box.lt,own_stay h.row (Kept.of_below (r:=some sb) k) (.inl (fun e=>h.vs e.symm)),h.map.below k,h.bs,h.bm,h.vs,h.nod,h.rng,h.len⟩
theorem SurvAt.note(h:SurvAt w base sb mb x items met v){o:Int}(ho:0≤o∧o≤65536)(hn:o∉met):SurvAt (putMap w mb (metE 0 ((met++[o]).map fun o=>(o,1))).toArray ((met++[o]).map fun o=>(o,(1:Int))).length) base sb mb x items (met++[o]) v∧
 KeepB w (putMap w mb (metE 0 ((met++[o]).map fun o=>(o,1))).toArray ((met++[o]).map fun o=>(o,(1:Int))).length)∧Below base w (putMap w mb (metE 0 ((met++[o]).map fun o=>(o,1))).toArray ((met++[o]).map fun o=>(o,(1:Int))).length):=by
 have hne:∀(cs:Array Value)(e:TypeId)(fz:Nat×Nat),w.heap[mb]?≠some (Obj.cells cs e fz):=fun cs e fz hg=>by
  have h2:=h.map;unfold MapIs at h2;rw [h2]at hg;injection hg with hg
  cases hg
 have t:=putMap_touch w mb (metE 0 ((met++[o]).map fun o=>(o,1))).toArray ((met++[o]).map fun o=>(o,(1:Int))).length;refine⟨⟨h.box.touch t h.sm,own_touch h.row t (fun g hg e=>h.vm (by rw [hg,e])),putMap_at _ _ _ _ h.map.lt,h.bs,h.bm,h.vs,?_,?_,?_⟩,⟨t.size,fun g cs e fz _ hg=>t.block g (Array.getElem?_eq_some_iff.1 hg).1 (fun e'=>hne cs e fz (e'▸hg))⟩,t.below (Nat.le_of_lt (Nat.lt_of_le_of_lt h.bm h.map.lt)) (fun k e=>e▸h.bm)⟩
 ·exact List.nodup_append.2 ⟨h.nod,List.nodup_cons.2 ⟨by simp,List.nodup_nil⟩,fun a ha b hb=>by rw [List.mem_singleton]at hb;subst hb;exact fun e=>hn (e▸ha)⟩
 ·intro a ha;rcases List.mem_append.1 ha with h1| h1
  ·exact h.rng a h1
  ·rw [List.mem_singleton]at h1;exact h1▸ho
 ·have:=h.len;simp;omega
theorem SurvAt.add(h:SurvAt w base sb mb x items met v)(p:List UInt8×UInt64)(hl:items.length<met.length){g6 c6:Nat}{w6:World}
 (hO:w6.ownsRow base 61 2 (.slice (some ⟨g6,0,none⟩) (items.length+1) c6) (items.length+1) ((items.map itV).flatten++itV p))(hB:Below base w w6)(hK:Kept w w6 v.ownBlock)(hg:v.ownBlock=some g6∨w.heap.size≤g6):
 SurvAt (w6.setCell ⟨sb,1,none⟩ (.slice (some ⟨g6,0,none⟩) (items.length+1) c6)) base sb mb x (items++[p]) met (.slice (some ⟨g6,0,none⟩) (items.length+1) c6)∧
  KeepB w (w6.setCell ⟨sb,1,none⟩ (.slice (some ⟨g6,0,none⟩) (items.length+1) c6))∧Below base w (w6.setCell ⟨sb,1,none⟩ (.slice (some ⟨g6,0,none⟩) (items.length+1) c6)):=by
 have hsl:=h.box.lt;have hml:=h.map.lt;have hgs:g6≠sb:=by
  rintro rfl;rcases hg with e| e
  ·exact h.vs e
  ·omega
 have B6:Blk w6 sb 89 [.pointer (some ⟨x,0,none⟩),v,.map (some mb)]:=(hK.2 sb hsl (fun e=>h.vs e.symm)).trans h.box;have M6:w6.heap[mb]? =w.heap[mb]? :=hK.2 mb hml (fun e=>h.vm e.symm);have k9:=Kept.set_ w6 sb 1 (.slice (some ⟨g6,0,none⟩) (items.length+1) c6);have s6:KeepB w w6:=by
  refine⟨hK.1,fun g cs e fz he hg'=>hK.2 g (Array.getElem?_eq_some_iff.1 hg').1 (fun e'=> ?_)⟩;rcases h.row.2 with⟨h1,_⟩| ⟨g',cap,cur,h1,_,h3,_⟩
  ·subst h1;exact nomatch e'
  ·subst h1;simp only [Value.ownBlock,Option.some.injEq]at e';subst e';rw [hg']at h3;injection h3 with h3
   injection h3 with _ h4
   rw [h4]at he;exact absurd he (by decide)
 have s9:KeepB w6 (w6.setCell ⟨sb,1,none⟩ (.slice (some ⟨g6,0,none⟩) (items.length+1) c6)):=KeepB.of_kept k9 (fun cs e fz he hg'=>by
  have h3:w6.heap[sb]? =_:=B6;rw [hg']at h3;injection h3 with h3
  injection h3 with _ h4
  rw [h4]at he;exact absurd he (by decide))
 refine⟨⟨B6.set_ 1 _,?_,?_,h.bs,h.bm,by simp [Value.ownBlock,hgs],h.nod,h.rng,by simp;omega⟩,s6.trans s9,hB.setCell (p:=⟨sb,1,none⟩) h.bs _⟩
 ·have:=own_stay hO k9 (.inl (by simp [Value.ownBlock,Ne.symm hgs]));simpa using this
 ·show(w6.setCell _ _).heap[mb]? =_;rw [k9.2 mb (Nat.lt_of_lt_of_le hml hK.1) (fun e=>h.sm (Option.some.inj e).symm),M6];exact h.map
end
theorem Tryz.itemTyK:RowTyK Tryz.prog 40 61 (.agg #[.string ⟨#[]⟩,.int .u64 0]) 2 24:=⟨Tryz.underlying40,by kernel_rfl,rfl⟩
theorem Tryz.metMap:Tryz.prog.underlying 57=some (.map 3 3):=Tryz.underlying57
theorem Tryz.zeroInt(W:World):(zeroValue 3).run Tryz.prog W= .ok (.int .i64 0) W:=by
 have h:(Tryz.prog.info? 3).map (·.zero)=some (some (.int .i64 0)):=by kernel_rfl
 cases hi:Tryz.prog.info? 3 with
 | none=>rw [hi]at h;cases h
 | some i=>
   rw [hi]at h;simp only [Option.map_some,Option.some.injEq]at h;simp [zeroValue,typeInfo,hi,h]
def VisPost(r:Option (List (List UInt8×UInt64)×List Int))(base sb mb x:Nat)(w:World)(e:Ending)(w':World):Prop:=
 Below base w w'∧KeepB w w'∧match r with
  | none=>e= .returned (.int .i64 5)
  | some (items',met')=>e= .returned (.int .i64 0)∧∃v',SurvAt w' base sb mb x items' met' v'
section
variable{len:Mode}{w w':World}{base sb mb x d p L:Nat}{s:St}{F:Nat→Prop}
theorem IxL.past(h:IxL len w x d p L s F)(k:Below base w w')(hF:∀b,F b→b<base)(hx:x<base)(ht:0<base∧1<base):IxL len w' x d p L s F:=by
 have t:Touch (fun b=>base≤b) w w':=⟨k.os,k.tape,k.output,k.size,fun b _ hn=>k.block b (by omega)⟩;exact⟨h.sys.keep t (fun b hb hn=>by have:=hF b hb;omega) (by omega) (by omega),h.box.touch t (by omega),h.out⟩
theorem mem_parts{o:Int}:∀{l:List Int},o∈l→l.Nodup→∃l1 l2,l=l1++o::l2∧o∉l1
 | [],h,_=>by cases h
 | a::t,h,hn=>by
   obtain⟨h1,h2⟩:=List.nodup_cons.1 hn;rcases List.mem_cons.1 h with rfl| ho
   ·exact⟨[],t,rfl,by simp⟩
   ·obtain⟨l1,l2,e,hno⟩:=mem_parts ho h2;refine⟨a::l1,l2,by rw [e];rfl,fun hm=> ?_⟩;rcases List.mem_cons.1 hm with rfl| hm
    ·exact h1 ho
    ·exact hno hm
set_option maxHeartbeats 8000000 in
set_option maxRecDepth 100000 in
theorem visit_none(h:IxL len w x d p L s F)(_:∀b,F b→b<base){items:List (List UInt8×UInt64)}{met:List Int}{v:Value}(hs:SurvAt w base sb mb x items met v)(f:Nat)(name:UInt64)(ahead:List UInt8)(A:Option Addr)(c:Nat)(hr:readP s name=none):
 Calls Tryz.prog 55 #[.pointer (some ⟨sb,0,none⟩),.int .u64 (name.toNat:Int),.slice A ahead.length c] w (VisPost (visitP s (f+1) name ahead (items,met)) base sb mb x w):=by
 have HP:Hid (visitP s (f+1) name ahead (items,met)=none):=Lib.hid (by rw [visitP,hr]);have HR:=Lib.hid (read_index h name);have HRn:=Lib.hid hr;have y0:=hs.box.cell 0;simp only [List.getElem?_cons_zero]at y0;have hbs:base≤w.heap.size:=Nat.le_of_lt (Nat.lt_of_le_of_lt hs.bs hs.box.lt);clear h hs hr;go_enter Tryz.func55,Tryz.ntmps55
 go_wp2_with fail
 refine HR.out.mono ?_;rintro e w1⟨hb1,hp1⟩;rw [HRn.out]at hp1;subst hp1;have HB:=Lib.hid (hb1.mono hbs);have HKp:=Lib.hid (KeepB.of_below hb1);clear hb1 HR
 go_wp2_with fail
 go_ret;refine⟨HB.out.alloc (Nat.le_trans hbs HB.out.size) _,HKp.out.trans (KeepB.of_below ((Below.refl _ _).alloc (Nat.le_refl _) _)),?_⟩;rw [HP.out];rfl
set_option maxHeartbeats 8000000 in
set_option maxRecDepth 100000 in
theorem visit_met(h:IxL len w x d p L s F)(_:∀b,F b→b<base){items:List (List UInt8×UInt64)}{met:List Int}{v:Value}(hs:SurvAt w base sb mb x items met v)(f:Nat)(name:UInt64)(ahead:List UInt8)(A:Option Addr)(c:Nat)(hA:Row8 w A ahead)(hac:ahead.length≤c)(hal:ahead.length≤33)(nd:Nd)(hr:readP s name=some nd)(hm:offOf name∈met):
 Calls Tryz.prog 55 #[.pointer (some ⟨sb,0,none⟩),.int .u64 (name.toNat:Int),.slice A ahead.length c] w (VisPost (visitP s (f+1) name ahead (items,met)) base sb mb x w):=by
 have HP:Hid (visitP s (f+1) name ahead (items,met)=none):=Lib.hid (by rw [visitP,hr];simp only;rw [if_pos (.inl (by simpa using hm))]);have HR:=Lib.hid (read_index h name);have HRn:=Lib.hid hr;have HS:=Lib.hid hs;have hwr:IntKind.i64.wrap (name.toNat:Int)=offOf name:=rfl;have hbl:=(read_lens hr).1;have y0:=hs.box.cell 0;simp only [List.getElem?_cons_zero]at y0;have hbs:base≤w.heap.size:=Nat.le_of_lt (Nat.lt_of_le_of_lt hs.bs hs.box.lt);obtain⟨l1,l2,hl,hno⟩:=mem_parts hm hs.nod;have HL:=Lib.hid hl;have HNo:Hid (∀q∈l1.map (fun o=>(o,(1:Int))),q.1≠offOf name):=Lib.hid (fun q hq=>by
  obtain⟨o,ho,rfl⟩:=List.mem_map.1 hq;exact fun e=>hno (e▸ho))
 have HA:=Lib.hid hA;generalize offOf name=off at*;clear h hs hr hm hl hno hA;go_enter Tryz.func55,Tryz.ntmps55
 go_wp2_with fail
 refine HR.out.mono ?_;rintro e w1⟨hb1,hp1⟩;rw [HRn.out]at hp1;obtain⟨vn,rfl,hnd⟩:=hp1;obtain⟨A1,c1,A2,c2,A3,c3,rfl,o1,o2,o3⟩:=hnd;obtain⟨W2,hW2⟩:∃W2,W2=w1.alloc (.cells #[.slice A1 nd.pre.length c1,.int .u64 (nd.val.toNat:Int),.slice A2 nd.labels.length c2,.slice A3 nd.kids.length c3] 72):=⟨_,rfl⟩;have BN:Blk W2 w1.heap.size 72 [.slice A1 nd.pre.length c1,.int .u64 (nd.val.toNat:Int),.slice A2 nd.labels.length c2,.slice A3 nd.kids.length c3]:=hW2▸heap_alloc_new _ _;have hb12:Below w1.heap.size w1 W2:=hW2▸(Below.refl _ _).alloc (Nat.le_refl _) _;have hb2:Below w.heap.size w W2:=hb1.trans (hb12.mono hb1.size);have S2:=HS.out.below hb2;have hmap:MapIs W2 mb (l1.map (fun o=>(o,(1:Int)))++(off,1)::l2.map (fun o=>(o,(1:Int)))):=by
  have:=S2.map;rw [HL.out]at this;simpa using this
 have k1:=look_yes Tryz.metMap Tryz.underlying3 W2 mb _ _ off 1 hmap HNo.out;have k2:=upd_yes Tryz.metMap Tryz.underlying3 W2 mb _ _ off 1 2 hmap HNo.out;obtain⟨W3,hW3⟩:∃W3,W3=putMap W2 mb (metE 0 (l1.map (fun o=>(o,(1:Int)))++(off,2)::l2.map (fun o=>(o,(1:Int))))).toArray (l1.map (fun o=>(o,(1:Int)))++(off,2)::l2.map (fun o=>(o,(1:Int)))).length:=⟨_,rfl⟩;rw [←hW3]at k2;have t3:Touch (fun b=>b=mb) W2 W3:=hW3▸putMap_touch _ _ _ _;have hm3:MapIs W3 mb (l1.map (fun o=>(o,(1:Int)))++(off,2)::l2.map (fun o=>(o,(1:Int)))):=by rw [hW3];exact putMap_at _ _ _ _ hmap.lt
 have hk3:KeepB W2 W3:=⟨t3.size,fun g cs e fz _ hg=>t3.block g (Array.getElem?_eq_some_iff.1 hg).1 (fun e'=>by
  unfold MapIs at hmap;rw [e',hmap]at hg;injection hg with hg
  cases hg)⟩
 have hb23:Below base W2 W3:=t3.below (Nat.le_trans hbs hb2.size) (fun k e=>e▸S2.bm);have BN3:=hk3.box BN;have HA3:=(HA.out.keep (KeepB.of_below hb2)).keep hk3;have hpre:Rd W3 A1 nd.pre.length (nd.pre.map bv):=(rd_own (hk3.own (.inl rfl) (own_below o1 hb12))).2;have S3:Blk W3 sb 89 [.pointer (some ⟨x,0,none⟩),v,.map (some mb)]:=S2.box.touch t3 S2.sm;clear hW3;have z0:=S2.box.cell 0;have z2:=S2.box.cell 2;simp only [List.getElem?_cons_zero,List.getElem?_cons_succ]at z0 z2;rw [hW2]at k1 k2 z0 z2;have HW2:=Lib.hid hW2;clear y0 HR hW2
 go_wp2_with fail
 obtain⟨n0,n1,n2,n3, -⟩:=blk4' BN3;have HB3:=Lib.hid ((hb2.mono hbs).trans hb23);have HK3:=Lib.hid ((KeepB.of_below hb2).trans hk3);have HM3:=Lib.hid hm3;have HS3:=Lib.hid S3;have HR3:=Lib.hid HA3;have HP3:=Lib.hid hpre;clear k1 k2 z0 z2 hb1 hb12 hb2 S2 hmap t3 hk3 hb23 BN BN3 HA3 hpre o1 o2 o3 hm3 S3
 go_region_law(refine step_app_cut rfl (.tmp 42) (.tmp 44) 26 rfl Tryz.bytesTy A ahead.length (ahead.map bv) (by simp [Act.eval]) (by exact HR3.out.1) (fun a e=>by obtain⟨g,_,_,e',_⟩:=HR3.out.2.1 a e;exact⟨g,e'⟩) (fun e=>by rw [HR3.out.2.2 e];rfl) A1 nd.pre.length c1 (nd.pre.map bv) (by simp [Act.eval]) (by exact HP3.out) (oneCell_bv _) (by omega) (by decide) ?_;intro A4 c4 w4 hc4 hr4 hb4 hcut4)
 all_goals(have hb34:Below W3.heap.size W3 w4:=((Dr.drew W3).below _).trans hb4)
 all_goals(have k5:=look_yes Tryz.metMap Tryz.underlying3 w4 mb _ _ off 2 (HM3.out.below hb34) HNo.out)
 all_goals(have S4:=HS3.out.below hb34 HS3.out.lt)
 all_goals(have z0:=S4.cell 0)
 all_goals(have z2:=S4.cell 2)
 all_goals(simp only [List.getElem?_cons_zero,List.getElem?_cons_succ]at z0 z2)
 all_goals(have HB4:=Lib.hid (HB3.out.trans (hb34.mono (Nat.le_trans hbs (by have:=HB3.out.size;exact this)))))
 all_goals(have HK4:=Lib.hid (HK3.out.trans (KeepB.of_below hb34)))
 all_goals(clear hb34 hb4 hcut4 hr4 S4 HM3 HS3 HR3 HP3 n0 n1 n2 n3 HA HNo HL HS)
 all_goals(go_wp2_with fail)
 all_goals(go_ret)
 all_goals(refine⟨HB4.out,HK4.out,?_⟩)
 all_goals(rw [HP.out])
 all_goals rfl
end
theorem Tryz.intTyK:RowTyK Tryz.prog 53 3 (.int .i64 0) 1 8:=⟨Tryz.underlying53,by kernel_rfl,rfl⟩
def nvs(l:List Nat):List Value:=l.map fun a=> .int .i64 ((a:Nat):Int)
theorem nvs_app(l:List Nat)(a:Nat):nvs (l++[a])=nvs l++[.int .i64 (a:Int)]:=by simp [nvs]
set_option maxHeartbeats 4000000 in
set_option maxRecDepth 100000 in
theorem list_slab(x:Nat)(w:World)(hx:x<18446744073709551616):Calls Tryz.prog 38 #[.int .u64 (x:Int)] w fun e w'=>∃v,e= .returned v∧w'.ownsRow w.heap.size 3 1 v (listW x).length (nvs (listW x))∧Below w.heap.size w w':=by
 have HC:=Lib.hid (classS_any x w hx);have HBl:=Lib.hid (fun W=>blocks_any (classW x) W (by have:=classW_lt x;omega));have hbl:=blocksN_le (classW x);have HHs:=Lib.hid (fun W a(ha:a<16)=>hasS_any x a W hx (by omega));have hdef:listW x=(List.range (blocksN (classW x))).filter (hasW x):=rfl;rw [hdef];clear hdef;generalize blocksN (classW x)=nb at*;generalize classW x=cl at*;go_enter Tryz.func38,Tryz.ntmps38
 go_wp2_with fail
 refine HC.out.mono ?_;rintro e w1⟨rfl,hd1⟩;have HD1:=Lib.hid (hd1.below w.heap.size);clear HC hd1
 go_wp2_with fail
 refine(HBl.out w1).mono ?_;rintro e w2⟨rfl,rfl⟩;clear HBl
 go_wp2_with fail
 go_loopw [3,8](fun u i wr=>∃k:Nat,k≤nb∧i= .int .i64 (k:Nat)∧wr.ownsRow w.heap.size 3 1 u ((List.range k).filter (hasW x)).length (nvs ((List.range k).filter (hasW x)))∧Below w.heap.size w wr)(fun _ i _=>nb- (intOf i).toNat)
 case atStart=>exact⟨0,Nat.zero_le _,rfl,World.ownsRow_nil _ _ _ _,HD1.out⟩
 case round=>
  obtain⟨k,hk,rfl,hown,hb⟩:=hrel;have HO:=Lib.hid hown;have HB:=Lib.hid hb;clear hown hb;by_cases hlt:k<nb
  ·have hx1:(k:Int)<(nb:Int):=by omega
   have hx2:decide ((k:Int)<(nb:Int))=true:=decide_eq_true hx1;have hx5:decide (k<nb)=true:=decide_eq_true hlt;have hwk:IntKind.i64.wrap ((k:Int)+1)=(k:Int)+1:=wrap64 _ (by omega) (by omega);have HTk:Hid ((List.range (k+1)).filter (hasW x)=if hasW x k then(List.range k).filter (hasW x)++[k]else(List.range k).filter (hasW x)):=Lib.hid (by
    rw [List.range_succ,List.filter_append];simp only [List.filter_cons,List.filter_nil];split<;>simp)
   have hfl:((List.range k).filter (hasW x)).length≤16:=Nat.le_trans (List.length_filter_le _ _) (by simp;omega);have HH:=Lib.hid (HHs.out wr k (by omega));generalize(List.range k).filter (hasW x)=M at*
   go_wp2_with fail
   refine HH.out.mono ?_;rintro e w3⟨rfl,hd3⟩;have HB3:=Lib.hid (HB.out.trans (hd3.below w.heap.size));have HO3:=Lib.hid (own_stay HO.out (Kept.of_below (r:=none) (hd3.below _)) (by
    rcases HO.out.2 with⟨h1,_⟩| ⟨g,cap,cur,h1,_⟩
    ·exact .inr (by subst h1;rfl)
    ·exact .inl (by subst h1;exact fun e=>nomatch e)))
   clear HH hd3 HO HB;cases hh:hasW x k with
   | true=>
     rw [hh,if_pos rfl]at HTk
     go_wp2_with(at_builtin;refine wpList_app_one rfl (.tmp 14) (.tmp 16) 53 rfl Tryz.intTyK w3 w.heap.size u3 M.length (nvs M) [.int .i64 (k:Int)] rfl (by exact HO3.out) rfl w3.heap.size 1 rfl rfl rfl (by decide) (by intro u hu;simp at hu;subst hu;rfl) (by omega) (by decide) (by exact HB3.out.size) ?_;intro g6 c6 w6 hO6 hB6 hK6 hg6)
     have HO6:=Lib.hid hO6;have HB6:=Lib.hid (HB3.out.trans hB6);clear hO6 hB6 hK6 hg6
     go_wp2_with fail
     go_roundw
     case rel=>exact⟨k+1,by omega,by go_num,by rw [HTk.out,List.length_append,nvs_app];exact HO6.out,HB6.out⟩
     case measure=>simp [intOf];omega
   | false=>
     rw [hh]at HTk
     go_wp2_with fail
     go_roundw
     case rel=>exact⟨k+1,by omega,by go_num,by rw [HTk.out];exact HO3.out,HB3.out⟩
     case measure=>simp [intOf];omega
  ·have hx2:decide ((k:Int)<(nb:Int))=false:=decide_eq_false (by omega);have hx5:decide (k<nb)=false:=decide_eq_false hlt;have hkn:k=nb:=by omega
   subst hkn
   go_wp2_with fail
   go_ret;exact⟨_,rfl,HO.out,HB.out⟩
section
variable{w w':World}{d p L:Nat}{s:St}{tb hb n cT cH:Nat}
def slabAll(s:St)(i:Nat):List Nat:=(listW (tkN s i)).map fun a=>placeN s.sh i (classW (tkN s i)) a
def allTo(s:St)(i:Nat):List Nat:=(List.range i).flatMap (slabAll s)
theorem allTo_succ(s:St)(i:Nat):allTo s (i+1)=allTo s i++slabAll s i:=by simp [allTo,List.range_succ]
theorem slabAll_len(s:St)(i:Nat):(slabAll s i).length≤16:=by
 unfold slabAll;rw [List.length_map];exact Nat.le_trans (List.length_filter_le _ _) (by simp [blocksN_le])
theorem allTo_len(s:St):∀i,(allTo s i).length≤16*i
 | 0=>by simp [allTo]
 | i+1=>by rw [allTo_succ,List.length_append];have:=allTo_len s i;have:=slabAll_len s i;omega
set_option maxHeartbeats 8000000 in
set_option maxRecDepth 100000 in
theorem all_pool(h:PoolAt w d p L s tb hb n cT cH):Calls Tryz.prog 18 #[.pointer (some ⟨p,0,none⟩)] w fun e w'=>∃v,e= .returned v∧w'.ownsRow w.heap.size 3 1 v (allP s).length (nvs (allP s))∧Below w.heap.size w w':=by
 have HNo:=Lib.hid (none_pool h);have HP:=Lib.hid h;have y5:=h.y5;have hn64:n≤64:=by have:=h.ok.fits;have:=h.L1;have:=h.nsh;omega
 have hall:allP s=allTo s n:=by unfold allP allTo;rw [h.ntk];rfl
 rw [hall];clear h hall;go_enter Tryz.func18,Tryz.ntmps18
 go_wp2_with fail
 refine HNo.out.mono ?_;rintro e w1⟨rfl,rfl⟩;clear HNo
 go_wp2_with fail
 go_loopw [3,15](fun u i wr=>∃k:Nat,k≤n∧i= .int .i64 (k:Nat)∧wr.ownsRow w.heap.size 3 1 u (allTo s k).length (nvs (allTo s k))∧Below w.heap.size w wr)(fun _ i _=>n- (intOf i).toNat)
 case atStart=>exact⟨0,Nat.zero_le _,rfl,World.ownsRow_nil _ _ _ _,Below.refl _ _⟩
 case round=>
  obtain⟨k,hk,rfl,hown,hb⟩:=hrel;have HO:=Lib.hid hown;have HB:=Lib.hid hb;clear hown hb;by_cases hlt:k<n
  ·have hx1:(k:Int)<(n:Int):=by omega
   have hx2:decide ((k:Int)<(n:Int))=true:=decide_eq_true hx1;have hx5:decide (k<n)=true:=decide_eq_true hlt;have hwk:IntKind.i64.wrap ((k:Int)+1)=(k:Int)+1:=wrap64 _ (by omega) (by omega);have z1:=(HP.out.below HB.out).tk k hlt;have hx:=tkN_lt s k;have hcl:=classW_lt (tkN s k);have hal:=allTo_len s k;have HLs:=Lib.hid (list_slab (tkN s k) wr hx);have HCl:=Lib.hid (fun W=>classS_any (tkN s k) W hx);have HPl:=Lib.hid (fun(W:World)a(hW:Below w.heap.size w W)(ha:a≤16)=>place_pool (HP.out.below hW) k (classW (tkN s k)) a hlt hcl ha);have HTk:Hid (allTo s (k+1)=allTo s k++(listW (tkN s k)).map fun a=>placeN s.sh k (classW (tkN s k)) a):=Lib.hid (allTo_succ s k);have hls:∀a∈listW (tkN s k),a≤16:=fun a ha=>by
    have:=List.mem_range.1 (List.mem_filter.1 ha).1;have:=blocksN_le (classW (tkN s k));omega
   have hll:(listW (tkN s k)).length≤16:=Nat.le_trans (List.length_filter_le _ _) (by simp [blocksN_le]);generalize listW (tkN s k)=l at*;generalize classW (tkN s k)=cl at*;generalize tkN s k=x at*;generalize allTo s k=M at*
   go_wp2_with fail
   refine HLs.out.mono ?_;rintro e w3⟨v3,rfl,ho3,hb3⟩;have hA3:∀A c,v3= .slice A l.length c→∀a,A=some a→wr.heap.size≤a.block∧a.block<w3.heap.size:=fun A c e a ea=>by
    rcases ho3.2 with⟨h1,_⟩| ⟨g,cap,cur,h1,h2,h3,_⟩
    ·rw [h1,ea]at e;cases e
    ·rw [h1,ea]at e;injection e with e
     injection e with e
     rw [←e];exact⟨h2,(Array.getElem?_eq_some_iff.1 h3).1⟩
   obtain⟨A3,c3,rfl,hc3,hr3⟩:=rd_of_own ho3;have hap:∀a,A3=some a→a.block<w3.heap.size∧u3.ownBlock≠some a.block:=fun a ea=>by
    obtain⟨h1,h2⟩:=hA3 A3 c3 rfl a ea;refine⟨h2,fun e=> ?_⟩;rcases HO.out.2 with⟨h3,_⟩| ⟨g,cap,cur,h3,_,h4,_⟩
    ·rw [h3]at e;cases e
    ·rw [h3]at e;injection e with e
     have:=(Array.getElem?_eq_some_iff.1 h4).1;simp only at e;omega
   have HAp:=Lib.hid hap;clear hA3 hap;have HR3:=Lib.hid hr3;have HB3:=Lib.hid (HB.out.trans (hb3.mono HB.out.size));have HO3:=Lib.hid (own_stay HO.out (Kept.of_below (r:=none) hb3) (by
    rcases HO.out.2 with⟨h1,_⟩| ⟨g,cap,cur,h1,_⟩
    ·exact .inr (by subst h1;rfl)
    ·exact .inl (by subst h1;exact fun e=>nomatch e)))
   clear HLs ho3 hb3 hr3 HO HB
   go_wp2_with fail
   go_loopw [3,23](fun u i wr=>∃j:Nat,j≤l.length∧i= .int .i64 (j:Nat)∧wr.ownsRow w.heap.size 3 1 u (M++(l.take j).map fun a=>placeN s.sh k cl a).length (nvs (M++(l.take j).map fun a=>placeN s.sh k cl a))∧Below w.heap.size w wr∧Rd wr A3 l.length (nvs l)∧∀a,A3=some a→a.block<wr.heap.size∧u.ownBlock≠some a.block)(fun _ i _=>l.length- (intOf i).toNat)
   case atStart=>exact⟨0,Nat.zero_le _,rfl,by simpa using HO3.out,HB3.out,HR3.out,HAp.out⟩
   case round=>
    obtain⟨j,hj,rfl,hown,hb,hrd,hap⟩:=hrel;have HO4:=Lib.hid hown;have HB4:=Lib.hid hb;have HR4:=Lib.hid hrd;have HAp4:=Lib.hid hap;clear hown hb hrd hap HAp;by_cases hjl:j<l.length
    ·have hy1:(j:Int)<(l.length:Int):=by omega
     have hy2:decide ((j:Int)<(l.length:Int))=true:=decide_eq_true hy1;have hy5:decide (j<l.length)=true:=decide_eq_true hjl;have hwj:IntKind.i64.wrap ((j:Int)+1)=(j:Int)+1:=wrap64 _ (by omega) (by omega);obtain⟨b,off,rfl,hbw,hcc⟩:=HR4.out.2 (by omega);have z2:=hcc j hjl;rw [nvs,List.getElem?_map,List.getElem?_eq_getElem hjl]at z2;simp only [Option.map_some]at z2;clear hcc;have ha16:=hls l[j] (List.getElem_mem hjl);have HTj:Hid (M++(l.take (j+1)).map (fun a=>placeN s.sh k cl a)=M++(l.take j).map (fun a=>placeN s.sh k cl a)++[placeN s.sh k cl l[j]]):=Lib.hid (by
      rw [List.take_succ_eq_append_getElem hjl,List.map_append,List.append_assoc];rfl)
     have hml:(M++(l.take j).map fun a=>placeN s.sh k cl a).length≤2000:=by
      simp only [List.length_append,List.length_map,List.length_take];omega
     generalize l[j]=a at*;generalize(M++(l.take j).map fun a=>placeN s.sh k cl a)=Q at*
     go_wp2_with fail
     refine(HCl.out wr).mono ?_;rintro e w5⟨rfl,hd5⟩;have hd5':=hd5.below w.heap.size;have HB5:=Lib.hid (HB4.out.trans (hd5.below w.heap.size));have HPl':=Lib.hid (HPl.out w5 a HB5.out ha16);have HO5:=Lib.hid (own_stay HO4.out (Kept.of_below (r:=none) (hd5.below _)) (by
      rcases HO4.out.2 with⟨h1,_⟩| ⟨g,cap,cur,h1,_⟩
      ·exact .inr (by subst h1;rfl)
      ·exact .inl (by subst h1;exact fun e=>nomatch e)))
     clear HO4 HB4
     go_wp2_with fail
     refine HPl'.out.mono ?_;rintro e w6⟨rfl,hd6⟩;have HB6:=Lib.hid (HB5.out.trans (hd6.below w.heap.size));have HO6:=Lib.hid (own_stay HO5.out (Kept.of_below (r:=none) (hd6.below _)) (by
      rcases HO5.out.2 with⟨h1,_⟩| ⟨g,cap,cur,h1,_⟩
      ·exact .inr (by subst h1;rfl)
      ·exact .inl (by subst h1;exact fun e=>nomatch e)))
     have HT6:=HB6;have hs6:wr.heap.size≤w6.heap.size:=Nat.le_trans (hd5'.size) (hd6.below w.heap.size).size;have hr6:Rd w6 (some ⟨b,off,none⟩) l.length (nvs l):=Rd.below HR4.out ((hd5.below _).trans ((hd6.below _).mono hd5'.size));have HR6:=Lib.hid hr6;clear HPl' hd6 HO5 HB5 hr6 hd5 hd5'
     go_wp2_with(at_builtin;refine wpList_app_one rfl (.tmp 27) (.tmp 34) 53 rfl Tryz.intTyK w6 w.heap.size u3 Q.length (nvs Q) [.int .i64 ((placeN s.sh k cl a:Nat):Int)] rfl (by exact HO6.out) rfl w6.heap.size 1 rfl rfl rfl (by decide) (by intro u hu;simp at hu;subst hu;rfl) (by omega) (by decide) (by exact HT6.out.size) ?_;intro g8 c8 w8 hO8 hB8 hK8 hg8)
     have HO8:=Lib.hid hO8;have HB8:=Lib.hid (HT6.out.trans hB8);have hne:=(HAp4.out _ rfl).2;have hbl:=(HAp4.out _ rfl).1;simp only at hne hbl;have HR8:Hid (Rd w8 (some ⟨b,off,none⟩) l.length (nvs l)):=Lib.hid (by
      refine⟨HR6.out.1,fun hn=> ?_⟩;obtain⟨b',off',e',hb',hcc'⟩:=HR6.out.2 hn;injection e' with e'
      injection e' with e1 e2
      subst e1 e2;exact⟨b,off,rfl,Nat.lt_of_lt_of_le hb' hK8.1,fun j hj=>(World.cell?_of_block (w:=w6) (hK8.2 b hb' (fun e=>hne e.symm))).trans (hcc' j hj)⟩)
     have HA8:Hid (b<w8.heap.size∧some g8≠some b):=Lib.hid (by
      refine⟨by have:=hK8.1;omega,fun e=> ?_⟩;injection e with e
      rcases hg8 with h| h
      ·exact hne (by rw [h,e])
      ·omega)
     clear hO8 hB8 hK8 hg8 hne hbl HR6
     go_wp2_with fail
     go_roundw
     case rel=>exact⟨j+1,by omega,by go_num,by rw [HTj.out,List.length_append,nvs_app];exact HO8.out,HB8.out,HR8.out,fun a ea=>by injection ea with ea;subst ea;exact HA8.out⟩
     case measure=>simp [intOf];omega
    ·have hy2:decide ((j:Int)<(l.length:Int))=false:=decide_eq_false (by omega);have hy5:decide (j<l.length)=false:=decide_eq_false hjl;have hjn:j=l.length:=by omega
     subst hjn;have HO5:Hid (wr.ownsRow w.heap.size 3 1 u3 (M++l.map fun a=>placeN s.sh k cl a).length (nvs (M++l.map fun a=>placeN s.sh k cl a))):=Lib.hid (by have:=HO4.out;rwa [List.take_length]at this);have HT5:=HB4;clear HO4
     go_wp2_with fail
     go_roundw
     case rel=>exact⟨k+1,by omega,by go_num,by rw [HTk.out];exact HO5.out,HT5.out⟩
     case measure=>simp [intOf];omega
  ·have hx2:decide ((k:Int)<(n:Int))=false:=decide_eq_false (by omega);have hx5:decide (k<n)=false:=decide_eq_false hlt;have hkn:k=n:=by omega
   subst hkn
   go_wp2_with fail
   go_ret;exact⟨_,rfl,HO.out,HB.out⟩
end
abbrev Kv:=List UInt8×UInt64
structure Part where
 items:List Kv
 blocks:List Nat
def ownItems(nd:Nd):List Kv:=if nd.val≠0 then [(nd.pre,nd.val)]else []
def underI(pre:List UInt8)(lb:UInt8)(l:List Kv):List Kv:=l.map fun kv=>(pre++lb::kv.1,kv.2)
def kidItems(pre:List UInt8):List UInt8→List Part→List Kv
 | lb::ls,p::ps=>underI pre lb p.items++kidItems pre ls ps
 | _,_=>[]
def kidBlocks(ps:List Part):List Nat:=(ps.map Part.blocks).flatten
inductive TreeAt(s:St):Nat→UInt64→List Kv→List Nat→Prop
 | mk(r:Nat)(name:UInt64)(nd:Nd)(parts:List Part)(hrd:readP s name=some nd)(hpre:nd.pre.length≤r)(hkid:nd.kids≠[]→nd.pre.length+1≤r)(hlen:parts.length=nd.kids.length)
  (hk:∀i(h1:i<nd.kids.length)(h2:i<parts.length),TreeAt s (r-nd.pre.length-1) nd.kids[i] parts[i].items parts[i].blocks):
  TreeAt s r name (ownItems nd++kidItems nd.pre nd.labels parts) ((offOf name).toNat::kidBlocks parts)
section
variable{L:Nat}{s s':St}
theorem lines_class{c d:Nat}(hc:c=1∨c=2)(hd:d=1∨d=2)(h:linesN c=linesN d):c=d:=by
 rcases hc with rfl| rfl<;>rcases hd with rfl| rfl<;>first| rfl| (simp [linesN]at h)
theorem classN_12(x:Nd):classN x=1∨classN x=2:=by unfold classN;split<;>simp
theorem encW_lines'(x:Nd):(encW x).length=8*linesN (classN x):=by
 rw [encW_length];unfold classN;split<;>rfl
theorem read_some(ok:PoolOk L s){name:UInt64}{nd:Nd}(h:readP s name=some nd):
 ∃o:Nat,offOf name=o∧TakenAt s o (classN nd)∧rightB nd=true∧wordsAt s.ws (o/8) (8*linesN (classN nd))=encW nd:=by
 unfold readP at h;split at h
 ·cases h
 ·rename_i h0;split at h
  ·rename_i hd;injection h with h
   have hc0:classP s (offOf name)≠0:=fun e=>h0 (by rw [e];rfl)
   obtain⟨o,ho,ht⟩:=taken_of_class ok rfl hc0;obtain⟨h1,h2⟩:=decOk_iff _ hd;rw [h]at h1 h2;have h12:=ht.cls ok;have hcc:classP s (offOf name)=classN nd:=by
    refine lines_class h12 (classN_12 nd) ?_;have:=congrArg List.length h2;rw [encW_lines']at this;simp [wordsAt]at this;omega
   rw [hcc]at ht h2;rw [ho,Int.toNat_natCast]at h2;exact⟨o,ho,ht,h1,h2.symm⟩
  ·cases h
theorem read_of(ok:PoolOk L s){name:UInt64}{nd:Nd}{o:Nat}(ho:offOf name=o)(ht:TakenAt s o (classN nd))(hr:rightB nd=true)(hw:wordsAt s.ws (o/8) (8*linesN (classN nd))=encW nd):readP s name=some nd:=by
 have hc:=ht.class ok;have h12:=classN_12 nd;unfold readP;rw [ho,hc,Int.toNat_natCast,hw,if_neg (by have:=(lines_blocks h12).2.1;omega),if_pos (decOk_enc nd hr),cand_enc nd hr]
def KeepT(s s':St)(B:Nat→Prop):Prop:=∀o c,B o→TakenAt s o c→TakenAt s' o c∧∀j,inBlk o c j→s'.ws j=s.ws j
theorem KeepT.mono{B C:Nat→Prop}(h:KeepT s s' B)(k:∀o,C o→B o):KeepT s s' C:=fun o c hb ht=>h o c (k o hb) ht
theorem KeepT.trans{s'':St}{B:Nat→Prop}(h:KeepT s s' B)(k:KeepT s' s'' B):KeepT s s'' B:=fun o c hb ht=>by
 obtain⟨h1,h2⟩:=h o c hb ht;obtain⟨k1,k2⟩:=k o c hb h1;exact⟨k1,fun j hj=>(k2 j hj).trans (h2 j hj)⟩
theorem KeepT.refl(s:St)(B:Nat→Prop):KeepT s s B:=fun _ _ _ h=>⟨h,fun _ _=>rfl⟩
theorem words_same{o c:Nat}(h:∀j,inBlk o c j→s'.ws j=s.ws j):wordsAt s'.ws (o/8) (8*linesN c)=wordsAt s.ws (o/8) (8*linesN c):=by
 unfold wordsAt;refine List.map_congr_left fun t ht=> ?_
 have:=List.mem_range.1 ht;exact h _ ⟨by omega,by omega⟩
theorem read_keep(ok:PoolOk L s)(ok':PoolOk L s'){B:Nat→Prop}(k:KeepT s s' B){name:UInt64}{nd:Nd}(hb:B (offOf name).toNat)(h:readP s name=some nd):readP s' name=some nd:=by
 obtain⟨o,ho,ht,hr,hw⟩:=read_some ok h;rw [ho,Int.toNat_natCast]at hb;obtain⟨h1,h2⟩:=k o _ hb ht;exact read_of ok' ho h1 hr ((words_same h2).trans hw)
theorem kidBlocks_mem{ps:List Part}{i:Nat}(h:i<ps.length){o:Nat}(ho:o∈ps[i].blocks):o∈kidBlocks ps:=by
 unfold kidBlocks;exact List.mem_flatten.2 ⟨_,List.mem_map.2 ⟨_,List.getElem_mem h,rfl⟩,ho⟩
theorem TreeAt.keep(ok:PoolOk L s)(ok':PoolOk L s'){B:Nat→Prop}(k:KeepT s s' B){r:Nat}{name:UInt64}{items:List Kv}{blocks:List Nat}(h:TreeAt s r name items blocks)(hb:∀o∈blocks,B o):TreeAt s' r name items blocks:=by
 induction h with
 | mk r name nd parts hrd hpre hkid hlen hk ih=>
   refine .mk r name nd parts (read_keep ok ok' k (hb _ (List.mem_cons_self ..)) hrd) hpre hkid hlen fun i h1 h2=>ih i h1 h2 fun o ho=>hb o (List.mem_cons_of_mem _ (kidBlocks_mem h2 ho))
theorem TreeAt.taken(ok:PoolOk L s){r:Nat}{name:UInt64}{items:List Kv}{blocks:List Nat}(h:TreeAt s r name items blocks):∀o∈blocks,∃c,TakenAt s o c:=by
 induction h with
 | mk r name nd parts hrd hpre hkid hlen hk ih=>
   intro o ho;rcases List.mem_cons.1 ho with rfl| ho
   ·obtain⟨o,ho,ht,_⟩:=read_some ok hrd;rw [ho,Int.toNat_natCast];exact⟨_,ht⟩
   ·unfold kidBlocks at ho;obtain⟨l,hl,ho⟩:=List.mem_flatten.1 ho;obtain⟨p,hp,rfl⟩:=List.mem_map.1 hl;obtain⟨i,hi,rfl⟩:=List.getElem_of_mem hp;exact ih i (by omega) hi o ho
theorem kidItems_mem{pre:List UInt8}:∀{ls:List UInt8}{ps:List Part}{kv:Kv},kv∈kidItems pre ls ps→∃(i:Nat)(h1:i<ls.length)(h2:i<ps.length)(kv':Kv),kv'∈ps[i].items∧kv=(pre++ls[i]::kv'.1,kv'.2)
 | [],_,kv,h=>by simp [kidItems]at h
 | _::_,[],kv,h=>by simp [kidItems]at h
 | lb::ls,p::ps,kv,h=>by
   rw [kidItems]at h;rcases List.mem_append.1 h with h| h
   ·obtain⟨kv',hk,e⟩:=List.mem_map.1 h;exact⟨0,by simp,by simp,kv',hk,e.symm⟩
   ·obtain⟨i,h1,h2,kv',hk,e⟩:=kidItems_mem h;exact⟨i+1,by simp;omega,by simp;omega,kv',hk,e⟩
theorem ownItems_mem{nd:Nd}{kv:Kv}(h:kv∈ownItems nd):kv=(nd.pre,nd.val)∧nd.val≠0:=by
 unfold ownItems at h;split at h
 ·rename_i h0;exact⟨List.mem_singleton.1 h,h0⟩
 ·cases h
theorem bless_app(p a b:List UInt8):Op.bytesLess (p++a) (p++b)=Op.bytesLess a b:=by
 induction p with
 | nil=>rfl
 | cons x p ih=>simp [Op.bytesLess,ih]
theorem bless_pre(p:List UInt8)(x:UInt8)(t:List UInt8):Op.bytesLess p (p++x::t)=true:=by
 induction p with
 | nil=>rfl
 | cons y p ih=>simp [Op.bytesLess,ih]
theorem bless_head{x y:UInt8}(h:x.toNat<y.toNat)(a b:List UInt8):Op.bytesLess (x::a) (y::b)=true:=by
 simp only [Op.bytesLess,Bool.or_eq_true,decide_eq_true_eq];exact .inl (UInt8.lt_iff_toNat_lt.2 h)
def UpK(l:List Kv):Prop:=l.Pairwise fun a b=>Op.bytesLess a.1 b.1=true
theorem underI_up{pre:List UInt8}{lb:UInt8}{l:List Kv}(h:UpK l):UpK (underI pre lb l):=by
 unfold UpK underI;rw [List.pairwise_map];refine h.imp fun{a b}hab=> ?_
 show Op.bytesLess (pre++lb::a.1) (pre++lb::b.1)=true;rw [bless_app];simp [Op.bytesLess,hab]
theorem kidItems_up{pre:List UInt8}:∀{ls:List UInt8}{ps:List Part},risingB ls=true→(∀p∈ps,UpK p.items)→UpK (kidItems pre ls ps)
 | [],_,_,_=>by simp [kidItems,UpK]
 | _::_,[],_,_=>by simp [kidItems,UpK]
 | lb::ls,p::ps,hr,h=>by
   obtain⟨h1,h2⟩:=rising_tail hr;rw [kidItems];refine List.pairwise_append.2 ⟨underI_up (h p (List.mem_cons_self ..)),kidItems_up h1 (fun q hq=>h q (List.mem_cons_of_mem _ hq)),fun a ha b hb=> ?_⟩;obtain⟨a',_,rfl⟩:=List.mem_map.1 ha;obtain⟨i,h3,h4,b',_,rfl⟩:=kidItems_mem hb;show Op.bytesLess (pre++lb::a'.1) (pre++ls[i]::b'.1)=true;rw [bless_app];exact bless_head (h2 _ (List.getElem_mem h3)) _ _
theorem TreeAt.up(ok:PoolOk L s){r:Nat}{name:UInt64}{items:List Kv}{blocks:List Nat}(h:TreeAt s r name items blocks):UpK items:=by
 induction h with
 | mk r name nd parts hrd hpre hkid hlen hk ih=>
   obtain⟨o,ho,ht,hr,_⟩:=read_some ok hrd;have hr':=(rightB_iff nd).1 hr;refine List.pairwise_append.2 ⟨?_,kidItems_up hr'.2.2.2.2.1 (fun p hp=> ?_),fun a ha b hb=> ?_⟩
   ·unfold ownItems;split<;>simp
   ·obtain⟨i,hi,rfl⟩:=List.getElem_of_mem hp;exact ih i (by omega) hi
   ·obtain⟨rfl,_⟩:=ownItems_mem ha;obtain⟨i,h3,h4,b',_,rfl⟩:=kidItems_mem hb;exact bless_pre _ _ _
theorem visit_kids{f:Nat}{ahead pre:List UInt8}:∀(ls:List UInt8)(ks:List UInt64)(ps:List Part)(i0:List Kv)(m0:List Int),ls.length=ks.length→ps.length=ks.length→
 (∀i(h1:i<ls.length)(h2:i<ks.length)(h3:i<ps.length)(i0:List Kv)(m0:List Int),(∀o∈ps[i].blocks,(o:Int)∉m0)→visitP s f ks[i] (ahead++pre++[ls[i]]) (i0,m0)=some (i0++ps[i].items.map (fun kv=>(pairs (ahead++pre++ls[i]::kv.1),kv.2)),m0++ps[i].blocks.map Int.ofNat))→
 (kidBlocks ps).Nodup→(∀o∈kidBlocks ps,(o:Int)∉m0)→
 (ls.zip ks).foldlM (fun st(lk:UInt8×UInt64)=>visitP s f lk.2 (ahead++pre++[lk.1]) st) (i0,m0)=some (i0++(kidItems pre ls ps).map (fun kv=>(pairs (ahead++kv.1),kv.2)),m0++(kidBlocks ps).map Int.ofNat)
 | [],ks,ps,i0,m0,h1,h2,_,_,_=>by
   have:ks=[]:=List.eq_nil_of_length_eq_zero (by simpa using h1.symm);subst this;have:ps=[]:=List.eq_nil_of_length_eq_zero (by simpa using h2);subst this;simp [kidItems,kidBlocks]
 | lb::ls,[],ps,i0,m0,h1,_,_,_,_=>by simp at h1
 | lb::ls,k::ks,[],i0,m0,_,h2,_,_,_=>by simp at h2
 | lb::ls,k::ks,p::ps,i0,m0,h1,h2,H,hn,hm=>by
   have e:kidBlocks (p::ps)=p.blocks++kidBlocks ps:=rfl;rw [e]at hn hm;obtain⟨hn1,hn2,hn3⟩:=List.nodup_append.1 hn;have h0:=H 0 (by simp) (by simp) (by simp) i0 m0 (fun o ho=>hm o (List.mem_append_left _ ho));simp only [List.getElem_cons_zero]at h0;rw [List.zip_cons_cons,List.foldlM_cons,h0];simp only [Option.bind_eq_bind,Option.bind_some];rw [visit_kids ls ks ps _ _ (by simpa using h1) (by simpa using h2) (fun i h1 h2 h3 i0 m0 hd=> ?_) hn2 (fun o ho=> ?_)]
   ·rw [e,kidItems];simp [underI,List.append_assoc,Function.comp_def]
   ·have:=H (i+1) (by simp;omega) (by simp;omega) (by simp;omega) i0 m0 hd;simpa using this
   ·rw [List.mem_append];rintro(h| h)
    ·exact hm o (List.mem_append_right _ ho) h
    ·obtain⟨o',ho',e2⟩:=List.mem_map.1 h;have:o'=o:=Int.ofNat.inj e2;subst this;exact hn3 o' ho' o' ho rfl
theorem TreeAt.survey(ok:PoolOk L s){r:Nat}{name:UInt64}{items:List Kv}{blocks:List Nat}(h:TreeAt s r name items blocks):∀(f:Nat)(ahead:List UInt8)(i0:List Kv)(m0:List Int),r<f→ahead.length+r≤32→blocks.Nodup→(∀o∈blocks,(o:Int)∉m0)→(∀kv∈items,keyOk (ahead++kv.1)=true)→
 visitP s f name ahead (i0,m0)=some (i0++items.map (fun kv=>(pairs (ahead++kv.1),kv.2)),m0++blocks.map Int.ofNat):=by
 induction h with
 | mk r name nd parts hrd hpre hkid hlen hk ih=>
   intro f ahead i0 m0 hf hal hn hm hkey;obtain⟨o,ho,ht,hr,_⟩:=read_some ok hrd;have hr':=(rightB_iff nd).1 hr;obtain⟨f,rfl⟩:∃g,f=g+1:=⟨f-1,by omega⟩;obtain⟨hn1,hn2⟩:=List.nodup_cons.1 hn;rw [visitP,hrd]
   dsimp only
   have hmo:=hm (offOf name).toNat (List.mem_cons_self ..);rw [ho,Int.toNat_natCast]at hmo;rw [if_neg (by
    rw [ho];rintro(h| h)
    ·exact hmo (List.contains_iff_mem.1 h)
    ·simp only [List.length_append]at h;omega)]
   rw [if_neg (by
    rintro⟨h1,h2⟩;have:=hkey (nd.pre,nd.val) (List.mem_append_left _ (by unfold ownItems;rw [if_pos h1];exact List.mem_singleton.2 rfl));rw [this]at h2;cases h2)]
   have hkb:∀o'∈kidBlocks parts,((o':Int))∉m0++[offOf name]:=fun o' ho' hc=>by
    rcases List.mem_append.1 hc with h| h
    ·exact hm o' (List.mem_cons_of_mem _ ho') h
    ·rw [List.mem_singleton,ho]at h;refine hn1 ?_;rw [ho,Int.toNat_natCast];have:o'=o:=by omega
     exact this▸ho'
   rw [visit_kids nd.labels nd.kids parts _ _ hr'.2.2.1 hlen (fun i h1 h2 h3 i0 m0 hd=> ?_) hn2 hkb]
   ·simp only [ho,List.map_append,List.map_cons,Int.toNat_natCast,List.append_assoc,List.cons_append,List.nil_append];unfold ownItems;split<;>simp
   ·have h8:=hkid (by intro e;rw [e]at h2;simp at h2);have hnd:parts[i].blocks.Nodup:=by
     have:=(List.pairwise_flatten.1 hn2).1;exact this _ (List.mem_map.2 ⟨_,List.getElem_mem h3,rfl⟩)
    have:=ih i h2 h3 f (ahead++nd.pre++[nd.labels[i]]) i0 m0 (by omega) (by simp only [List.length_append,List.length_cons,List.length_nil];omega) hnd hd (fun kv hkv=> ?_)
    ·rw [this];simp
    ·have:=hkey (nd.pre++nd.labels[i]::kv.1,kv.2) (List.mem_append_right _ ?_)
     ·simpa using this
     ·clear ih hk hkey hm hkb hn hn2 hrd hkid hlen;have:∀(ls:List UInt8)(ps:List Part)(i:Nat)(h1:i<ls.length)(h3:i<ps.length),kv∈ps[i].items→(nd.pre++ls[i]::kv.1,kv.2)∈kidItems nd.pre ls ps:=by
       intro ls;induction ls with
       | nil=>intro ps i h1;simp at h1
       | cons lb ls ih=>
         intro ps i h1 h3 hk;cases ps with
         | nil=>simp at h3
         | cons p ps=>
           rw [kidItems];cases i with
           | zero=>exact List.mem_append_left _ (List.mem_map.2 ⟨kv,by simpa using hk,rfl⟩)
           | succ i=>exact List.mem_append_right _ (by simpa using ih ps i (by simpa using h1) (by simpa using h3) (by simpa using hk))
      exact this _ _ i h1 h3 hkv
end
structure Grown(L:Nat)(s0:St)(j:Jb)(B:List Nat):Prop where
 ok:PoolOk L j.s
 sh:j.s.sh=s0.sh
 nh:∀o d,¬HeldAt j.s o d
 made:j.made=B.map Int.ofNat
 nod:B.Nodup
 new:∀o∈B,∀d,¬TakenAt s0 o d
 tk:∀o,(∃d,TakenAt j.s o d)↔(∃d,TakenAt s0 o d)∨o∈B
 keep:KeepT s0 j.s (fun _=>True)
 low:∀i,i<16→j.s.ws i=s0.ws i
theorem Grown.start{L:Nat}{s:St}(ok:PoolOk L s)(nh:∀o d,¬HeldAt s o d):Grown L s ⟨s,[]⟩ []:=
 ⟨ok,rfl,nh,rfl,List.nodup_nil,(fun _ h=>nomatch h),(fun o=>by simp),KeepT.refl _ _,fun _ _=>rfl⟩
theorem offOf_ofNat{o:Nat}(h:o≤65536):offOf (UInt64.ofNat o)=o:=by
 unfold offOf;rw [ofNat_toNat_lt (by omega)];exact wrap64 _ (by omega) (by omega)
section
variable{L:Nat}{s0:St}{j:Jb}{B:List Nat}
theorem build_ok (g : Grown L s0 j B) {n : Nd} (hr : rightB n = true) :
    buildP j n = (j, 0, 6) ∨ ∃ j' name o, buildP j n = (j', name, 0) ∧ o ∉ B ∧ Grown L s0 j' (B ++ [o]) ∧ offOf name = (o : Nat) ∧ name ≠ 0 ∧ readP j'.s name = some n ∧ KeepT j.s j'.s (fun _ => True) := by
  unfold buildP
  rw [hr]
  simp only [Bool.not_true, Bool.false_eq_true, if_false]
  cases hres : reserveP j.s (classN n) with
  | none => exact .inl rfl
  | some p =>
    obtain ⟨off, s1⟩ := p
    right
    obtain ⟨ok1, hw1, hsh1, htk1, hh1, _, hh2, ht1⟩ := reserve_ok g.ok (classN_12 n) hres
    have hb1 := hh1.bounds ok1
    have htf := ok1.sh.tfits
    have hL1 := g.ok.L1
    have h12 := classN_12 n
    have hlen := encW_lines' n
    obtain ⟨l1, l2, l3, l4⟩ := lines_blocks h12
    have hput : ∀ i, ¬ inBlk off (classN n) i → putWs s1.ws (off / 8) (encW n) i = s1.ws i := fun i hi => by
      unfold putWs
      rw [if_neg]
      intro h
      exact hi ⟨h.1, by rw [hlen] at h; exact h.2⟩
    have hnot : ∀ i, i < 16 + s1.sh.slabs → ¬ inBlk off (classN n) i := fun i hi h => by
      unfold inBlk at h; omega
    obtain ⟨s1', hs1'⟩ : ∃ s1', s1' = ({ s1 with ws := putWs s1.ws (off / 8) (encW n) } : St) := ⟨_, rfl⟩
    have ok1' : PoolOk L s1' := hs1' ▸ ok1.words (fun i hi => hput _ (hnot _ (by omega)))
    have hh1' : HeldAt s1' off (classN n) := by rw [hs1']; exact hh1
    obtain ⟨s2, e2, ok2, hsh2, hw2, ht2, hh2'⟩ := take_ok ok1' hh1'
    have hsh1' : s1'.sh = s1.sh := by rw [hs1']
    have ht1' : ∀ o d, TakenAt s1' o d ↔ TakenAt j.s o d := fun o d => by rw [hs1']; exact ht1 o d
    have hoff := offOf_ofNat (o := off) (by omega)
    have hkeep : KeepT j.s s2 (fun _ => True) := fun o c _ ht => by
      have ht1'' := (ht1' o c).2 ht
      obtain ⟨hne, hap⟩ := held_apart ok1' hh1' ht1''
      have hbo := ht1''.bounds ok1'
      refine ⟨(ht2 o c).2 (.inl ht1''), fun i hi => ?_⟩
      rw [hw2 i (.inr (ok1'.table_words hbo.1 hi)), hs1']
      show putWs s1.ws (off / 8) (encW n) i = _
      rw [hput i (fun h => apart_words hap hb1.2.2 hbo.2.2 h hi), hw1]
    have hnew : ∀ d, ¬ TakenAt j.s off d := fun d hd => (held_apart ok1' hh1' ((ht1' off d).2 hd)).1 rfl
    have hnB : off ∉ B := fun h => by
      obtain ⟨d, hd⟩ := (g.tk off).2 (.inr h)
      exact hnew d hd
    have hrd : readP s2 (UInt64.ofNat off) = some n := by
      refine read_of ok2 hoff ((ht2 _ _).2 (.inr ⟨rfl, rfl⟩)) hr ?_
      unfold wordsAt
      refine List.ext_getElem (by simp [hlen]) fun t h1 h2 => ?_
      simp only [List.getElem_map, List.getElem_range]
      have htl : t < 8 * linesN (classN n) := by simpa using h1
      have hib : inBlk off (classN n) (off / 8 + t) := ⟨by omega, by omega⟩
      rw [hw2 _ (.inr (ok1'.table_words (by rw [hsh1']; exact hb1.1) hib)), hs1']
      show putWs s1.ws (off / 8) (encW n) (off / 8 + t) = _
      unfold putWs
      rw [if_pos ⟨by omega, by omega⟩, Nat.add_sub_cancel_left, List.getD_eq_getElem?_getD, List.getElem?_eq_getElem h2]
      rfl
    refine ⟨⟨s2, j.made ++ [(off : Int)]⟩, UInt64.ofNat off, off, ?_, hnB, ⟨ok2, by rw [hsh2, hsh1', hsh1, g.sh], fun o d h => ?_, by rw [g.made]; simp, ?_, fun o ho d hd => ?_, fun o => ?_, g.keep.trans hkeep, fun i hi => ?_⟩, hoff, ?_, hrd, hkeep⟩
    · rw [hs1'] at e2
      simp only [e2, if_true]
    · obtain ⟨h1, h2⟩ := (hh2' o d).1 h
      rw [hs1'] at h1
      rcases hh2 o d h1 with h3 | h3
      · exact g.nh o d h3
      · exact h2 h3
    · exact List.nodup_append.2 ⟨g.nod, by simp, fun a ha b hb e => by rw [List.mem_singleton] at hb; subst hb; exact hnB (e ▸ ha)⟩
    · rcases List.mem_append.1 ho with h | h
      · exact g.new o h d hd
      · rw [List.mem_singleton] at h
        subst h
        obtain ⟨d', hd'⟩ := (g.tk o).2 (.inl ⟨d, hd⟩)
        exact hnew d' hd'
    · have h1 : (∃ d, TakenAt s2 o d) ↔ (∃ d, TakenAt j.s o d) ∨ o = off := by
        constructor
        · rintro ⟨d, hd⟩
          rcases (ht2 o d).1 hd with h | h
          · exact .inl ⟨d, (ht1' o d).1 h⟩
          · exact .inr h.1
        · rintro (⟨d, hd⟩ | rfl)
          · exact ⟨d, (ht2 o d).2 (.inl ((ht1' o d).2 hd))⟩
          · exact ⟨_, (ht2 _ _).2 (.inr ⟨rfl, rfl⟩)⟩
      show (∃ d, TakenAt s2 o d) ↔ _
      rw [h1, g.tk o, List.mem_append, List.mem_singleton, or_assoc]
    · show s2.ws i = _
      rw [hw2 i (.inl hi), hs1']
      show putWs s1.ws (off / 8) (encW n) i = _
      rw [hput i (hnot i (by omega)), hw1, g.low i hi]
    · intro e
      have := congrArg UInt64.toNat e
      rw [ofNat_toNat_lt (by omega)] at this
      simp at this
      omega
def LeafPost(L:Nat)(s0:St)(j:Jb)(B:List Nat)(r:Nat)(l:List UInt8)(value:UInt64)(res:Jb×UInt64×Int):Prop:=
 (res.2.2=6∧∃B',Grown L s0 res.1 B')∨
 (res.2.2=0∧∃C bl,Grown L s0 res.1 (B++C)∧KeepT j.s res.1.s (fun _=>True)∧res.2.1≠0∧TreeAt res.1.s r res.2.1 [(l,value)] bl∧bl.Perm C)
theorem tree_leaf{s:St}{name:UInt64}{l:List UInt8}{value:UInt64}{r o:Nat}(h:readP s name=some ⟨l,value,[],[]⟩)(ho:offOf name=o)(hl:l.length≤r)(hv:value≠0):TreeAt s r name [(l,value)] [o]:=by
 have:=TreeAt.mk r name ⟨l,value,[],[]⟩ [] h hl (fun h=>absurd rfl h) rfl (fun i h1 _=>absurd h1 (by simp));rw [ho,Int.toNat_natCast]at this;simpa [ownItems,kidItems,kidBlocks,hv]using this
theorem withOne_ok{pre:List UInt8}{val:UInt64}{label:UInt8}{kid:UInt64}(hp:pre.length≤15)(hn:pre.all isNib=true)(h16:isNib label=true)(hk:kid≠0):withOkP ⟨pre,val,[],[]⟩ label kid=true∧withP ⟨pre,val,[],[]⟩ label kid=⟨pre,val,[label],[kid]⟩∧rightB ⟨pre,val,[label],[kid]⟩=true∧rightB ⟨pre,val,[],[]⟩=true:=by
 have hr0:rightB ⟨pre,val,[],[]⟩=true:=by
  rw [rightB_iff];exact⟨hp,hn,rfl,rfl,rfl,fun i h=>absurd h (by simp)⟩
 have hk':kid.toNat≠0:=fun e=>hk (UInt64.toNat_inj.1 (by simpa using e))
 refine⟨?_,rfl,?_,hr0⟩
 ·rw [withOkP_iff];exact⟨hr0,by simpa [isNib]using h16,hk',rfl⟩
 ·rw [rightB_iff];refine⟨hp,hn,rfl,by simp [h16],rfl,fun i h=> ?_⟩;simp only [List.length_cons,List.length_nil]at h;have:i=0:=by omega
  subst this;exact hk'
theorem tree_one{s:St}{name kid:UInt64}{pre:List UInt8}{val:UInt64}{label:UInt8}{r o:Nat}{il:List Kv}{bl:List Nat}(h:readP s name=some ⟨pre,val,[label],[kid]⟩)(ho:offOf name=o)(hl:pre.length+1≤r)(ht:TreeAt s (r-pre.length-1) kid il bl):
 TreeAt s r name ((if val≠0 then [(pre,val)]else [])++underI pre label il) (o::bl):=by
 have:=TreeAt.mk r name ⟨pre,val,[label],[kid]⟩ [⟨il,bl⟩] h (by simp only;omega) (fun _=>hl) rfl (fun i h1 h2=>by
  simp only [List.length_cons,List.length_nil]at h1;have:i=0:=by omega
  subst this;exact ht)
 rw [ho,Int.toNat_natCast]at this;simpa [ownItems,kidItems,kidBlocks]using this
theorem leaf_ok:∀(f:Nat){j:Jb}{B:List Nat}(_:Grown L s0 j B)(r:Nat)(l:List UInt8)(value:UInt64),l.length<f→l.length≤r→l.all isNib=true→value≠0→LeafPost L s0 j B r l value (leafP f j l value)
 | 0,_,_,_,_,_,_,h,_,_,_=>absurd h (by omega)
 | f+1,j,B,g,r,l,value,hf,hlr,hn,hv=>by
   rw [leafP];by_cases h15:l.length≤15
   ·rw [if_pos h15];have hr:rightB ⟨l,value,[],[]⟩=true:=by
     rw [rightB_iff];exact⟨h15,hn,rfl,rfl,rfl,fun i h=>absurd h (by simp)⟩
    rcases build_ok g hr with e| ⟨j',name,o,e,ho,g',hoff,hn0,hrd,hk⟩
    ·rw [e];exact .inl ⟨rfl,B,g⟩
    ·rw [e];exact .inr ⟨rfl,[o],[o],g',hk,hn0,tree_leaf hrd hoff hlr hv,List.Perm.refl _⟩
   ·rw [if_neg h15];have ih:=leaf_ok f g (r-15-1) (l.drop 16) value (by rw [List.length_drop];omega) (by rw [List.length_drop];omega) (all_drop _ _ _ hn) hv;generalize leafP f j (l.drop 16) value=res at ih;obtain⟨j1,kid,e⟩:=res;simp only;unfold aboveP;rcases ih with⟨e1,B',g1⟩| ⟨e1,C,bl,g1,hk1,hn1,ht1,hp1⟩
    ·simp only at e1 g1;subst e1;rw [if_pos (by decide)];exact .inl ⟨rfl,B',g1⟩
    ·simp only at e1 g1 hk1 hn1 ht1;subst e1;rw [if_neg (by simp)];have hlt:(l.take 15).length=15:=by simp;omega
     have hg15:l.getD 15 0=l[15]'(by omega):=by rw [List.getD_eq_getElem?_getD,List.getElem?_eq_getElem (by omega)];rfl
     have hlab:isNib (l.getD 15 0)=true:=by rw [hg15];exact List.all_eq_true.1 hn _ (List.getElem_mem _)
     obtain⟨w1,w2,w3,_⟩:=withOne_ok (val:=0) (Nat.le_of_eq hlt) (all_take _ _ 15 hn) hlab hn1;rw [if_pos w1,w2];rcases build_ok g1 w3 with e| ⟨j',name,o,e,ho,g',hoff,hn0,hrd,hk⟩
     ·rw [e];exact .inl ⟨rfl,_,g1⟩
     ·rw [e];refine .inr ⟨rfl,C++[o],o::bl,by rw [←List.append_assoc];exact g',hk1.trans hk,hn0,?_,?_⟩
      ·have:=tree_one (r:=r) hrd hoff (by rw [hlt];omega) (by rw [hlt];exact ht1.keep g1.ok g'.ok hk (fun _ _=>trivial));have e2:l.take 15++l.getD 15 0::l.drop 16=l:=by
        rw [hg15]
        conv=>rhs;rw [←List.take_append_drop 15 l]
        rw [List.drop_eq_getElem_cons (by omega:15<l.length)]
       rw [if_neg (by simp),List.nil_append]at this;unfold underI at this;simp only [List.map_cons,List.map_nil,e2]at this;exact this
      ·refine List.Perm.trans ?_ (List.perm_append_singleton o C).symm;exact List.Perm.cons _ hp1
end
theorem kidItems_app(pre:List UInt8):∀(a b:List UInt8)(c d:List Part),a.length=c.length→kidItems pre (a++b) (c++d)=kidItems pre a c++kidItems pre b d
 | [],b,[],d,_=>by simp [kidItems]
 | [],b,_::_,d,h=>by simp at h
 | _::_,b,[],d,h=>by simp at h
 | x::a,b,p::c,d,h=>by
   simp only [List.cons_append,kidItems,kidItems_app pre a b c d (by simpa using h),List.append_assoc]
theorem kidItems_split(pre:List UInt8)(ls:List UInt8)(ps:List Part)(i:Nat)(h:ls.length=ps.length):kidItems pre ls ps=kidItems pre (ls.take i) (ps.take i)++kidItems pre (ls.drop i) (ps.drop i):=by
 rw [←kidItems_app _ _ _ _ _ (by simp [h]),List.take_append_drop,List.take_append_drop]
theorem kidBlocks_app(a b:List Part):kidBlocks (a++b)=kidBlocks a++kidBlocks b:=by simp [kidBlocks]
theorem kidBlocks_split(ps:List Part)(i:Nat):kidBlocks ps=kidBlocks (ps.take i)++kidBlocks (ps.drop i):=by rw [←kidBlocks_app,List.take_append_drop]
theorem getD8{l:List UInt8}{k:Nat}(h:k<l.length):l.getD k 0=l[k]:=by rw [List.getD_eq_getElem?_getD,List.getElem?_eq_getElem h];rfl
theorem cut8{l:List UInt8}{k:Nat}(h:k<l.length):l.take k++l.getD k 0::l.drop (k+1)=l:=by
 rw [getD8 h,←List.drop_eq_getElem_cons h,List.take_append_drop]
theorem u64_ne{x:UInt64}(h:x≠0):x.toNat≠0:=fun e=>h (UInt64.toNat_inj.1 (by simpa using e))
section
variable{L:Nat}{s0:St}{j:Jb}{B:List Nat}
theorem above_ok (g : Grown L s0 j B) {x : Nd} (hx : rightB x = true) {parts : List Part} (hlen : parts.length = x.kids.length) {label : UInt8} (h16 : isNib label = true) (hno : hasLb x.labels label = false) {kid : UInt64} (hk0 : kid ≠ 0) {r : Nat} (hr : x.pre.length + 1 ≤ r)
    (hk : ∀ i (h1 : i < x.kids.length) (h2 : i < parts.length), TreeAt j.s (r - x.pre.length - 1) x.kids[i] parts[i].items parts[i].blocks) {il : List Kv} {bl : List Nat} (ht : TreeAt j.s (r - x.pre.length - 1) kid il bl) :
    aboveP j x label kid 0 = (j, 0, 6) ∨ ∃ j' name o, aboveP j x label kid 0 = (j', name, 0) ∧ Grown L s0 j' (B ++ [o]) ∧ KeepT j.s j'.s (fun _ => True) ∧ name ≠ 0 ∧ ∃ il' bl', TreeAt j'.s r name il' bl' ∧ bl'.Perm (o :: bl ++ kidBlocks parts) ∧
      ∀ kv, kv ∈ il' ↔ kv ∈ ownItems x ++ kidItems x.pre x.labels parts ∨ kv ∈ underI x.pre label il := by
  have hok : withOkP x label kid = true := (withOkP_iff _ _ _).2 ⟨hx, by simpa [isNib] using h16, u64_ne hk0, hno⟩
  have F := withP_facts x label kid hok
  have hxr := (rightB_iff x).1 hx
  unfold aboveP
  rw [if_neg (by simp), if_pos hok]
  rcases build_ok g F.right with e | ⟨j', name, o, e, ho, g', hoff, hn0, hrd, hkp⟩
  · exact .inl e
  · right
    obtain ⟨p, hp⟩ : ∃ p, p = placeSP x.labels label := ⟨_, rfl⟩
    have hpl : p ≤ x.labels.length := hp ▸ F.place
    have hll : x.labels.length = x.kids.length := hxr.2.2.1
    have T := TreeAt.mk r name (withP x label kid) (insP parts p ⟨il, bl⟩) hrd (by show x.pre.length ≤ r; omega) (fun _ => hr) (by rw [insP_length _ _ _ (by omega), F.lenk, hlen]) (fun i h1 h2 => by
      have e1 := insP_get x.kids p kid (by omega) i
      have e2 := insP_get parts p ⟨il, bl⟩ (by omega) i
      have e1' : (insP x.kids p kid)[i]? = some (withP x label kid).kids[i] := (congrArg (fun l => l[i]?) (show insP x.kids p kid = (withP x label kid).kids by rw [hp]; rfl)).trans (List.getElem?_eq_getElem h1)
      rw [List.getElem?_eq_getElem h2] at e2
      rw [e1] at e1'
      show TreeAt j'.s (r - x.pre.length - 1) (withP x label kid).kids[i] _ _
      have hlen2 : (withP x label kid).kids.length = x.kids.length + 1 := F.lenk
      by_cases h3 : i < p
      · rw [if_pos h3] at e1' e2
        rw [List.getElem?_eq_getElem (by omega)] at e1' e2
        injection e1' with e1'
        injection e2 with e2
        rw [e2]
        have := (hk i (by omega) (by omega)).keep g.ok g'.ok hkp (fun _ _ => trivial)
        simp only [e1'] at this ⊢
        first | exact this | (rw [← e1']; exact this)
      · rw [if_neg h3] at e1' e2
        by_cases h4 : i = p
        · rw [if_pos h4] at e1' e2
          injection e1' with e1'
          injection e2 with e2
          rw [e2]
          have := ht.keep g.ok g'.ok hkp (fun _ _ => trivial)
          first | exact e1' ▸ this | (rw [← e1']; exact this)
        · rw [if_neg h4] at e1' e2
          rw [List.getElem?_eq_getElem (by omega)] at e1' e2
          injection e1' with e1'
          injection e2 with e2
          rw [e2]
          have := (hk (i - 1) (by omega) (by omega)).keep g.ok g'.ok hkp (fun _ _ => trivial)
          first | exact e1' ▸ this | (rw [← e1']; exact this))
    rw [hoff, Int.toNat_natCast] at T
    refine ⟨j', name, o, e, g', hkp, hn0, _, _, T, ?_, fun kv => ?_⟩
    · refine List.Perm.cons _ ?_
      unfold insP
      rw [kidBlocks_app, kidBlocks_split parts p]
      show (kidBlocks (parts.take p) ++ (bl ++ kidBlocks (parts.drop p))).Perm (bl ++ (kidBlocks (parts.take p) ++ kidBlocks (parts.drop p)))
      rw [← List.append_assoc, ← List.append_assoc]
      exact List.Perm.append_right _ List.perm_append_comm
    · have e1 : kidItems x.pre (insP x.labels p label) (insP parts p ⟨il, bl⟩) = kidItems x.pre (x.labels.take p) (parts.take p) ++ (underI x.pre label il ++ kidItems x.pre (x.labels.drop p) (parts.drop p)) := by
        unfold insP
        rw [kidItems_app _ _ _ _ _ (by simp; omega)]
        rfl
      rw [show (withP x label kid).labels = insP x.labels p label by rw [hp]; rfl, show (withP x label kid).pre = x.pre from rfl, show ownItems (withP x label kid) = ownItems x from rfl, e1, kidItems_split x.pre x.labels parts p (by omega)]
      simp only [List.mem_append]
      grind
theorem under_low(x:Nd)(k:Nat)(hk:k<x.pre.length):∀(parts:List Part),underI (x.pre.take k) (x.pre.getD k 0) (ownItems {x with pre:=x.pre.drop (k+1)}++kidItems (x.pre.drop (k+1)) x.labels parts)=ownItems x++kidItems x.pre x.labels parts:=by
 have e:∀t,x.pre.take k++x.pre.getD k 0::(x.pre.drop (k+1)++t)=x.pre++t:=fun t=>by
  rw [←List.cons_append,←List.append_assoc,cut8 hk]
 have e0:x.pre.take k++x.pre.getD k 0::x.pre.drop (k+1)=x.pre:=by simpa using e []
 have h:∀(ls:List UInt8)(ps:List Part),underI (x.pre.take k) (x.pre.getD k 0) (kidItems (x.pre.drop (k+1)) ls ps)=kidItems x.pre ls ps:=by
  intro ls;induction ls with
  | nil=>intro ps;simp [kidItems,underI]
  | cons lb ls ih=>
    intro ps;cases ps with
    | nil=>simp [kidItems,underI]
    | cons p ps=>
      have:=ih ps;unfold underI at this⊢;simp only [kidItems,List.map_append,this];congr 1;unfold underI;rw [List.map_map];refine List.map_congr_left fun kv _=> ?_
      simp only [Function.comp_apply];rw [e]
 intro parts;have h2:=h x.labels parts;unfold underI at h2⊢;rw [List.map_append,h2];congr 1;unfold ownItems
 dsimp only
 split
 ·simp only [List.map_cons,List.map_nil];rw [e0]
 ·rfl
def GrowPost(L:Nat)(s0:St)(r:Nat)(x:Nd)(parts:List Part)(rest:List UInt8)(value:UInt64)(res:Jb×UInt64×Int):Prop:=
 (res.2.2=6∧∃B',Grown L s0 res.1 B')∨
 (res.2.2=0∧∃C il' bl',Grown L s0 res.1 C∧res.2.1≠0∧TreeAt res.1.s r res.2.1 il' bl'∧bl'.Perm (C++kidBlocks parts)∧∀kv,kv∈il'↔kv∈ownItems x++kidItems x.pre x.labels parts∨kv=(rest,value))
theorem grow_ok(ok:PoolOk L s0)(nh:∀o d,¬HeldAt s0 o d){x:Nd}(hx:rightB x=true){parts:List Part}(hlen:parts.length=x.kids.length){r:Nat}(hpre:x.pre.length≤r)(hkid:x.kids≠[]→x.pre.length+1≤r)
 (hk:∀i(h1:i<x.kids.length)(h2:i<parts.length),TreeAt s0 (r-x.pre.length-1) x.kids[i] parts[i].items parts[i].blocks){rest:List UInt8}{value:UInt64}(hrl:rest.length≤r)(hrn:rest.all isNib=true)(hv:value≠0)(hne:x.pre≠rest)
 (hno:common x.pre rest=x.pre.length→hasLb x.labels (rest.getD (common x.pre rest) 0)=false):GrowPost L s0 r x parts rest value (growP ⟨s0,[]⟩ x rest value):=by
 have g0:=Grown.start ok nh;have hxr:=(rightB_iff x).1 hx;have hcl:=common_le_left x.pre rest;have hcr:=common_le_right x.pre rest;have hct:=common_take x.pre rest;unfold growP;by_cases hc:common x.pre rest=x.pre.length
 ·rw [if_pos hc];have hlt:x.pre.length<rest.length:=by
   rcases Nat.lt_or_ge x.pre.length rest.length with h| h
   ·exact h
   ·exfalso;refine hne ?_;rw [hc,List.take_length,List.take_of_length_le (by omega)]at hct;exact hct
  have hno':=hno hc;rw [hc]at hno' hct⊢;rw [List.take_length]at hct;have hcut:=cut8 hlt;rw [←hct]at hcut;have hlab:isNib (rest.getD x.pre.length 0)=true:=by rw [getD8 hlt];exact List.all_eq_true.1 hrn _ (List.getElem_mem _)
  have hL:=leaf_ok (rest.length+1) g0 (r-x.pre.length-1) (rest.drop (x.pre.length+1)) value (by rw [List.length_drop];omega) (by rw [List.length_drop];omega) (all_drop _ _ _ hrn) hv;generalize leafP (rest.length+1) ⟨s0,[]⟩ (rest.drop (x.pre.length+1)) value=res at hL;obtain⟨j1,kid,e⟩:=res;rcases hL with⟨e1,B',g1⟩| ⟨e1,C,bl,g1,hk1,hn1,ht1,hp1⟩
  ·simp only at e1 g1;subst e1;simp only;unfold aboveP;rw [if_pos (by decide)];exact .inl ⟨rfl,B',g1⟩
  ·simp only at e1 g1 hk1 hn1 ht1;subst e1;simp only;rw [List.nil_append]at g1;rcases above_ok (r:=r) g1 hx hlen hlab hno' hn1 (by omega) (fun i h1 h2=>(hk i h1 h2).keep ok g1.ok hk1 (fun _ _=>trivial)) ht1 with e| ⟨j',name,o,e,g',hkp,hn0,il',bl',T,hp,hm⟩
   ·rw [e];exact .inl ⟨rfl,_,g1⟩
   ·rw [e];refine .inr ⟨rfl,C++[o],il',bl',g',hn0,T,hp.trans ?_,fun kv=> ?_⟩
    ·rw [List.append_assoc];refine List.Perm.trans (l₂:=o::(C++kidBlocks parts)) (List.Perm.cons _ (List.Perm.append_right _ hp1)) ?_;exact List.perm_middle.symm
    ·rw [hm kv];unfold underI;simp only [List.map_cons,List.map_nil,List.mem_singleton,hcut]
 ·rw [if_neg hc];have hlt:common x.pre rest<x.pre.length:=by omega
  obtain⟨k,hkk⟩:∃k,k=common x.pre rest:=⟨_,rfl⟩;have hst:=common_stop x.pre rest;rw [←hkk]at hlt hct hcr hst⊢;have hlab:isNib (x.pre.getD k 0)=true:=by rw [getD8 hlt];exact List.all_eq_true.1 hxr.2.1 _ (List.getElem_mem _)
  have htl:(x.pre.take k).length=k:=by simp;omega
  have hlow:rightB {x with pre:=x.pre.drop (k+1)}=true:=by
   rw [rightB_iff];exact⟨by simp only [List.length_drop];omega,all_drop _ _ _ hxr.2.1,hxr.2.2.1,hxr.2.2.2.1,hxr.2.2.2.2.1,hxr.2.2.2.2.2⟩
  rcases build_ok g0 hlow with e| ⟨j1,kid,o1,e,ho1,g1,hoff1,hn1,hrd1,hkp1⟩
  ·rw [e];simp only;split
   ·unfold aboveP;rw [if_pos (by decide)];exact .inl ⟨rfl,_,g0⟩
   ·rw [if_pos (by decide)];exact .inl ⟨rfl,_,g0⟩
  ·rw [e];simp only;rw [List.nil_append]at g1;have T1:=TreeAt.mk (r-k-1) kid {x with pre:=x.pre.drop (k+1)} parts hrd1 (by simp only [List.length_drop];omega) (fun h=>by have:=hkid h;simp only [List.length_drop];omega) hlen (fun i h1 h2=>by
    have:=(hk i h1 h2).keep ok g1.ok hkp1 (fun _ _=>trivial);have e2:r-k-1- ({x with pre:=x.pre.drop (k+1)}:Nd).pre.length-1=r-x.pre.length-1:=by simp only [List.length_drop];omega
    rw [e2];exact this)
   rw [hoff1,Int.toNat_natCast]at T1;by_cases hr:k=rest.length
   ·rw [if_pos hr];have hrest:rest=x.pre.take k:=by rw [hct,hr,List.take_length]
    obtain⟨w1,w2,w3,_⟩:=withOne_ok (pre:=x.pre.take k) (val:=value) (by rw [htl];omega) (all_take _ _ _ hxr.2.1) hlab hn1;unfold aboveP;rw [if_neg (by simp),if_pos w1,w2];rcases build_ok g1 w3 with e| ⟨j2,name,o2,e,ho2,g2,hoff2,hn2,hrd2,hkp2⟩
    ·rw [e];exact .inl ⟨rfl,_,g1⟩
    ·rw [e];have T2:=tree_one (r:=r) hrd2 hoff2 (by rw [htl];omega) (by rw [htl];exact T1.keep g1.ok g2.ok hkp2 (fun _ _=>trivial));rw [under_low x k hlt parts,if_pos hv]at T2;refine .inr ⟨rfl,[o1]++[o2],_,_,g2,hn2,T2,?_,fun kv=> ?_⟩
     ·exact(List.Perm.swap o1 o2 _)
     ·rw [hrest];simp only [List.cons_append,List.nil_append,List.mem_cons];exact Or.comm
   ·rw [if_neg hr,if_neg (by simp)];have hltr:k<rest.length:=by omega
    obtain⟨w1,w2,w3,_⟩:=withOne_ok (pre:=x.pre.take k) (val:=0) (by rw [htl];omega) (all_take _ _ _ hxr.2.1) hlab hn1;rw [if_pos w1,w2];have hlab2:isNib (rest.getD k 0)=true:=by rw [getD8 hltr];exact List.all_eq_true.1 hrn _ (List.getElem_mem _)
    have hL:=leaf_ok (rest.length+1) g1 (r-k-1) (rest.drop (k+1)) value (by rw [List.length_drop];omega) (by rw [List.length_drop];omega) (all_drop _ _ _ hrn) hv;generalize leafP (rest.length+1) j1 (rest.drop (k+1)) value=res at hL;obtain⟨j2,kid2,e⟩:=res;rcases hL with⟨e1,B',g2⟩| ⟨e1,C,bl,g2,hk2,hn2,ht2,hp2⟩
    ·simp only at e1 g2;subst e1;simp only;unfold aboveP;rw [if_pos (by decide)];exact .inl ⟨rfl,B',g2⟩
    ·simp only at e1 g2 hk2 hn2 ht2;subst e1;simp only;have hdiff:hasLb [x.pre.getD k 0] (rest.getD k 0)=false:=by
      have h1:=hst hlt hltr;unfold hasLb;simp only [List.any_cons,List.any_nil,Bool.or_false,beq_eq_false_iff_ne];rw [getD8 hlt,getD8 hltr];exact fun e=>h1 (UInt8.toNat_inj.1 e)
     rcases above_ok (r:=r) (parts:=[⟨_,_⟩]) g2 w3 rfl hlab2 hdiff hn2 (by rw [htl];omega) (fun i h1 h2=>by
      simp only [List.length_cons,List.length_nil]at h1;have:i=0:=by omega
      subst this;rw [show(⟨x.pre.take k,0,[x.pre.getD k 0],[kid]⟩:Nd).pre.length=k from htl];exact T1.keep g1.ok g2.ok hk2 (fun _ _=>trivial)) (by rw [show(⟨x.pre.take k,0,[x.pre.getD k 0],[kid]⟩:Nd).pre.length=k from htl];exact ht2)with e| ⟨j',name,o,e,g',hkp,hn0,il',bl',T,hp,hm⟩
     ·rw [e];exact .inl ⟨rfl,_,g2⟩
     ·rw [e];refine .inr ⟨rfl,[o1]++C++[o],il',bl',g',hn0,T,hp.trans ?_,fun kv=> ?_⟩
      ·have e3:kidBlocks [⟨ownItems {x with pre:=x.pre.drop (k+1)}++kidItems (x.pre.drop (k+1)) x.labels parts,o1::kidBlocks parts⟩]=o1::kidBlocks parts:=by simp [kidBlocks]
       rw [e3];have p1:(o::bl++o1::kidBlocks parts).Perm (o::C++o1::kidBlocks parts):=List.Perm.append_right _ (List.Perm.cons _ hp2);refine p1.trans ?_;have e4:[o1]++C++[o]++kidBlocks parts=o1::(C++o::kidBlocks parts):=by simp
       rw [e4];refine(List.perm_middle (a:=o1) (l₁:=o::C) (l₂:=kidBlocks parts)).trans (List.Perm.cons _ ?_);exact(List.perm_middle (a:=o) (l₁:=C) (l₂:=kidBlocks parts)).symm
      ·rw [hm kv];have e3:ownItems (⟨x.pre.take k,0,[x.pre.getD k 0],[kid]⟩:Nd)++kidItems (x.pre.take k) [x.pre.getD k 0] [⟨ownItems {x with pre:=x.pre.drop (k+1)}++kidItems (x.pre.drop (k+1)) x.labels parts,o1::kidBlocks parts⟩]=ownItems x++kidItems x.pre x.labels parts:=by
        rw [←under_low x k hlt parts];simp [ownItems,kidItems]
       rw [e3];have e4:x.pre.take k++rest.getD k 0::rest.drop (k+1)=rest:=by rw [hct];exact cut8 hltr
       unfold underI;simp only [List.map_cons,List.map_nil,List.mem_singleton,e4]
end
theorem wordsAt_get(ws:Nat→UInt64)(j n t:Nat)(h:t<(wordsAt ws j n).length):(wordsAt ws j n)[t]=ws (j+t):=by
 simp [wordsAt]
theorem putKids_set:∀(ls:List UInt8)(ks:List UInt64)(row:List UInt64)(j:Nat)(k:UInt64),(∀b∈ls,4+b.toNat≠j)→putKids (row.set j k) ls ks=(putKids row ls ks).set j k
 | [],ks,row,j,k,_=>by cases ks<;>simp [putKids]
 | a::ls,[],row,j,k,_=>by simp [putKids]
 | a::ls,k0::ks,row,j,k,h=>by
   rw [putKids,putKids,←List.set_comm _ _ (h a (List.mem_cons_self ..)),putKids_set ls ks _ j k (fun b hb=>h b (List.mem_cons_of_mem _ hb))]
theorem putKids_setKid:∀(ls:List UInt8)(ks:List UInt64)(row:List UInt64)(i:Nat)(k:UInt64)(h1:i<ls.length),ls.length=ks.length→risingB ls=true→putKids row ls (ks.set i k)=(putKids row ls ks).set (4+ls[i].toNat) k
 | a::ls,k0::ks,row,0,k,_,_,hr=>by
   obtain⟨_,h2⟩:=rising_tail hr;rw [List.set_cons_zero,putKids,putKids];have h3:∀b∈ls,4+b.toNat≠4+a.toNat:=fun b hb=>by have:=h2 b hb;omega
   rw [putKids_set ls ks row _ k h3,putKids_set ls ks row _ k0 h3];simp only [List.getElem_cons_zero,List.set_set]
 | a::ls,k0::ks,row,i+1,k,h1,hl,hr=>by
   obtain⟨h3,_⟩:=rising_tail hr;rw [List.set_cons_succ,putKids,putKids,putKids_setKid ls ks _ i k (by simpa using h1) (by simpa using hl) h3];rfl
def ndKid(x:Nd)(i:Nat)(k:UInt64):Nd:={x with kids:=x.kids.set i k}
theorem ndKid_right{x:Nd}(h:rightB x=true)(i:Nat){k:UInt64}(hk:k≠0):rightB (ndKid x i k)=true:=by
 obtain⟨h1,h2,h3,h4,h5,h6⟩:=(rightB_iff x).1 h;rw [rightB_iff];have aux:∀j(hj:j<(x.kids.set i k).length),(x.kids.set i k)[j].toNat≠0:=fun j hj=>by
  rw [List.getElem_set];split
  ·exact u64_ne hk
  ·exact h6 j (by rwa [List.length_set]at hj)
 exact⟨h1,h2,by show _=(x.kids.set i k).length;rw [List.length_set];exact h3,h4,h5,aux⟩
theorem ndKid_class(x:Nd)(i:Nat)(k:UInt64):classN (ndKid x i k)=classN x:=by
 unfold classN ndKid;rw [List.length_set]
theorem ndKid_enc{x:Nd}(h:rightB x=true){i:Nat}(hi:i<x.kids.length)(k:UInt64):encW (ndKid x i k)=(encW x).set (posN x i) k:=by
 obtain⟨h1,h2,h3,h4,h5,h6⟩:=(rightB_iff x).1 h;unfold encW posN;rw [show(ndKid x i k).kids=x.kids.set i k from rfl,List.length_set];by_cases h4':x.kids.length≤4
 ·rw [if_pos h4',if_pos h4',if_pos h4'];unfold encS;rw [show(ndKid x i k).kids=x.kids.set i k from rfl,show(ndKid x i k).pre=x.pre from rfl,show(ndKid x i k).val=x.val from rfl,show(ndKid x i k).labels=x.labels from rfl,List.length_set];rw [List.set_append_left _ _ (by simp;omega),List.set_append_right _ _ (by simp)];simp
 ·rw [if_neg h4',if_neg h4',if_neg h4'];unfold encB;rw [show headB (ndKid x i k)=headB x by unfold headB;rw [show(ndKid x i k).kids=x.kids.set i k from rfl,List.length_set];rfl,show(ndKid x i k).labels=x.labels from rfl,show(ndKid x i k).kids=x.kids.set i k from rfl];rw [putKids_setKid x.labels x.kids (headB x) i k (by omega) h3 h5,getD8 (by omega)]
theorem kidP_some{x:Nd}(h:rightB x=true){lab:UInt8}{kid:UInt64}{number:Nat}(hk:kidP x lab=some (kid,number)):∃(i:Nat)(h1:i<x.kids.length)(h2:i<x.labels.length),x.labels[i]=lab∧kid=x.kids[i]∧number=posN x i:=by
 have hl:=((rightB_iff x).1 h).2.2.1;unfold kidP at hk;split at hk
 ·rename_i i hf;rw [if_pos h]at hk;simp only [Option.some.injEq,Prod.mk.injEq]at hk;unfold findLb at hf;obtain⟨hi,hp,_⟩:=List.findIdx?_eq_some_iff_getElem.1 hf;have he:x.labels[i]=lab:=UInt8.toNat_inj.1 (by simpa using hp);refine⟨i,by omega,hi,he,?_,?_⟩
  ·rw [←hk.1,List.getD_eq_getElem?_getD,List.getElem?_eq_getElem (by omega)];rfl
  ·rw [←hk.2];unfold posN;rw [getD8 hi,he]
 ·cases hk
theorem kidP_none{x:Nd}(h:rightB x=true){lab:UInt8}(hk:kidP x lab=none):hasLb x.labels lab=false:=by
 unfold kidP at hk;split at hk
 ·rw [if_pos h]at hk;cases hk
 ·rename_i hf;unfold findLb at hf;rw [List.findIdx?_eq_none_iff]at hf;unfold hasLb;rw [List.any_eq_false];intro y hy;have:=hf y hy;simpa using this
theorem kidItems_at(pre:List UInt8)(ls:List UInt8)(ps:List Part)(i:Nat)(h1:i<ls.length)(h2:i<ps.length)(h:ls.length=ps.length):
 kidItems pre ls ps=kidItems pre (ls.take i) (ps.take i)++(underI pre ls[i] ps[i].items++kidItems pre (ls.drop (i+1)) (ps.drop (i+1))):=by
 rw [kidItems_split pre ls ps i h,List.drop_eq_getElem_cons h1,List.drop_eq_getElem_cons h2];rfl
theorem kidBlocks_at(ps:List Part)(i:Nat)(h2:i<ps.length):kidBlocks ps=kidBlocks (ps.take i)++(ps[i].blocks++kidBlocks (ps.drop (i+1))):=by
 rw [kidBlocks_split ps i,List.drop_eq_getElem_cons h2];rfl
def mapQ(q:List UInt8)(l:List Kv):List Kv:=l.map fun kv=>(q++kv.1,kv.2)
theorem mapQ_nil(l:List Kv):mapQ [] l=l:=by simp [mapQ]
theorem underI_mapQ(pre:List UInt8)(lb:UInt8)(q:List UInt8)(A l B:List Kv):underI pre lb (A++mapQ q l++B)=underI pre lb A++mapQ (pre++lb::q) l++underI pre lb B:=by
 unfold underI mapQ;simp [List.map_map,Function.comp_def,List.append_assoc]
structure Spot0(L:Nat)(s:St)(r:Nat)(name:UInt64)(items:List Kv)(blocks:List Nat)(word:Int)(rest:List UInt8)(last:Pl)(rest' q:List UInt8)(rl:Nat)(nl:UInt64)(parts:List Part)(A B:List Kv)(b1 b2:List Nat):Prop where
 rd:readP s nl=some last.nd
 off:offOf nl=last.off
 pre:last.nd.pre.length≤rl
 kid:last.nd.kids≠[]→last.nd.pre.length+1≤rl
 len:parts.length=last.nd.kids.length
 sub:∀i(h1:i<last.nd.kids.length)(h2:i<parts.length),TreeAt s (rl-last.nd.pre.length-1) last.nd.kids[i] parts[i].items parts[i].blocks
 cut:rest=q++rest'
 lens:q.length+rl=r
 its:items=A++mapQ q (ownItems last.nd++kidItems last.nd.pre last.nd.labels parts)++B
 bls:blocks=b1++(last.off.toNat::kidBlocks parts)++b2
 lo:∀kv∈A,∀t,Op.bytesLess kv.1 (q++t)=true
 hi:∀kv∈B,∀t,Op.bytesLess (q++t) kv.1=true
 wd:(q=[]∧last.word=word∧nl=name)∨(q≠[]∧∃p c j,p∈b1∧TakenAt s p c∧inBlk p c j∧last.word=((8*j:Nat):Int)∧s.ws j=nl)
 swap:∀(s':St)(name':UInt64)(il':List Kv)(bl':List Nat),PoolOk L s'→name'≠0→TreeAt s' rl name' il' bl'→(∀o c,(o∈b1∨o∈b2)→TakenAt s o c→TakenAt s' o c∧∀j,inBlk o c j→s'.ws j=if((8*j:Nat):Int)=last.word then name' else s.ws j)→
  TreeAt s' r (if q=[]then name' else name) (A++mapQ q il'++B) (b1++bl'++b2)
structure Spot(L:Nat)(s:St)(r:Nat)(name:UInt64)(items:List Kv)(blocks:List Nat)(word:Int)(rest:List UInt8)(last:Pl)(rest' q:List UInt8)(rl:Nat)(nl:UInt64)(parts:List Part)(A B:List Kv)(b1 b2:List Nat):Prop extends Spot0 L s r name items blocks word rest last rest' q rl nl parts A B b1 b2 where
 stop:common last.nd.pre rest'<last.nd.pre.length∨common last.nd.pre rest'=rest'.length∨kidP last.nd (rest'.getD (common last.nd.pre rest') 0)=none
section
variable{L:Nat}{s:St}
theorem inBlk_ne(ok:PoolOk L s){o p c d j k:Nat}(h:TakenAt s o c)(k1:TakenAt s p d)(hne:o≠p)(hj:inBlk o c j)(hk:inBlk p d k):j≠k:=fun e=>by
 subst e;exact apart_words (taken_apart ok h k1 hne) (h.bounds ok).2.2 (k1.bounds ok).2.2 hj hk
theorem spot_lift(ok:PoolOk L s){r:Nat}{name:UInt64}{nd:Nd}{parts:List Part}{o:Nat}{rest rest2:List UInt8}{word:Int}{i:Nat}(ho:offOf name=o)(htk:TakenAt s o (classN nd))(hr:rightB nd=true)(hw:wordsAt s.ws (o/8) (8*linesN (classN nd))=encW nd)
 (hpre:nd.pre.length≤r)(hlen:parts.length=nd.kids.length)
 (hk:∀i(h1:i<nd.kids.length)(h2:i<parts.length),TreeAt s (r-nd.pre.length-1) nd.kids[i] parts[i].items parts[i].blocks)(hnd:((offOf name).toNat::kidBlocks parts).Nodup)(hi1:i<nd.kids.length)(hi2:i<nd.labels.length)(hi3:i<parts.length)(hkr:nd.pre.length+1≤r)(hcut:nd.pre++nd.labels[i]::rest2=rest)
 {last:Pl}{rest' q0:List UInt8}{rl:Nat}{nl:UInt64}{parts0:List Part}{A0 B0:List Kv}{b10 b20:List Nat}
 (S:Spot0 L s (r-nd.pre.length-1) nd.kids[i] parts[i].items parts[i].blocks (offOf name+8*(posN nd i:Nat)) rest2 last rest' q0 rl nl parts0 A0 B0 b10 b20):
 Spot0 L s r name (ownItems nd++kidItems nd.pre nd.labels parts) ((offOf name).toNat::kidBlocks parts) word rest last rest' (nd.pre++nd.labels[i]::q0) rl nl parts0 (ownItems nd++kidItems nd.pre (nd.labels.take i) (parts.take i)++underI nd.pre nd.labels[i] A0) (underI nd.pre nd.labels[i] B0++kidItems nd.pre (nd.labels.drop (i+1)) (parts.drop (i+1))) (o::kidBlocks (parts.take i)++b10) (b20++kidBlocks (parts.drop (i+1))):=by
 have hr':=(rightB_iff nd).1 hr;obtain⟨hnd1,hnd2⟩:=List.nodup_cons.1 hnd;have hkb:=kidBlocks_at parts i hi3;have hnd2':=hnd2;rw [hkb]at hnd2';obtain⟨n1,n2,n3⟩:=List.nodup_append.1 hnd2';obtain⟨n4,n5,n6⟩:=List.nodup_append.1 n2;rw [ho]at hnd1;rw [Int.toNat_natCast]at hnd1;obtain⟨pf1,pf2,_⟩:=posN_facts nd hr i hi1;have hpos:(encW nd)[posN nd i]? =some nd.kids[i]:=enc_pos nd hr i hi1;have hbo:=htk.bounds ok;have hlw:=encW_lines' nd;have hpw:inBlk o (classN nd) (o/8+posN nd i):=⟨by omega,by omega⟩;have hwp:s.ws (o/8+posN nd i)=nd.kids[i]:=by
  rw [←hw]at hpos;unfold wordsAt at hpos;rw [List.getElem?_map,List.getElem?_range (by omega)]at hpos;simpa using hpos
 have hword:∃p c j,(p=o∨p∈b10)∧TakenAt s p c∧inBlk p c j∧last.word=((8*j:Nat):Int)∧s.ws j=nl:=by
  rcases S.wd with⟨e1,e2,e3⟩| ⟨_,p,c,j,h1,h2,h3,h4,h5⟩
  ·refine⟨o,_,_,.inl rfl,htk,hpw,?_,by rw [hwp,e3]⟩;rw [e2,ho];omega
  ·exact⟨p,c,j,.inr h1,h2,h3,h4,h5⟩
 have hb10:∀p∈b10,p∈parts[i].blocks:=fun p hp=>by rw [S.bls];simp [hp]
 have hb20:∀p∈b20,p∈parts[i].blocks:=fun p hp=>by rw [S.bls];simp [hp]
 have hlabr:∀j(h:j<nd.labels.length),j<i→nd.labels[j].toNat<nd.labels[i].toNat:=fun j h hji=>rising_lt' _ hr'.2.2.2.2.1 j i hji hi2
 have hlabr2:∀j(h:j<nd.labels.length),i<j→nd.labels[i].toNat<nd.labels[j].toNat:=fun j h hji=>rising_lt' _ hr'.2.2.2.2.1 i j hji h
 refine⟨S.rd,S.off,S.pre,S.kid,S.len,S.sub,?_,?_,?_,?_,?_,?_,?_,?_⟩
 ·rw [List.append_assoc,List.cons_append,←S.cut];exact hcut.symm
 ·have:=S.lens;simp only [List.length_append,List.length_cons];omega
 ·rw [kidItems_at nd.pre nd.labels parts i hi2 hi3 (by omega),S.its,underI_mapQ];simp only [List.append_assoc]
 ·rw [ho,Int.toNat_natCast,hkb,S.bls];simp only [List.append_assoc,List.cons_append]
 ·intro kv hkv t;rw [List.append_assoc,List.cons_append];rcases List.mem_append.1 hkv with h| h
  ·rcases List.mem_append.1 h with h| h
   ·obtain⟨rfl,_⟩:=ownItems_mem h;exact bless_pre _ _ _
   ·obtain⟨j,j1,j2,kv',_,rfl⟩:=kidItems_mem h;simp only [List.length_take]at j1;rw [List.getElem_take,bless_app];exact bless_head (hlabr j (by omega) (by omega)) _ _
  ·obtain⟨kv',h',rfl⟩:=List.mem_map.1 h;have:=S.lo kv' h' t;show Op.bytesLess (nd.pre++nd.labels[i]::kv'.1) _=true;rw [bless_app];simp [Op.bytesLess,this]
 ·intro kv hkv t;rw [List.append_assoc,List.cons_append];rcases List.mem_append.1 hkv with h| h
  ·obtain⟨kv',h',rfl⟩:=List.mem_map.1 h;have:=S.hi kv' h' t;show Op.bytesLess _ (nd.pre++nd.labels[i]::kv'.1)=true;rw [bless_app];simp [Op.bytesLess,this]
  ·obtain⟨j,j1,j2,kv',_,rfl⟩:=kidItems_mem h;simp only [List.length_drop]at j1;rw [List.getElem_drop,bless_app];exact bless_head (hlabr2 _ (by omega) (by omega)) _ _
 ·right;refine⟨by simp,?_⟩;obtain⟨p,c,j,h1,h2⟩:=hword;refine⟨p,c,j,?_,h2⟩;rcases h1 with rfl| h1
  ·simp
  ·simp [h1]
 ·intro s' name' il' bl' ok' hn' T' hkeep;obtain⟨pw,cw,jw,hpw1,hpw2,hpw3,hpw4,hpw5⟩:=hword;have hne_word:∀p c j,p≠pw→TakenAt s p c→inBlk p c j→¬((8*j:Nat):Int)=last.word:=fun p c j hp ht hj e=>by
   have:=inBlk_ne ok ht hpw2 hp hj hpw3;rw [hpw4]at e;omega
  have T0:=S.swap s' name' il' bl' ok' hn' T' (fun p c hp ht=>hkeep p c (by
   rcases hp with hp| hp
   ·left;simp [hp]
   ·right;simp [hp]) ht)
  obtain⟨kid',hkid'⟩:∃k,k=(if q0=[]then name' else nd.kids[i]):=⟨_,rfl⟩;rw [←hkid']at T0;have hk0':kid'≠0:=by
   rw [hkid'];split
   ·exact hn'
   ·exact fun e=>hr'.2.2.2.2.2 i hi1 (by rw [e];rfl)
  obtain⟨t1,t2⟩:=hkeep o _ (by left;simp) htk;have hread:readP s' name=some (ndKid nd i kid'):=by
   refine read_of ok' ho (by rw [ndKid_class];exact t1) (ndKid_right hr i hk0') ?_;rw [ndKid_class,ndKid_enc hr hi1 kid'];refine List.ext_getElem (by simp [wordsAt,hlw]) fun t g1 g2=> ?_
   have htl:t<8*linesN (classN nd):=by simpa [wordsAt]using g1
   have hold:s.ws (o/8+t)=(encW nd)[t]'(by omega):=by
    have:(wordsAt s.ws (o/8) (8*linesN (classN nd)))[t]? =(encW nd)[t]? :=by rw [hw]
    unfold wordsAt at this;rw [List.getElem?_map,List.getElem?_range htl,List.getElem?_eq_getElem (by omega)]at this;simpa using this
   have hib:inBlk o (classN nd) (o/8+t):=⟨by omega,by omega⟩;rw [wordsAt_get,t2 _ hib,List.getElem_set];rcases S.wd with⟨e1,e2,e3⟩| ⟨e1,p,c,j,p1,p2,p3,p4,p5⟩
   ·have hkn:kid'=name':=by rw [hkid',if_pos e1]
    by_cases e:t=posN nd i
    ·rw [if_pos (by rw [e2,ho];omega),if_pos e.symm,hkn]
    ·rw [if_neg (by rw [e2,ho];omega),if_neg (fun h=>e h.symm)];exact hold
   ·have hkn:kid'=nd.kids[i]:=by rw [hkid',if_neg e1]
    have hpo:p≠o:=fun e=>hnd1 (by rw [←e,hkb];simp [hb10 p p1])
    have:¬((8*(o/8+t):Nat):Int)=last.word:=fun e=>by
     have:=inBlk_ne ok htk p2 (fun e=>hpo e.symm) hib p3;rw [p4]at e;omega
    rw [if_neg this];by_cases e:posN nd i=t
    ·subst e;rw [if_pos rfl,hkn,hwp]
    ·rw [if_neg e];exact hold
  have T2:=TreeAt.mk (s:=s') r name (ndKid nd i kid') (parts.set i ⟨A0++mapQ q0 il'++B0,b10++bl'++b20⟩) hread hpre (fun _=>hkr) (by show _=(nd.kids.set i kid').length;rw [List.length_set,List.length_set];exact hlen) (fun t g1 g2=>by
   have g1':t<nd.kids.length:=by have:t<(nd.kids.set i kid').length:=g1;rwa [List.length_set]at this
   have g2':t<parts.length:=by rwa [List.length_set]at g2
   by_cases e:i=t
   ·subst e;have e1:(ndKid nd i kid').kids[i]=kid':=by show(nd.kids.set i kid')[i]'(by rw [List.length_set];exact hi1)=kid';rw [List.getElem_set_self]
    have e2:(parts.set i ⟨A0++mapQ q0 il'++B0,b10++bl'++b20⟩)[i]=⟨A0++mapQ q0 il'++B0,b10++bl'++b20⟩:=by rw [List.getElem_set_self]
    rw [e1,e2];exact T0
   ·have e1:(ndKid nd i kid').kids[t]=nd.kids[t]:=by show(nd.kids.set i kid')[t]'(by rw [List.length_set];exact g1')=nd.kids[t];rw [List.getElem_set_ne e]
    have e2:(parts.set i ⟨A0++mapQ q0 il'++B0,b10++bl'++b20⟩)[t]=parts[t]:=by rw [List.getElem_set_ne e]
    rw [e1,e2];refine(hk t g1' g2').keep ok ok' (B:=fun p=>p∈parts[t].blocks) (fun p c hp ht=> ?_) (fun _ h=>h);have hpin:p∈kidBlocks (parts.take i)∨p∈kidBlocks (parts.drop (i+1)):=by
     unfold kidBlocks;rcases Nat.lt_or_gt_of_ne e with h| h
     ·right;exact List.mem_flatten.2 ⟨_,List.mem_map.2 ⟨parts[t],List.mem_drop_iff_getElem.2 ⟨t- (i+1),by omega,by simp only [show i+1+(t- (i+1))=t by omega]⟩,rfl⟩,hp⟩
     ·left;exact List.mem_flatten.2 ⟨_,List.mem_map.2 ⟨parts[t],List.mem_take_iff_getElem.2 ⟨t,by omega,rfl⟩,rfl⟩,hp⟩
    obtain⟨u1,u2⟩:=hkeep p c (by
     rcases hpin with h| h
     ·left;simp [h]
     ·right;simp [h]) ht
    refine⟨u1,fun j hj=> ?_⟩;rw [u2 j hj,if_neg];refine hne_word p c j (fun e'=> ?_) ht hj;subst e';rcases hpw1 with h| h
    ·subst h;refine hnd1 ?_;rw [hkb];rcases hpin with h| h<;>simp [h]
    ·have h':=hb10 _ h;rcases hpin with h2| h2
     ·exact n3 _ h2 _ (by simp [h']) rfl
     ·exact n6 _ h' _ h2 rfl)
  rw [if_neg (by simp)];have hl2:i<(parts.set i (⟨A0++mapQ q0 il'++B0,b10++bl'++b20⟩:Part)).length:=by rw [List.length_set];exact hi3
  rw [ho,Int.toNat_natCast,show(ndKid nd i kid').pre=nd.pre from rfl,show(ndKid nd i kid').labels=nd.labels from rfl,show ownItems (ndKid nd i kid')=ownItems nd from rfl,
   kidItems_at nd.pre nd.labels _ i hi2 hl2 (by rw [List.length_set];omega),kidBlocks_at _ i hl2]at T2
  simp only [List.getElem_set_self,List.take_set_of_le (Nat.le_refl i),List.drop_set_of_lt (Nat.lt_succ_self i)]at T2;rw [underI_mapQ]at T2;simpa only [List.append_assoc,List.cons_append]using T2
theorem spot_here{r:Nat}{name:UInt64}{nd:Nd}{parts:List Part}{rest:List UInt8}{label:UInt8}{word:Int}(hrd:readP s name=some nd)(hpre:nd.pre.length≤r)(hkid:nd.kids≠[]→nd.pre.length+1≤r)(hlen:parts.length=nd.kids.length)
 (hk:∀i(h1:i<nd.kids.length)(h2:i<parts.length),TreeAt s (r-nd.pre.length-1) nd.kids[i] parts[i].items parts[i].blocks):
 Spot0 L s r name (ownItems nd++kidItems nd.pre nd.labels parts) ((offOf name).toNat::kidBlocks parts) word rest ⟨nd,offOf name,label,word⟩ rest [] r name parts [] [] [] []:=
 ⟨hrd,rfl,hpre,hkid,hlen,hk,rfl,by simp,by simp [mapQ_nil],by simp,(fun _ h=>by cases h),(fun _ h=>by cases h),.inl ⟨rfl,rfl,rfl⟩,fun s' name' il' bl' _ _ T _=>by simpa [mapQ_nil]using T⟩
theorem path_down{nd:Nd}{rest:List UInt8}{kid:UInt64}{number:Nat}(hr:rightB nd=true)(h1:¬(common nd.pre rest<nd.pre.length∨common nd.pre rest=rest.length))(hkp:kidP nd (rest.getD (common nd.pre rest) 0)=some (kid,number)):
 common nd.pre rest=nd.pre.length∧nd.pre.length<rest.length∧∃(i:Nat)(hi1:i<nd.kids.length)(hi2:i<nd.labels.length),kid=nd.kids[i]∧number=posN nd i∧nd.labels[i]=rest.getD nd.pre.length 0∧nd.pre++nd.labels[i]::rest.drop (nd.pre.length+1)=rest:=by
 obtain⟨i,hi1,hi2,hlab,rfl,rfl⟩:=kidP_some hr hkp;have hc:common nd.pre rest=nd.pre.length:=by have:=common_le_left nd.pre rest;omega
 have hlt:nd.pre.length<rest.length:=by have:=common_le_right nd.pre rest;omega
 have hct:=common_take nd.pre rest;rw [hc]at hct hlab;rw [List.take_length]at hct;have hcut:=cut8 hlt;rw [←hct,←hlab]at hcut;exact⟨hc,hlt,i,hi1,hi2,rfl,rfl,hlab,hcut⟩
theorem path_spot(ok:PoolOk L s):∀(f r:Nat)(name:UInt64)(items:List Kv)(blocks:List Nat)(rest:List UInt8)(label:UInt8)(word:Int)(way:List Pl),TreeAt s r name items blocks→blocks.Nodup→rest.length<f→rest.length≤r→name≠0→
 ∃last rest' q rl nl parts A B b1 b2 way0,pathGo s f name rest label word way=some (way++way0++[last],rest')∧Spot L s r name items blocks word rest last rest' q rl nl parts A B b1 b2
 | 0,_,_,_,_,_,_,_,_,_,_,h,_,_=>absurd h (by omega)
 | f+1,r,name,items,blocks,rest,label,word,way,ht,hnd,hf,hrl,hn0=>by
   cases ht with
   | mk _ _ nd parts hrd hpre hkid hlen hk=>
     obtain⟨o,ho,htk,hr,hw⟩:=read_some ok hrd;rw [pathGo,if_neg hn0,hrd]
     dsimp only
     by_cases h1:common nd.pre rest<nd.pre.length∨common nd.pre rest=rest.length
     ·rw [if_pos h1];exact⟨⟨nd,offOf name,label,word⟩,_,_,_,_,_,_,_,_,_,[],by simp,⟨spot_here hrd hpre hkid hlen hk,h1.imp id .inl⟩⟩
     ·rw [if_neg h1];cases hkp:kidP nd (rest.getD (common nd.pre rest) 0)with
      | none=>exact⟨⟨nd,offOf name,label,word⟩,_,_,_,_,_,_,_,_,_,[],by simp,⟨spot_here hrd hpre hkid hlen hk,.inr (.inr hkp)⟩⟩
      | some kn=>
        obtain⟨kid,number⟩:=kn;obtain⟨hc,hlt,i,hi1,hi2,rfl,rfl,hlab,hcut⟩:=path_down hr h1 hkp;have hi3:i<parts.length:=by omega
        have hkr:=hkid (fun e=>by rw [e]at hi1;simp at hi1);have hnd2:=(List.nodup_cons.1 hnd).2;rw [kidBlocks_at parts i hi3]at hnd2;have n4:=(List.nodup_append.1 (List.nodup_append.1 hnd2).2.1).1;obtain⟨last,rest',q0,rl,nl,parts0,A0,B0,b10,b20,way0,hp,S⟩:=path_spot ok f (r-nd.pre.length-1) nd.kids[i] parts[i].items parts[i].blocks (rest.drop (nd.pre.length+1)) (rest.getD (common nd.pre rest) 0) (offOf name+8*(posN nd i:Nat)) (way++[⟨nd,offOf name,label,word⟩]) (hk i hi1 hi3) n4 (by rw [List.length_drop];omega) (by rw [List.length_drop];omega) (fun e=>((rightB_iff nd).1 hr).2.2.2.2.2 i hi1 (by rw [e];rfl));simp only;rw [hc]at hp⊢;exact⟨last,rest',_,rl,nl,parts0,_,_,_,_,⟨nd,offOf name,label,word⟩::way0,by rw [hp];simp,⟨spot_lift ok ho htk hr hw hpre hlen hk hnd hi1 hi2 hi3 hkr hcut S.toSpot0,S.stop⟩⟩
end
structure IxX(X:Nat→Prop)(L:Nat)(s:St)(items:List Kv):Prop where
 ok:PoolOk L s
 nh:∀o d,¬HeldAt s o d
 tree:(s.ws 9=0∧items=[]∧∀o,(∃d,TakenAt s o d)↔X o)∨(∃blocks,s.ws 9≠0∧TreeAt s 32 (s.ws 9) items blocks∧blocks.Nodup∧(∀o∈blocks,¬X o)∧∀o,(∃d,TakenAt s o d)↔o∈blocks∨X o)
 even:∀kv∈items,keyOk kv.1=true
abbrev IxOk:=IxX (fun _=>False)
structure KeepX(X:Nat→Prop)(s s':St):Prop where
 sh:s'.sh=s.sh
 low:∀j,j<16→j≠9→s'.ws j=s.ws j
 keep:KeepT s s' X
theorem KeepX.refl(X:Nat→Prop)(s:St):KeepX X s s:=⟨rfl,fun _ _ _=>rfl,KeepT.refl _ _⟩
section
variable{X:Nat→Prop}{L:Nat}{s:St}
theorem held_same{s s':St}(h1:s'.hd=s.hd)(h2:s'.sh=s.sh)(o d:Nat):HeldAt s' o d↔HeldAt s o d:=by
 unfold HeldAt hdN;rw [h1,h2]
theorem drops_ok:∀(l:List Nat){s:St}(_:PoolOk L s),l.Nodup→(∀o∈l,∃d,TakenAt s o d)→
 ∃s2,dropsP s (l.map Int.ofNat)=s2∧PoolOk L s2∧s2.sh=s.sh∧s2.hd=s.hd∧(∀j,(j<16∨16+s.sh.slabs≤j)→s2.ws j=s.ws j)∧∀o d,TakenAt s2 o d↔TakenAt s o d∧o∉l
 | [],s,ok,_,_=>⟨s,rfl,ok,rfl,rfl,fun _ _=>rfl,fun o d=>by simp⟩
 | o::l,s,ok,hn,ht=>by
   obtain⟨hn1,hn2⟩:=List.nodup_cons.1 hn;obtain⟨d,hd⟩:=ht o (List.mem_cons_self ..);obtain⟨s1,e1,ok1,sh1,hd1,ws1,tk1⟩:=drop_ok ok hd;obtain⟨s2,e2,ok2,sh2,hd2,ws2,tk2⟩:=drops_ok l ok1 hn2 (fun p hp=>by
    obtain⟨d',hd'⟩:=ht p (List.mem_cons_of_mem _ hp);exact⟨d',(tk1 p d').2 ⟨hd',fun e=>hn1 (e▸hp)⟩⟩)
   refine⟨s2,?_,ok2,sh2.trans sh1,hd2.trans hd1,fun j hj=>(ws2 j (by rw [sh1];exact hj)).trans (ws1 j hj),fun p c=> ?_⟩
   ·rw [←e2];unfold dropsP;rw [List.map_cons,List.foldl_cons];show List.foldl _ (dropP s (Int.ofNat o)).1 _=_;rw [show(Int.ofNat o)=(o:Int)from rfl,e1]
   ·rw [tk2,tk1,List.mem_cons,not_or];exact⟨fun h=>⟨h.1.1,h.1.2,h.2⟩,fun h=>⟨⟨h.1,h.2.1⟩,h.2.2⟩⟩
theorem drops_eq:∀(l:List Nat){s:St}(_:PoolOk L s),l.Nodup→(∀o∈l,∃d,TakenAt s o d)→dropsE s (l.map Int.ofNat) 0=(dropsP s (l.map Int.ofNat),0)
 | [],s,_,_,_=>rfl
 | o::l,s,ok,hn,ht=>by
   obtain⟨hn1,hn2⟩:=List.nodup_cons.1 hn;obtain⟨d,hd⟩:=ht o (List.mem_cons_self ..);obtain⟨s1,e1,ok1,sh1,hd1,ws1,tk1⟩:=drop_ok ok hd;have ih:=drops_eq l ok1 hn2 (fun p hp=>by
    obtain⟨d',hd'⟩:=ht p (List.mem_cons_of_mem _ hp);exact⟨d',(tk1 p d').2 ⟨hd',fun e=>hn1 (e▸hp)⟩⟩)
   unfold dropsP at ih⊢;rw [List.map_cons,List.foldl_cons,dropsE,show(Int.ofNat o)=(o:Int)from rfl,e1];simpa using ih
theorem undo_ok{s0:St}{j:Jb}{B:List Nat}(_:PoolOk L s0)(g:Grown L s0 j B):∃s2,dropsP j.s j.made=s2∧PoolOk L s2∧(∀o d,¬HeldAt s2 o d)∧(∀o,(∃d,TakenAt s2 o d)↔∃d,TakenAt s0 o d)∧KeepT s0 s2 (fun _=>True)∧(∀i,i<16→s2.ws i=s0.ws i)∧s2.sh=s0.sh:=by
 obtain⟨s2,e2,ok2,sh2,hd2,ws2,tk2⟩:=drops_ok B g.ok g.nod (fun o ho=>(g.tk o).2 (.inr ho));refine⟨s2,by rw [g.made];exact e2,ok2,fun o d h=>g.nh o d ((held_same hd2 sh2 o d).1 h),fun o=> ?_,fun o c _ ht=> ?_,fun i hi=>(ws2 i (.inl hi)).trans (g.low i hi),sh2.trans g.sh⟩
 ·constructor
  ·rintro⟨d,h⟩;obtain⟨h1,h2⟩:=(tk2 o d).1 h;exact((g.tk o).1 ⟨d,h1⟩).resolve_right h2
  ·rintro⟨d,h⟩;obtain⟨h1,_⟩:=g.keep o d trivial h;exact⟨d,(tk2 o d).2 ⟨h1,fun hB=>g.new o hB d h⟩⟩
 ·obtain⟨h1,h2⟩:=g.keep o c trivial ht;refine⟨(tk2 o c).2 ⟨h1,fun hB=>g.new o hB c ht⟩,fun j hj=> ?_⟩;rw [ws2 j (.inr ?_),h2 j hj];have:=g.ok.table_words (h1.bounds g.ok).1 hj;exact this
theorem IxX.same{s':St}{items:List Kv}(h:IxX X L s items)(ok':PoolOk L s')(nh':∀o d,¬HeldAt s' o d)(htk:∀o,(∃d,TakenAt s' o d)↔∃d,TakenAt s o d)(hk:KeepT s s' (fun _=>True))(h9:s'.ws 9=s.ws 9):IxX X L s' items:=by
 refine⟨ok',nh',?_,h.even⟩;rcases h.tree with⟨h1,h2,h3⟩| ⟨bl,h1,h2,h3,hX,h4⟩
 ·exact .inl ⟨by rw [h9,h1],h2,fun o=>(htk o).trans (h3 o)⟩
 ·exact .inr ⟨bl,by rw [h9];exact h1,by rw [h9];exact h2.keep h.ok ok' hk (fun _ _=>trivial),h3,hX,fun o=>(htk o).trans (h4 o)⟩
theorem bless_ne{a b:List UInt8}(h:Op.bytesLess a b=true):a≠b:=fun e=>by rw [e,bless_irrefl]at h;cases h
theorem mapQ_mem{q:List UInt8}{l:List Kv}{kv:Kv}:kv∈mapQ q l↔∃k,(k,kv.2)∈l∧kv.1=q++k:=by
 unfold mapQ;rw [List.mem_map];constructor
 ·rintro⟨kv',h,rfl⟩;exact⟨kv'.1,h,rfl⟩
 ·rintro⟨k,h,e⟩;exact⟨(k,kv.2),h,by cases kv;simp only at e;subst e;rfl⟩
def PutIs(items items':List Kv)(k:List UInt8)(v:UInt64):Prop:=∀kv,kv∈items'↔kv=(k,v)∨(kv∈items∧kv.1≠k)
def PutOk(X:Nat→Prop)(L:Nat)(s:St)(items:List Kv)(k:List UInt8)(v:UInt64)(r:St×Int):Prop:=
 KeepX X s r.1∧((r.2=6∧IxX X L r.1 items∧∀kv∈items,kv.1≠k)∨(r.2=0∧∃items',IxX X L r.1 items'∧PutIs items items' k v))
theorem keyOk_nib(k:List UInt8):keyOk (nibs k)=true:=keyOk_nibs k
theorem put_empty{items:List Kv}(h:IxX X L s items)(h0:s.ws 9=0)(key:List UInt8)(hk:key.length≤16)(value:UInt64)(hv:value≠0):PutOk X L s items (nibs key) value (putK s key value):=by
 have hi:items=[]∧∀o,(∃d,TakenAt s o d)↔X o:=by
  rcases h.tree with⟨_,h2,h3⟩| ⟨_,h1,_⟩
  ·exact⟨h2,h3⟩
  ·exact absurd h0 h1
 have hlen:=nibs_length key;have hp:pathP s key=some ([],nibs key):=by
  unfold pathP;rw [h0,pathGo,if_pos rfl]
 have hL:=leaf_ok ((nibs key).length+1) (Grown.start h.ok h.nh) 32 (nibs key) value (by omega) (by omega) (nibs_nib key) hv;unfold putK;rw [if_neg (by omega),if_neg hv,hp];simp only [standsP,List.getLast?_nil];generalize leafP ((nibs key).length+1) ⟨s,[]⟩ (nibs key) value=res at hL;obtain⟨j,name,e⟩:=res;rcases hL with⟨e1,B',g⟩| ⟨e1,C,bl,g,hkp,hn,T,hp⟩
 ·simp only at e1 g;subst e1;simp only [finishP];rw [if_pos (by decide)];obtain⟨s2,e2,ok2,nh2,tk2,kp2,lo2,sh2⟩:=undo_ok h.ok g;rw [e2];refine⟨⟨sh2,fun j hj _=>lo2 j hj,fun o c _ ht=>kp2 o c trivial ht⟩,?_⟩;exact .inl ⟨rfl,h.same ok2 nh2 tk2 kp2 (lo2 9 (by decide)),fun kv hkv=>by rw [hi.1]at hkv;cases hkv⟩
 ·simp only at e1 g hkp hn T;subst e1;rw [List.nil_append]at g;simp only [finishP,dropsE];rw [if_neg (by simp)];obtain⟨s',hs'⟩:∃s',s'=({j.s with ws:=put1 j.s.ws ((72:Int).toNat/8) name}:St):=⟨_,rfl⟩;rw [←hs'];have hw:∀i,s'.ws i=if i=9 then name else j.s.ws i:=fun i=>by rw [hs'];rfl
  have ok':PoolOk L s':=hs'▸g.ok.words (fun i hi=>by
   show put1 j.s.ws 9 name (16+i)=_;unfold put1;rw [if_neg (by omega)])
  have htk:∀o d,TakenAt s' o d↔TakenAt j.s o d:=fun o d=>by rw [hs'];exact Iff.rfl
  have hk':KeepT j.s s' (fun _=>True):=fun o c _ ht=>⟨(htk o c).2 ht,fun i hi=>by
   rw [hw,if_neg];have:=g.ok.table_words (ht.bounds g.ok).1 hi;omega⟩
  have hCX:∀o∈bl,¬X o:=fun o ho hx=>by
   obtain⟨d,hd⟩:=(hi.2 o).2 hx;exact g.new o (hp.mem_iff.1 ho) d hd
  refine⟨⟨by rw [hs'];exact g.sh,fun j hj hj9=>by rw [hw,if_neg hj9,g.low j hj],fun o c _ ht=> ?_⟩,?_⟩
  ·obtain⟨u1,u2⟩:=g.keep o c trivial ht;obtain⟨u3,u4⟩:=hk' o c trivial u1;exact⟨u3,fun j hj=>(u4 j hj).trans (u2 j hj)⟩
  right;refine⟨rfl,[(nibs key,value)],?_,fun kv=>by rw [hi.1];simp⟩;refine⟨ok',fun o d hh=>g.nh o d (by rw [hs']at hh;exact hh),.inr ⟨bl,by rw [hw,if_pos rfl];exact hn,by rw [hw,if_pos rfl];exact T.keep g.ok ok' hk' (fun _ _=>trivial),hp.nodup_iff.2 g.nod,hCX,fun o=> ?_⟩,fun kv hkv=>by rw [List.mem_singleton]at hkv;subst hkv;exact keyOk_nib key⟩;rw [show(∃d,TakenAt s' o d)↔∃d,TakenAt j.s o d from exists_congr (htk o),g.tk o,hp.mem_iff,hi.2 o];exact or_comm
end
end Go.Proofs.YtdjfbnoolfpcnaaGreatDoor
