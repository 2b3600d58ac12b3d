import Derived.Test.YtbkpiojejmhfcaaGreatDoorG17
import Derived.Test.YtbkpiojejmhfcaaGreatDoorG25
import Derived.Test.YtbkpiojejmhfcaaGreatDoorG27
namespace Go.Proofs.YtbkpiojejmhfcaaGreatDoor
open Go.RowKit
theorem own_at{w:World}{base n k c:Nat}{A:Option Addr}{e:TypeId}{xs:List Value}(h:w.ownsRow base e k (.slice A n c) n xs):∀a,A=some a→base≤a.block∧a.block<w.heap.size:=fun a ea=>by
 rcases h.2 with⟨h1,_⟩| ⟨g,cap,cur,h1,h2,h3,_⟩
 ·simp only [Value.slice.injEq]at h1;rw [h1.1]at ea;cases ea
 ·simp only [Value.slice.injEq]at h1
  rw [h1.1]at ea
  injection ea with ea
  rw [←ea]
  exact⟨h2,(Array.getElem?_eq_some_iff.1 h3).1⟩
theorem own_blk{w:World}{base n k:Nat}{v:Value}{e:TypeId}{xs:List Value}(h:w.ownsRow base e k v n xs):∀g,v.ownBlock=some g→base≤g∧g<w.heap.size:=fun g eg=>by
 rcases h.2 with⟨h1,_⟩| ⟨g',cap,cur,h1,h2,h3,_⟩
 ·rw [h1]at eg;cases eg
 ·rw [h1]at eg
  injection eg with eg
  rw [←eg]
  exact⟨h2,(Array.getElem?_eq_some_iff.1 h3).1⟩
theorem Rd.kept{w w':World}{A:Option Addr}{n:Nat}{xs:List Value}{r:Option Nat}(h:Rd w A n xs)(k:Kept w w' r)(hr:∀a,A=some a→r≠some a.block):Rd w' A n xs:=by
 refine⟨h.1,fun hn=> ?_⟩
 obtain⟨b,off,e,hb,hc⟩:=h.2 hn
 exact⟨b,off,e,Nat.lt_of_lt_of_le hb k.1,fun j hj=>(World.cell?_of_block (w:=w) (k.2 b hb (fun e2=>hr _ e e2.symm))).trans (hc j hj)⟩
theorem oncePP_ne{l:List Int}(h:oncePP l=true){i:Nat}{a b:Int}(ha:l[i]? =some a)(hb:l[i+1]? =some b):a≠b:=by
 obtain⟨h1,e1⟩:=List.getElem?_eq_some_iff.1 ha
 obtain⟨h2,e2⟩:=List.getElem?_eq_some_iff.1 hb
 have:=oncePP_at h i h2
 rwa [e1,e2]at this
theorem itV_at{w:World}{A:Option Addr}{l:List (List UInt8×UInt64)}(h:Rd w A (l.length*2) ((l.map itV).flatten))(k:Nat)(hk:k<l.length):∃b off,A=some ⟨b,off,none⟩∧b<w.heap.size∧w.cell? ⟨b,off+k*2,none⟩=some (.string ⟨l[k].1.toArray⟩)∧w.cell? ⟨b,off+k*2+1,none⟩=some (.int .u64 (l[k].2.toNat:Int)):=by
 obtain⟨b,off,e,hb,hc⟩:=h.2 (by omega)
 have key:∀i,i<2→w.cell? ⟨b,off+k*2+i,none⟩=(itV l[k])[i]? :=fun i hi=>by
  rw [Nat.add_assoc,hc (k*2+i) (by omega)]
  exact flat_get itV 2 (fun _=>rfl) l k i hk hi
 exact⟨b,off,e,hb,key 0 (by decide),key 1 (by decide)⟩
section
variable{w w':World}{x d p L:Nat}{s:St}{F:Nat→Prop}
set_option maxHeartbeats 8000000 in
set_option maxRecDepth 100000 in
theorem mendReach(h:Ix w x d p L s F){items:List (List UInt8×UInt64)}{met:List Int}(hs:surveyP s=some (items,met)){l:List Int}(ho:offsP s items (sortZ met)=some l)(hl:l.length≤100000)(hd:oncePP (sortZ l)=true):
 Calls Tryz.prog 71 #[.pointer (some ⟨d,0,none⟩),.pointer (some ⟨p,0,none⟩),.pointer (some ⟨x,0,none⟩)] w fun e w'=>∃v,e= .returned (.tuple #[v,.int .i64 0])∧w'.ownsRow w.heap.size 3 1 v l.length (ivs (sortZ l))∧Below w.heap.size w w':=by
 have hL0:=h.sys.pos.1
 have t0:(((L*64:Nat):Int)==0)=false:=by rw [beq_eq_false_iff_ne];omega
 have hsz:=h.sys.size
 generalize L*64=sz at hsz t0
 have HSz:=Lib.hid hsz
 have HN:=Lib.hid (nodes_index h)
 have HX:=Lib.hid h
 have HS:=Lib.hid hs
 have HO:=Lib.hid ho
 have HL:=Lib.hid hl
 have HD:=Lib.hid hd
 clear hsz h hs ho hl hd hL0
 go_enter Tryz.func71,Tryz.ntmps71
 go_wp2_with fail
 refine HSz.out.mono ?_
 rintro e w0⟨rfl,rfl⟩
 clear HSz
 go_wp2_with fail
 refine HN.out.mono ?_
 rintro e w1⟨hb1,hp1⟩
 rw [HS.out]at hp1
 obtain⟨v1,rfl,ho1,hm1⟩:=hp1
 obtain⟨A1,c1,rfl,hc1,hr1⟩:=own_rowk ho1
 rw [show(sortI met).map (Value.int .i64)=ivs (sortZ met)from rfl]at hr1
 have HB1:=Lib.hid hb1
 have HR1:=Lib.hid hr1
 have HAll:=Lib.hid (all_index (HX.out.below hb1))
 clear HN ho1 hb1 hr1 hc1
 go_wp2_with fail
 refine HAll.out.mono ?_
 rintro e w2⟨hb2,hp2⟩
 rw [HS.out]at hp2
 obtain⟨v2,rfl,ho2,hm2⟩:=hp2
 obtain⟨A2,c2,rfl,hc2,hr2⟩:=own_rowk ho2
 have HB2:=Lib.hid (HB1.out.trans (hb2.mono HB1.out.size))
 have HR2:=Lib.hid hr2
 have hR12:=Rd.below HR1.out hb2
 have HLm:Hid ((sortZ met).length≤100000):=Lib.hid (by have:=offsP_len HO.out;have:=HL.out;omega)
 rw [show met.length=(sortZ met).length from(sortZ_len met).symm]at hR12
 rw [show met.length=(sortZ met).length from(sortZ_len met).symm]
 have HCl:=Lib.hid (intClone (c:=c1) (sortZ met) hR12 HLm.out)
 clear HAll ho2 hb2 hr2 hc2 hR12 HR1
 go_wp2_with fail
 refine HCl.out.mono ?_
 rintro e w3⟨v3,rfl,ho3,hb3⟩
 have HB3:=Lib.hid hb3
 have HO3:=Lib.hid ho3
 clear HCl hb3 ho3
 go_wp2_with fail
 go_loopw [11,50](fun u i wr=>∃(k:Nat)(acc:List Int),k≤items.length∧i= .int .i64 (k:Nat)∧offsP s (items.take k) (sortZ met)=some acc∧acc.length≤100000∧wr.ownsRow w2.heap.size 3 1 u acc.length (ivs acc)∧Below w2.heap.size w2 wr)(fun _ i _=>items.length- (intOf i).toNat)
 case atStart=>exact⟨0,sortZ met,Nat.zero_le _,rfl,rfl,HLm.out,HO3.out,HB3.out⟩
 case round=>
  obtain⟨k,acc,hk,rfl,hac,hal,hown,hb⟩:=hrel
  have HOr:=Lib.hid hown
  have HBr:=Lib.hid hb
  have HAc:=Lib.hid hac
  clear hown hb HO3 HB3 hac
  by_cases hlt:k<items.length
  ·obtain⟨b,off,rfl,hbw,q0,q1⟩:=itV_at (Rd.below HR2.out HBr.out) k hlt
   have hx1:(k:Int)<(items.length:Int):=by omega
   have hx2:decide ((k:Int)<(items.length:Int))=true:=decide_eq_true hx1
   have hx5:decide (k<items.length)=true:=decide_eq_true hlt
   have hwk:IntKind.i64.wrap ((k:Int)+1)=(k:Int)+1:=IntWalk.i64_in _ (by omega)
   obtain⟨m,hm,hnx,hnl⟩:=offsP_next HO.out hlt HAc.out
   have HNx:=Lib.hid hnx
   have HNl:Hid ((acc++m.map (·.off)).length≤100000):=Lib.hid (by have:=HL.out;omega)
   have HM:=Lib.hid hm
   obtain⟨⟨ky,vl⟩,hit⟩:∃it,it=items[k]:=⟨_,rfl⟩
   rw [←hit]at q0 q1 HM
   simp only at q0 q1 HM
   obtain⟨w4,hw4⟩:∃w4,w4=wr.alloc (.cells #[.string ⟨ky.toArray⟩,.int .u64 (vl.toNat:Int)] 145):=⟨_,rfl⟩
   have hb4:Below wr.heap.size wr w4:=hw4▸(Below.refl _ _).alloc (Nat.le_refl _) _
   have HB4:=Lib.hid (HBr.out.trans (hb4.mono HBr.out.size))
   have HO4:=Lib.hid (own_below5 HOr.out hb4)
   have hbw4:=HB2.out.trans (HB4.out.mono HB2.out.size)
   have HLs:=Lib.hid (chainList (HX.out.below hbw4).sys vl)
   have HW4:=Lib.hid hw4
   clear hm hnx hnl hit hw4 hb4 hbw4 HOr HBr
   go_wp2_with fail
   rw [←HW4.out]
   refine HLs.out.mono ?_
   rintro e w5⟨hb5,hp5⟩
   rw [HM.out]at hp5
   obtain⟨hinv5,v5,rfl,ho5⟩:=hp5
   have hfew:=hinv5.few
   have HOb:=own_blk HO4.out
   obtain⟨A5,c5,rfl,hc5,hr5⟩:=own_lkr ho5
   have hap:∀a,A5=some a→a.block<w5.heap.size∧u11.ownBlock≠some a.block:=fun a ea=>by
    obtain⟨h1,h2⟩:=own_at ho5 a ea
    exact⟨h2,fun e=>by have:=(HOb _ e).2;omega⟩
   have HAp:=Lib.hid hap
   have HR5:=Lib.hid hr5
   have HB5:=Lib.hid (HB4.out.trans (hb5.mono HB4.out.size))
   have HO5:=Lib.hid (own_below5 HO4.out hb5)
   clear HLs ho5 hb5 hr5 hap HOb hinv5 HO4 HB4 hc5
   go_wp2_with fail
   go_loopw [11,67](fun u i wr=>∃j:Nat,j≤m.length∧i= .int .i64 (j:Nat)∧wr.ownsRow w2.heap.size 3 1 u (acc++(m.take j).map (·.off)).length (ivs (acc++(m.take j).map (·.off)))∧Below w2.heap.size w2 wr∧LkR wr A5 m∧∀a,A5=some a→a.block<wr.heap.size∧u.ownBlock≠some a.block)(fun _ i _=>m.length- (intOf i).toNat)
   case atStart=>exact⟨0,Nat.zero_le _,rfl,by simpa using HO5.out,HB5.out,HR5.out,HAp.out⟩
   case round=>
    obtain⟨j,hj,rfl,hown,hb,hrd,hap⟩:=hrel
    have HO6:=Lib.hid hown
    have HB6:=Lib.hid hb
    have HR6:=Lib.hid hrd
    have HAp6:=Lib.hid hap
    clear hown hb hrd hap HAp HO5 HB5 HR5
    by_cases hjl:j<m.length
    ·have hy1:(j:Int)<(m.length:Int):=by omega
     have hy2:decide ((j:Int)<(m.length:Int))=true:=decide_eq_true hy1
     have hy5:decide (j<m.length)=true:=decide_eq_true hjl
     have hwj:IntKind.i64.wrap ((j:Int)+1)=(j:Int)+1:=IntWalk.i64_in _ (by omega)
     obtain⟨b,off,rfl,hbw,z0,z1,z2,z3,z4⟩:=HR6.out.at j hjl
     have HTj:Hid (acc++(m.take (j+1)).map (·.off)=acc++(m.take j).map (·.off)++[m[j].off]):=Lib.hid (by
      rw [List.take_succ_eq_append_getElem hjl,List.map_append,List.append_assoc];rfl)
     have hml:(acc++(m.take j).map (·.off)).length≤100000:=by
      have:=HNl.out
      simp only [List.length_append,List.length_map,List.length_take]at this⊢;omega
     generalize m[j]=lk at*
     obtain⟨lo,ls,ln,lg,lt⟩:=lk
     simp only at z0 z1 z2 z3 z4 HTj
     generalize(acc++(m.take j).map (·.off))=Q at*
     obtain⟨w7,hw7⟩:∃w7,w7=wr.alloc (.cells #[.int .i64 lo,.int .u64 (ls.toNat:Int),.int .u64 (ln.toNat:Int),.bool lg,.string lt] 102):=⟨_,rfl⟩
     have hb7:Below wr.heap.size wr w7:=hw7▸(Below.refl _ _).alloc (Nat.le_refl _) _
     have HB7:=Lib.hid (HB6.out.trans (hb7.mono HB6.out.size))
     have HO7:=Lib.hid (own_below5 HO6.out hb7)
     have HR7:=Lib.hid (HR6.out.below hb7)
     have hne:=(HAp6.out _ rfl).2
     have hbl:=(HAp6.out _ rfl).1
     simp only at hne hbl
     have HA7:Hid (b<w7.heap.size):=Lib.hid (by have:=hb7.size;omega)
     have HNe:=Lib.hid hne
     rw [hw7]at HO7 HB7
     have HW7:=Lib.hid hw7
     clear hw7 hb7 hne hbl HO6 HB6 HR6 HAp6
     go_wp2_with(at_builtin;refine wpList_app_one rfl (.tmp 71) (.tmp 74) 69 rfl Tryz.intTyK (wr.alloc (.cells #[.int .i64 lo,.int .u64 (ls.toNat:Int),.int .u64 (ln.toNat:Int),.bool lg,.string lt] 102)) w2.heap.size u11 Q.length (ivs Q) [.int .i64 lo] rfl (by exact HO7.out) rfl _ 1 rfl (by simp) rfl (by decide) (by intro u hu;simp at hu;subst hu;rfl) (by omega) (by decide) (by exact HB7.out.size) ?_;intro g8 c8 w8 hO8 hB8 hK8 hg8)
     have HO8:=Lib.hid hO8
     have HB8:=Lib.hid (HB7.out.trans hB8)
     rw [←HW7.out]at hK8 hg8
     have HR8:=Lib.hid (Rd.kept HR7.out hK8 (fun a ea=>by injection ea with ea;rw [←ea];exact HNe.out))
     have HA8:Hid (b<w8.heap.size∧some g8≠some b):=Lib.hid (by
      refine⟨by have:=hK8.1;have:=HA7.out;omega,fun e=> ?_⟩
      injection e with e
      rcases hg8 with h| h
      ·exact HNe.out (by rw [h,e])
      ·have:=HA7.out;omega)
     clear hO8 hB8 hK8 hg8 HR7
     go_wp2_with fail
     go_roundw
     case rel=>exact⟨j+1,by omega,by go_num,by rw [HTj.out,List.length_append,ivs_app];exact HO8.out,HB8.out,HR8.out,fun a ea=>by injection ea with ea;subst ea;exact HA8.out⟩
     case measure=>simp [intOf];omega
    ·have hy2:decide ((j:Int)<(m.length:Int))=false:=decide_eq_false (by omega)
     have hy5:decide (j<m.length)=false:=decide_eq_false hjl
     have hjn:j=m.length:=by omega
     subst hjn
     have HO7:Hid (wr.ownsRow w2.heap.size 3 1 u11 (acc++m.map (·.off)).length (ivs (acc++m.map (·.off)))):=Lib.hid (by have:=HO6.out;rwa [List.take_length]at this)
     clear HO6
     go_wp2_with fail
     go_roundw
     case rel=>exact⟨k+1,_,by omega,by go_num,HNx.out,HNl.out,HO7.out,HB6.out⟩
     case measure=>simp [intOf];omega
  ·have hx2:decide ((k:Int)<(items.length:Int))=false:=decide_eq_false (by omega)
   have hx5:decide (k<items.length)=false:=decide_eq_false hlt
   have hkn:k=items.length:=by omega
   subst hkn
   have hac:=HAc.out
   rw [List.take_length,HO.out]at hac
   injection hac with hac
   subst hac
   have HSo:=Lib.hid (sort_own l HOr.out HBr.out.size (by omega))
   clear HAc
   go_wp2_with fail
   refine HSo.out.mono ?_
   rintro e w6⟨rfl,ho6,hb6⟩
   obtain⟨A6,c6,rfl,hc6,hr6⟩:=own_rowk ho6
   have HO6:=Lib.hid ho6
   have HB6:=Lib.hid (HB2.out.trans ((HBr.out.trans hb6).mono HB2.out.size))
   have HR6:=Lib.hid hr6
   have HSl:=Lib.hid (sortZ_len l)
   have HLo:=Lib.hid (own_mono2 ho6 HB2.out.size)
   clear HSo ho6 hb6 hr6 HOr HBr hc6
   go_wp2_with fail
   go_loopw [18](fun i wr=>∃j:Nat,1≤j∧(j≤l.length∨j=1)∧i= .int .i64 (j:Nat)∧Below w6.heap.size w6 wr)(fun i _=>l.length- (intOf i).toNat)
   case atStart=>exact⟨1,Nat.le_refl _,.inr rfl,rfl,Below.refl _ _⟩
   case round=>
    obtain⟨j,hj1,hj2,rfl,hbq⟩:=hrel
    have HBq:=Lib.hid hbq
    clear hbq
    by_cases hjl:j<l.length
    ·have hy1:(j:Int)<(l.length:Int):=by omega
     have hy2:decide ((j:Int)<(l.length:Int))=true:=decide_eq_true hy1
     have hy5:decide (j<l.length)=true:=decide_eq_true hjl
     have hwj:IntKind.i64.wrap ((j:Int)+1)=(j:Int)+1:=IntWalk.i64_in _ (by omega)
     have hwm:IntKind.i64.wrap ((j:Int) -1)=((j-1:Nat):Int):=by rw [IntWalk.i64_in _ (by omega)];omega
     obtain⟨b,off,rfl,hbw,hcc⟩:=(Rd.below HR6.out HBq.out).2 (by omega)
     have z1:=hcc j (by omega)
     have z2:=hcc (j-1) (by omega)
     obtain⟨za,hza⟩:∃za,(sortZ l)[j]? =some za:=⟨_,List.getElem?_eq_getElem (by rw [HSl.out];exact hjl)⟩
     obtain⟨zb,hzb⟩:∃zb,(sortZ l)[j-1]? =some zb:=⟨_,List.getElem?_eq_getElem (by rw [HSl.out];omega)⟩
     rw [ivs,List.getElem?_map,hza]at z1
     rw [ivs,List.getElem?_map,hzb]at z2
     simp only [Option.map_some]at z1 z2
     have q1:(za==zb)=false:=by
      rw [beq_eq_false_iff_ne]
      exact fun e=>oncePP_ne HD.out (i:=j-1) hzb (by rw [show j-1+1=j by omega];exact hza) e.symm
     have hm1:j-1<l.length:=by omega
     have hm2:decide (((j-1:Nat):Int)<(l.length:Int))=true:=decide_eq_true (by omega)
     have hm3:decide ((j-1:Nat)<l.length)=true:=decide_eq_true hm1
     clear hcc hza hzb
     generalize j-1=jm at*
     go_wp2_with fail
     go_quiet(fail)
     go_wp2_with fail
     go_roundw
     case rel=>exact⟨j+1,by omega,.inl (by omega),by go_num,HBq.out.trans ((Dr.one _ _).below _)⟩
     case measure=>simp [intOf];omega
    ·have hy2:decide ((j:Int)<(l.length:Int))=false:=decide_eq_false (by omega)
     have hy5:decide (j<l.length)=false:=decide_eq_false hjl
     go_wp2_with fail
     go_ret2
     exact⟨_,rfl,own_below5 HLo.out HBq.out,HB6.out.trans (HBq.out.mono HB6.out.size)⟩
end
end Go.Proofs.YtbkpiojejmhfcaaGreatDoor
