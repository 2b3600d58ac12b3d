import Derived.BigRegion
import Derived.Test.YtbkpiojejmhfcaaGreatDoorG01
import Derived.Test.YtbkpiojejmhfcaaGreatDoorG08
import Derived.Test.YtbkpiojejmhfcaaGreatDoorG15
namespace Go.Proofs.YtbkpiojejmhfcaaGreatDoor
open Go.RowKit
def noteT(t:Tb)(s:List Wr)(x:UInt64):Tb:={t with noted:=noteS t.noted s x}
section
variable{w w':World}{F F':Nat→Prop}{tt bk:Nat}{b:Bk}{t:Tb}
theorem TbAt.note(h:TbAt w F tt bk b t){l:List (ByteArray×UInt64)}(k:Touch (fun k=>k=b.nt) w w')(hm:StrMap w' b.nt l):TbAt w' F tt bk b {t with noted:=l}:=
 ⟨h.box.touch k h.ne2,h.book.touch k h.ne3,hm,h.wt,fun i hi=>(h.sets i hi).moved ⟨k.mono (fun _ e=> .inr (.inr e)),fun _ hk=> .inl hk⟩,h.pile,h.fb,h.fn,h.ft,h.ne1,h.ne2,h.ne3⟩
set_option maxHeartbeats 4000000 in
set_option maxRecDepth 100000 in
theorem tabNote(h:TbAt w F tt bk b t){v:Value}{s:List Wr}(x:UInt64)(hsr:SetR w (fun k=>k=b.nt) v s)(hs:s.length≤100000):
 Calls Tryz.prog 68 #[.pointer (some ⟨tt,0,none⟩),v,.int .u64 (x.toNat:Int)] w fun e w'=>e= .returned (.tuple #[])∧TbAt w' F tt bk b (noteT t s x)∧Touch (fun k=>k=b.nt) w w':=by
 have HN:=Lib.hid (tabNone h)
 obtain⟨A0,c0,rfl⟩:=hsr.slice
 have HS:=Lib.hid hsr
 have HH:=Lib.hid h
 clear h hsr
 go_enter Tryz.func68,Tryz.ntmps68
 go_wp2_with fail
 refine HN.out.mono ?_
 rintro e w1⟨rfl,rfl⟩
 go_wp2_with fail
 go_loopw [12](fun i wr=>∃k l,k≤s.length∧i= .int .i64 (k:Nat)∧noteS t.noted s x=noteS l (s.drop k) x∧TbAt wr F tt bk b {t with noted:=l}∧Touch (fun k=>k=b.nt) w wr)(fun i _=>s.length- (intOf i).toNat)
 case atStart=>exact⟨0,t.noted,Nat.zero_le _,rfl,rfl,HH.out,Touch.refl _ _⟩
 case round=>
  obtain⟨k,l,hk,rfl,hno,hT,ht⟩:=hrel
  have HNo:=Lib.hid hno
  have HTr:=Lib.hid hT
  have HTt:=Lib.hid ht
  clear hno hT ht HN
  have hSr:SetR wr (fun k=>k=b.nt) (.slice A0 s.length c0) s:=HS.out.moved ⟨HTt.out,fun _ hk=> .inl hk⟩
  by_cases hlt:k<s.length
  ·obtain⟨b2,off,c2,hv2,hc2,hbw,hnG,q0,q1,q2⟩:=hSr.at k hlt
   simp only [Value.slice.injEq]at hv2
   obtain⟨rfl, -,rfl⟩:=hv2
   have hx1:(k:Int)<(s.length:Int):=by omega
   have hx2:decide ((k:Int)<(s.length:Int))=true:=decide_eq_true hx1
   have hx5:decide (k<s.length)=true:=decide_eq_true hlt
   have hwk:IntKind.i64.wrap ((k:Int)+1)=(k:Int)+1:=IntWalk.i64_in _ (by omega)
   have HE:Hid (noteS t.noted s x=noteS (noteK l s[k].key (maxU (notedOf l s[k].key) x)) (s.drop (k+1)) x):=Lib.hid (by
    rw [HNo.out,List.drop_eq_getElem_cons hlt];rfl)
   generalize s[k]=y at*
   obtain⟨ky,tx,g⟩:=y
   simp only at q0 q1 q2 HE
   obtain⟨W2,hW2⟩:∃W2,W2=wr.alloc (.cells #[.string ky,.string tx,.bool g] 94):=⟨_,rfl⟩
   have hbt:Below wr.heap.size wr W2:=hW2▸(Below.refl _ _).alloc (Nat.le_refl _) _
   have B2:Blk W2 wr.heap.size 94 [.string ky,.string tx,.bool g]:=hW2▸heap_alloc_new _ _
   have hT2:TbAt W2 F tt bk b {t with noted:=l}:=HTr.out.below hbt
   have d:=hT2.box.cell 0
   have z0:=B2.cell 0
   simp only [List.getElem?_cons_zero]at d z0
   have dn:=hT2.book.cellNt
   have kl:=lookStr (P:=Tryz.prog) Tryz.underlying206 Tryz.underlying9 zero64 W2.drew b.nt l ky hT2.map
   have ku:=updStr (P:=Tryz.prog) Tryz.underlying206 Tryz.underlying9 W2.drew b.nt l ky (maxU (notedOf l ky) x) hT2.map
   rw [show((maxU (notedOf l ky) x).toNat:Int)=if(notedOf l ky).toNat<x.toNat then(x.toNat:Int)else((notedOf l ky).toNat:Int)by unfold maxU;split<;>rfl]at ku
   have HW2:=Lib.hid hW2
   have HBt:=Lib.hid hbt
   have HT2:=Lib.hid hT2
   clear hW2 B2 hT2 HNo hSr
   go_wp2_with fail
   rw [←HW2.out]
   go_region
   all_goals(
    have hm3:StrMap (putMap W2.drew b.nt (strE 0 (noteK l ky (maxU (notedOf l ky) x))).toArray (noteK l ky (maxU (notedOf l ky) x)).length) b.nt (noteK l ky (maxU (notedOf l ky) x)):=putMap_at _ _ _ _ HT2.out.map.lt
    have ht3:Touch (fun k=>k=b.nt) W2 (putMap W2.drew b.nt (strE 0 (noteK l ky (maxU (notedOf l ky) x))).toArray (noteK l ky (maxU (notedOf l ky) x)).length):=(Touch.of_below ((Dr.drew W2).below _)).trans (putMap_touch _ _ _ _) (fun _ e=> .inl e)
    have hT3:=HT2.out.note ht3 hm3
    have HT3:=Lib.hid hT3
    have Ht3:=Lib.hid ((HTt.out.trans (Touch.of_below HBt.out) (fun _ e=> .inl e)).trans ht3 (fun _ e=> .inl e))
    clear hm3 ht3 hT3 d z0 dn kl ku
    go_wp2_with fail
    go_roundw)
   all_goals first
    | (case rel=>exact⟨k+1,_,by omega,by go_num,HE.out,HT3.out,Ht3.out⟩)
    | (case measure=>simp [intOf];omega)
  ·have hx2:decide ((k:Int)<(s.length:Int))=false:=decide_eq_false (by omega)
   have hx5:decide (k<s.length)=false:=decide_eq_false hlt
   have HE:Hid (noteT t s x={t with noted:=l}):=Lib.hid (by unfold noteT;rw [HNo.out,List.drop_of_length_le (by omega)];rfl)
   clear HNo hSr
   go_wp2_with fail
   go_end0
   exact⟨rfl,by rw [HE.out];exact HTr.out,HTt.out⟩
end
def chkOne(s:St)(ky tx:ByteArray):Bool:=
 match surveyP s with
 | some ([it],[m])=>decide (it.1=ky.data.toList)&&(decide (getP s ky.data.toList=(it.2,0))&&match listP s it.2 with
   | some [k]=>decide (k.rc.stamp.toNat≤1)&&(!k.rc.gone&&(decide (k.rc.text=tx)&&(decide (m≠k.off)&&decide ((allP s).length=2))))
   | _=>false)
 | _=>false
theorem chkOne_out{s:St}{ky tx:ByteArray}(h:chkOne s ky tx=true):∃v m k,surveyP s=some ([(ky.data.toList,v)],[m])∧getP s ky.data.toList=(v,0)∧listP s v=some [k]∧
 k.rc.stamp.toNat≤1∧k.rc.gone=false∧k.rc.text=tx∧m≠k.off∧(allP s).length=2:=by
 unfold chkOne at h
 split at h
 ·rename_i it m hs
  rw [Bool.and_eq_true,Bool.and_eq_true]at h
  obtain⟨h1,h2,h3⟩:=h
  split at h3
  ·rename_i k hl
   simp only [Bool.and_eq_true,decide_eq_true_eq,Bool.not_eq_true']at h1 h2 h3
   obtain⟨ik,iv⟩:=it
   simp only at h1 h2 hl
   subst h1
   exact⟨iv,m,k,hs,h2,hl,h3.1,h3.2.1,h3.2.2.1,h3.2.2.2.1,h3.2.2.2.2⟩
  ·cases h3
 ·cases h
theorem sortZ_one(a:Int):sortZ [a]=[a]:=by unfold sortZ;simp
theorem once2{a b:Int}(h:a≠b):oncePP (sortZ [a,b])=true:=by
 have hp:(sortZ [a,b]).Perm [a,b]:=List.mergeSort_perm _ _
 have hl:=hp.length_eq
 match hs:sortZ [a,b],hl with
 | [c,e],_=>
   rw [hs]at hp
   have hn:[c,e].Nodup:=hp.symm.nodup (by simp [h])
   simp only [oncePP,Bool.and_true,Bool.not_eq_true',beq_eq_false_iff_ne,ne_eq]
   intro hce
   simp [hce]at hn
def tb20(y:Wr):Tb:=beginT (noteT (endT (writeT (beginT tb0 0 0) 0 [y]) 0) [y] 1) 0 1
theorem tb20_least(y:Wr):leastW (tb20 y).wt 1=1:=by rfl
theorem need_one{k:Lk}(h1:k.rc.stamp.toNat≤1)(h2:k.rc.gone=false):needP [k] 1=1:=by
 unfold needP
 rw [needGo,if_neg (by omega),if_neg (by decide),needGo,h2]
 rfl
theorem see_one{k:Lk}(h1:k.rc.stamp.toNat≤1)(h2:k.rc.gone=false):seeP [k] 1=some k.rc.text:=by
 rw [seeP,if_pos h1,h2]
 rfl
theorem offs_one{s:St}{it:List UInt8×UInt64}{m:Int}{k:Lk}(h:listP s it.2=some [k]):offsP s [it] (sortZ [m])=some [m,k.off]:=by
 rw [sortZ_one,offsP,h]
 rfl
end Go.Proofs.YtbkpiojejmhfcaaGreatDoor
