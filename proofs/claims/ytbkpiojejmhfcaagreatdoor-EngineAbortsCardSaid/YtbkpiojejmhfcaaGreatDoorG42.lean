import Derived.Deep.LoopGhost
import Derived.Test.YtbkpiojejmhfcaaGreatDoorG14
namespace Go.Proofs.YtbkpiojejmhfcaaGreatDoor
open Go.RowKit
def cmpI(a b:ByteArray):Int:=if Op.bytesLess a.toList b.toList=true then-1 else if(a.toList==b.toList)=true then 0 else 1
theorem strNaN(a:ByteArray)(w:World):Calls Tryz.prog 208 #[.string a] w fun e w'=>e= .returned (.bool false)∧w=w':=by
 go_enter Tryz.func208,Tryz.ntmps208
 go_wp2
 go_ret
 exact⟨by simp,rfl⟩
theorem cmpStr(a b:ByteArray)(w:World):Calls Tryz.prog 168 #[.string a,.string b] w fun e w'=>e= .returned (.int .i64 (cmpI a b))∧w=w':=by
 obtain⟨q1,hq1⟩:∃q,Op.bytesLess a.toList b.toList=q:=⟨_,rfl⟩
 obtain⟨q2,hq2⟩:∃q,(a.toList==b.toList)=q:=⟨_,rfl⟩
 have HV:Hid (cmpI a b=if q1=true then-1 else if q2=true then 0 else 1):=Lib.hid (by unfold cmpI;rw [hq1,hq2])
 cases q1<;>cases q2<;>(
  go_enter Tryz.func168,Tryz.ntmps168
  go_wp2_with(go_at_call 208;refine(strNaN _ _).mono ?_;rintro e w'⟨rfl,rfl⟩)
  go_ret
  exact⟨by rw [HV.out];rfl,rfl⟩)
theorem standsW(x:Wr)(key:ByteArray)(w:World):Calls Tryz.prog 108 #[wrV x,.string key] w fun e w'=>e= .returned (.int .i64 (cmpI x.key key))∧Below w.heap.size w w':=by
 obtain⟨W,hW⟩:∃W,W=w.alloc (.cells #[.string x.key,.string x.text,.bool x.gone] 94):=⟨_,rfl⟩
 have B:Blk W w.heap.size 94 [.string x.key,.string x.text,.bool x.gone]:=hW▸heap_alloc_new _ _
 have hb:Below w.heap.size w W:=hW▸(Below.refl _ _).alloc (Nat.le_refl _) _
 have HC:=Lib.hid (cmpStr x.key key W)
 have y0:=B.cell 0
 simp only [List.getElem?_cons_zero]at y0
 have HB:=Lib.hid hb
 have HW:=Lib.hid hW
 unfold wrV
 clear B hb hW
 go_enter Tryz.func108,Tryz.ntmps108
 go_wp2_with fail
 rw [←HW.out]
 go_wp2_with fail
 refine HC.out.mono ?_
 rintro e w1⟨rfl,rfl⟩
 go_wp2_with fail
 go_ret
 exact⟨rfl,HB.out⟩
theorem wr_at{w:World}{A:Option Addr}{s:List Wr}(h:Rd w A (s.length*3) (wrCs s))(k:Nat)(hk:k<s.length):∃b off,A=some ⟨b,off,none⟩∧b<w.heap.size∧w.cell? ⟨b,off+k*3,none⟩=some (.string s[k].key)∧
 w.cell? ⟨b,off+k*3+1,none⟩=some (.string s[k].text)∧w.cell? ⟨b,off+k*3+2,none⟩=some (.bool s[k].gone):=by
 obtain⟨b,off,rfl,hb,hc⟩:=h.2 (by omega)
 have hf:=flat_get wrC 3 (fun _=>rfl) s k
 refine⟨b,off,rfl,hb,?_,?_,?_⟩
 ·have:=hc (k*3) (by omega)
  rw [this];exact hf 0 hk (by decide)
 ·have:=hc (k*3+1) (by omega)
  rw [Nat.add_assoc,this];exact hf 1 hk (by decide)
 ·have:=hc (k*3+2) (by omega)
  rw [Nat.add_assoc,this];exact hf 2 hk (by decide)
set_option maxHeartbeats 4000000 in
set_option maxRecDepth 100000 in
theorem searchW{w:World}{A:Option Addr}{c:Nat}{s:List Wr}(key:ByteArray)(hbig:s.length≤100000)(hr:Rd w A (s.length*3) (wrCs s))(hu:UpS s):
 Calls Tryz.prog 159 #[.slice A s.length c,.string key,.func (.func 108) #[] #[]] w fun e w'=>e= .returned (.tuple #[.int .i64 (findS s key:Nat),.bool (inS s key)])∧Below w.heap.size w w':=by
 have HR:=Lib.hid hr
 have HU:=Lib.hid hu
 clear hr hu
 go_enter Tryz.func159,Tryz.ntmps159
 go_wp2_with fail
 go_loopg [9,10]s.length(fun g s7 s8 wr=>∃lo hi:Nat,s7= .int .i64 lo∧s8= .int .i64 hi∧lo≤hi∧hi≤s.length∧hi-lo≤g∧Below w.heap.size w wr∧(∀t(h:t<s.length),t<lo→lessWr s[t] key=true)∧(∀t(h:t<s.length),hi≤t→lessWr s[t] key=false))
 case atStart=>exact⟨0,s.length,rfl,rfl,Nat.zero_le _,Nat.le_refl _,by omega,Below.refl _ _,fun t _ ht=>absurd ht (Nat.not_lt_zero _),fun t h1 h2=>by omega⟩
 case round=>
  obtain⟨lo,hi,rfl,rfl,hlh,hin,hg,hb,h1,h2⟩:=hrel
  have I1:=Lib.hid h1
  have I2:=Lib.hid h2
  have HB:=Lib.hid hb
  have HRr:=Lib.hid (Rd.below HR.out hb)
  clear h1 h2 hb
  have HSt:=Lib.hid (fun(x:Wr)W=>standsW x key W)
  unfold wrV at HSt
  by_cases hlt:lo<hi
  ·have hml:(lo+hi)/2<s.length:=by omega
   obtain⟨b,off,rfl,hbw,q0,q1,q2⟩:=wr_at HRr.out ((lo+hi)/2) hml
   obtain⟨x,hx⟩:∃x,x=s[(lo+hi)/2]:=⟨_,rfl⟩
   rw [←hx]at q0 q1 q2
   have HX:=Lib.hid hx
   have hle:lessWr x key=Op.bytesLess x.key.toList key.toList:=rfl
   cases hl:Op.bytesLess x.key.toList key.toList with
   | true=>
     rw [hl,HX.out]at hle
     have hd:decide (cmpI x.key key<0)=true:=by rw [show cmpI x.key key= -1 by unfold cmpI;rw [if_pos hl]];decide
     have HL:=Lib.hid hle
     clear hx hle hl
     go_wp2_with(go_at_call 108;refine(HSt.out x _).mono ?_;rintro e w'⟨rfl,hb2⟩)
     go_roundg(hi- ((lo+hi)/2+1))
     case measure=>omega
     case rel=>
      exact⟨(lo+hi)/2+1,hi,by rw [show((lo:Int)+(hi:Int))/2+1=(((lo+hi)/2+1:Nat):Int)by omega],rfl,by omega,hin,Nat.le_refl _,HB.out.trans (hb2.mono HB.out.size),HU.out.left hml HL.out,I2.out⟩
   | false=>
     rw [hl,HX.out]at hle
     have hd:decide (cmpI x.key key<0)=false:=by
      unfold cmpI
      rw [hl,if_neg (by decide)]
      split<;>decide
     have HL:=Lib.hid hle
     clear hx hle hl
     go_wp2_with(go_at_call 108;refine(HSt.out x _).mono ?_;rintro e w'⟨rfl,hb2⟩)
     go_roundg((lo+hi)/2-lo)
     case measure=>omega
     case rel=>
      exact⟨lo,(lo+hi)/2,rfl,by rw [show((lo:Int)+(hi:Int))/2=(((lo+hi)/2:Nat):Int)by omega],by omega,by omega,Nat.le_refl _,HB.out.trans (hb2.mono HB.out.size),I1.out,HU.out.right hml HL.out⟩
  ·have:hi=lo:=by omega
   subst this
   by_cases hn:hi<s.length
   ·obtain⟨b,off,rfl,hbw,q0,q1,q2⟩:=wr_at HRr.out hi hn
    obtain⟨h5,h6⟩:=findS_at hn (I2.out hi hn (Nat.le_refl _)) I1.out
    have hl:Op.bytesLess s[hi].key.toList key.toList=false:=I2.out hi hn (Nat.le_refl _)
    obtain⟨x,hx⟩:∃x,x=s[hi]:=⟨_,rfl⟩
    rw [←hx]at q0 q1 q2 h6 hl
    have hd:(cmpI x.key key==0)=inS s key:=by
     rw [h6]
     unfold cmpI
     rw [hl,if_neg (by decide)]
     cases(x.key.toList==key.toList)<;>rfl
    have H5:=Lib.hid h5
    clear hx h5 h6 hl
    obtain⟨r,hrr⟩:∃r,inS s key=r:=⟨_,rfl⟩
    rw [hrr]at hd
    have H6:=Lib.hid hrr
    clear hrr
    go_wp2_with(go_at_call 108;refine(HSt.out x _).mono ?_;rintro e w'⟨rfl,hb2⟩)
    go_ret2
    exact⟨by rw [H5.out,H6.out];rfl,HB.out.trans (hb2.mono HB.out.size)⟩
   ·have hle:hi=s.length:=by omega
    obtain⟨h5,h6⟩:=findS_no (s:=s) (key:=key) (fun t ht=>I1.out t ht (by omega))
    have H5:=Lib.hid h5
    have H6:=Lib.hid h6
    have HLe:=Lib.hid hle
    clear hle h5 h6
    go_wp2_with fail
    go_ret2
    exact⟨by rw [H5.out,H6.out,HLe.out];rfl,HB.out⟩
theorem wsetFind{w:World}{A:Option Addr}{c:Nat}{s:List Wr}(key:ByteArray)(hbig:s.length≤100000)(hr:Rd w A (s.length*3) (wrCs s))(hu:UpS s):
 Calls Tryz.prog 101 #[.slice A s.length c,.string key] w fun e w'=>e= .returned (.tuple #[.int .i64 (findS s key:Nat),.bool (inS s key)])∧Below w.heap.size w w':=by
 have HS:=Lib.hid (searchW (c:=c) key hbig hr hu)
 clear hr hu
 go_enter Tryz.func101,Tryz.ntmps101
 go_wp2_with fail
 refine HS.out.mono ?_
 rintro e w1⟨rfl,hb1⟩
 go_wp2_with fail
 go_ret2
 exact⟨rfl,hb1⟩
def shortWr(x:Wr):Bool:=decide (x.key.size≤100)&&decide (x.text.size≤100)
def fewW(l:List Wr):Bool:=l.all shortWr&&decide (l.length≤60)
theorem fewW_out{l:List Wr}(h:fewW l=true):l.length≤60∧∀x∈l,x.key.size≤100∧x.text.size≤100:=by
 unfold fewW at h
 rw [Bool.and_eq_true,List.all_eq_true]at h
 refine⟨of_decide_eq_true h.2,fun x hx=> ?_⟩
 have:=h.1 x hx
 unfold shortWr at this
 rw [Bool.and_eq_true]at this
 exact⟨of_decide_eq_true this.1,of_decide_eq_true this.2⟩
set_option maxHeartbeats 4000000 in
set_option maxRecDepth 100000 in
theorem few_writes(l:List Wr)(A:Option Addr)(c:Nat)(w:World)(hl:l.length≤9223372036854775807)(h:Rd w A (l.length*3) (wrCs l)):Calls Tryz.prog 8 #[.slice A l.length c] w fun e w'=>e= .returned (.bool (fewW l))∧Below w.heap.size w w':=by
 have HR:=Lib.hid h
 clear h
 go_enter Tryz.func8,Tryz.ntmps8
 go_wp2_with fail
 go_loopw [7](fun i wr=>∃k:Nat,k≤l.length∧i= .int .i64 (k:Nat)∧(∀j(hj:j<l.length),j<k→shortWr l[j]=true)∧Below w.heap.size w wr)(fun i _=>l.length- (intOf i).toNat)
 case atStart=>exact⟨0,Nat.zero_le _,rfl,fun j _ h=>absurd h (by omega),Below.refl _ _⟩
 case round=>
  obtain⟨k,hkl,rfl,hall,hb⟩:=hrel
  have HB:=Lib.hid hb
  have HS:=Lib.hid hall
  clear hb hall
  by_cases hlt:k<l.length
  ·have hx1:(k:Int)<(l.length:Int):=by omega
   have hx2:decide ((k:Int)<(l.length:Int))=true:=decide_eq_true hx1
   have hx5:decide (k<l.length)=true:=decide_eq_true hlt
   obtain⟨b,off,rfl,hbw,q0,q1,q2⟩:=wr_at (Rd.below HR.out HB.out) k hlt
   have hwk:IntKind.i64.wrap ((k:Int)+1)=(k:Int)+1:=IntWalk.i64_in _ (by omega)
   have HF:Hid (shortWr l[k]=false→fewW l=false):=Lib.hid (fun h=>by
    unfold fewW
    rw [Bool.and_eq_false_iff]
    exact .inl (by rw [List.all_eq_false];exact⟨_,List.getElem_mem hlt,by rw [h];decide⟩))
   have HN:Hid (shortWr l[k]=true→∀j(hj:j<l.length),j<k+1→shortWr l[j]=true):=Lib.hid (fun h j hj hjk=>by
    by_cases e:j=k
    ·subst e;exact h
    ·exact HS.out j hj (by omega))
   have hsw:shortWr l[k]=(decide (l[k].key.size≤100)&&decide (l[k].text.size≤100)):=rfl
   generalize l[k]=x at*
   obtain⟨W,hW⟩:∃W,W=wr.alloc (.cells #[.string x.key,.string x.text,.bool x.gone] 37):=⟨_,rfl⟩
   have HB2:=Lib.hid (HB.out.trans ((show Below wr.heap.size wr W from hW▸(Below.refl _ _).alloc (Nat.le_refl _) _).mono HB.out.size))
   have HW:=Lib.hid hW
   clear hW
   by_cases h1:100<x.key.size
   ·have t1:decide ((100:Int)<(x.key.size:Int))=true:=decide_eq_true (by omega)
    have HF':=Lib.hid (HF.out (by rw [hsw,decide_eq_false (by omega)];rfl))
    clear HF HN hsw
    go_wp2_with fail
    go_ret
    exact⟨by rw [HF'.out];rfl,HW.out▸HB2.out⟩
   ·have t1:decide ((100:Int)<(x.key.size:Int))=false:=decide_eq_false (by omega)
    by_cases h2:100<x.text.size
    ·have t2:decide ((100:Int)<(x.text.size:Int))=true:=decide_eq_true (by omega)
     have HF':=Lib.hid (HF.out (by rw [hsw,decide_eq_false (by omega:¬x.text.size≤100),Bool.and_false]))
     clear HF HN hsw
     go_wp2_with fail
     go_ret
     exact⟨by rw [HF'.out];rfl,HW.out▸HB2.out⟩
    ·have t2:decide ((100:Int)<(x.text.size:Int))=false:=decide_eq_false (by omega)
     have HN':=Lib.hid (HN.out (by rw [hsw,decide_eq_true (by omega),decide_eq_true (by omega)];rfl))
     clear HF HN hsw
     go_wp2_with fail
     go_roundw
     case rel=>exact⟨k+1,by omega,by go_num,HN'.out,HW.out▸HB2.out⟩
     case measure=>simp [intOf];omega
  ·have hx1:decide ((k:Int)<(l.length:Int))=false:=decide_eq_false (by omega)
   have hx5:decide (k<l.length)=false:=decide_eq_false hlt
   have HF:Hid (fewW l=decide ((l.length:Int)≤60)):=Lib.hid (by
    unfold fewW
    rw [List.all_eq_true.2 (fun x hx=>by
     obtain⟨j,hj,rfl⟩:=List.getElem_of_mem hx
     exact HS.out j hj (by omega)),Bool.true_and]
    rw [Bool.eq_iff_iff,decide_eq_true_iff,decide_eq_true_iff];omega)
   clear HS
   by_cases h60:(l.length:Int)≤60
   ·have t1:decide ((l.length:Int)≤60)=true:=decide_eq_true h60
    rw [t1]at HF
    go_wp2_with fail
    go_ret
    exact⟨by rw [HF.out];rfl,HB.out⟩
   ·have t1:decide ((l.length:Int)≤60)=false:=decide_eq_false h60
    rw [t1]at HF
    go_wp2_with fail
    go_ret
    exact⟨by rw [HF.out];rfl,HB.out⟩
end Go.Proofs.YtbkpiojejmhfcaaGreatDoor
