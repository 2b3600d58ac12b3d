import Derived.Deep.RegionHeldLaw
import Derived.Test.YtjcppneoncpdbaaGreatDoorG13
import Derived.Test.YtjcppneoncpdbaaGreatDoorG21
namespace Go.Proofs.YtjcppneoncpdbaaGreatDoor
open Go.RowKit
section
variable{w w':World}{x d p L:Nat}{s:St}{F:Nat→Prop}
set_option maxHeartbeats 8000000 in
set_option maxRecDepth 100000 in
theorem jobEnd(h:Ix w x d p L s F){jb:Nat}{stamp:UInt64}{en:Int}{n c c2:Nat}{A B:Option Addr}(hj:JobB w jb x d p stamp (.slice A n c) (.slice B n c2) false en F)(hnx:x≠jb)(hg:0≠jb∧1≠jb):
 Calls Tryz.prog 17 #[.pointer (some ⟨jb,0,none⟩)] w fun e w'=>e= .returned (.tuple #[.bool true,.int .i64 0])∧
  ∃F',Ix w' x d p L {s with ws:=put1 s.ws 8 stamp} F'∧JobB w' jb x d p stamp (.slice A n c) (.slice B n c2) true en F'∧Moved (fun b=>F b∨b=jb) (fun b=>F' b∨b=jb) w w':=by
 have hL2:=h.sys.pos.2.2.1.fits
 have hL3:=h.sys.pos.2.2.1.tfits
 have HN:=Lib.hid (jobNone jb _ hj.box)
 have j6:=hj.box.cell 6
 have j5:=hj.box.cell 5
 have j4:=hj.box.cell 4
 have j3:=hj.box.cell 3
 have j0:=hj.box.cell 0
 unfold jobCells at j0 j3 j4 j5 j6
 simp only [List.getElem?_cons_zero,List.getElem?_cons_succ]at j0 j3 j4 j5 j6
 have HX:=Lib.hid h
 have HJ:=Lib.hid hj
 have HP:=Lib.hid (fun W'(k:Below w.heap.size w W')=>sys_put (h.sys.below k) 8 stamp (by omega))
 rw [show((8*8:Nat):Int)=64 from rfl]at HP
 have HG:=Lib.hid hg
 have HNX:=Lib.hid hnx
 have HK:Hid (∀W',Touch F w W'→W'.cell? ⟨jb,0,none⟩=some (.pointer (some ⟨d,0,none⟩))∧W'.cell? ⟨jb,3,none⟩=some (.int .u64 (stamp.toNat:Int))):=Lib.hid (fun W' k=>⟨(hj.box.touch k hj.out).cell 0,(hj.box.touch k hj.out).cell 3⟩)
 have t1:decide ((n:Int)<(n:Int))=false:=decide_eq_false (by omega)
 have t2:decide (n<n)=false:=decide_eq_false (by omega)
 clear h hj hL2 hL3 hg hnx
 go_enter Tryz.func17,Tryz.ntmps17
 go_wp2_with fail
 refine HN.out.mono ?_
 rintro e w1⟨rfl,rfl⟩
 go_wp2_with fail
 go_region
 all_goals(go_wp2_with fail)
 all_goals(
  go_region_held3(fun w'=>w'.cell? ⟨jb,0,none⟩=some (.pointer (some ⟨d,0,none⟩))∧w'.cell? ⟨jb,3,none⟩=some (.int .u64 (stamp.toNat:Int)))
   (first| exact⟨j0,j3⟩| exact HK.out _ hM5.touch)
   ((first| (go_at_call 50;refine(HP.out _ (((Dr.drew w).trans (Dr.drew _)).below _)).mono ?_;rintro e w5⟨rfl,F5,hS5,hM5'⟩;have hM5:Moved F F5 w w5:=(Moved.of_below (((Dr.drew w).trans (Dr.drew _)).below _)).trans hM5'))))
 all_goals(
  have hX5:Ix w5 x d p L {s with ws:=put1 s.ws 8 stamp} F5:=HX.out.move hS5 hM5
  have hB5:=HJ.out.box.touch hM5.touch HJ.out.out
  have c6:=hB5.cell 6
  have f6:=hB5.frozen 6
  unfold jobCells at c6
  simp only [List.getElem?_cons_zero,List.getElem?_cons_succ]at c6
  have HX5:=Lib.hid hX5
  have HB5:=Lib.hid hB5
  have HM5:=Lib.hid hM5
  clear hX5 hB5 hM5 hM5' hS5 HP HK j0 j3 j4 j5 j6
  go_wp2_with fail
  go_ret2)
 all_goals(
  have hnf:¬F5 jb:=HM5.out.out HJ.out.box.lt HJ.out.out
  have ht7:Touch (fun k=>k=jb) w5 (w5.setCell ⟨jb,6,none⟩ (.bool true)):=(Touch.refl (fun k=>k=jb) w5).setCell (p:=⟨jb,6,none⟩) (.inl rfl) _
  refine⟨rfl,F5,⟨HX5.out.sys.keep ht7 (fun b hb e=>hnf (e▸hb)) HG.out.1 HG.out.2,HX5.out.box.touch ht7 HNX.out,HX5.out.out⟩,⟨by
   have:=HB5.out.set_ 6 (.bool true)
   unfold jobCells at this⊢
   simpa only [List.set_cons_zero,List.set_cons_succ]using this,hnf⟩,?_⟩
  exact⟨(HM5.out.touch.mono (fun _ hb=> .inl hb)).trans (ht7.mono (fun _ e=> .inr e)) (fun _ e=> .inl e),fun b hb=>by
   rcases hb with hb| hb
   ·exact(HM5.out.own b hb).imp .inl id
   ·exact .inl (.inr hb)⟩)
theorem Tryz.pastTyK:RowTyK Tryz.prog 111 115 (.agg #[.int .u64 0,.int .u64 0]) 2 16:=⟨Tryz.underlying111,by kernel_rfl,rfl⟩
end
def riseWr:List Wr→Bool
 | []=>true
 | [_]=>true
 | a::b::t=>Op.bytesLess a.key.toList b.key.toList&&riseWr (b::t)
def riseWK(l:List Wr)(k:Nat):Prop:=∀j(h:j+1<l.length),j+1<k→Op.bytesLess (l[j]'(by omega)).key.toList l[j+1].key.toList=true
theorem riseW_all:∀(l:List Wr),riseWK l l.length↔riseWr l=true
 | []=>⟨fun _=>rfl,fun _ j h=>by simp at h⟩
 | [a]=>⟨fun _=>rfl,fun _ j h=>by simp at h⟩
 | a::b::t=>by
   have ih:=riseW_all (b::t)
   simp only [riseWr,Bool.and_eq_true]
   rw [←ih]
   constructor
   ·intro h
    exact⟨h 0 (by simp) (by simp),fun j hj hk=>h (j+1) (by simp at hj⊢;omega) (by simp at hk⊢;omega)⟩
   ·rintro⟨h1,h2⟩j hj hk
    cases j with
    | zero=>exact h1
    | succ j=>exact h2 j (by simp at hj⊢;omega) (by simp at hk⊢;omega)
theorem riseW_no{l:List Wr}{m:Nat}(hm:m+1<l.length)(h:Op.bytesLess (l[m]'(by omega)).key.toList l[m+1].key.toList=false):riseWr l=false:=by
 cases hb:riseWr l
 ·rfl
 ·have:=(riseW_all l).2 hb m hm (by omega)
  rw [h]at this
  cases this
set_option maxHeartbeats 4000000 in
set_option maxRecDepth 100000 in
theorem rise15(l:List Wr)(A:Option Addr)(c:Nat)(w:World)(hl:l.length≤100000)(h:Rd w A (l.length*3) (wrCs l)):Calls Tryz.prog 12 #[.slice A l.length c] w fun e w'=>e= .returned (.bool (riseWr l))∧Dr w w':=by
 have HR:=Lib.hid h
 clear h
 go_enter Tryz.func12,Tryz.ntmps12
 go_wp2_with fail
 go_loopw [3](fun i wr=>∃m:Nat,(m+1≤l.length∨m=0)∧i= .int .i64 ((m+1:Nat):Int)∧riseWK l (m+1)∧Dr w wr)(fun i _=>l.length- (intOf i).toNat)
 case atStart=>exact⟨0,.inr rfl,rfl,fun j h hk=>absurd hk (by omega),Dr.refl _⟩
 case round=>
  obtain⟨m,hm,rfl,hrise,hdr⟩:=hrel
  have HD:=Lib.hid hdr
  have HRi:=Lib.hid hrise
  clear hdr hrise
  obtain⟨k,hk⟩:∃k,k=m+1:=⟨_,rfl⟩
  rw [←hk]
  by_cases hlt:k<l.length
  ·obtain⟨b,off,e1,_,q1,_,_⟩:=wr_at (Rd.below HR.out (HD.out.below _)) m (by omega)
   obtain⟨b',off',e2,_,r1,_,_⟩:=wr_at (Rd.below HR.out (HD.out.below _)) k hlt
   rw [e1]at e2
   injection e2 with e2
   injection e2 with e3 e4
   subst e1 e3 e4
   have hx1:(k:Int)<(l.length:Int):=by omega
   have hx2:decide ((k:Int)<(l.length:Int))=true:=decide_eq_true hx1
   have hx3:(m:Int)<(l.length:Int):=by omega
   have hx4:decide ((m:Int)<(l.length:Int))=true:=decide_eq_true hx3
   have hx5:decide (k<l.length)=true:=decide_eq_true hlt
   have hwk:IntKind.i64.wrap ((k:Int)+1)=(k:Int)+1:=IntWalk.i64_in _ (by omega)
   have hwm:IntKind.i64.wrap ((k:Int) -1)=(m:Int):=(IntWalk.i64_in _ (by omega)).trans (by omega)
   have HNx:Hid (Op.bytesLess l[m].key.toList l[k].key.toList=true→riseWK l (k+1)):=Lib.hid (fun h j hj hjk=>by
    subst hk
    by_cases e:j=m
    ·subst e;exact h
    ·exact HRi.out j hj (by omega))
   have HNo:Hid (Op.bytesLess l[m].key.toList l[k].key.toList=false→riseWr l=false):=Lib.hid (fun h=>by
    subst hk
    exact riseW_no hlt h)
   generalize l[m]=im at*
   generalize l[k]=ik at*
   clear hk hm
   cases hls:Op.bytesLess im.key.toList ik.key.toList with
   | true=>
     have HN:=Lib.hid (HNx.out hls)
     clear HNx HNo
     go_wp2_with fail
     go_quiet(fail)
     go_wp2_with fail
     go_roundw
     case rel=>exact⟨k,.inl (by omega),by go_num,HN.out,by first| exact HD.out.trans (Dr.one _ _)| exact HD.out⟩
     case measure=>simp [intOf];omega
   | false=>
     have HN:=Lib.hid (HNo.out hls)
     clear HNx HNo
     go_wp2_with fail
     go_quiet(fail)
     go_wp2_with fail
     go_ret
     exact⟨by rw [HN.out];rfl,by first| exact HD.out.trans (Dr.one _ _)| exact HD.out⟩
  ·have HN:Hid (riseWr l=true):=Lib.hid ((riseW_all l).1 (fun j hj hjk=>HRi.out j hj (by omega)))
   have hx1:¬(k:Int)<(l.length:Int):=by omega
   have hx2:decide ((k:Int)<(l.length:Int))=false:=decide_eq_false hx1
   have hx5:decide (k<l.length)=false:=decide_eq_false hlt
   clear hk
   go_wp2_with fail
   go_ret
   exact⟨by rw [HN.out];rfl,HD.out⟩
set_option maxHeartbeats 4000000 in
set_option maxRecDepth 100000 in
theorem theirs15(l:List Wr)(A:Option Addr)(c:Nat)(w:World)(hl:l.length≤100000)(h:Rd w A (l.length*3) (wrCs l)):Calls Tryz.prog 16 #[.slice A l.length c] w fun e w'=>
 ∃v,e= .returned v∧w'.ownsRow w.heap.size 87 3 v l.length (wrCs l)∧Below w.heap.size w w':=by
 have HR:=Lib.hid h
 clear h
 go_enter Tryz.func16,Tryz.ntmps16
 go_wp2_with fail
 go_loopw [3,8](fun u i wr=>∃k:Nat,k≤l.length∧i= .int .i64 (k:Nat)∧wr.ownsRow w.heap.size 87 3 u k (wrCs (l.take k))∧Below w.heap.size w wr)(fun _ i _=>l.length- (intOf i).toNat)
 case atStart=>exact⟨0,Nat.zero_le _,rfl,World.ownsRow_nil _ _ _ _,Below.refl _ _⟩
 case round=>
  obtain⟨k,hk,rfl,hown,hb⟩:=hrel
  have HO:=Lib.hid hown
  have HB:=Lib.hid hb
  clear hown hb
  by_cases hlt:k<l.length
  ·obtain⟨b,off,rfl,hbw,q1,q2,q3⟩:=wr_at (Rd.below HR.out HB.out) k hlt
   have hx1:(k:Int)<(l.length:Int):=by omega
   have hx2:decide ((k:Int)<(l.length:Int))=true:=decide_eq_true hx1
   have hwk:IntKind.i64.wrap ((k:Int)+1)=(k:Int)+1:=IntWalk.i64_in _ (by omega)
   have HTk:Hid (wrCs (l.take (k+1))=wrCs (l.take k)++wrC l[k]):=Lib.hid (by rw [List.take_succ_eq_append_getElem hlt];unfold wrCs;rw [List.map_append,List.flatten_append];simp only [List.map_cons,List.map_nil,List.flatten_cons,List.flatten_nil,List.append_nil])
   generalize l[k]=it at*
   obtain⟨w2,hw2⟩:∃w2,w2=wr.alloc (.cells #[.string it.key,.string it.text,.bool it.gone] 37):=⟨_,rfl⟩
   have hb12:Below wr.heap.size wr w2:=hw2▸(Below.refl _ _).alloc (Nat.le_refl _) _
   have HB2:=Lib.hid (HB.out.trans (hb12.mono HB.out.size))
   have HO2:=Lib.hid (own_stay HO.out (Kept.of_below (r:=none) hb12) (by
    rcases HO.out.2 with⟨h1,_⟩| ⟨g,cap,cur,h1,_⟩
    ·exact .inr (by subst h1;rfl)
    ·exact .inl (by subst h1;exact fun e=>nomatch e)))
   have hbs:w.heap.size≤w2.heap.size:=HB2.out.size
   rw [hw2]at hbs HB2 HO2
   clear hb12 hw2
   go_wp2_with(at_builtin;refine wpList_app_one rfl (.tmp 12) (.tmp 14) 45 rfl Tryz.wrTyK _ w.heap.size u3 k (wrCs (l.take k)) [.string it.key,.string it.text,.bool it.gone] rfl (by exact HO2.out) rfl (wr.heap.size+1) 1 rfl (by simp) rfl (by decide) (by intro u hu;simp at hu;rcases hu with rfl| rfl| rfl<;>rfl) (by omega) (by decide) hbs ?_;intro g6 c6 w6 hO6 hB6 hK6 hg6)
   have HO6:=Lib.hid hO6
   have HB6:=Lib.hid (HB2.out.trans hB6)
   clear hO6 hB6 hK6 hg6
   go_wp2_with fail
   go_roundw
   case rel=>exact⟨k+1,by omega,by go_num,by rw [HTk.out];exact HO6.out,HB6.out⟩
   case measure=>simp [intOf];omega
  ·have hkn:k=l.length:=by omega
   subst hkn
   have HO2:Hid (wr.ownsRow w.heap.size 87 3 u3 l.length (wrCs l)):=Lib.hid (by have:=HO.out;rwa [List.take_length]at this)
   go_wp2_with fail
   go_ret
   exact⟨_,rfl,HO2.out,HB.out⟩
end Go.Proofs.YtjcppneoncpdbaaGreatDoor
