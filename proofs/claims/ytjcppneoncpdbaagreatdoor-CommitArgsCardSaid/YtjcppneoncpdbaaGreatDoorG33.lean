import Derived.Laws.IdiomStrings
import Derived.Test.YtjcppneoncpdbaaGreatDoorG04
import Derived.Test.YtjcppneoncpdbaaGreatDoorG29
import Derived.Test.YtjcppneoncpdbaaGreatDoorG30
namespace Go.Proofs.YtjcppneoncpdbaaGreatDoor
open Go.RowKit
theorem wpAnyH_narrow{P:Program}{md:Region.Mode}{ops:Array Oper}{Q:Exit→Act→World→Prop}{S S':World→Prop}(hs:∀w,S' w→S w):∀(fuel:Nat)(listed:Array Bool)(a:Act)(w:World),wpAnyH P md ops Q S' fuel listed a w→wpAnyH P md ops Q S fuel listed a w
 | 0,_,_,_,h=>h
 | fuel+1,_,_,_,h=>⟨h.1,fun i hi=>wpOp_mono (fun a' w' h'=>⟨hs w' h'.1,wpAnyH_narrow hs fuel _ a' w' h'.2⟩) (h.2 i hi)⟩
theorem putS_self(ws:Nat→UInt64)(j:Nat):put1 ws j (ws j)=ws:=by
 funext i
 unfold put1
 split
 ·rename_i h;rw [h]
 ·rfl
section
variable{len:Nat→Nat}{w:World}{x d p L:Nat}{s:St}{F:Nat→Prop}
theorem store_sysL(h:IxL len w x d p L s F)(j:Nat)(u:UInt64)(hj:j<8*L)(hlen:len (j/8)≤1000000):Calls Tryz.prog 11 #[.pointer (some ⟨d,0,none⟩),.int .i64 ((8*j:Nat):Int),.int .u64 (u.toNat:Int)] w fun e w'=>
 e= .returned (.int .i64 0)∧∃len' F',IxL len' w' x d p L {s with ws:=put1 s.ws j u} F'∧Moved F F' w w':=by
 obtain⟨hsys,hbox,hout⟩:=h
 obtain⟨tb,hb,m,cT,cH,own,hr,hF⟩:=hsys
 obtain⟨g,hbk,hd,ho⟩:=hr.dev
 have key:∀(len':Nat→Nat)(hb':Nat→Option Nat)(w':World),DevRep w' d L (put1 s.ws j u) len' (fun _=>0) g hb'→Touch own w w'→(∀b,devOwn d L g hb' b→own b∨w.heap.size≤b)→
  ∃len' F',IxL len' w' x d p L {s with ws:=put1 s.ws j u} F'∧Moved F F' w w':=fun len' hb' w' h1 ht hn=>by
  have out:∀b,b<w.heap.size→¬own b→¬devOwn d L g hb' b:=fun b hlt hno h1=>(hn b h1).elim hno (fun h2=>by omega)
  have keep:∀b,b<w.heap.size→¬own b→w'.heap[b]? =w.heap[b]? :=fun b hlt hno=>ht.block b hlt hno
  have hg1:¬own 0:=fun h1=>hr.g1 (.inl h1)
  have hg2:¬own 1:=fun h1=>hr.g2 (.inl h1)
  have hM:Moved F (fun b=>devOwn d L g hb' b∨b=p∨b=tb∨b=hb) w w':=⟨ht.mono (fun b hb=>(hF b).2 (.inl hb)),fun b hb=>by
   rcases hb with h1| h1
   ·exact(hn b h1).imp (fun h2=>(hF b).2 (.inl h2)) id
   ·exact .inl ((hF b).2 (.inr h1))⟩
  refine⟨len',_,⟨⟨tb,hb,m,cT,cH,devOwn d L g hb',⟨⟨g,hb',h1,fun _=>Iff.rfl⟩,hr.L0,hr.L1,hr.shape,(keep p hr.box.lt hr.dp).trans hr.box,hr.tk.keep (keep tb hr.tk.lt hr.dt),hr.hd.keep (keep hb hr.hd.lt hr.dh),hr.ntk,hr.nhd,hr.nsh,hr.cT,hr.cH,
   out p hr.box.lt hr.dp,out tb hr.tk.lt hr.dt,out hb hr.hd.lt hr.dh,hr.pt,hr.ph,hr.th,hr.tabs.keep (keep _ hr.tabs.lt.1 hg1) (keep _ hr.tabs.lt.2 hg2),
   fun h1=>h1.elim (out _ hr.tabs.lt.1 hg1) (fun h2=>hr.g1 (.inr h2)),fun h1=>h1.elim (out _ hr.tabs.lt.2 hg2) (fun h2=>hr.g2 (.inr h2))⟩,fun _=>Iff.rfl⟩,hbox.touch ht (fun hx=>hout ((hF x).2 (.inl hx))),hM.out hbox.lt hout⟩,hM⟩
 by_cases hx:s.ws j=u
 ·subst hx
  refine(store_same d L s.ws len _ g hbk j w hr.L1 hd hj).mono ?_
  rintro e w'⟨rfl,st,rfl⟩
  exact⟨rfl,key len hbk _ (by rw [putS_self];exact hd.step st) ((Touch.refl own w).setCell (p:=⟨d,3,none⟩) (.inl ((ho d).2 (.inl rfl))) _) (fun b hb=> .inl ((ho b).2 hb))⟩
 ·refine(store_new d L s.ws len _ g hbk j u w hr.L1 hd hj hx hlen).mono ?_
  rintro e w'⟨rfl,g2,hg2,h1,ht0⟩
  refine⟨rfl,key _ _ w' h1 (ht0.mono (fun b hb=>(ho b).2 hb)) (fun b hb=> ?_)⟩
  rcases hb with h| h| ⟨i,hi,h⟩
  ·exact .inl ((ho b).2 (.inl h))
  ·exact .inl ((ho b).2 (.inr (.inl h)))
  ·simp only at h
   split at h
   ·injection h with h
    subst h
    rcases hg2 with h| h
    ·exact .inl ((ho g2).2 (.inr (.inr ⟨j/8,by omega,h⟩)))
    ·exact .inr h
   ·exact .inl ((ho b).2 (.inr (.inr ⟨i,hi,h⟩)))
def ImgAt(w:World)(g:Nat)(l:List UInt8):Prop:=∀j(hj:j<l.length),w.cell? ((⟨g,0,none⟩:Addr).add j)=some (.int .u8 (l[j].toNat:Int))
theorem ImgAt.below{w w':World}{g:Nat}{l:List UInt8}(h:ImgAt w g l)(k:Below w.heap.size w w'):ImgAt w' g l:=fun j hj=>by
 have h1:=h j hj
 exact(World.cell?_of_block (w:=w) (k.block _ (World.block_lt_of_cell? w _ h1))).trans h1
theorem imgStr(w:World)(g c:Nat)(l:List UInt8)(h:ImgAt w g l):(convert 39 9 (.slice (some ⟨g,0,none⟩) l.length c)).run Tryz.prog w= .ok (.string ⟨l.toArray⟩) w:=
 run_convert_bytes_back w 39 9 5 ⟨g,0,none⟩ c l Tryz.underlying39 Tryz.underlying5 Tryz.underlying9 h
theorem image18(h:SysL len w d p L s F):Calls Tryz.prog 14 #[.pointer (some ⟨d,0,none⟩)] w fun e w'=>∃g c,e= .returned (.slice (some ⟨g,0,none⟩) (imgB s.ws L).length c)∧ImgAt w' g (imgB s.ws L)∧Below w.heap.size w w':=by
 obtain⟨l0,l1,_,_⟩:=h.pos
 obtain⟨tb,hb,m,cT,cH,own,hr,hF⟩:=h
 refine(image_dev hr.dev l0 l1).mono ?_
 rintro e w'⟨v,rfl,ho,hb'⟩
 rcases ho.2 with⟨_,h0⟩| ⟨g,cap,cur,hv,_,hg,hn,_,hcs,ht⟩
 ·omega
 ·refine⟨g,cap,by rw [hv,imgB_len],fun j hj=> ?_,hb'⟩
  have hjl:j<64*L:=by rw [imgB_len]at hj;exact hj
  rw [show(⟨g,0,none⟩:Addr).add j=⟨g,j,none⟩by simp [Addr.add];try exact fun e=>e.symm,cell_of_row w' g j cur _ (0,0) hg]
  have e:=congrArg (fun l=>l[j]?) ht
  simp only [List.getElem?_take,Nat.mul_one,if_pos hjl,List.getElem?_map,List.getElem?_eq_getElem hj,Option.map_some]at e
  rw [←Array.getElem?_toList]
  exact e
end
set_option maxHeartbeats 2000000 in
theorem refRight15(y:Wr)(w:World)(h1:y.key.size≤4294967296)(h2:y.text.size≤4294967296):Calls Tryz.prog 13 #[wrV y] w fun e w'=>e= .returned (.bool (rightWr y))∧Below w.heap.size w w':=by
 obtain⟨ky,tx,g⟩:=y
 simp only [wrV]at h1 h2⊢
 obtain⟨W,hW⟩:∃W,W=w.alloc (.cells #[.string ky,.string tx,.bool g] 37):=⟨_,rfl⟩
 have B:Blk W w.heap.size 37 [.string ky,.string tx,.bool g]:=hW▸heap_alloc_new _ _
 have hb:Below w.heap.size w W:=hW▸(Below.refl _ _).alloc (Nat.le_refl _) _
 have y0:=B.cell 0
 have y1:=B.cell 1
 have y2:=B.cell 2
 simp only [List.getElem?_cons_zero,List.getElem?_cons_succ]at y0 y1 y2
 have HB:=Lib.hid hb
 rw [hW]at y0 y1 y2 HB
 have E4:=Lib.hid (empty_list tx)
 clear B hb hW
 by_cases hk:ky.size≤16
 ·have t1:decide ((ky.size:Int)≤16)=true:=decide_eq_true (by omega)
  by_cases ht:tx.size≤40
  ·have t2:decide ((tx.size:Int)≤40)=true:=decide_eq_true (by omega)
   have hR:Hid (rightWr ⟨ky,tx,g⟩=(!g|| (tx.toList==[]))):=Lib.hid (by
    unfold rightWr
    rw [E4.out,show decide (ky.size≤16)=true from decide_eq_true hk,show decide (tx.size≤40)=true from decide_eq_true ht];rfl)
   clear hk ht
   cases g with
   | false=>
     go_enter Tryz.func13,Tryz.ntmps13
     go_wp2_with fail
     go_ret
     exact⟨by rw [hR.out];rfl,HB.out⟩
   | true=>
     have hie:∀l:List UInt8,(l==[])=l.isEmpty:=fun l=>by cases l<;>rfl
     rw [hie]at hR
     go_enter Tryz.func13,Tryz.ntmps13
     go_wp2_with fail
     go_ret
     exact⟨by rw [hR.out];rfl,HB.out⟩
  ·have t2:decide ((tx.size:Int)≤40)=false:=decide_eq_false (by omega)
   have HV:Hid (rightWr ⟨ky,tx,g⟩=false):=Lib.hid (by
    unfold rightWr
    rw [show decide (tx.size≤40)=false from decide_eq_false ht,Bool.and_false];rfl)
   clear hk ht
   go_enter Tryz.func13,Tryz.ntmps13
   go_wp2_with fail
   go_ret
   exact⟨by rw [HV.out];rfl,HB.out⟩
 ·have t1:decide ((ky.size:Int)≤16)=false:=decide_eq_false (by omega)
  have HV:Hid (rightWr ⟨ky,tx,g⟩=false):=Lib.hid (by
   unfold rightWr
   rw [show decide (ky.size≤16)=false from decide_eq_false hk];rfl)
  clear hk
  go_enter Tryz.func13,Tryz.ntmps13
  go_wp2_with fail
  go_ret
  exact⟨by rw [HV.out];rfl,HB.out⟩
end Go.Proofs.YtjcppneoncpdbaaGreatDoor
