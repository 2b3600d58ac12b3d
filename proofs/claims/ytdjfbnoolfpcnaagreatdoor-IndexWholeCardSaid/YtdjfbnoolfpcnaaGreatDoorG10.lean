import Derived.Deep.RegionWith
import Derived.Test.YtdjfbnoolfpcnaaGreatDoorG04
import Derived.Test.YtdjfbnoolfpcnaaGreatDoorG09
namespace Go.Proofs.YtdjfbnoolfpcnaaGreatDoor
open Go.RowKit
def iv(k:Nat):Value:= .int .i64 (k:Int)
theorem ordLen(A:Option Addr)(n c:Nat)(w:World)(_:n≤1000000):Calls Tryz.prog 154 #[.slice A n c] w fun e w'=>e= .returned (.int .i64 (n:Int))∧w=w':=by
 go_enter Tryz.func154,Tryz.ntmps154;go_wp2;go_ret;exact⟨rfl,rfl⟩
theorem ordLess(g n c i j:Nat)(l:List Nat)(w:World)(hi:i<n)(hj:j<n)(hn:n≤1000000)(h:Rd w (some ⟨g,0,none⟩) n (l.map iv)):
 Calls Tryz.prog 191 #[.slice (some ⟨g,0,none⟩) n c,.int .i64 (i:Int),.int .i64 (j:Int)] w fun e w'=>e= .returned (.bool (decide (keyF id l i<keyF id l j)))∧Dr w w':=by
 have hl:l.length=n:=by simpa using h.1
 obtain⟨b,off,e,hb,hc⟩:=h.2 (by omega);injection e with e
 injection e with e1 e2
 subst e1 e2;have c1:=hc i hi;have c2:=hc j hj;rw [Nat.zero_add,List.getElem?_map,List.getElem?_eq_getElem (show i<l.length by omega)]at c1;rw [Nat.zero_add,List.getElem?_map,List.getElem?_eq_getElem (show j<l.length by omega)]at c2;have HK:Hid (decide (keyF id l i<keyF id l j)=decide (l[i]<l[j])):=Lib.hid (by
  simp only [keyF,List.getElem?_eq_getElem (show i<l.length by omega),List.getElem?_eq_getElem (show j<l.length by omega),Option.map_some,id,Option.getD_some])
 rw [HK.out];simp only [Option.map_some,iv]at c1 c2;generalize l[i]=x at*;generalize l[j]=y at*;clear h hc HK;go_enter Tryz.func191,Tryz.ntmps191
 go_wp2_with fail
 go_quiet(fail)
 go_wp2_with fail
 go_ret;exact⟨rfl,_,rfl⟩
set_option maxHeartbeats 1000000 in
theorem ordSwap(g n c i j base:Nat)(l:List Nat)(w:World)(hi:i<n)(hj:j<n)(hn:n≤1000000)(h:w.ownsRow base 3 1 (.slice (some ⟨g,0,none⟩) n c) n (l.map iv)):
 Calls Tryz.prog 194 #[.slice (some ⟨g,0,none⟩) n c,.int .i64 (i:Int),.int .i64 (j:Int)] w fun e w'=>e= .returned (.tuple #[])∧
  w'.ownsRow base 3 1 (.slice (some ⟨g,0,none⟩) n c) n ((swapL l i j).map iv)∧Touch (fun b=>b=g) w w':=by
 have hl:l.length=n:=by simpa using h.1
 obtain⟨_,hr⟩:=rd_own h;obtain⟨b,off,e,hb,hc⟩:=hr.2 (by omega);injection e with e
 injection e with e1 e2
 subst e1 e2;have c1:=hc i hi;have c2:=hc j hj;rw [Nat.zero_add,List.getElem?_map,List.getElem?_eq_getElem (show i<l.length by omega)]at c1;rw [Nat.zero_add,List.getElem?_map,List.getElem?_eq_getElem (show j<l.length by omega)]at c2;simp only [Option.map_some,iv]at c1 c2;have f1:=(own_has h hi).2;have f2:=(own_has h hj).2;have HO:=Lib.hid h;have HS:Hid (∀W,Dr w W→((W.setCell ⟨g,i,none⟩ (iv l[j])).setCell ⟨g,j,none⟩ (iv l[i])).ownsRow base 3 1 (.slice (some ⟨g,0,none⟩) n c) n ((swapL l i j).map iv)∧Touch (fun b=>b=g) w ((W.setCell ⟨g,i,none⟩ (iv l[j])).setCell ⟨g,j,none⟩ (iv l[i]))):=Lib.hid (fun W k=>by
  refine⟨?_,(((Touch.of_below (F:=fun b=>b=g) (k.below _)).setCell (p:=⟨g,i,none⟩) (.inl rfl) _).setCell (p:=⟨g,j,none⟩) (.inl rfl) _)⟩;rw [swapL_at l i j (by omega) (by omega),List.map_set,List.map_set];exact own_set (own_set (own_below h (k.below _)) hi) hj)
 have HS2:Hid (∀W,Dr w W→((W.setCell ⟨g,j,none⟩ (iv l[i])).setCell ⟨g,i,none⟩ (iv l[j])).ownsRow base 3 1 (.slice (some ⟨g,0,none⟩) n c) n ((swapL l i j).map iv)∧Touch (fun b=>b=g) w ((W.setCell ⟨g,j,none⟩ (iv l[i])).setCell ⟨g,i,none⟩ (iv l[j]))):=Lib.hid (fun W k=>by
  refine⟨?_,(((Touch.of_below (F:=fun b=>b=g) (k.below _)).setCell (p:=⟨g,j,none⟩) (.inl rfl) _).setCell (p:=⟨g,i,none⟩) (.inl rfl) _)⟩;have e:(l.set i l[j]).set j l[i]=(l.set j l[i]).set i l[j]:=by
   by_cases e:i=j
   ·subst e;rfl
   ·exact List.set_comm _ _ e
  rw [swapL_at l i j (by omega) (by omega),e,List.map_set,List.map_set];exact own_set (own_set (own_below h (k.below _)) hj) hi)
 obtain⟨⟨v1,k1⟩,q1⟩:=own_has (own_set (u:=iv l[j]) h hi) hj;obtain⟨⟨v2,k2⟩,q2⟩:=own_has (own_set (u:=iv l[i]) h hj) hi;simp only [iv]at HS HS2 k1 k2 q1 q2;generalize l[i]=x at*;generalize l[j]=y at*;clear h hc hr;go_enter Tryz.func194,Tryz.ntmps194
 go_wp2_with fail
 go_region
 all_goals trace_state
 all_goals(go_wp2_with fail)
 all_goals(go_end0)
 all_goals(first
  | exact⟨rfl,HS.out _ (show Dr w w.drew from⟨1,rfl⟩)⟩
  | exact⟨rfl,HS2.out _ (show Dr w w.drew from⟨1,rfl⟩)⟩)
theorem Tryz.ordTy:RowTyK Tryz.prog 231 3 (.int .i64 0) 1 8:=⟨Tryz.underlying231,by kernel_rfl,rfl⟩
structure OrdAt(w:World)(B o g c:Nat)(l:List Nat):Prop where
 box:Blk w o 231 [.slice (some ⟨g,0,none⟩) l.length c]
 row:w.ownsRow B 3 1 (.slice (some ⟨g,0,none⟩) l.length c) l.length (l.map iv)
 ne:o≠g
 hB:B≤o
 len:l.length≤1000
theorem OrdAt.glt{w:World}{B o g c:Nat}{l:List Nat}(h:OrdAt w B o g c l):B≤g∧g<w.heap.size:=by
 rcases h.row.2 with⟨h',_⟩| ⟨g',cap,cur,hv,hB,hg,_⟩
 ·cases h'
 ·simp only [Value.slice.injEq,Option.some.injEq,Addr.mk.injEq,and_true,true_and]at hv;obtain⟨rfl,rfl⟩:=hv;exact⟨hB,(Array.getElem?_eq_some_iff.1 hg).1⟩
theorem OrdAt.touch{w w':World}{B o g c:Nat}{l:List Nat}{G:Nat→Prop}(h:OrdAt w B o g c l)(t:Touch G w w')(h1:¬G o)(h2:¬G g):OrdAt w' B o g c l:=by
 refine⟨h.box.touch t h1,own_touch h.row t (fun b hb=> ?_),h.ne,h.hB,h.len⟩;have:g=b:=by simpa [Value.ownBlock]using hb
 subst this;exact h2
theorem OrdAt.below{w w':World}{B o g c:Nat}{l:List Nat}(h:OrdAt w B o g c l)(t:Below w.heap.size w w'):OrdAt w' B o g c l:=
 h.touch (Touch.of_below (F:=fun _=>False) t) id id
theorem assert_int(x:Int)(w:World):(Instr.typeAssert (.iface 3 (.int .i64 x)) 20 3 true).run Tryz.prog w= .ok (.tuple #[.int .i64 x,.bool true]) w:=by kernel_rfl
set_option maxHeartbeats 1000000 in
set_option maxRecDepth 100000 in
theorem ordPush{w:World}{B o g c:Nat}{l:List Nat}(s:Nat)(h:OrdAt w B o g c l)(hl:l.length<1000):
 Calls Tryz.prog 193 #[.pointer (some ⟨o,0,none⟩),.iface 3 (.int .i64 (s:Int))] w fun e w'=>e= .returned (.tuple #[])∧
  ∃g' c',OrdAt w' B o g' c' (l++[s])∧(g'=g∨w.heap.size≤g')∧Touch (fun b=>b=o∨b=g) w w':=by
 have y0:=h.box.cell 0;have f0:=h.box.frozen 0;have hlt:=h.box.lt;have hrow:=h.row;have hg:=h.glt;have hBo:=h.hB;have hBs:B≤w.heap.size:=by omega
 have HH:=Lib.hid h;simp only [List.getElem?_cons_zero]at y0;obtain⟨n,hn⟩:∃n,l.length=n:=⟨_,rfl⟩;rw [hn]at hrow y0 hl;clear h;have ta:=assert_int (s:Int);go_enter Tryz.func193,Tryz.ntmps193
 go_wp2_with(at_builtin;go_loud(refine wpList_app_one rfl (.tmp 15) (.tmp 17) 231 rfl Tryz.ordTy w B (.slice (some ⟨g,0,none⟩) n c) n (l.map iv) [iv s] rfl hrow rfl w.heap.size 1 rfl rfl rfl (by decide) (by intro u hu;simp at hu;subst hu;rfl) (by omega) (by decide) hBs ?_;intro g2 c2 w2 hO2 hB2 hK2 hg2;have y2:=(World.cell?_of_block (w:=w) (a:=⟨o,0,none⟩) (hK2.2 o hlt (fun e=>HH.out.ne (by simpa [Value.ownBlock]using e)))).trans y0;have f2:=(World.frozen?_of_block (w:=w) (a:=⟨o,0,none⟩) (hK2.2 o hlt (fun e=>HH.out.ne (by simpa [Value.ownBlock]using e)))).trans f0))
 go_end0;have hon:¬o=g2:=fun e=>by
  rcases hg2 with h| h
  ·exact HH.out.ne (by rw [e];simpa [Value.ownBlock]using h.symm)
  ·omega
 have hT:Touch (fun b=>b=o∨b=g) w (w2.setCell ⟨o,0,none⟩ (.slice (some ⟨g2,0,none⟩) (n+1) c2)):=by
  refine Touch.setCell (w:=w) (w':=w2) ⟨hB2.os,hB2.tape,hB2.output,hK2.1,fun k hk hn=>hK2.2 k hk (fun e=>hn (.inr (by simpa [Value.ownBlock]using e)))⟩ (p:=⟨o,0,none⟩) (.inl (.inl rfl)) _
 have hbx:Blk w2 o 231 [.slice (some ⟨g,0,none⟩) l.length c]:=(hK2.2 o hlt (fun e=>HH.out.ne (by simpa [Value.ownBlock]using e))).trans HH.out.box;refine⟨rfl,g2,c2,⟨?_,?_,hon,hBo,by simp;omega⟩,?_,hT⟩
 ·have:=hbx.set_ 0 (.slice (some ⟨g2,0,none⟩) (n+1) c2);rw [List.length_append,hn];exact this
 ·have h1:=hO2;rw [show l.map iv++[iv s]=(l++[s]).map iv by simp]at h1;rw [List.length_append,hn];refine own_touch h1 ((Touch.refl (fun b=>b=o) w2).setCell (p:=⟨o,0,none⟩) (.inl rfl) _) (fun b hb e=> ?_);have:g2=b:=by simpa [Value.ownBlock]using hb
  exact hon (by rw [this,e])
 ·rcases hg2 with h| h
  ·left;have:g=g2:=by simpa [Value.ownBlock]using h
   exact this.symm
  ·exact .inr h
set_option maxHeartbeats 1000000 in
theorem ordPop{w:World}{B o g c:Nat}{l:List Nat}(s:Nat)(h:OrdAt w B o g c (l++[s])):
 Calls Tryz.prog 192 #[.pointer (some ⟨o,0,none⟩)] w fun e w'=>e= .returned (.iface 3 (.int .i64 (s:Int)))∧OrdAt w' B o g c l∧Touch (fun b=>b=o∨b=g) w w':=by
 have hlen:=h.len;rw [List.length_append,List.length_singleton]at hlen;have y0:=h.box.cell 0;have f0:=h.box.frozen 0;have hrow:=h.row;have c1:=(rd_own hrow).2.2 (by simp);have hcap:=(rd_own hrow).1;rw [List.length_append,List.length_singleton]at hcap;obtain⟨b,off,e,hb,hc⟩:=c1;injection e with e
 injection e with e1 e2
 subst e1 e2;have c2:=hc l.length (by simp);rw [Nat.zero_add,List.getElem?_map,List.getElem?_append_right (Nat.le_refl _),Nat.sub_self]at c2;simp only [List.getElem?_cons_zero,Option.map_some,iv]at c2;simp only [List.getElem?_cons_zero,List.length_append,List.length_singleton]at y0;obtain⟨n,hn⟩:∃n,l.length=n:=⟨_,rfl⟩;rw [hn]at y0 c2 hcap;have HH:=Lib.hid h;have HN:=Lib.hid hn;rw [hn]at hlen;have hlt:o<w.heap.size:=h.box.lt;clear h hc hrow hn;go_enter Tryz.func192,Tryz.ntmps192;go_wp2;go_ret;refine⟨rfl,⟨?_,?_,HH.out.ne,HH.out.hB,by rw [HN.out];omega⟩,((Touch.refl (fun b=>b=o∨b=g) w).setCell (p:=⟨o,0,none⟩) (.inl (.inl rfl)) _)⟩
 ·have:=HH.out.box.set_ 0 (.slice (some ⟨g,0,none⟩) n c);rw [HN.out];exact this
 ·have h1:=HH.out.row;have h2:w.ownsRow B 3 1 (.slice (some ⟨g,0,none⟩) l.length c) l.length (l.map iv):=by
   refine⟨by simp,?_⟩;rcases h1.2 with⟨h',_⟩| ⟨g',cap,cur,hv,hB,hg,hnc,hcm,hcs,ht⟩
   ·cases h'
   ·simp only [List.length_append,List.length_singleton]at hv hnc ht;simp only [Value.slice.injEq,Option.some.injEq,Addr.mk.injEq,and_true,true_and]at hv;obtain⟨rfl,rfl⟩:=hv;refine .inr ⟨g,c,cur,rfl,hB,hg,by omega,hcm,hcs,?_⟩;have:=congrArg (List.take l.length) ht;rw [List.take_take,Nat.min_eq_left (by omega)]at this;simpa using this
  rw [HN.out]at h2⊢;refine own_touch h2 ((Touch.refl (fun b=>b=o) w).setCell (p:=⟨o,0,none⟩) (.inl rfl) _) (fun b hb e=> ?_);have:g=b:=by simpa [Value.ownBlock]using hb
  exact HH.out.ne (by rw [this,e])
theorem meth_Push(f:Nat)(a:Addr)(w:World):(method (f+1) 205 (.pointer (some a)) "Push").run Tryz.prog w= .ok (193,.pointer (some a)) w:=by kernel_rfl
theorem meth_Pop(f:Nat)(a:Addr)(w:World):(method (f+1) 205 (.pointer (some a)) "Pop").run Tryz.prog w= .ok (192,.pointer (some a)) w:=by kernel_rfl
theorem nilchk_run{P:Program}(t:TypeId)(a:Addr)(x y:String)(w:World):(Builtin.ssaWrapNilChk_ #[t] t #[.pointer (some a),strVal x,strVal y]).run P w= .ok (.pointer (some a)) w:=rfl
theorem meth_val{P:Program}{t e:TypeId}{name:String}{F:FuncId}{d:TypeDesc}(hu:P.underlying t=some (.pointer e))(_hd:P.underlying e=some d)
 (hm:(P.info? t).map (fun i=>(i.methods.find? (·.name==name)).map (fun m=>(m.path,m.func)))=some (some (#[],some (F,false))))(f:Nat)(a:Addr)(w:World)(v:Value)(hl:(loadVar e a).run P w= .ok v w):
 (method (f+1) t (.pointer (some a)) name).run P w= .ok (F,v) w:=by
 cases hi:P.info? t with
 | none=>simp [hi]at hm
 | some i=>
   rw [hi]at hm;simp only [Option.map_some,Option.some.injEq]at hm;cases hf:i.methods.find? (·.name==name)with
   | none=>simp [hf]at hm
   | some m=>
     rw [hf]at hm;simp only [Option.map_some,Option.some.injEq,Prod.mk.injEq]at hm;obtain⟨h1,h2⟩:=hm;have hr:=run_underlying (P:=P) hu;simp [method,typeInfo,hi,hf,h1,h2,follow,receiverAt,hr,Place.get,nilchk_run,asAddr,Sem.run_bind,hl]
theorem load_ord(o:Nat)(v:Value)(w:World)(h:w.cell? ⟨o,0,none⟩=some v):(loadVar 231 ⟨o,0,none⟩).run Tryz.prog w= .ok v w:=by
 have hu:=run_underlying (P:=Tryz.prog) Tryz.underlying231;simp [loadVar,isAgg,hu,Sem.run_bind,h]
theorem meth_Less(f o:Nat)(v:Value)(w:World)(h:w.cell? ⟨o,0,none⟩=some v):(method (f+1) 205 (.pointer (some ⟨o,0,none⟩)) "Less").run Tryz.prog w= .ok (191,v) w:=
 meth_val Tryz.underlying205 Tryz.underlying231 (by kernel_rfl) f _ w v (load_ord o v w h)
theorem meth_Len(f o:Nat)(v:Value)(w:World)(h:w.cell? ⟨o,0,none⟩=some v):(method (f+1) 205 (.pointer (some ⟨o,0,none⟩)) "Len").run Tryz.prog w= .ok (154,v) w:=
 meth_val Tryz.underlying205 Tryz.underlying231 (by kernel_rfl) f _ w v (load_ord o v w h)
theorem meth_Swap(f o:Nat)(v:Value)(w:World)(h:w.cell? ⟨o,0,none⟩=some v):(method (f+1) 205 (.pointer (some ⟨o,0,none⟩)) "Swap").run Tryz.prog w= .ok (194,v) w:=
 meth_val Tryz.underlying205 Tryz.underlying231 (by kernel_rfl) f _ w v (load_ord o v w h)
theorem OrdAt.swapped{w w':World}{B o g c n i j:Nat}{l:List Nat}(h:OrdAt w B o g c l)(hl:l.length=n)(hr:w'.ownsRow B 3 1 (.slice (some ⟨g,0,none⟩) n c) n ((swapL l i j).map iv))(t:Touch (fun b=>b=g) w w'):OrdAt w' B o g c (swapL l i j):=by
 have hs:=swapL_length l i j;have hb:=h.box.touch t h.ne;refine⟨by rw [hs];exact hb,by rw [hs,hl];exact hr,h.ne,h.hB,by rw [hs];exact h.len⟩
set_option maxHeartbeats 2000000 in
set_option maxRecDepth 100000 in
theorem heapUp{w:World}{B o g c:Nat}{l:List Nat}(j:Nat)(h:OrdAt w B o g c l)(hj:j<l.length)(hH:HeapUp (keyF id l) j l.length):
 Calls Tryz.prog 168 #[.iface 205 (.pointer (some ⟨o,0,none⟩)),.int .i64 (j:Int)] w fun e w'=>e= .returned (.tuple #[])∧
  ∃l',l'.Perm l∧HeapTo (keyF id l') l.length∧OrdAt w' B o g c l'∧Touch (fun b=>b=o∨b=g) w w':=by
 obtain⟨n,hn⟩:∃n,l.length=n:=⟨_,rfl⟩;have hn1:=h.len;rw [hn]at hj hH hn1⊢;go_enter Tryz.func168,Tryz.ntmps168
 go_wp2_with fail
 go_loopw [1](fun i wr=>∃k l',k<n∧i= .int .i64 (k:Nat)∧l'.Perm l∧HeapUp (keyF id l') k n∧OrdAt wr B o g c l'∧Touch (fun b=>b=o∨b=g) w wr)(fun i _=>(intOf i).toNat)
 case atStart=>exact⟨j,l,hj,rfl,List.Perm.refl _,hH,h,Touch.refl _ _⟩
 case round=>
  obtain⟨k,l',hk,rfl,hp,hHk,ho,ht⟩:=hrel;clear h hj hH;have hln:l'.length=n:=by rw [hp.length_eq];exact hn
  by_cases h0:k=0
  ·subst h0
   go_wp2_with fail
   go_end0;exact⟨rfl,l',hp,heapUp_end hHk (fun h=>absurd h (by omega)),ho,ht⟩
  ·have HHk:=Lib.hid hHk;have HO:=Lib.hid ho;have HPm:=Lib.hid hp;have HT:=Lib.hid ht;have HL:=Lib.hid hln;clear hHk ho hp ht hln hn;obtain⟨i,hi⟩:∃i,(k-1)/2=i:=⟨_,rfl⟩;have hik:i<k:=by omega
   have e1:((k:Int) -1)/2=(i:Int):=by omega
   have t1:((i:Int)==(k:Int))=false:=by rw [beq_eq_false_iff_ne];omega
   have y0:=HO.out.box.cell 0;simp only [List.getElem?_cons_zero,HL.out]at y0;have hrd:=(rd_own HO.out.row).2;rw [HL.out]at hrd;have HLess:=Lib.hid (ordLess g n c k i l' wr hk (by omega) (by omega) hrd);have mL:=fun f=>meth_Less f o _ wr y0
   have hrow:=HO.out.row;rw [HL.out]at hrow;have HRow:=Lib.hid hrow;clear hrd hrow;by_cases hlt:keyF id l' k<keyF id l' i
   ·rw [decide_eq_true hlt]at HLess;have HS:=Lib.hid (ordSwap g n c i k B l' · (by omega) hk (by omega) ·);have H1:=Lib.hid hlt;clear hlt
    go_wp2_with fail
    refine HLess.out.mono ?_;rintro e w2⟨rfl,hd⟩;have ho2:=HO.out.below (hd.below _);have z0:=ho2.box.cell 0;simp only [List.getElem?_cons_zero,HL.out]at z0;have mS:=fun f=>meth_Swap f o _ w2 z0
    have hrow2:=ho2.row;rw [HL.out]at hrow2;have HSw:=Lib.hid (ordSwap g n c i k B l' w2 (by omega) hk (by omega) hrow2);have HO2:=Lib.hid ho2;clear mL y0 ho2 hrow2 HS HLess
    go_wp2_with fail
    refine HSw.out.mono ?_;rintro e w3⟨rfl,hO3,hT3⟩;have HO3:=Lib.hid (HO2.out.swapped HL.out hO3 hT3);have HT3:=Lib.hid ((HT.out.trans (Touch.of_below (F:=fun b=>b=o∨b=g) (hd.below _)) (fun b h=> .inl h)).trans (hT3.mono (fun b h=> .inr h)) (fun b h=> .inl h));clear mS z0 hO3 hT3
    go_wp2_with fail
    go_roundw
    case rel=>
     refine⟨i,swapL l' i k,by omega,rfl,(swapL_perm _ _ _).trans HPm.out,?_,HO3.out,HT3.out⟩;rw [keyF_swap id l' i k (by rw [HL.out];omega) (by rw [HL.out];exact hk)];exact heapUp_swap HHk.out (by omega) hk hi H1.out
    case measure=>simp [intOf];omega
   ·rw [decide_eq_false hlt]at HLess;have H1:=Lib.hid hlt;clear hlt
    go_wp2_with fail
    refine HLess.out.mono ?_;rintro e w2⟨rfl,hd⟩
    go_wp2_with fail
    go_end0;exact⟨rfl,l',HPm.out,heapUp_end HHk.out (fun _=>by have:=H1.out;rw [←hi]at this;omega),HO.out.below (hd.below _),HT.out.trans (Touch.of_below (F:=fun b=>b=o∨b=g) (hd.below _)) (fun b h=> .inl h)⟩
section
variable{w:World}{B o g c N:Nat}{l:List Nat}
theorem OrdAt.mLess(h:OrdAt w B o g c l)(hl:l.length=N):∀f,(method (f+1) 205 (.pointer (some ⟨o,0,none⟩)) "Less").run Tryz.prog w= .ok (191,.slice (some ⟨g,0,none⟩) N c) w:=fun f=>
 meth_Less f o _ w (by have:=h.box.cell 0;simpa only [List.getElem?_cons_zero,hl]using this)
theorem OrdAt.mLen(h:OrdAt w B o g c l)(hl:l.length=N):∀f,(method (f+1) 205 (.pointer (some ⟨o,0,none⟩)) "Len").run Tryz.prog w= .ok (154,.slice (some ⟨g,0,none⟩) N c) w:=fun f=>
 meth_Len f o _ w (by have:=h.box.cell 0;simpa only [List.getElem?_cons_zero,hl]using this)
theorem OrdAt.mSwap(h:OrdAt w B o g c l)(hl:l.length=N):∀f,(method (f+1) 205 (.pointer (some ⟨o,0,none⟩)) "Swap").run Tryz.prog w= .ok (194,.slice (some ⟨g,0,none⟩) N c) w:=fun f=>
 meth_Swap f o _ w (by have:=h.box.cell 0;simpa only [List.getElem?_cons_zero,hl]using this)
theorem OrdAt.less(h:OrdAt w B o g c l)(hl:l.length=N)(i j:Nat)(hi:i<N)(hj:j<N)(b:Bool)(hb:decide (keyF id l i<keyF id l j)=b):
 Calls Tryz.prog 191 #[.slice (some ⟨g,0,none⟩) N c,.int .i64 (i:Int),.int .i64 (j:Int)] w fun e w'=>e= .returned (.bool b)∧Dr w w':=by
 subst hl hb;have:=h.len;exact ordLess g l.length c i j l w hi hj (by omega) (rd_own h.row).2
theorem OrdAt.swap(h:OrdAt w B o g c l)(hl:l.length=N)(i j:Nat)(hi:i<N)(hj:j<N):
 Calls Tryz.prog 194 #[.slice (some ⟨g,0,none⟩) N c,.int .i64 (i:Int),.int .i64 (j:Int)] w fun e w'=>e= .returned (.tuple #[])∧OrdAt w' B o g c (swapL l i j)∧Touch (fun b=>b=o∨b=g) w w':=by
 subst hl;have:=h.len;refine(ordSwap g l.length c i j B l w hi hj (by omega) h.row).mono ?_;rintro e w'⟨rfl,h1,h2⟩;exact⟨rfl,h.swapped rfl h1 h2,h2.mono (fun b h=> .inr h)⟩
set_option maxHeartbeats 4000000 in
set_option maxRecDepth 100000 in
theorem heapDown(n:Nat)(h:OrdAt w B o g c l)(hl:l.length=N)(hn:n<N)(hH:HeapBut (keyF id l) 0 n):
 Calls Tryz.prog 169 #[.iface 205 (.pointer (some ⟨o,0,none⟩)),.int .i64 0,.int .i64 (n:Int)] w fun e w'=>(∃b,e= .returned (.bool b))∧
  ∃l',l'.Perm l∧HeapTo (keyF id l') n∧(∀k,n≤k→l'[k]? =l[k]?)∧OrdAt w' B o g c l'∧Touch (fun b=>b=o∨b=g) w w':=by
 have hn1:=h.len;rw [hl]at hn1;go_enter Tryz.func169,Tryz.ntmps169
 go_wp2_with fail
 go_loopw [7](fun i wr=>∃k l',(k=0∨k<n)∧i= .int .i64 (k:Nat)∧l'.Perm l∧HeapBut (keyF id l') k n∧(∀k,n≤k→l'[k]? =l[k]?)∧OrdAt wr B o g c l'∧Touch (fun b=>b=o∨b=g) w wr)(fun i _=>n- (intOf i).toNat)
 case atStart=>exact⟨0,l,.inl rfl,rfl,List.Perm.refl _,hH,fun _ _=>rfl,h,Touch.refl _ _⟩
 case round=>
  obtain⟨i,l',hi,rfl,hp,hHk,hk,ho,ht⟩:=hrel;have hL:l'.length=N:=by rw [hp.length_eq];exact hl
  have HHk:=Lib.hid hHk;have HO:=Lib.hid ho;have HPm:=Lib.hid hp;have HT:=Lib.hid ht;have HK:=Lib.hid hk;have HL:=Lib.hid hL;have iB:i≤n:=by omega
  clear h hH hHk ho hp ht hk hL hl;have t3:decide (2*(i:Int)+1<0)=false:=decide_eq_false (by omega);by_cases h1:n≤2*i+1
  ·have t1:decide ((n:Int)≤2*(i:Int)+1)=true:=decide_eq_true (by omega)
   go_wp2_with fail
   go_ret;exact⟨⟨_,rfl⟩,l',HPm.out,heapBut_end HHk.out (fun k h0 hk hp=>by omega),HK.out,HO.out,HT.out⟩
  ·have t1:decide ((n:Int)≤2*(i:Int)+1)=false:=decide_eq_false (by omega);obtain⟨j1,hj1⟩:∃j1,2*i+1=j1:=⟨_,rfl⟩;obtain⟨j2,hj2⟩:∃j2,j1+1=j2:=⟨_,rfl⟩;have e1:2*(i:Int)+1=(j1:Int):=by omega
   have e2:(j1:Int)+1=(j2:Int):=by omega
   have t4:decide ((n:Int)≤(j1:Int))=false:=decide_eq_false (by omega);have t5:decide ((j1:Int)<0)=false:=decide_eq_false (by omega);have J1:Hid (2*i+1=j1):=Lib.hid hj1;have J2:Hid (2*i+2=j2):=Lib.hid (by omega);have j1n:j1<n:=by omega
   clear t1 t3 hj1 hj2;by_cases h2:j2<n
   ·have t2:decide ((j2:Int)<(n:Int))=true:=decide_eq_true (by omega);by_cases h4:keyF id l' j2<keyF id l' j1
    ·have H2:=Lib.hid h4;clear h4;have mL:=HO.out.mLess HL.out
     go_wp2_with fail
     refine(HO.out.less HL.out j2 j1 (by omega) (by omega) true (decide_eq_true H2.out)).mono ?_;rintro e w2⟨rfl,hd⟩;have ho2:=HO.out.below (hd.below _);have ht2:=HT.out.trans (Touch.of_below (F:=fun b=>b=o∨b=g) (hd.below _)) (fun b h=> .inl h);have HO2:=Lib.hid ho2;have HT2:=Lib.hid ht2;clear ho2 ht2;have mL2:=HO2.out.mLess HL.out;have hj1:j2<n:=by omega
     have hj2:(j2-1)/2=i:=by have:=J1.out;have:=J2.out;omega
     have HM:Hid (∀k,0<k→k<n→(k-1)/2=i→keyF id l' j2≤keyF id l' k):=Lib.hid (fun k h0 hk hp=>by
      have hk2:k=j1∨k=j2:=by have:=J1.out;have:=J2.out;omega
      rcases hk2 with rfl| rfl
      ·have:=H2.out;omega
      ·exact Nat.le_refl _)
     by_cases h3:keyF id l' j2<keyF id l' i
     ·have H3:=Lib.hid h3;clear h3;clear mL
      go_wp2_with fail
      refine(HO2.out.less HL.out j2 i (by omega) (by omega) true (decide_eq_true H3.out)).mono ?_;rintro e w3⟨rfl,hd3⟩;have ho3:=HO2.out.below (hd3.below _);have ht3:=HT2.out.trans (Touch.of_below (F:=fun b=>b=o∨b=g) (hd3.below _)) (fun b h=> .inl h);have mS:=ho3.mSwap HL.out;have HO3:=Lib.hid ho3;have HT3:=Lib.hid ht3;clear mL2 ho3 ht3
      go_wp2_with fail
      refine(HO3.out.swap HL.out i j2 (by omega) (by omega)).mono ?_;rintro e w4⟨rfl,ho4,ht4⟩;have HO4:=Lib.hid ho4;have HT4:=Lib.hid (HT3.out.trans ht4 (fun b h=> .inl h));clear mS ho4 ht4
      go_wp2_with fail
      go_roundw
      case rel=>
       refine⟨j2,swapL l' i j2,.inr hj1,rfl,(swapL_perm _ _ _).trans HPm.out,?_,fun k hk=> ?_,HO4.out,HT4.out⟩
       ·rw [keyF_swap id l' i j2 (by rw [HL.out];omega) (by rw [HL.out];omega)];exact heapBut_swap HHk.out (by omega) hj1 hj2 HM.out H3.out
       ·rw [swapL_get l' i j2 (by rw [HL.out];omega) (by rw [HL.out];omega),if_neg (by omega),if_neg (by omega)];exact HK.out k hk
      case measure=>simp [intOf];omega
     ·have H3:=Lib.hid h3;clear h3;clear mL
      go_wp2_with fail
      refine(HO2.out.less HL.out j2 i (by omega) (by omega) false (decide_eq_false H3.out)).mono ?_;rintro e w3⟨rfl,hd3⟩;have ho3:=HO2.out.below (hd3.below _);have ht3:=HT2.out.trans (Touch.of_below (F:=fun b=>b=o∨b=g) (hd3.below _)) (fun b h=> .inl h);clear mL2
      go_wp2_with fail
      go_ret;exact⟨⟨_,rfl⟩,l',HPm.out,heapBut_end HHk.out (fun k h0 hk hp=>by have:=HM.out k h0 hk hp;have:=H3.out;omega),HK.out,ho3,ht3⟩
    ·have H2:=Lib.hid h4;clear h4;have mL:=HO.out.mLess HL.out
     go_wp2_with fail
     refine(HO.out.less HL.out j2 j1 (by omega) (by omega) false (decide_eq_false H2.out)).mono ?_;rintro e w2⟨rfl,hd⟩;have ho2:=HO.out.below (hd.below _);have ht2:=HT.out.trans (Touch.of_below (F:=fun b=>b=o∨b=g) (hd.below _)) (fun b h=> .inl h);have HO2:=Lib.hid ho2;have HT2:=Lib.hid ht2;clear ho2 ht2;have mL2:=HO2.out.mLess HL.out;have hj1:j1<n:=by omega
     have hj2:(j1-1)/2=i:=by have:=J1.out;have:=J2.out;omega
     have HM:Hid (∀k,0<k→k<n→(k-1)/2=i→keyF id l' j1≤keyF id l' k):=Lib.hid (fun k h0 hk hp=>by
      have hk2:k=j1∨k=j2:=by have:=J1.out;have:=J2.out;omega
      rcases hk2 with rfl| rfl
      ·exact Nat.le_refl _
      ·have:=H2.out;omega)
     by_cases h3:keyF id l' j1<keyF id l' i
     ·have H3:=Lib.hid h3;clear h3;clear mL
      go_wp2_with fail
      refine(HO2.out.less HL.out j1 i (by omega) (by omega) true (decide_eq_true H3.out)).mono ?_;rintro e w3⟨rfl,hd3⟩;have ho3:=HO2.out.below (hd3.below _);have ht3:=HT2.out.trans (Touch.of_below (F:=fun b=>b=o∨b=g) (hd3.below _)) (fun b h=> .inl h);have mS:=ho3.mSwap HL.out;have HO3:=Lib.hid ho3;have HT3:=Lib.hid ht3;clear mL2 ho3 ht3
      go_wp2_with fail
      refine(HO3.out.swap HL.out i j1 (by omega) (by omega)).mono ?_;rintro e w4⟨rfl,ho4,ht4⟩;have HO4:=Lib.hid ho4;have HT4:=Lib.hid (HT3.out.trans ht4 (fun b h=> .inl h));clear mS ho4 ht4
      go_wp2_with fail
      go_roundw
      case rel=>
       refine⟨j1,swapL l' i j1,.inr hj1,rfl,(swapL_perm _ _ _).trans HPm.out,?_,fun k hk=> ?_,HO4.out,HT4.out⟩
       ·rw [keyF_swap id l' i j1 (by rw [HL.out];omega) (by rw [HL.out];omega)];exact heapBut_swap HHk.out (by omega) hj1 hj2 HM.out H3.out
       ·rw [swapL_get l' i j1 (by rw [HL.out];omega) (by rw [HL.out];omega),if_neg (by omega),if_neg (by omega)];exact HK.out k hk
      case measure=>simp [intOf];omega
     ·have H3:=Lib.hid h3;clear h3;clear mL
      go_wp2_with fail
      refine(HO2.out.less HL.out j1 i (by omega) (by omega) false (decide_eq_false H3.out)).mono ?_;rintro e w3⟨rfl,hd3⟩;have ho3:=HO2.out.below (hd3.below _);have ht3:=HT2.out.trans (Touch.of_below (F:=fun b=>b=o∨b=g) (hd3.below _)) (fun b h=> .inl h);clear mL2
      go_wp2_with fail
      go_ret;exact⟨⟨_,rfl⟩,l',HPm.out,heapBut_end HHk.out (fun k h0 hk hp=>by have:=HM.out k h0 hk hp;have:=H3.out;omega),HK.out,ho3,ht3⟩
   ·have t2:decide ((j2:Int)<(n:Int))=false:=decide_eq_false (by omega);have ho2:=HO.out;have ht2:=HT.out;have HO2:=Lib.hid ho2;have HT2:=Lib.hid ht2;clear ho2 ht2;have mL2:=HO2.out.mLess HL.out;have hj1:j1<n:=by omega
    have hj2:(j1-1)/2=i:=by have:=J1.out;have:=J2.out;omega
    have HM:Hid (∀k,0<k→k<n→(k-1)/2=i→keyF id l' j1≤keyF id l' k):=Lib.hid (fun k h0 hk hp=>by
     have hk2:k=j1∨k=j2:=by have:=J1.out;have:=J2.out;omega
     rcases hk2 with rfl| rfl
     ·exact Nat.le_refl _
     ·omega)
    by_cases h3:keyF id l' j1<keyF id l' i
    ·have H3:=Lib.hid h3;clear h3
     go_wp2_with fail
     refine(HO2.out.less HL.out j1 i (by omega) (by omega) true (decide_eq_true H3.out)).mono ?_;rintro e w3⟨rfl,hd3⟩;have ho3:=HO2.out.below (hd3.below _);have ht3:=HT2.out.trans (Touch.of_below (F:=fun b=>b=o∨b=g) (hd3.below _)) (fun b h=> .inl h);have mS:=ho3.mSwap HL.out;have HO3:=Lib.hid ho3;have HT3:=Lib.hid ht3;clear mL2 ho3 ht3
     go_wp2_with fail
     refine(HO3.out.swap HL.out i j1 (by omega) (by omega)).mono ?_;rintro e w4⟨rfl,ho4,ht4⟩;have HO4:=Lib.hid ho4;have HT4:=Lib.hid (HT3.out.trans ht4 (fun b h=> .inl h));clear mS ho4 ht4
     go_wp2_with fail
     go_roundw
     case rel=>
      refine⟨j1,swapL l' i j1,.inr hj1,rfl,(swapL_perm _ _ _).trans HPm.out,?_,fun k hk=> ?_,HO4.out,HT4.out⟩
      ·rw [keyF_swap id l' i j1 (by rw [HL.out];omega) (by rw [HL.out];omega)];exact heapBut_swap HHk.out (by omega) hj1 hj2 HM.out H3.out
      ·rw [swapL_get l' i j1 (by rw [HL.out];omega) (by rw [HL.out];omega),if_neg (by omega),if_neg (by omega)];exact HK.out k hk
     case measure=>simp [intOf];omega
    ·have H3:=Lib.hid h3;clear h3
     go_wp2_with fail
     refine(HO2.out.less HL.out j1 i (by omega) (by omega) false (decide_eq_false H3.out)).mono ?_;rintro e w3⟨rfl,hd3⟩;have ho3:=HO2.out.below (hd3.below _);have ht3:=HT2.out.trans (Touch.of_below (F:=fun b=>b=o∨b=g) (hd3.below _)) (fun b h=> .inl h);clear mL2
     go_wp2_with fail
     go_ret;exact⟨⟨_,rfl⟩,l',HPm.out,heapBut_end HHk.out (fun k h0 hk hp=>by have:=HM.out k h0 hk hp;have:=H3.out;omega),HK.out,ho3,ht3⟩
end
theorem heapUp_snoc(l:List Nat)(s:Nat)(h:HeapTo (keyF id l) l.length):HeapUp (keyF id (l++[s])) l.length (l.length+1):=by
 have key:∀k,k<l.length→keyF id (l++[s]) k=keyF id l k:=fun k hk=>by simp only [keyF,List.getElem?_append_left hk]
 refine⟨fun k h0 hk hne=> ?_,fun h0 k hk0 hk hp=>by omega⟩;rw [key k (by omega),key _ (by omega)];exact h k h0 (by omega)
set_option maxHeartbeats 2000000 in
set_option maxRecDepth 100000 in
theorem heapPush{w:World}{B o g c:Nat}{l:List Nat}(s:Nat)(h:OrdAt w B o g c l)(hl:l.length<1000)(hH:HeapTo (keyF id l) l.length):
 Calls Tryz.prog 153 #[.iface 205 (.pointer (some ⟨o,0,none⟩)),.iface 3 (.int .i64 (s:Int))] w fun e w'=>e= .returned (.tuple #[])∧
  ∃g' c' l',l'.Perm (l++[s])∧HeapTo (keyF id l') l'.length∧OrdAt w' B o g' c' l'∧(g'=g∨w.heap.size≤g')∧Touch (fun b=>b=o∨b=g) w w':=by
 have mP:=fun f=>meth_Push f ⟨o,0,none⟩ w
 have HS:=Lib.hid (ordPush s h hl);have HU:=Lib.hid (heapUp_snoc l s hH);have hg:=h.glt;clear h hH;go_enter Tryz.func153,Tryz.ntmps153
 go_wp2_with fail
 refine HS.out.mono ?_;rintro e w1⟨rfl,g1,c1,ho1,hg1,ht1⟩;have hL:(l++[s]).length=l.length+1:=by simp
 have mL:=ho1.mLen hL;have HN:=Lib.hid (ordLen (some ⟨g1,0,none⟩) (l.length+1) c1 w1 (by omega));have HUp:=Lib.hid (heapUp l.length ho1 (by omega) (by rw [hL];exact HU.out));have HO1:=Lib.hid ho1;have HT1:=Lib.hid ht1;have HG1:=Lib.hid hg1;clear ho1 ht1 hg1 mP HS hL;generalize l.length=n at*
 go_wp2_with fail
 refine HN.out.mono ?_;rintro e w'⟨rfl,rfl⟩
 go_wp2_with fail
 refine HUp.out.mono ?_;rintro e w2⟨rfl,l',hp,hh,ho2,ht2⟩
 go_wp2_with fail
 go_end0;refine⟨rfl,g1,c1,l',hp,by rw [hp.length_eq];exact hh,ho2,HG1.out,HT1.out.trans ht2 (fun b hb=> ?_)⟩;rcases hb with rfl| rfl
 ·exact .inl (.inl rfl)
 ·rcases HG1.out with e| e
  ·exact .inl (.inr e)
  ·exact .inr e
set_option maxHeartbeats 2000000 in
set_option maxRecDepth 100000 in
theorem heapPop{w:World}{B o g c n:Nat}{l:List Nat}(h:OrdAt w B o g c l)(hl:l.length=n+1)(hH:HeapTo (keyF id l) (n+1)):
 Calls Tryz.prog 155 #[.iface 205 (.pointer (some ⟨o,0,none⟩))] w fun e w'=>∃(m:Nat)(l':List Nat),e= .returned (.iface 3 (.int .i64 (m:Int)))∧
  (m::l').Perm l∧(∀x∈l,m≤x)∧HeapTo (keyF id l') n∧OrdAt w' B o g c l'∧Touch (fun b=>b=o∨b=g) w w':=by
 have hn1:=h.len;have mL:=h.mLen hl;have mS:=h.mSwap hl;have HN:=Lib.hid (ordLen (some ⟨g,0,none⟩) (n+1) c w (by omega));have HS:=Lib.hid (h.swap hl 0 n (by omega) (by omega));have HLeast:Hid (∀x∈l,keyF id l 0≤x):=Lib.hid (fun x hx=>by
  obtain⟨k,hk,rfl⟩:=List.getElem_of_mem hx;have:=heap_least hH k (by omega);rw [keyF,keyF,List.getElem?_eq_getElem hk]at this;exact this)
 have hk1:HeapBut (keyF id (swapL l 0 n)) 0 n:=by
  rw [keyF_swap id l 0 n (by omega) (by omega)];exact heapBut_start hH
 have HK1:=Lib.hid hk1;have HL:=Lib.hid hl;rw [hl]at hn1;clear h hH hk1 hl;go_enter Tryz.func155,Tryz.ntmps155
 go_wp2_with fail
 refine HN.out.mono ?_;rintro e w'⟨rfl,rfl⟩
 go_wp2_with fail
 refine HS.out.mono ?_;rintro e w1⟨rfl,ho1,ht1⟩;have HD:=Lib.hid (heapDown (N:=n+1) n ho1 (by rw [swapL_length];exact HL.out) (by omega) HK1.out);have HT1:=Lib.hid ht1;clear mL mS HN HS ho1 ht1
 go_wp2_with fail
 refine HD.out.mono ?_;rintro e w2⟨⟨b,rfl⟩,l2,hp2,hh2,hk2,ho2,ht2⟩;have hl2:l2.length=n+1:=by rw [hp2.length_eq,swapL_length];exact HL.out
 have h0:l2[n]? =some (keyF id l 0):=by
  have hll:=HL.out;have hl0:0<l.length:=by omega
  rw [hk2 n (Nat.le_refl _),swapL_get l 0 n hl0 (by omega)];have hx:l[0]? =some (keyF id l 0):=by rw [keyF,List.getElem?_eq_getElem hl0];rfl
  by_cases e:n=0
  ·subst e;rw [if_pos rfl];exact hx
  ·rw [if_neg e,if_pos rfl];exact hx
 have hsp:l2=l2.take n++[keyF id l 0]:=by
  have:=List.take_append_drop n l2;rw [List.drop_eq_getElem_cons (by omega),List.drop_eq_nil_of_le (by omega)]at this;rw [List.getElem?_eq_getElem (by omega)]at h0;injection h0 with h0
  rw [h0]at this;exact this.symm
 have HPop:=ordPop (w:=w2) (B:=B) (o:=o) (g:=g) (c:=c) (l:=l2.take n) (keyF id l 0) (hsp▸ho2);have HPop:=Lib.hid HPop;have mP:=fun f=>meth_Pop f ⟨o,0,none⟩ w2
 have HSp:=Lib.hid hsp;have HH2:=Lib.hid hh2;have HP2:=Lib.hid hp2;have HL2:=Lib.hid hl2;have HT2:=Lib.hid (HT1.out.trans ht2 (fun b h=> .inl h));clear ho2 ht2 hk2 h0 hsp hh2 hp2 hl2 HD;generalize hm:keyF id l 0=m at*
 go_wp2_with fail
 refine HPop.out.mono ?_;rintro e w3⟨rfl,ho3,ht3⟩
 go_wp2_with fail
 go_ret;refine⟨m,l2.take n,rfl,?_,HLeast.out,?_,ho3,HT2.out.trans ht3 (fun b h=> .inl h)⟩
 ·have h1:(m::l2.take n).Perm (l2.take n++[m]):=(List.perm_append_singleton m (l2.take n)).symm;rw [←HSp.out]at h1;exact h1.trans (HP2.out.trans (swapL_perm _ _ _))
 ·intro k h0 hk;have:=HH2.out k h0 hk;have e:∀t,t<n→keyF id (l2.take n) t=keyF id l2 t:=fun t ht=>by simp only [keyF,List.getElem?_take,if_pos ht]
  rw [e _ (by omega),e _ hk];exact this
end Go.Proofs.YtdjfbnoolfpcnaaGreatDoor
