import Derived.Test.YtdjfbnoolfpcnaaGreatDoorG03
import Derived.Test.YtdjfbnoolfpcnaaGreatDoorG04
import Derived.Test.YtdjfbnoolfpcnaaGreatDoorG08
import Derived.Test.YtdjfbnoolfpcnaaGreatDoorG10
namespace Go.Proofs.YtdjfbnoolfpcnaaGreatDoor
open Go.RowKit
theorem TabB.below{w w':World}(h:TabB w)(k:Below w.heap.size w w'):TabB w':=fun j hj=>(k.cell (p:=⟨1,j,none⟩) (World.block_lt_of_cell? w _ (h j hj))).trans (h j hj)
section
variable{w:World}{d p L:Nat}{s:St}{tb hb n cT cH:Nat}
theorem PoolAt.below{w':World}(h:PoolAt w d p L s tb hb n cT cH)(k:Below w.heap.size w w'):PoolAt w' d p L s tb hb n cT cH:=by
 have key:∀{a:Addr}{v:Value},w.cell? a=some v→w'.cell? a=some v:=fun{a v}hc=>(k.cell (p:=a) (World.block_lt_of_cell? w a hc)).trans hc
 exact⟨key h.y0,key h.y1,key h.y2,key h.y3,key h.y4,key h.y5,key h.y6,fun i hi=>key (h.tk i hi),fun i hi=>key (h.hd i hi),h.ok,h.L1,h.nsh,h.ntk⟩
def fitsN(s:St)(c i:Nat):Bool:=(nextW (bothN s i) c).isSome
set_option maxHeartbeats 1000000 in
theorem fits_pool(h:PoolAt w d p L s tb hb n cT cH)(hT:TabB w)(c i:Nat)(hi:i<n)(hc:c<4):
 Calls Tryz.prog 117 #[.agg #[.pointer (some ⟨p,0,none⟩),.int .i64 (c:Int)],.int .i64 (i:Int)] w fun e w'=>e= .returned (.bool (fitsN s c i))∧Below w.heap.size w w':=by
 have hb0:Below w.heap.size w (w.alloc (.cells #[.pointer (some ⟨p,0,none⟩),.int .i64 (c:Int)] 203)):=(Below.refl _ _).alloc (Nat.le_refl _) _;have h1:=h.below hb0;have hT1:=hT.below hb0;have HB:=Lib.hid (fun W(k:Dr _ W)=>both_pool (h1.dr k) i hi);have HN:=Lib.hid (fun W(k:Dr _ W)=>nextS_any (bothN s i) c W (bothN_lt s i) (by omega) (hT1.dr k));have HR:Hid (decide ((0:Int)≤optI (nextW (bothN s i) c))=fitsN s c i):=Lib.hid (by
  unfold fitsN optI;cases nextW (bothN s i) c<;>simp)
 clear h h1 hT hT1;go_enter Tryz.func117,Tryz.ntmps117
 go_wp2_with fail
 go_quiet(first
  | (go_at_call 120;exact q_dr (HB.out _ (Dr.one _ _)))
  | (go_at_call 119;exact q_dr (HN.out _ (Dr.one _ _))))
 go_wp2_with fail
 trace_state
 go_ret;exact⟨by rw [←HR.out];rfl,hb0.trans ((Dr.one _ _).below _)⟩
end
def FirstOut(F:Nat→Bool)(l:List Nat):Option Nat→Prop
 | some i=>i∈l∧F i=true∧∀x∈l,F x=true→i≤x
 | none=>∀x∈l,F x=false
def firstV:Option Nat→Value
 | some i=> .tuple #[.int .i64 (i:Int),.bool true]
 | none=> .tuple #[.int .i64 0,.bool false]
def lenAt(w:World)(o:Nat):Nat:=match w.cell? ⟨o,0,none⟩with
 | some (.slice _ n _)=>n
 | _=>0
theorem OrdAt.lenAt{w:World}{B o g c:Nat}{l:List Nat}(h:OrdAt w B o g c l):lenAt w o=l.length:=by
 have:=h.box.cell 0;unfold Go.Proofs.YtdjfbnoolfpcnaaGreatDoor.lenAt;rw [this];rfl
set_option maxHeartbeats 4000000 in
set_option maxRecDepth 100000 in
theorem first_pool{w0 w:World}{d p L:Nat}{s:St}{tb hb n cT cH:Nat}(h:PoolAt w0 d p L s tb hb n cT cH)(hT:TabB w0)(c:Nat)(hc:c<4)(hB:Below w0.heap.size w0 w)
 {o g cc:Nat}{l:List Nat}(ho:OrdAt w w0.heap.size o g cc l)(hl:∀x∈l,x<n)(hH:HeapTo (keyF id l) l.length):
 Calls Tryz.prog 118 #[.pointer (some ⟨o,0,none⟩),.func (.func 117) #[.agg #[.pointer (some ⟨p,0,none⟩),.int .i64 (c:Int)]] #[]] w fun e w'=>∃r,e= .returned (firstV r)∧FirstOut (fitsN s c) l r∧Touch (fun b=>b=o∨b=g) w w':=by
 have HP:=Lib.hid h;have HTB:=Lib.hid hT;have HL:=Lib.hid hl;have hob:=ho.hB;have hgb:=ho.glt.1;have hws:=hB.size;clear h hT hl;go_enter Tryz.func118,Tryz.ntmps118
 go_wp2_with fail
 go_loopw [](fun wr=>∃l1 P,(P++l1).Perm l∧(∀x∈P,fitsN s c x=false)∧HeapTo (keyF id l1) l1.length∧OrdAt wr w0.heap.size o g cc l1∧Touch (fun b=>b=o∨b=g) w wr)(fun wr=>lenAt wr o)
 case atStart=>exact⟨l,[],List.Perm.refl _,by simp,hH,ho,Touch.refl _ _⟩
 case round=>
  obtain⟨l1,P,hp,hP,hh,ho1,ht1⟩:=hrel;have hb1:Below w0.heap.size w0 wr:=hB.trans (ht1.below hws (fun k hk=>by rcases hk with rfl| rfl<;>assumption));have HPm:=Lib.hid hp;have HPf:=Lib.hid hP;have HH:=Lib.hid hh;have HO:=Lib.hid ho1;have HT1:=Lib.hid ht1;have HB1:=Lib.hid hb1;have y0:=ho1.box.cell 0;simp only [List.getElem?_cons_zero]at y0;have hln:=ho1.len;have HLA:=Lib.hid ho1.lenAt;obtain⟨m,hm⟩:∃m,l1.length=m:=⟨_,rfl⟩;rw [hm]at y0 hln;have HM:=Lib.hid hm;have HLen:=Lib.hid (ordLen (some ⟨g,0,none⟩) m cc wr (by omega));clear hp hP hh ho1 ht1 hb1 hm ho hH hB;rcases m with _| m
  ·go_wp2_with fail
   refine HLen.out.mono ?_;rintro e w'⟨rfl,rfl⟩
   go_wp2_with fail
   go_ret2;have hnil:l1=[]:=List.eq_nil_of_length_eq_zero HM.out;refine⟨none,rfl,fun x hx=> ?_,HT1.out⟩;have:=HPm.out.mem_iff.2 hx;rw [hnil,List.append_nil]at this;exact HPf.out x this
  ·have t1:decide ((0:Int)<((m+1:Nat):Int))=true:=decide_eq_true (by omega);have HPop:=Lib.hid (heapPop HO.out HM.out (by have:=HH.out;rw [HM.out]at this;exact this));generalize hmm:m+1=m1 at y0 HLen t1
   go_wp2_with fail
   refine HLen.out.mono ?_;rintro e w'⟨rfl,rfl⟩
   go_wp2_with fail
   refine HPop.out.mono ?_;rintro e w2⟨x,l2,rfl,hp2,hx2,hh2,ho2,ht2⟩;have hxl:x∈l:=HPm.out.mem_iff.1 (List.mem_append_right _ (hp2.mem_iff.1 (List.mem_cons_self)));have hxn:=HL.out x hxl;have ht3:=HT1.out.trans ht2 (fun b h=> .inl h);have hb2:Below w0.heap.size w0 w2:=HB1.out.trans (ht2.below (by have:=HB1.out.size;omega) (fun k hk=>by rcases hk with rfl| rfl<;>assumption));have HF:=fits_pool (HP.out.below hb2) (HTB.out.below hb2) c x hxn hc;have HP2:=Lib.hid hp2;have HX2:=Lib.hid hx2;have HH2:=Lib.hid hh2;have HO2:=Lib.hid ho2;have HT3:=Lib.hid ht3;have ta:=assert_int (x:Int);clear hp2 hx2 hh2 ho2 ht3 ht2 hb2 HPop HLen;have hl2:l2.length=m:=by have:=HP2.out.length_eq;simp only [List.length_cons,HM.out]at this;omega
   have HL2:=Lib.hid hl2;clear hl2;cases hf:fitsN s c x
   ·rw [hf]at HF;have HF:=Lib.hid HF;have HFx:=Lib.hid hf;clear hf
    go_wp2_with fail
    refine HF.out.mono ?_;rintro e w3⟨rfl,hb3⟩;have ho3:=HO2.out.below hb3;have ht3:=HT3.out.trans (Touch.of_below (F:=fun b=>b=o∨b=g) hb3) (fun b h=> .inl h);have HLA3:=Lib.hid ho3.lenAt;have HO3:=Lib.hid ho3;have HT4:=Lib.hid ht3;clear ho3 ht3 hb3 ta
    go_wp2_with fail
    go_roundw
    case rel=>
     refine⟨l2,P++[x],?_,?_,by rw [HL2.out];exact HH2.out,HO3.out,HT4.out⟩
     ·rw [List.append_assoc];exact(List.Perm.append_left P HP2.out).trans HPm.out
     ·intro y hy;rcases List.mem_append.1 hy with h| h
      ·exact HPf.out y h
      ·rw [List.mem_singleton.1 h];exact HFx.out
    case measure=>show lenAt w3 o<lenAt wr o;rw [HLA3.out,HLA.out,HL2.out,HM.out];omega
   ·rw [hf]at HF;have HF:=Lib.hid HF;have HFx:=Lib.hid hf;clear hf
    go_wp2_with fail
    refine HF.out.mono ?_;rintro e w3⟨rfl,hb3⟩
    go_wp2_with fail
    go_ret2;refine⟨some x,rfl,⟨hxl,HFx.out,fun y hy hfy=> ?_⟩,HT3.out.trans (Touch.of_below (F:=fun b=>b=o∨b=g) hb3) (fun b h=> .inl h)⟩;rcases List.mem_append.1 (HPm.out.mem_iff.2 hy)with h| h
    ·rw [HPf.out y h]at hfy;cases hfy
    ·exact HX2.out y h
def ent3(B:Nat):Array MapEntry:= #[{key:= .int .i64 0,val:= .pointer (some ⟨B+2,0,none⟩),born:=0},{key:= .int .i64 1,val:= .pointer (some ⟨B+4,0,none⟩),born:=1},{key:= .int .i64 2,val:= .pointer (some ⟨B+6,0,none⟩),born:=2}]
structure Tri(w0 W:World)(g cc:Nat→Nat)(Ls:Nat→List Nat):Prop where
 map:W.heap[w0.heap.size]? =some (.map (ent3 w0.heap.size) 3)
 ord:∀c,c<3→OrdAt W w0.heap.size (w0.heap.size+2+2*c) (g c) (cc c) (Ls c)
 heap:∀c,c<3→HeapTo (keyF id (Ls c)) (Ls c).length
 apart:∀c c',c<3→c'<3→c≠c'→g c≠g c'∧g c≠w0.heap.size+2+2*c'
 low:Below w0.heap.size w0 W
theorem Tri.keep{w0 W W':World}{g cc:Nat→Nat}{Ls:Nat→List Nat}(h:Tri w0 W g cc Ls)(k:Below W.heap.size W W'):Tri w0 W' g cc Ls:=
 ⟨(k.block _ (Array.getElem?_eq_some_iff.1 h.map).1).trans h.map,fun c hc=>(h.ord c hc).below k,h.heap,h.apart,h.low.trans (k.mono h.low.size)⟩
theorem Tri.push{w0 W W':World}{g cc:Nat→Nat}{Ls:Nat→List Nat}(h:Tri w0 W g cc Ls)(c:Nat)(hc:c<3){g' c':Nat}{l':List Nat}(ho:OrdAt W' w0.heap.size (w0.heap.size+2+2*c) g' c' l')(hh:HeapTo (keyF id l') l'.length)
 (hg:g'=g c∨W.heap.size≤g')(t:Touch (fun b=>b=w0.heap.size+2+2*c∨b=g c) W W'):
 Tri w0 W' (fun x=>if x=c then g' else g x) (fun x=>if x=c then c' else cc x) (fun x=>if x=c then l' else Ls x):=by
 have hgc:=(h.ord c hc).glt;have hmb:w0.heap.size≠g c:=fun e=>by
  rcases(h.ord c hc).row.2 with⟨h',_⟩| ⟨g2,cap,cur,hv,hB,hg2,_⟩
  ·cases h'
  ·simp only [Value.slice.injEq,Option.some.injEq,Addr.mk.injEq,and_true,true_and]at hv;obtain⟨rfl,rfl⟩:=hv;have:=h.map;rw [e,hg2]at this;cases this
 have hmlt:=(Array.getElem?_eq_some_iff.1 h.map).1;refine⟨(t.block _ hmlt (fun e=>by rcases e with e| e;omega;exact hmb e)).trans h.map,fun x hx=> ?_,fun x hx=> ?_,fun x y hx hy hxy=> ?_,h.low.trans (t.below h.low.size (fun k hk=>by rcases hk with rfl| rfl;omega;exact hgc.1))⟩
 ·by_cases e:x=c
  ·subst e;simp only [if_true];exact ho
  ·simp only [if_neg e];have:=h.apart c x hc hx (fun e'=>e e'.symm);have h2:=h.apart x c hx hc e;exact(h.ord x hx).touch t (fun e'=>by rcases e' with e'| e';omega;exact this.2 e'.symm) (fun e'=>by rcases e' with e'| e';exact h2.2 e';exact this.1 e'.symm)
 ·by_cases e:x=c
  ·simp only [if_pos e];exact hh
  ·simp only [if_neg e];exact h.heap x hx
 ·have hol:∀z,z<3→w0.heap.size+2+2*z<W.heap.size:=fun z hz=>(h.ord z hz).box.lt
  have hgl:∀z,z<3→g z<W.heap.size:=fun z hz=>(h.ord z hz).glt.2
  by_cases ex:x=c
  ·have ey:¬y=c:=fun e=>hxy (by rw [ex,e])
   simp only [if_pos ex,if_neg ey];rcases hg with e| e
   ·rw [e,←ex];exact h.apart x y hx hy hxy
   ·have:=hol y hy;have:=hgl y hy;omega
  ·by_cases ey:y=c
   ·simp only [if_neg ex,if_pos ey];have hxc:=h.apart x c hx hc ex;refine⟨?_,by rw [ey];exact hxc.2⟩;rcases hg with e| e
    ·rw [e];exact hxc.1
    ·have:=hgl x hx;omega
   ·simp only [if_neg ex,if_neg ey];exact h.apart x y hx hy hxy
theorem ord_new(W:World)(B:Nat)(hB:B≤W.heap.size):OrdAt ((W.alloc (.cells #[] 3)).alloc (.cells #[.slice (some ⟨W.heap.size,0,none⟩) 0 0] 231)) B (W.heap.size+1) W.heap.size 0 []:=by
 have h1:(W.alloc (.cells #[] 3)).heap.size=W.heap.size+1:=by simp
 refine⟨?_,?_,by omega,by omega,by simp⟩
 ·rw [←h1];exact heap_alloc_new _ _
 ·exact own_below (World.ownsRow_made W #[] 0 hB (by decide) rfl) ((Below.refl _ _).alloc (Nat.le_refl _) _)
theorem Tryz.boxMap:Tryz.prog.underlying 200=some (.map 3 205):=Tryz.underlying200
theorem tri_start(w W1 W2 W3:World)(h1:W1=putMap (((w.alloc (.map #[] 0)).alloc (.cells #[] 3)).alloc (.cells #[.slice (some ⟨w.heap.size+1,0,none⟩) 0 0] 231)) w.heap.size #[{key:= .int .i64 0,val:= .pointer (some ⟨w.heap.size+1+1,0,none⟩),born:=0}] 1)
 (h2:W2=putMap ((W1.alloc (.cells #[] 3)).alloc (.cells #[.slice (some ⟨W1.heap.size,0,none⟩) 0 0] 231)) w.heap.size #[{key:= .int .i64 0,val:= .pointer (some ⟨w.heap.size+2,0,none⟩),born:=0},{key:= .int .i64 1,val:= .pointer (some ⟨W1.heap.size+1,0,none⟩),born:=1}] 2)
 (h3:W3=putMap ((W2.alloc (.cells #[] 3)).alloc (.cells #[.slice (some ⟨W2.heap.size,0,none⟩) 0 0] 231)) w.heap.size (ent3 w.heap.size) 3):
 W1.heap.size=w.heap.size+3∧W2.heap.size=w.heap.size+5∧W1.heap[w.heap.size]? =some (.map #[{key:= .int .i64 0,val:= .pointer (some ⟨w.heap.size+1+1,0,none⟩),born:=0}] 1)∧Tri w W3 (fun c=>w.heap.size+1+2*c) (fun _=>0) (fun _=>[]):=by
 have s1:W1.heap.size=w.heap.size+3:=by rw [h1,putMap_size];simp
 have s2:W2.heap.size=w.heap.size+5:=by rw [h2,putMap_size];simp [s1]
 have hs0:(w.alloc (.map #[] 0)).heap.size=w.heap.size+1:=by simp
 have b0:Below w.heap.size w (w.alloc (.map #[] 0)):=(Below.refl _ _).alloc (Nat.le_refl _) _;have o1:=ord_new (w.alloc (.map #[] 0)) w.heap.size (by omega);rw [hs0]at o1;have t1:=putMap_touch (((w.alloc (.map #[] 0)).alloc (.cells #[] 3)).alloc (.cells #[.slice (some ⟨w.heap.size+1,0,none⟩) 0 0] 231)) w.heap.size #[{key:= .int .i64 0,val:= .pointer (some ⟨w.heap.size+1+1,0,none⟩),born:=0}] 1;rw [←h1]at t1;have o1':=o1.touch t1 (by omega) (by omega);have l1:Below w.heap.size w W1:=((b0.alloc (by simp) _).alloc (by simp;omega) _).trans (t1.below (by simp;omega) (fun k hk=>by rw [hk];exact Nat.le_refl _));have m1:W1.heap[w.heap.size]? =some (.map #[{key:= .int .i64 0,val:= .pointer (some ⟨w.heap.size+1+1,0,none⟩),born:=0}] 1):=by rw [h1];exact putMap_at _ _ _ _ (by simp;omega)
 have o2:=ord_new W1 w.heap.size (by omega);have b1:Below W1.heap.size W1 ((W1.alloc (.cells #[] 3)).alloc (.cells #[.slice (some ⟨W1.heap.size,0,none⟩) 0 0] 231)):=((Below.refl _ _).alloc (Nat.le_refl _) _).alloc (by simp) _;have t2:Touch (fun b=>b=w.heap.size) ((W1.alloc (.cells #[] 3)).alloc (.cells #[.slice (some ⟨W1.heap.size,0,none⟩) 0 0] 231)) W2:=by rw [h2];exact putMap_touch _ _ _ _
 have o12:=(o1'.below b1).touch t2 (by omega) (by omega);have o2':=o2.touch t2 (by omega) (by omega);have l2:Below w.heap.size w W2:=l1.trans ((b1.mono (by omega)).trans (t2.below (by simp;omega) (fun k hk=>by rw [hk];exact Nat.le_refl _)));have o3:=ord_new W2 w.heap.size (by omega);have b2:Below W2.heap.size W2 ((W2.alloc (.cells #[] 3)).alloc (.cells #[.slice (some ⟨W2.heap.size,0,none⟩) 0 0] 231)):=((Below.refl _ _).alloc (Nat.le_refl _) _).alloc (by simp) _;have t3:Touch (fun b=>b=w.heap.size) ((W2.alloc (.cells #[] 3)).alloc (.cells #[.slice (some ⟨W2.heap.size,0,none⟩) 0 0] 231)) W3:=by rw [h3];exact putMap_touch _ _ _ _
 have o13:=(o12.below b2).touch t3 (by omega) (by omega);have o23:=(o2'.below b2).touch t3 (by omega) (by omega);have o33:=o3.touch t3 (by omega) (by omega);have l3:Below w.heap.size w W3:=l2.trans ((b2.mono (by omega)).trans (t3.below (by simp;omega) (fun k hk=>by rw [hk];exact Nat.le_refl _)));refine⟨s1,s2,m1,⟨by rw [h3];exact putMap_at _ _ _ _ (by simp;omega),fun c hc=> ?_,fun c hc k h0 hk=>by simp at hk,fun c c' hc hc' hne=>by constructor<;>omega,l3⟩⟩;rw [s1]at o23;rw [s2]at o33
 match c,hc with
 | 0,_=>exact o13
 | 1,_=>exact o23
 | 2,_=>exact o33
def candN(s:St)(c k:Nat):List Nat:=(List.range k).filter fun i=>decide (classW (bothN s i)=c)
theorem candN_succ(s:St)(c k:Nat):candN s c (k+1)=candN s c k++if classW (bothN s k)=c then [k]else []:=by
 unfold candN;rw [List.range_succ,List.filter_append];by_cases h:classW (bothN s k)=c<;>simp [h]
theorem candN_le(s:St)(c k:Nat):(candN s c k).length≤k:=by
 have:=List.length_filter_le (fun i=>decide (classW (bothN s i)=c)) (List.range k);simpa [candN]using this
theorem classW_lt3(x:Nat):classW x<3:=by
 have h4:=classW_lt x;by_cases h:classW x=3
 ·exfalso;unfold classW at h;split at h
  ·rename_i hr;unfold rightW at hr;rw [h]at hr;by_cases h0:x=0
   ·subst h0;revert h;decide
   ·simp [h0,blocksN,fieldN,Nat.mod_one]at hr
  ·cases h
 ·omega
set_option maxHeartbeats 4000000 in
set_option maxRecDepth 100000 in
theorem sorted_pool{w:World}{d p L:Nat}{s:St}{tb hb n cT cH:Nat}(h:PoolAt w d p L s tb hb n cT cH):
 Calls Tryz.prog 116 #[.pointer (some ⟨p,0,none⟩)] w fun e w'=>e= .returned (.map (some w.heap.size))∧
  ∃g cc Ls,Tri w w' g cc Ls∧∀c,c<3→(Ls c).Perm (candN s c n):=by
 have HP:=Lib.hid h;have hplt:=World.block_lt_of_cell? w _ h.y5;have y5:=h.y5;have hn:n≤64:=by have:=h.ok.fits;have:=h.L1;have:=h.nsh;omega
 have mm:=fun W=>run_makeMap (P:=Tryz.prog) 200 W
 clear h;go_enter Tryz.func116,Tryz.ntmps116
 go_wp2_with fail
 rw [run_ins Tryz.boxMap Tryz.underlying3 _ _ #[] 0 _ _ ?h1 ?f1]
 case h1=>exact(heap_alloc_old _ _ (by simp;omega)).trans ((heap_alloc_old _ _ (by simp)).trans (heap_alloc_new _ _))
 case f1=>rfl
 obtain⟨W1,hW1⟩:∃W1,W1=putMap (((w.alloc (.map #[] 0)).alloc (.cells #[] 3)).alloc (.cells #[.slice (some ⟨w.heap.size+1,0,none⟩) 0 0] 231)) w.heap.size #[{key:= .int .i64 0,val:= .pointer (some ⟨w.heap.size+1+1,0,none⟩),born:=0}] 1:=⟨_,rfl⟩;rw [show putMap (((w.alloc (.map #[] 0)).alloc (.cells #[] 3)).alloc (.cells #[.slice (some ⟨w.heap.size+1,0,none⟩) 0 0] 231)) w.heap.size (#[].push {key:= .int .i64 0,val:= .pointer (some ⟨w.heap.size+1+1,0,none⟩),born:=0}) (0+1)=W1 from hW1.symm];have HW1:=Lib.hid hW1;obtain⟨s1, -,m1, -⟩:=tri_start w W1 _ _ hW1 rfl rfl;clear hW1
 go_wp2_with fail
 rw [run_ins Tryz.boxMap Tryz.underlying3 _ _ _ 1 _ _ ?h2 ?f2]
 case h2=>exact(heap_alloc_old _ _ (by simp;omega)).trans ((heap_alloc_old _ _ (by omega)).trans m1)
 case f2=>rfl
 obtain⟨W2,hW2⟩:∃W2,W2=putMap ((W1.alloc (.cells #[] 3)).alloc (.cells #[.slice (some ⟨w.heap.size+3,0,none⟩) 0 0] 231)) w.heap.size #[{key:= .int .i64 0,val:= .pointer (some ⟨w.heap.size+1+1,0,none⟩),born:=0},{key:= .int .i64 1,val:= .pointer (some ⟨w.heap.size+3+1,0,none⟩),born:=1}] 2:=⟨_,rfl⟩;rw [show putMap ((W1.alloc (.cells #[] 3)).alloc (.cells #[.slice (some ⟨w.heap.size+3,0,none⟩) 0 0] 231)) w.heap.size (#[{key:= .int .i64 0,val:= .pointer (some ⟨w.heap.size+1+1,0,none⟩),born:=0}].push {key:= .int .i64 1,val:= .pointer (some ⟨w.heap.size+3+1,0,none⟩),born:=1}) (1+1)=W2 from hW2.symm];have hW2':W2=putMap ((W1.alloc (.cells #[] 3)).alloc (.cells #[.slice (some ⟨W1.heap.size,0,none⟩) 0 0] 231)) w.heap.size #[{key:= .int .i64 0,val:= .pointer (some ⟨w.heap.size+2,0,none⟩),born:=0},{key:= .int .i64 1,val:= .pointer (some ⟨W1.heap.size+1,0,none⟩),born:=1}] 2:=by rw [hW2,s1]
 have m2:W2.heap[w.heap.size]? =some (.map #[{key:= .int .i64 0,val:= .pointer (some ⟨w.heap.size+1+1,0,none⟩),born:=0},{key:= .int .i64 1,val:= .pointer (some ⟨w.heap.size+3+1,0,none⟩),born:=1}] 2):=by rw [hW2];exact putMap_at _ _ _ _ (by simp;omega)
 obtain⟨-,s2, -, -⟩:=tri_start w W1 W2 _ HW1.out hW2' rfl;have HW2:=Lib.hid hW2';clear hW2 hW2' m1
 go_wp2_with fail
 rw [run_ins Tryz.boxMap Tryz.underlying3 _ _ _ 2 _ _ ?h3 ?f3]
 case h3=>exact(heap_alloc_old _ _ (by simp;omega)).trans ((heap_alloc_old _ _ (by omega)).trans m2)
 case f3=>rfl
 obtain⟨W3,hW3⟩:∃W3,W3=putMap ((W2.alloc (.cells #[] 3)).alloc (.cells #[.slice (some ⟨w.heap.size+5,0,none⟩) 0 0] 231)) w.heap.size (ent3 w.heap.size) 3:=⟨_,rfl⟩;rw [show putMap ((W2.alloc (.cells #[] 3)).alloc (.cells #[.slice (some ⟨w.heap.size+5,0,none⟩) 0 0] 231)) w.heap.size (#[{key:= .int .i64 0,val:= .pointer (some ⟨w.heap.size+1+1,0,none⟩),born:=0},{key:= .int .i64 1,val:= .pointer (some ⟨w.heap.size+3+1,0,none⟩),born:=1}].push {key:= .int .i64 2,val:= .pointer (some ⟨w.heap.size+5+1,0,none⟩),born:=2}) (2+1)=W3 from hW3.symm];have hW3':W3=putMap ((W2.alloc (.cells #[] 3)).alloc (.cells #[.slice (some ⟨W2.heap.size,0,none⟩) 0 0] 231)) w.heap.size (ent3 w.heap.size) 3:=by rw [hW3,s2]
 obtain⟨-, -, -,tri0⟩:=tri_start w W1 W2 W3 HW1.out HW2.out hW3';have y53:W3.cell? ⟨p,5,none⟩=some (.slice (some ⟨tb,0,none⟩) n cT):=(HP.out.below tri0.low).y5;clear hW3 hW3' HW1 HW2 m2 s1 s2 y5 mm;have HT0:=Lib.hid tri0;clear tri0
 go_wp2_with fail
 go_loopw [18](fun i wr=>∃k g cc Ls,k≤n∧i= .int .i64 (k:Nat)∧Tri w wr g cc Ls∧∀c,c<3→(Ls c).Perm (candN s c k))(fun i _=>n- (intOf i).toNat)
 case atStart=>exact⟨0,_,_,_,Nat.zero_le _,rfl,HT0.out,fun c _=>List.Perm.refl _⟩
 case round=>
  obtain⟨k,g,cc,Ls,hk,rfl,htri,hperm⟩:=hrel;have HTr:=Lib.hid htri;have HPm:=Lib.hid hperm;clear htri hperm HT0 y53;by_cases hlt:k<n
  ·have hcl:=classW_lt3 (bothN s k);obtain⟨c,hc⟩:∃c,classW (bothN s k)=c:=⟨_,rfl⟩;rw [hc]at hcl;have HC:=Lib.hid (classS_any (bothN s k) · (bothN_lt s k));rw [hc]at HC;have HCl:=Lib.hid hc;clear hc
   go_wp2_with fail
   refine(both_pool (HP.out.below HTr.out.low) k hlt).mono ?_;rintro e w2⟨rfl,hd2⟩
   go_wp2_with fail
   refine(HC.out _).mono ?_;rintro e w3⟨rfl,hd3⟩;have hd:=hd2.trans hd3;have htr3:=HTr.out.keep (hd.below _);have HT3:=Lib.hid htr3;clear htr3 hd2 hd3 hd
   go_wp2_with fail
   rw [run_look Tryz.boxMap Tryz.underlying3 _ _ (ent3 w.heap.size) 3 _ c (.pointer (some ⟨w.heap.size+2+2*c,0,none⟩)) ?h4 ?f4]
   case h4=>exact HT3.out.map
   case f4=>
    match c,hcl with
    | 0,_=>rfl
    | 1,_=>rfl
    | 2,_=>rfl
   have hlen:(Ls c).length<1000:=by
    have:=(HPm.out c hcl).length_eq;have:=candN_le s c k;omega
   have HPu:=Lib.hid (heapPush k (HT3.out.ord c hcl) hlen (HT3.out.heap c hcl))
   go_wp2_with fail
   refine HPu.out.mono ?_;rintro e w4⟨rfl,g',c',l',hp',hh',ho',hg',ht'⟩;have HT4:=Lib.hid (HT3.out.push c hcl ho' hh' hg' ht');have HPm2:Hid (∀x,x<3→((fun x=>if x=c then l' else Ls x) x).Perm (candN s x (k+1))):=Lib.hid (fun x hx=>by
    rw [candN_succ,HCl.out];by_cases e:x=c
    ·subst e;simp only [if_true];exact hp'.trans (List.Perm.append_right _ (HPm.out x hx))
    ·rw [if_neg (show¬c=x from fun h=>e h.symm),List.append_nil];simp only [if_neg e];exact HPm.out x hx)
   clear hp' hh' ho' hg' ht' HPu
   go_wp2_with fail
   go_roundw
   case rel=>exact⟨k+1,_,_,_,by omega,by go_num,HT4.out,HPm2.out⟩
   case measure=>simp [intOf];omega
  ·have hkn:k=n:=by omega
   subst hkn
   go_wp2_with fail
   go_ret;exact⟨rfl,g,cc,Ls,HTr.out,HPm.out⟩
theorem first_is{s:St}{c k n:Nat}{l:List Nat}{r:Option Nat}(hn:s.tk.length=n)(hl:l.Perm (candN s k n))(h:FirstOut (fitsN s c) l r):firstP s k c=r:=by
 have hmem:∀x,x∈l↔x<n∧classW (bothN s x)=k:=fun x=>by rw [hl.mem_iff];simp [candN]
 unfold firstP;rw [hn];cases r with
 | none=>
   rw [List.find?_eq_none];intro x hx;have hxn:x<n:=List.mem_range.1 hx;by_cases e:classW (bothN s x)=k
   ·have:=h x ((hmem x).2 ⟨hxn,e⟩);unfold fitsN at this;simp [e,this]
   ·simp [e]
 | some i=>
   obtain⟨h1,h2,h3⟩:=h;obtain⟨hin,hik⟩:=(hmem i).1 h1;rw [List.find?_range_eq_some];refine⟨by unfold fitsN at h2;simp [hik,h2],List.mem_range.2 hin,fun j hj=> ?_⟩;by_cases e:classW (bothN s j)=k
   ·by_cases f:fitsN s c j=true
    ·have:=h3 j ((hmem j).2 ⟨by omega,e⟩) f;omega
    ·unfold fitsN at f;simp only [Bool.not_eq_true]at f;simp [e,f]
   ·simp [e]
theorem slabFor_some{s:St}{c i:Nat}(h:slabFor s c=some i):i<s.tk.length∧(nextW (bothN s i) c).isSome=true:=by
 have key:∀k,firstP s k c=some i→i<s.tk.length∧(nextW (bothN s i) c).isSome=true:=fun k hk=>by
  unfold firstP at hk;have h1:=List.mem_range.1 (List.mem_of_find?_eq_some hk);have h2:=List.find?_some hk;simp only [Bool.and_eq_true]at h2;exact⟨h1,h2.2⟩
 unfold slabFor at h;split at h
 ·rename_i j hj;injection h with h
  subst h;exact key c hj
 ·exact key 0 h
theorem nextW_lt{x c k:Nat}(h:nextW x c=some k):k<16:=by
 unfold nextW at h;split at h
 ·have:=lowN_lt h;have:=blocksN_le c;omega
 ·cases h
set_option maxHeartbeats 4000000 in
set_option maxRecDepth 100000 in
theorem reserve_find{w:World}{d p L:Nat}{s:St}{tb hb n cT cH:Nat}(h:PoolAt w d p L s tb hb n cT cH)(hT:TabB w)(c:Nat)(hc1:1≤c)(hc2:c≤2){W:World}{g cc:Nat→Nat}{Ls:Nat→List Nat}(ht:Tri w W g cc Ls)(hp:∀x,x<3→(Ls x).Perm (candN s x n))(k:Nat)(hk:k<3):
 Calls Tryz.prog 118 #[.pointer (some ⟨w.heap.size+2+2*k,0,none⟩),.func (.func 117) #[.agg #[.pointer (some ⟨p,0,none⟩),.int .i64 (c:Int)]] #[]] W fun e w'=>
  e= .returned (firstV (firstP s k c))∧Below w.heap.size w w'∧(∀k',k'<3→k'≠k→OrdAt w' w.heap.size (w.heap.size+2+2*k') (g k') (cc k') (Ls k'))∧w'.heap[w.heap.size]? =some (.map (ent3 w.heap.size) 3):=by
 refine(first_pool h hT c (by omega) ht.low (ht.ord k hk) (fun x hx=> ?_) (ht.heap k hk)).mono ?_
 ·have:=(hp k hk).mem_iff.1 hx;simp [candN]at this;exact this.1
 rintro e w'⟨r,rfl,hr,htc⟩;have hgk:=(ht.ord k hk).glt;have hmlt:=(Array.getElem?_eq_some_iff.1 ht.map).1;refine⟨by rw [first_is h.ntk (hp k hk) hr],ht.low.trans (htc.below ht.low.size (fun b hb=>by rcases hb with rfl| rfl;omega;exact hgk.1)),fun k' hk' hne=> ?_,?_⟩
 ·have a1:=ht.apart k k' hk hk' (fun e=>hne e.symm);have a2:=ht.apart k' k hk' hk hne;exact(ht.ord k' hk').touch htc (fun e=>by rcases e with e| e;omega;exact a1.2 e.symm) (fun e=>by rcases e with e| e;exact a2.2 e;exact a2.1 e)
 ·refine(htc.block _ hmlt (fun e=> ?_)).trans ht.map;rcases e with e| e
  ·omega
  ·rcases(ht.ord k hk).row.2 with⟨h',_⟩| ⟨g2,cap,cur,hv,hB,hg2,_⟩
   ·cases h'
   ·simp only [Value.slice.injEq,Option.some.injEq,Addr.mk.injEq,and_true,true_and]at hv;obtain⟨rfl,rfl⟩:=hv;have:=ht.map;rw [e,hg2]at this;cases this
def resV(s:St)(c:Nat):Value:=match reserveP s c with
 | some (off,_)=> .tuple #[.int .i64 (off:Int),.int .i64 0]
 | none=> .tuple #[.int .i64 0,.int .i64 6]
def resS(s:St)(c:Nat):St:=match reserveP s c with
 | some (_,s1)=>s1
 | none=>s
theorem SysRepL.below{len:SMode}{w w':World}{d p L:Nat}{s:St}{tb hb n cT cH:Nat}{own:Nat→Prop}(h:SysRepL len w d p L s tb hb n cT cH own)(k:Below w.heap.size w w'):SysRepL len w' d p L s tb hb n cT cH own:=by
 exact⟨h.dev.below k,h.L0,h.L1,h.shape,(k.block _ h.box.lt).trans h.box,h.tk.keep (k.block _ h.tk.lt),h.hd.keep (k.block _ h.hd.lt),h.ntk,h.nhd,h.nsh,h.cT,h.cH,h.dp,h.dt,h.dh,h.pt,h.ph,h.th,h.tabs.below k,h.g1,h.g2⟩
set_option maxHeartbeats 8000000 in
set_option maxRecDepth 100000 in
theorem reserve_pool{m:SMode}{w:World}{d p L:Nat}{s:St}{F:Nat→Prop}(h:SysL m w d p L s F)(c:Nat)(hc1:1≤c)(hc2:c≤2):
 Calls Tryz.prog 83 #[.pointer (some ⟨p,0,none⟩),.int .i64 (c:Int)] w fun e w'=>e= .returned (resV s c)∧SysL m w' d p L (resS s c) F∧Moved F F w w':=by
 have HS:=Lib.hid h;obtain⟨tb,hb,n,cT,cH,own,hr,hF⟩:=h;have HA:=Lib.hid hr.at;have HR:=Lib.hid hr;have HFF:=Lib.hid hF;have hn:s.tk.length=n:=hr.ntk;have hT:TabB w:=hr.tabs.bruijn;have HTB:=Lib.hid hT;have HN:=Lib.hid (none_pool hr.at);have t0:(((blocksN c:Nat):Int)==0)=false:=by
  rw [beq_eq_false_iff_ne];have:blocksN c≠0:=by
   rcases(by omega:c=1∨c=2)with rfl| rfl<;>decide
  omega
 have HB:=Lib.hid (blocks_any c w (by omega));generalize blocksN c=bl at HB t0;have HSo:=Lib.hid (sorted_pool hr.at);have hfind:∀k:Nat,k<3→Instr.findNow (.int .i64) (.int .i64 (k:Int)) (ent3 w.heap.size).toList 0=some (some (k,.pointer (some ⟨w.heap.size+2+2*k,0,none⟩))):=fun k hk=>by
  match k,hk with
  | 0,_=>rfl
  | 1,_=>rfl
  | 2,_=>rfl
 have HFi:=Lib.hid hfind;clear hr hF hT hfind;cases h1:firstP s c c with
 | some i=>
   have H1:Hid (firstV (firstP s c c)= .tuple #[.int .i64 (i:Int),.bool true]):=Lib.hid (by rw [h1];rfl);have hsf:slabFor s c=some i:=by rw [slabFor,h1]
   obtain⟨hin,hns⟩:=slabFor_some hsf;rw [hn]at hin;obtain⟨a,hna⟩:=Option.isSome_iff_exists.1 hns;have hal:=nextW_lt hna;obtain⟨x,hx⟩:∃x,(takeW (hdN s i) c a).1=x:=⟨_,rfl⟩;have hxl:x<18446744073709551616:=by rw [←hx];exact takeW_lt _ _ _ (hdN_lt s i) (by omega)
   have hres:reserveP s c=some (placeN s.sh i c a,{s with hd:=s.hd.set i (UInt64.ofNat x)}):=by unfold reserveP;rw [hsf];simp only [hna,hx]
   have HV:Hid (resV s c= .tuple #[.int .i64 ((placeN s.sh i c a:Nat):Int),.int .i64 0]):=Lib.hid (by rw [resV,hres]);have HVS:Hid (resS s c={s with hd:=s.hd.set i (UInt64.ofNat x)}):=Lib.hid (by rw [resS,hres]);have HNx:Hid (optI (nextW (bothN s i) c)=(a:Int)):=Lib.hid (by rw [hna];rfl);have HTk:=Lib.hid (take_any (hdN s i) c a · (hdN_lt s i) (by omega) (by omega));rw [hx]at HTk;generalize(takeW (hdN s i) c a).2=bx at*;clear hsf hns hna hx hres;clear h1;go_enter Tryz.func83,Tryz.ntmps83
   go_wp2_with fail
   refine HN.out.mono ?_;rintro e w'⟨rfl,rfl⟩
   go_wp2_with fail
   refine HB.out.mono ?_;rintro e w'⟨rfl,rfl⟩
   go_wp2_with fail
   refine HSo.out.mono ?_;rintro e w1⟨rfl,g,cc,Ls,htri,hper⟩;have HTr:=Lib.hid htri;have HPe:=Lib.hid hper;clear htri hper HSo HB HN
   go_wp2_with fail
   rw [run_look Tryz.boxMap Tryz.underlying3 _ _ (ent3 w.heap.size) 3 _ c _ HTr.out.map (HFi.out c (by omega))]
   go_wp2_with fail
   refine(reserve_find HA.out HTB.out c hc1 hc2 HTr.out HPe.out c (by omega)).mono ?_;rintro e w2⟨rfl,hb2,hord,hmap⟩;rw [H1.out];clear hord hmap;have hbw:=Lib.hid hb2;have HA2:=HA.out.below hb2;have HT2:=HTB.out.below hb2;clear hb2
   go_wp2_with fail
   refine(both_pool HA2 i hin).mono ?_;rintro e w5⟨rfl,hd5⟩
   go_wp2_with fail
   refine(nextS_any (bothN s i) c w5 (bothN_lt s i) (by omega) (HT2.dr hd5)).mono ?_;rintro e w6⟨rfl,hd6⟩;rw [HNx.out];have hd:=hd5.trans hd6;have hb6:=hbw.out.trans ((hd.below _).mono hbw.out.size);have ha6:=HA.out.below hb6;have z6:=ha6.y6;have z2:=ha6.hd i hin;have z3:w6.frozen? ⟨hb,i,none⟩=false:=(hb6.frozen (p:=⟨hb,i,none⟩) HR.out.hd.lt).trans (HR.out.hd.frozen i);have HB6:=Lib.hid hb6;clear hd5 hd6 hd HA2 HT2 ha6 hb6 hbw
   go_wp2_with fail
   go_region_with(go_at_call 121;go_loud(refine(HTk.out _).mono ?_;rintro e w7⟨rfl,q,rfl⟩))
   all_goals(clear z6 z2 z3 HTk)
   all_goals(have HSR:Hid (∀W,Dr w6 W→SysRepL m (W.setCell ⟨hb,i,none⟩ (.int .u64 (x:Int))) d p L {s with hd:=s.hd.set i (UInt64.ofNat x)} tb hb n cT cH own∧Moved F F w (W.setCell ⟨hb,i,none⟩ (.int .u64 (x:Int)))):=Lib.hid (fun W k=>by
    have hk:Below w.heap.size w W:=HB6.out.trans ((k.below _).mono HB6.out.size);have h1:=(HR.out.below hk).setHd i (UInt64.ofNat x);rw [wv_ofN x hxl]at h1;exact⟨h1,(Moved.of_below hk).set (p:=⟨hb,i,none⟩) (.inl ((HFF.out hb).2 (.inr (.inr (.inr rfl))))) _⟩))
   all_goals(go_wp2_with fail)
   all_goals(refine(place_pool (HSR.out _ (Dr.one w6 _)).1.at i c a hin (by omega) (by omega)).mono ?_)
   all_goals(rintro e w9⟨rfl,hd9⟩)
   all_goals(go_wp2_with fail)
   all_goals(go_ret2)
   all_goals(refine⟨by rw [HV.out];rfl,?_,(HSR.out _ (Dr.one w6 _)).2.dr hd9⟩)
   all_goals(rw [HVS.out])
   all_goals(exact⟨tb,hb,n,cT,cH,own,(HSR.out _ (Dr.one w6 _)).1.dr hd9,HFF.out⟩)
 | none=>
   have H1:Hid (firstV (firstP s c c)= .tuple #[.int .i64 0,.bool false]):=Lib.hid (by rw [h1];rfl);by_cases hc0:c=0
   ·omega
   cases h2:firstP s 0 c with
   | some i=>
     have H2:=Lib.hid h2;have hsf:slabFor s c=some i:=by rw [slabFor,h1];exact h2
     obtain⟨hin,hns⟩:=slabFor_some hsf;rw [hn]at hin;obtain⟨a,hna⟩:=Option.isSome_iff_exists.1 hns;have hal:=nextW_lt hna;obtain⟨x,hx⟩:∃x,(takeW (hdN s i) c a).1=x:=⟨_,rfl⟩;have hxl:x<18446744073709551616:=by rw [←hx];exact takeW_lt _ _ _ (hdN_lt s i) (by omega)
     have hres:reserveP s c=some (placeN s.sh i c a,{s with hd:=s.hd.set i (UInt64.ofNat x)}):=by unfold reserveP;rw [hsf];simp only [hna,hx]
     have HV:Hid (resV s c= .tuple #[.int .i64 ((placeN s.sh i c a:Nat):Int),.int .i64 0]):=Lib.hid (by rw [resV,hres]);have HVS:Hid (resS s c={s with hd:=s.hd.set i (UInt64.ofNat x)}):=Lib.hid (by rw [resS,hres]);have HNx:Hid (optI (nextW (bothN s i) c)=(a:Int)):=Lib.hid (by rw [hna];rfl);have HTk:=Lib.hid (take_any (hdN s i) c a · (hdN_lt s i) (by omega) (by omega));rw [hx]at HTk;generalize(takeW (hdN s i) c a).2=bx at*;clear hsf hns hna hx hres;clear h1 h2;go_enter Tryz.func83,Tryz.ntmps83
     go_wp2_with fail
     refine HN.out.mono ?_;rintro e w'⟨rfl,rfl⟩
     go_wp2_with fail
     refine HB.out.mono ?_;rintro e w'⟨rfl,rfl⟩
     go_wp2_with fail
     refine HSo.out.mono ?_;rintro e w1⟨rfl,g,cc,Ls,htri,hper⟩;have HTr:=Lib.hid htri;have HPe:=Lib.hid hper;clear htri hper HSo HB HN
     go_wp2_with fail
     rw [run_look Tryz.boxMap Tryz.underlying3 _ _ (ent3 w.heap.size) 3 _ c _ HTr.out.map (HFi.out c (by omega))]
     go_wp2_with fail
     refine(reserve_find HA.out HTB.out c hc1 hc2 HTr.out HPe.out c (by omega)).mono ?_;rintro e w2⟨rfl,hb2,hord,hmap⟩;rw [H1.out];have ho0:=hord 0 (by omega) (by omega);rw [show w.heap.size+2+2*0=w.heap.size+2 from rfl]at ho0;have HMap:=Lib.hid hmap;have HO0:=Lib.hid ho0;clear hord hmap ho0
     go_wp2_with fail
     rw [run_look Tryz.boxMap Tryz.underlying3 _ _ (ent3 w.heap.size) 3 0 0 (.pointer (some ⟨w.heap.size+2,0,none⟩)) HMap.out rfl]
     go_wp2_with fail
     refine(first_pool HA.out HTB.out c (by omega) hb2 HO0.out (fun x hx=> ?_) (HTr.out.heap 0 (by omega))).mono ?_
     ·have:=(HPe.out 0 (by omega)).mem_iff.1 hx;simp [candN]at this;exact this.1
     rintro e w3⟨r,rfl,hr3,ht3⟩;have hrr:r=some i:=by rw [←first_is hn (HPe.out 0 (by omega)) hr3];exact H2.out
     subst hrr;have hgk:=HO0.out.glt;have hok:=HO0.out.hB;replace hb2:=hb2.trans (ht3.below hb2.size (fun b hb=>by rcases hb with rfl| rfl;exact hok;exact hgk.1));clear ht3 hr3 hgk hok HO0 HMap;rw [show firstV (some i)= .tuple #[.int .i64 (i:Int),.bool true]from rfl];have hbw:=Lib.hid hb2;have HA2:=HA.out.below hb2;have HT2:=HTB.out.below hb2;clear hb2
     go_wp2_with fail
     refine(both_pool HA2 i hin).mono ?_;rintro e w5⟨rfl,hd5⟩
     go_wp2_with fail
     refine(nextS_any (bothN s i) c w5 (bothN_lt s i) (by omega) (HT2.dr hd5)).mono ?_;rintro e w6⟨rfl,hd6⟩;rw [HNx.out];have hd:=hd5.trans hd6;have hb6:=hbw.out.trans ((hd.below _).mono hbw.out.size);have ha6:=HA.out.below hb6;have z6:=ha6.y6;have z2:=ha6.hd i hin;have z3:w6.frozen? ⟨hb,i,none⟩=false:=(hb6.frozen (p:=⟨hb,i,none⟩) HR.out.hd.lt).trans (HR.out.hd.frozen i);have HB6:=Lib.hid hb6;clear hd5 hd6 hd HA2 HT2 ha6 hb6 hbw
     go_wp2_with fail
     go_region_with(go_at_call 121;go_loud(refine(HTk.out _).mono ?_;rintro e w7⟨rfl,q,rfl⟩))
     all_goals(clear z6 z2 z3 HTk)
     all_goals(have HSR:Hid (∀W,Dr w6 W→SysRepL m (W.setCell ⟨hb,i,none⟩ (.int .u64 (x:Int))) d p L {s with hd:=s.hd.set i (UInt64.ofNat x)} tb hb n cT cH own∧Moved F F w (W.setCell ⟨hb,i,none⟩ (.int .u64 (x:Int)))):=Lib.hid (fun W k=>by
      have hk:Below w.heap.size w W:=HB6.out.trans ((k.below _).mono HB6.out.size);have h1:=(HR.out.below hk).setHd i (UInt64.ofNat x);rw [wv_ofN x hxl]at h1;exact⟨h1,(Moved.of_below hk).set (p:=⟨hb,i,none⟩) (.inl ((HFF.out hb).2 (.inr (.inr (.inr rfl))))) _⟩))
     all_goals(go_wp2_with fail)
     all_goals(refine(place_pool (HSR.out _ (Dr.one w6 _)).1.at i c a hin (by omega) (by omega)).mono ?_)
     all_goals(rintro e w9⟨rfl,hd9⟩)
     all_goals(go_wp2_with fail)
     all_goals(go_ret2)
     all_goals(refine⟨by rw [HV.out];rfl,?_,(HSR.out _ (Dr.one w6 _)).2.dr hd9⟩)
     all_goals(rw [HVS.out])
     all_goals(exact⟨tb,hb,n,cT,cH,own,(HSR.out _ (Dr.one w6 _)).1.dr hd9,HFF.out⟩)
   | none=>
     have H2:=Lib.hid h2;have hres:reserveP s c=none:=by unfold reserveP slabFor;rw [h1,h2]
     have HV:Hid (resV s c= .tuple #[.int .i64 0,.int .i64 6]):=Lib.hid (by rw [resV,hres]);have HVS:Hid (resS s c=s):=Lib.hid (by rw [resS,hres]);clear h1 h2 hres;go_enter Tryz.func83,Tryz.ntmps83
     go_wp2_with fail
     refine HN.out.mono ?_;rintro e w'⟨rfl,rfl⟩
     go_wp2_with fail
     refine HB.out.mono ?_;rintro e w'⟨rfl,rfl⟩
     go_wp2_with fail
     refine HSo.out.mono ?_;rintro e w1⟨rfl,g,cc,Ls,htri,hper⟩;have HTr:=Lib.hid htri;have HPe:=Lib.hid hper;clear htri hper HSo HB HN
     go_wp2_with fail
     rw [run_look Tryz.boxMap Tryz.underlying3 _ _ (ent3 w.heap.size) 3 _ c _ HTr.out.map (HFi.out c (by omega))]
     go_wp2_with fail
     refine(reserve_find HA.out HTB.out c hc1 hc2 HTr.out HPe.out c (by omega)).mono ?_;rintro e w2⟨rfl,hb2,hord,hmap⟩;rw [H1.out];have ho0:=hord 0 (by omega) (by omega);rw [show w.heap.size+2+2*0=w.heap.size+2 from rfl]at ho0;have HMap:=Lib.hid hmap;have HO0:=Lib.hid ho0;clear hord hmap ho0
     go_wp2_with fail
     rw [run_look Tryz.boxMap Tryz.underlying3 _ _ (ent3 w.heap.size) 3 0 0 (.pointer (some ⟨w.heap.size+2,0,none⟩)) HMap.out rfl]
     go_wp2_with fail
     refine(first_pool HA.out HTB.out c (by omega) hb2 HO0.out (fun x hx=> ?_) (HTr.out.heap 0 (by omega))).mono ?_
     ·have:=(HPe.out 0 (by omega)).mem_iff.1 hx;simp [candN]at this;exact this.1
     rintro e w3⟨r,rfl,hr3,ht3⟩;have hrr:r=none:=by rw [←first_is hn (HPe.out 0 (by omega)) hr3];exact H2.out
     subst hrr;have hgk:=HO0.out.glt;have hok:=HO0.out.hB;replace hb2:=hb2.trans (ht3.below hb2.size (fun b hb=>by rcases hb with rfl| rfl;exact hok;exact hgk.1));clear ht3 hr3 hgk hok HO0 HMap;rw [show firstV none= .tuple #[.int .i64 0,.bool false]from rfl]
     go_wp2_with fail
     go_ret2;refine⟨by rw [HV.out];rfl,?_,Moved.of_below hb2⟩;rw [HVS.out];exact HS.out.below hb2
structure IxL(len:SMode)(w:World)(x d p L:Nat)(s:St)(F:Nat→Prop):Prop where
 sys:SysL len w d p L s F
 box:Blk w x 119 [.pointer (some ⟨d,0,none⟩),.pointer (some ⟨p,0,none⟩)]
 out:¬F x
abbrev Ix:=IxL (.up M0)
section
variable{len:SMode}{w w':World}{x d p L:Nat}{s:St}{F:Nat→Prop}
theorem IxL.below(h:IxL len w x d p L s F)(k:Below w.heap.size w w'):IxL len w' x d p L s F:=⟨h.sys.below k,h.box.below k h.box.lt,h.out⟩
theorem IxL.move{len':SMode}(h:IxL len w x d p L s F){s':St}{F':Nat→Prop}(hs:SysL len' w' d p L s' F')(m:Moved F F' w w'):IxL len' w' x d p L s' F':=
 ⟨hs,h.box.touch m.touch h.out,fun h'=>(m.own x h').elim h.out (fun h''=>by have:=h.box.lt;omega)⟩
theorem IxL.L0(h:IxL len w x d p L s F):0<L∧L≤1024∧ShOk L s.sh∧s.tk.length=s.sh.slabs:=by
 obtain⟨_,_,_,_,_,_,hr,_⟩:=h.sys;exact⟨hr.L0,hr.L1,shape_ok hr.shape,by rw [hr.ntk,hr.nsh]⟩
theorem ask_index(h:IxL len w x d p L s F)(key:ByteArray)(hk:key.size≤1000000):Calls Tryz.prog 22 #[.pointer (some ⟨x,0,none⟩),.string key] w fun e w'=>e= .returned (.int .i64 (if 16<key.size then 3 else 0))∧w=w':=by
 have y0:=h.box.cell 0;simp only [List.getElem?_cons_zero]at y0;clear h;by_cases h1:16<key.size
 ·have t1:decide ((16:Int)<(key.size:Int))=true:=decide_eq_true (by omega);rw [if_pos h1];go_enter Tryz.func22,Tryz.ntmps22;go_wp2;go_ret;exact⟨rfl,rfl⟩
 ·have t1:decide ((16:Int)<(key.size:Int))=false:=decide_eq_false (by omega);rw [if_neg h1];go_enter Tryz.func22,Tryz.ntmps22;go_wp2;go_ret;exact⟨rfl,rfl⟩
theorem root_index{len:Mode}(h:IxL len w x d p L s F):Calls Tryz.prog 44 #[.pointer (some ⟨x,0,none⟩)] w fun e w'=>e= .returned (.tuple #[.int .u64 ((s.ws 9).toNat:Int),.int .i64 0])∧Below w.heap.size w w':=by
 have y0:=h.box.cell 0;simp only [List.getElem?_cons_zero]at y0;obtain⟨l0,l1,ok,_⟩:=h.L0;have HG:=sys_get h.sys 9 1 (by have:=ok.fits;have:=ok.tfits;have:=ok.slabs;omega);rw [show((8*9:Nat):Int)=72 from rfl,show((1:Nat):Int)=1 from rfl]at HG;have HG:=Lib.hid HG;clear h ok;go_enter Tryz.func44,Tryz.ntmps44
 go_wp2_with fail
 refine HG.out.mono ?_;rintro e w1⟨v,rfl,ho,hb⟩;obtain⟨A,c,rfl,hc,hr⟩:=rd_of_own ho;obtain⟨g,rfl,hg,hgl⟩:=own_addr ho (by omega);have hc0:w1.cell? ⟨g,0,none⟩=some (.int .u64 ((s.ws 9).toNat:Int)):=by
  obtain⟨b,off,e,_,hcc⟩:=hr.2 (by omega);injection e with e;injection e with e1 e2;subst e1 e2
  rw [hcc 0 (by omega)];simp [wordsAt,wv]
 clear HG ho hr
 go_wp2_with fail
 go_ret2;exact⟨rfl,hb⟩
end
theorem lines_pos{c:Nat}(h:linesN c≠0):c=1∨c=2:=by
 unfold linesN at h;split at h<;>simp_all
theorem kind_or(a b:Nat):kindN (a||| b)=kindN a||| kindN b:=by
 unfold kindN fieldN;rw [Nat.or_div_two_pow,Nat.or_mod_two_pow]
theorem kind_lt(a:Nat):kindN a<4:=by
 unfold kindN fieldN;exact Nat.mod_lt _ (by decide)
theorem class_both{a b:Nat}(h1:linesN (classW (a||| b))≠0)(h2:linesN (classW a)≠0):classW a=classW (a||| b):=by
 have p1:=lines_pos h1;have p2:=lines_pos h2;have e1:classW (a||| b)=kindN (a||| b):=by
  unfold classW;split
  ·rfl
  ·rename_i hr;unfold classW at p1;simp [hr]at p1
 have e2:classW a=kindN a:=by
  unfold classW;split
  ·rfl
  ·rename_i hr;unfold classW at p2;simp [hr]at p2
 rw [e1,kind_or]at p1;rw [e2]at p2;rw [e1,e2,kind_or];have hb:=kind_lt b;generalize kindN a=x at*;generalize kindN b=y at*;have:y=0∨y=1∨y=2∨y=3:=by omega
 rcases p2 with rfl| rfl<;>rcases this with rfl| rfl| rfl| rfl<;>simp_all
theorem class_at{s:St}{off:Int}(h:linesN (classP s off)≠0):∃i a,i<s.tk.length∧off=((s.sh.data+1024*i+64*linesN (classP s off)*a:Nat):Int)∧(linesN (classP s off)=1∨linesN (classP s off)=4)∧linesN (classP s off)*a+linesN (classP s off)≤16:=by
 cases hf:findP s off with
 | none=>rw [classP,hf]at h;exact absurd rfl h
 | some ia=>
   obtain⟨i,a⟩:=ia;obtain⟨hi,ha,ho,hl,hfit⟩:=findP_some hf;rw [classP,hf]at h
   dsimp only at h
   split at h
   ·rename_i hh;have e:classP s off=classW (bothN s i):=by
     rw [classP,hf];dsimp only;rw [if_pos hh];exact class_both (by rw [bothN]at hl;omega) h
    rw [e];refine⟨i,a,hi,ho,?_,hfit⟩;rcases lines_pos (c:=classW (bothN s i)) (by omega)with k| k<;>rw [k]<;>simp [linesN]
   ·exact absurd rfl h
theorem wordsN_lines(c:Nat):wordsN (c:Int)=((8*linesN c:Nat):Int):=by
 unfold wordsN linesN;split
 ·rename_i h;have:c=1:=by omega
  subst this;rfl
 ·rename_i h1;split
  ·rename_i h2;have:c=2:=by omega
   subst this;rfl
  ·rename_i h2;split
   ·simp at h1
   ·simp at h2
   ·rfl
def NdV(w:World)(base:Nat)(v:Value)(x:Nd):Prop:=
 ∃A1 c1 A2 c2 A3 c3,v= .agg #[.slice A1 x.pre.length c1,.int .u64 (x.val.toNat:Int),.slice A2 x.labels.length c2,.slice A3 x.kids.length c3]∧
  w.ownsRow base 5 1 (.slice A1 x.pre.length c1) x.pre.length (x.pre.map bv)∧w.ownsRow base 5 1 (.slice A2 x.labels.length c2) x.labels.length (x.labels.map bv)∧w.ownsRow base 23 1 (.slice A3 x.kids.length c3) x.kids.length (x.kids.map wv)
theorem node_ret{Q:Ending→World→Prop}{W:World}{tmps:Array Value}{fn:Func}(hr:fn.results= #[.cell 4 72,.tmp 5])(g:Nat){a b c d:Value}(h:Blk W g 72 [a,b,c,d])(v:Value)(h2:tmps[4]? =some (.pointer (some ⟨g,0,none⟩)))(h3:tmps[5]? =some v)
 (hq:Q (.returned (.tuple #[.agg #[a,b,c,d],v])) W):bodyPost Tryz.prog fn Q Exit.ret {tmps:=tmps,defers:=[]} W:=by
 obtain⟨y0,y1,y2,y3,f0,f1,f2,f3⟩:=blk4' h;have hu:=run_underlying (P:=Tryz.prog) Tryz.underlying72;refine bodyPost_ret (v:= .tuple #[.agg #[a,b,c,d],v]) (by simp [results,hr,go_sem,h2,h3,y0,y1,y2,y3]) rfl hq
section
variable{len:Mode}{w w':World}{x d p L:Nat}{s:St}{F:Nat→Prop}
def ReadPost(s:St)(name:UInt64)(w:World)(e:Ending)(w':World):Prop:=
 Below w.heap.size w w'∧match readP s name with
  | none=>e= .returned (.tuple #[.agg #[.slice none 0 0,.int .u64 0,.slice none 0 0,.slice none 0 0],.int .i64 5])
  | some nd=>∃v,e= .returned (.tuple #[v,.int .i64 0])∧NdV w' w.heap.size v nd
set_option maxHeartbeats 4000000 in
set_option maxRecDepth 100000 in
theorem read_index(h:IxL len w x d p L s F)(name:UInt64):Calls Tryz.prog 45 #[.pointer (some ⟨x,0,none⟩),.int .u64 (name.toNat:Int)] w (ReadPost s name w):=by
 have HX:=Lib.hid h;obtain⟨l0,l1,ok,hntk⟩:=h.L0;have hwr:IntKind.i64.wrap (name.toNat:Int)=offOf name:=rfl;have ho: -9223372036854775808≤offOf name∧offOf name≤9223372036854775807:=by
  have hlt:=name.toNat_lt;unfold offOf;simp only [IntKind.wrap,IntKind.bits,IntKind.signed,Bool.true_and,decide_eq_true_eq,show(2:Int)^(64-1)=9223372036854775808 from rfl,show(2:Int)^64=18446744073709551616 from rfl];constructor<;>split<;>omega
 have hxlt:=h.box.lt;obtain⟨off,hoff⟩:∃off,off=offOf name:=⟨_,rfl⟩;rw [←hoff]at hwr ho;clear h;have HCl:=Lib.hid (fun(W:World)(hW:Below w.heap.size w W)=>by
  obtain⟨tb,hb,n,cT,cH,own,hr, -⟩:=(HX.out.below hW).sys;exact class_pool hr.at off ho)
 have y0:=HX.out.box.cell 0;have y1:=HX.out.box.cell 1;simp only [List.getElem?_cons_zero,List.getElem?_cons_succ]at y0 y1;have B0:Blk (w.alloc (.cells #[.slice none 0 0,.int .u64 0,.slice none 0 0,.slice none 0 0] 72)) w.heap.size 72 [.slice none 0 0,.int .u64 0,.slice none 0 0,.slice none 0 0]:=heap_alloc_new _ _;have hb0:Below w.heap.size w (w.alloc (.cells #[.slice none 0 0,.int .u64 0,.slice none 0 0,.slice none 0 0] 72)):=(Below.refl _ _).alloc (Nat.le_refl _) _;by_cases hc0:linesN (classP s off)=0
 ·have HR:Hid (readP s name=none):=Lib.hid (by rw [readP,←hoff,if_pos hc0]);clear hoff ok hntk;go_enter Tryz.func45,Tryz.ntmps45
  go_wp2_with fail
  generalize w.alloc (.cells #[.slice none 0 0,.int .u64 0,.slice none 0 0,.slice none 0 0] 72)=W0 at*;refine(HCl.out W0 hb0).mono ?_;rintro e w1⟨rfl,hd⟩;have hb1:=hb0.trans ((hd.below W0.heap.size).mono hb0.size);have B1:=B0.below (hd.below _) B0.lt;clear B0 hb0 hd
  go_wp2_with fail
  refine(words_any _ _).mono ?_;rintro e w2⟨rfl,rfl⟩;rw [wordsN_lines,hc0];clear HCl HX y0 y1 hc0;obtain⟨k0,k1,k2,k3,f0,f1,f2,f3⟩:=blk4' B1
  go_wp2_with fail
  have BF:=(((B1.set_ 0 (Value.slice none 0 0)).set_ 1 (Value.int .u64 0)).set_ 2 (Value.slice none 0 0)).set_ 3 (Value.slice none 0 0);have hbF:=(((hb1.setCell (p:=⟨w.heap.size,0,none⟩) (Nat.le_refl _) (Value.slice none 0 0)).setCell (p:=⟨w.heap.size,1,none⟩) (Nat.le_refl _) (Value.int .u64 0)).setCell (p:=⟨w.heap.size,2,none⟩) (Nat.le_refl _) (Value.slice none 0 0)).setCell (p:=⟨w.heap.size,3,none⟩) (Nat.le_refl _) (Value.slice none 0 0);refine node_ret rfl w.heap.size BF (.int .i64 5) rfl rfl ⟨hbF,?_⟩;rw [HR.out]
 ·obtain⟨i,a,hi,hoffe,hk,hfit⟩:=class_at hc0;have HRN:Hid (readP s name=if decOk (wordsAt s.ws (off.toNat/8) (8*linesN (classP s off)))then some (cand (wordsAt s.ws (off.toNat/8) (8*linesN (classP s off))))else none):=Lib.hid (by rw [readP,←hoff,if_neg hc0]);have hj:off=((8*(off.toNat/8):Nat):Int)∧off.toNat/8+8*linesN (classP s off)≤8*L:=by
   have:=ok.data;have:=ok.fits;have:=ok.slabs;rw [hntk]at hi;rcases hk with k| k<;>rw [k]at hoffe hfit⊢<;>omega
  obtain⟨j,hjd⟩:∃j,j=off.toNat/8:=⟨_,rfl⟩;rw [←hjd]at hj HRN;obtain⟨hj1,hj2⟩:=hj;have HG:=Lib.hid (fun(W:World)(hW:Below w.heap.size w W)=>sys_get (HX.out.below hW).sys j (8*linesN (classP s off)) hj2);rw [←hj1]at HG;have t1:(((8*linesN (classP s off):Nat):Int)==0)=false:=by rw [beq_eq_false_iff_ne];omega
  have HK:Hid (8*linesN (classP s off)≤1000000):=Lib.hid (by rcases hk with k| k<;>omega);obtain⟨m,hm⟩:∃m,m=8*linesN (classP s off):=⟨_,rfl⟩;have HWd:Hid (wordsN (classP s off:Int)=(m:Int)):=Lib.hid (by rw [wordsN_lines,hm]);rw [←hm]at HG t1 HK HRN;clear hoff ok hntk hk hfit hoffe hi hj1 hj2 hjd hc0 hm;go_enter Tryz.func45,Tryz.ntmps45
  go_wp2_with fail
  generalize w.alloc (.cells #[.slice none 0 0,.int .u64 0,.slice none 0 0,.slice none 0 0] 72)=W0 at*;refine(HCl.out W0 hb0).mono ?_;rintro e w1⟨rfl,hd⟩;have hb1:=hb0.trans ((hd.below W0.heap.size).mono hb0.size);have B1:=B0.below (hd.below _) B0.lt;have z0:w1.cell? ⟨x,0,none⟩=some (.pointer (some ⟨d,0,none⟩)):=(hb1.cell (p:=⟨x,0,none⟩) hxlt).trans y0;clear B0 hb0 hd
  go_wp2_with fail
  refine(words_any _ _).mono ?_;rintro e w2⟨rfl,rfl⟩;rw [HWd.out];clear HCl HX y0 y1;obtain⟨k0,k1,k2,k3,f0,f1,f2,f3⟩:=blk4' B1
  go_wp2_with fail
  refine(HG.out w1 hb1).mono ?_;rintro e w2⟨v,rfl,hown,hb2⟩;obtain⟨A,c,rfl,hc,hr⟩:=rd_of_own hown;have hb2':=hb1.trans (hb2.mono hb1.size);have hlt2:w.heap.size<w2.heap.size:=Nat.lt_of_lt_of_le B1.lt hb2.size;have B2:=B1.below hb2 B1.lt;clear HG hown k0 k1 k2 k3 f0 f1 f2 f3 z0 B1;have hr':=Lib.hid hr;clear hr
  go_wp2_with fail
  refine(decode_any A m c _ w2 HK.out hc hr'.out).mono ?_;rintro e w3⟨hb3,hpost⟩;have B3:=B2.below hb3 B2.lt;have hb3':=hb2'.trans (hb3.mono hb2'.size);have hw2:=hb2'.size;cases hdk:decOk (wordsAt s.ws j m)
  ·have HR:Hid (readP s name=none):=Lib.hid (by rw [HRN.out,hdk];rfl);rw [hdk]at hpost;replace hpost:e= .returned (.tuple #[.agg #[.slice none 0 0,.int .u64 0,.slice none 0 0,.slice none 0 0],.bool false]):=hpost;subst hpost;clear HRN HK hdk hr' HWd;have B4:Blk (w3.alloc (.cells #[Value.slice none 0 0,Value.int .u64 0,Value.slice none 0 0,Value.slice none 0 0] 72)) w.heap.size _ _:=B3.below ((Below.refl w3.heap.size w3).alloc (Nat.le_refl _) _) B3.lt;have hb4:Below w.heap.size w (w3.alloc (.cells #[Value.slice none 0 0,Value.int .u64 0,Value.slice none 0 0,Value.slice none 0 0] 72)):=hb3'.trans (((Below.refl w3.heap.size w3).alloc (Nat.le_refl _) _).mono hb3'.size);clear B2 B3 hb1 hb2 hb2' hb3;obtain⟨k0,k1,k2,k3,f0,f1,f2,f3⟩:=blk4' B4
   go_wp2_with fail
   have BF:=(((B4.set_ 0 (Value.slice none 0 0)).set_ 1 (Value.int .u64 0)).set_ 2 (Value.slice none 0 0)).set_ 3 (Value.slice none 0 0);have hbF:=(((hb4.setCell (p:=⟨w.heap.size,0,none⟩) (Nat.le_refl _) (Value.slice none 0 0)).setCell (p:=⟨w.heap.size,1,none⟩) (Nat.le_refl _) (Value.int .u64 0)).setCell (p:=⟨w.heap.size,2,none⟩) (Nat.le_refl _) (Value.slice none 0 0)).setCell (p:=⟨w.heap.size,3,none⟩) (Nat.le_refl _) (Value.slice none 0 0);refine node_ret rfl w.heap.size BF (.int .i64 5) rfl rfl ⟨hbF,?_⟩;rw [HR.out]
  ·have HR:Hid (readP s name=some (cand (wordsAt s.ws j m))):=Lib.hid (by rw [HRN.out,hdk];rfl);rw [hdk]at hpost;obtain⟨A1,c1,A2,c2,A3,c3,rfl,hc1,hc2,hc3,hB1,hB2,hB3,o1,o2,o3⟩:=hpost;have HO:=Lib.hid (And.intro o1 (And.intro o2 o3));clear hB1 hB2 hB3 hc1 hc2 hc3 o1 o2 o3 HRN HK hdk hr' HWd;generalize cand (wordsAt s.ws j m)=nd at*;have B4:Blk (w3.alloc (.cells #[Value.slice A1 nd.pre.length c1,Value.int .u64 (nd.val.toNat:Int),Value.slice A2 nd.labels.length c2,Value.slice A3 nd.kids.length c3] 72)) w.heap.size _ _:=B3.below ((Below.refl w3.heap.size w3).alloc (Nat.le_refl _) _) B3.lt;have hb4:Below w.heap.size w (w3.alloc (.cells #[Value.slice A1 nd.pre.length c1,Value.int .u64 (nd.val.toNat:Int),Value.slice A2 nd.labels.length c2,Value.slice A3 nd.kids.length c3] 72)):=hb3'.trans (((Below.refl w3.heap.size w3).alloc (Nat.le_refl _) _).mono hb3'.size);clear B2 B3 hb1 hb2 hb2' hb3;obtain⟨k0,k1,k2,k3,f0,f1,f2,f3⟩:=blk4' B4
   go_wp2_with fail
   have BF:=(((B4.set_ 0 (Value.slice A1 nd.pre.length c1)).set_ 1 (Value.int .u64 (nd.val.toNat:Int))).set_ 2 (Value.slice A2 nd.labels.length c2)).set_ 3 (Value.slice A3 nd.kids.length c3);have hbF:=(((hb4.setCell (p:=⟨w.heap.size,0,none⟩) (Nat.le_refl _) (Value.slice A1 nd.pre.length c1)).setCell (p:=⟨w.heap.size,1,none⟩) (Nat.le_refl _) (Value.int .u64 (nd.val.toNat:Int))).setCell (p:=⟨w.heap.size,2,none⟩) (Nat.le_refl _) (Value.slice A2 nd.labels.length c2)).setCell (p:=⟨w.heap.size,3,none⟩) (Nat.le_refl _) (Value.slice A3 nd.kids.length c3);refine node_ret rfl w.heap.size BF (.int .i64 0) rfl rfl ⟨hbF,?_⟩;rw [HR.out];obtain⟨o1,o2,o3⟩:=HO.out;have al:Below w3.heap.size w3 (w3.alloc (.cells #[Value.slice A1 nd.pre.length c1,Value.int .u64 (nd.val.toNat:Int),Value.slice A2 nd.labels.length c2,Value.slice A3 nd.kids.length c3] 72)):=(Below.refl _ _).alloc (Nat.le_refl _) _;have hlt:w.heap.size<w2.heap.size:=by omega
   have up:∀{e:TypeId}{v:Value}{n:Nat}{xs:List Value},w3.ownsRow w2.heap.size e 1 v n xs→World.ownsRow (((((w3.alloc (.cells #[Value.slice A1 nd.pre.length c1,Value.int .u64 (nd.val.toNat:Int),Value.slice A2 nd.labels.length c2,Value.slice A3 nd.kids.length c3] 72)).setCell ⟨w.heap.size,0,none⟩ (Value.slice A1 nd.pre.length c1)).setCell ⟨w.heap.size,1,none⟩ (Value.int .u64 (nd.val.toNat:Int))).setCell ⟨w.heap.size,2,none⟩ (Value.slice A2 nd.labels.length c2)).setCell ⟨w.heap.size,3,none⟩ (Value.slice A3 nd.kids.length c3)) w.heap.size e 1 v n xs:=fun o=>
    own_dn (own_far (own_far (own_far (own_far (own_below o al) hlt _ _) hlt _ _) hlt _ _) hlt _ _) (Nat.le_of_lt hlt)
   exact⟨_,rfl,A1,c1,A2,c2,A3,c3,rfl,up o1,up o2,up o3⟩
end
theorem Tryz.placeTyK:RowTyK Tryz.prog 67 74 (.agg #[.slice none 0 0,.int .u64 0,.slice none 0 0,.slice none 0 0,.int .i64 0,.int .u8 0,.int .i64 0]) 7 104:=⟨Tryz.underlying67,by kernel_rfl,rfl⟩
def SameBut(e:TypeId)(w w':World):Prop:=w.heap.size≤w'.heap.size∧∀j,j<w.heap.size→(∃cs fz,w.heap[j]? =some (.cells cs e fz))∨w'.heap[j]? =w.heap[j]?
theorem SameBut.refl(e:TypeId)(w:World):SameBut e w w:=⟨Nat.le_refl _,fun _ _=> .inr rfl⟩
theorem SameBut.of_below{e:TypeId}{w w':World}(h:Below w.heap.size w w'):SameBut e w w':=⟨h.size,fun j hj=> .inr (h.block j hj)⟩
theorem SameBut.trans{e:TypeId}{a b c:World}(h:SameBut e a b)(k:SameBut e b c):SameBut e a c:=by
 refine⟨Nat.le_trans h.1 k.1,fun j hj=> ?_⟩;rcases h.2 j hj with h'| h'
 ·exact .inl h'
 ·rcases k.2 j (Nat.lt_of_lt_of_le hj h.1)with⟨cs,fz,k'⟩| k'
  ·exact .inl ⟨cs,fz,h'▸k'⟩
  ·exact .inr (k'.trans h')
theorem SameBut.set_{e:TypeId}{w:World}{g:Nat}{xs:List Value}(h:Blk w g e xs)(i:Nat)(u:Value):SameBut e w (w.setCell ⟨g,i,none⟩ u):=by
 refine⟨by simp [World.setCell,Array.size_modify],fun j hj=> ?_⟩;by_cases hjg:j=g
 ·exact .inl ⟨_,_,hjg▸h⟩
 ·exact .inr (by simp only [World.setCell,Array.getElem?_modify];rw [if_neg (fun e=>hjg e.symm)])
theorem SameBut.kept{e:TypeId}{w w':World}{base k n:Nat}{v:Value}{xs:List Value}(h:w.ownsRow base e k v n xs)(hk:Kept w w' v.ownBlock):SameBut e w w':=by
 refine⟨hk.1,fun j hj=> ?_⟩;by_cases hjv:some j=v.ownBlock
 ·rcases h.2 with⟨h1,_⟩| ⟨g,cap,cur,h1,_,h3,_⟩
  ·subst h1;simp [Value.ownBlock]at hjv
  ·subst h1;simp [Value.ownBlock]at hjv;subst hjv;exact .inl ⟨_,_,h3⟩
 ·exact .inr (hk.2 j hj hjv)
theorem SameBut.own{e f:TypeId}(hef:f≠e){w w':World}{base k n:Nat}{v:Value}{xs:List Value}(s:SameBut e w w')(h:w.ownsRow base f k v n xs):w'.ownsRow base f k v n xs:=by
 refine⟨h.1,?_⟩;rcases h.2 with h1| ⟨g,cap,cur,h1,h2,h3,h4⟩
 ·exact .inl h1
 ·refine .inr ⟨g,cap,cur,h1,h2,?_,h4⟩;rcases s.2 g (Array.getElem?_eq_some_iff.1 h3).1 with⟨cs,fz,h'⟩| h'
  ·rw [h3]at h';injection h' with h';injection h' with _ h'';exact absurd h'' hef
  ·rw [h',h3]
theorem SameBut.nd{w w':World}{base:Nat}{v:Value}{x:Nd}(s:SameBut 74 w w')(h:NdV w base v x):NdV w' base v x:=by
 obtain⟨A1,c1,A2,c2,A3,c3,e,h1,h2,h3⟩:=h;exact⟨A1,c1,A2,c2,A3,c3,e,s.own (by decide) h1,s.own (by decide) h2,s.own (by decide) h3⟩
theorem NdV.mono{w:World}{base base':Nat}{v:Value}{x:Nd}(h:NdV w base v x)(hb:base'≤base):NdV w base' v x:=by
 obtain⟨A1,c1,A2,c2,A3,c3,e,h1,h2,h3⟩:=h;exact⟨A1,c1,A2,c2,A3,c3,e,own_mono h1 hb,own_mono h2 hb,own_mono h3 hb⟩
def PlV(w:World)(base:Nat)(cs:List Value)(pl:Pl):Prop:=
 ∃a b c d,cs=[a,b,c,d,.int .i64 pl.off,.int .u8 (pl.label.toNat:Int),.int .i64 pl.word]∧NdV w base (.agg #[a,b,c,d]) pl.nd
def PlsV(w:World)(base:Nat):List (List Value)→List Pl→Prop
 | [],[]=>True
 | c::cs,p::ps=>PlV w base c p∧PlsV w base cs ps
 | _,_=>False
theorem SameBut.pl{w w':World}{base:Nat}{cs:List Value}{p:Pl}(s:SameBut 74 w w')(h:PlV w base cs p):PlV w' base cs p:=by
 obtain⟨a,b,c,d,e,h⟩:=h;exact⟨a,b,c,d,e,s.nd h⟩
theorem SameBut.pls{w w':World}{base:Nat}(s:SameBut 74 w w'):∀(vs:List (List Value))(ps:List Pl),PlsV w base vs ps→PlsV w' base vs ps
 | [],[],_=>trivial
 | _::vs,_::ps,h=>⟨s.pl h.1,s.pls vs ps h.2⟩
 | [],_::_,h=>h.elim
 | _::_,[],h=>h.elim
theorem PlsV.app{w:World}{base:Nat}{c:List Value}{p:Pl}(hp:PlV w base c p):∀(vs:List (List Value))(ps:List Pl),PlsV w base vs ps→PlsV w base (vs++[c]) (ps++[p])
 | [],[],_=>⟨hp,trivial⟩
 | _::vs,_::ps,h=>⟨h.1,PlsV.app hp vs ps h.2⟩
 | [],_::_,h=>h.elim
 | _::_,[],h=>h.elim
def WayAt(w:World)(base:Nat)(v:Value)(way:List Pl):Prop:=
 ∃vs,w.ownsRow base 74 7 v way.length (vs.flatten)∧PlsV w base vs way
theorem WayAt.nil(w:World)(base:Nat):WayAt w base (.slice none 0 0) []:=⟨[],World.ownsRow_nil _ _ _ _,trivial⟩
theorem WayAt.app{w w':World}{base:Nat}{v':Value}{way:List Pl}{vs:List (List Value)}{c:List Value}{p:Pl}(h:PlsV w base vs way)(hp:PlV w base c p)(s:SameBut 74 w w')
 (ho:w'.ownsRow base 74 7 v' (way.length+1) (vs.flatten++c)):WayAt w' base v' (way++[p]):=
 ⟨vs++[c],by simpa using ho,(s.pls vs way h).app (s.pl hp)⟩
def RsAt(w:World)(base:Nat)(A:Option Addr)(l:List UInt8):Prop:=
 Bs w A l.length l∧∀g off,A=some ⟨g,off,none⟩→base≤g∧∃cs fz,w.heap[g]? =some (.cells cs 5 fz)
theorem SameBut.rs{w w':World}{base:Nat}{A:Option Addr}{l:List UInt8}(s:SameBut 74 w w')(h:RsAt w base A l):RsAt w' base A l:=by
 have key:∀g off,A=some ⟨g,off,none⟩→w'.heap[g]? =w.heap[g]? :=fun g off e=>by
  obtain⟨_,cs,fz,hg⟩:=h.2 g off e;rcases s.2 g (Array.getElem?_eq_some_iff.1 hg).1 with⟨cs',fz',h'⟩| h'
  ·rw [hg]at h';injection h' with h';injection h' with _ h'';exact absurd h'' (by decide)
  ·exact h'
 refine⟨⟨h.1.1,fun hn=> ?_⟩,fun g off e=> ?_⟩
 ·obtain⟨b,off,e,hb,hc⟩:=h.1.2 hn;exact⟨b,off,e,Nat.lt_of_lt_of_le hb s.1,fun j hj=>(World.cell?_of_block (w:=w) (key b off e)).trans (hc j hj)⟩
 ·obtain⟨h1,cs,fz,hg⟩:=h.2 g off e;exact⟨h1,cs,fz,(key g off e).trans hg⟩
theorem RsAt.of_own{w:World}{base n c:Nat}{A:Option Addr}{l:List UInt8}(h:w.ownsRow base 5 1 (.slice A n c) n (l.map bv))(hn:n=l.length):RsAt w base A l:=by
 subst hn;refine⟨(rd_own h).2,fun g off e=> ?_⟩;rcases h.2 with⟨h1,_⟩| ⟨g',cap,cur,h1,h2,h3,_⟩
 ·simp only [Value.slice.injEq]at h1;rw [h1.1]at e;cases e
 ·simp only [Value.slice.injEq]at h1;rw [h1.1]at e;injection e with e;injection e with e1 e2;subst e1;exact⟨h2,_,_,h3⟩
theorem RsAt.drop{w:World}{base g off:Nat}{l:List UInt8}(h:RsAt w base (some ⟨g,off,none⟩) l)(k:Nat)(hk:k≤l.length):RsAt w base (some ⟨g,off+k,none⟩) (l.drop k):=by
 refine⟨⟨by simp,fun hn=> ?_⟩,fun g' off' e=> ?_⟩
 ·simp only [List.length_drop]at hn;obtain⟨b,off',e,hb,hc⟩:=h.1.2 (by omega);injection e with e;injection e with e1 e2;subst e1 e2
  refine⟨_,_,rfl,hb,fun j hj=> ?_⟩;simp only [List.length_drop]at hj;rw [Nat.add_assoc,hc (k+j) (by omega),List.map_drop,List.getElem?_drop]
 ·injection e with e;injection e with e1 e2;subst e1
  exact h.2 _ _ rfl
theorem RsAt.cut{w:World}{base b off c:Nat}{l:List UInt8}(h:RsAt w base (some ⟨b,off,none⟩) l)(k:Nat)(hk:k≤l.length)(hc:l.length≤c):RsAt w base (if c=k then some ⟨b,off,none⟩else some ⟨b,off+k,none⟩) (l.drop k):=by
 split
 ·refine⟨⟨by simp,fun hn=> ?_⟩,h.2⟩;simp only [List.length_drop]at hn;omega
 ·exact h.drop k hk
theorem Kept.trans'{a b c:World}{r:Option Nat}(h:Kept a b r)(k:Kept b c r):Kept a c r:=
 ⟨Nat.le_trans h.1 k.1,fun j hj hr=>(k.2 j (Nat.lt_of_lt_of_le hj h.1) hr).trans (h.2 j hj hr)⟩
theorem Kept.of_below{a b:World}{r:Option Nat}(h:Below a.heap.size a b):Kept a b r:=⟨h.size,fun j hj _=>h.block j hj⟩
theorem Kept.set_(w:World)(g i:Nat)(u:Value):Kept w (w.setCell ⟨g,i,none⟩ u) (some g):=
 ⟨by simp [World.setCell,Array.size_modify],fun j _ hr=>by simp only [World.setCell,Array.getElem?_modify];rw [if_neg (fun e=>hr (by rw [e]))]⟩
theorem own_stay{w w':World}{base k n:Nat}{e:TypeId}{v:Value}{xs:List Value}{r:Option Nat}(h:w.ownsRow base e k v n xs)(hk:Kept w w' r)(hn:r≠v.ownBlock∨v.ownBlock=none):w'.ownsRow base e k v n xs:=by
 refine⟨h.1,?_⟩
 rcases h.2 with h1| ⟨g,cap,cur,h1,h2,h3,h4⟩
 ·exact .inl h1
 ·refine .inr ⟨g,cap,cur,h1,h2,?_,h4⟩
  subst h1
  rw [hk.2 g (Array.getElem?_eq_some_iff.1 h3).1 (fun e=>by rcases hn with hn| hn
                                                            ·exact hn (by rw [←e];rfl)
                                                            ·simp [Value.ownBlock]at hn)]
  exact h3
def lenOf:Value→Nat
 | .slice _ n _=>n
 | _=>0
def PathPost(s:St)(key:List UInt8)(w:World)(e:Ending)(w':World):Prop:=
 Below w.heap.size w w'∧match pathP s key with
  | none=>e= .returned (.tuple #[.slice none 0 0,.slice none 0 0,.int .i64 5])
  | some (way,rest)=>∃vw A c,e= .returned (.tuple #[vw,.slice A rest.length c,.int .i64 0])∧WayAt w' w.heap.size vw way∧RsAt w' w.heap.size A rest∧rest.length≤c
theorem nibs_len(l:List UInt8):(nibs l).length=2*l.length:=by
 induction l with
 | nil=>rfl
 | cons a t ih=>simp [nibs]at ih⊢;omega
def PathAt(s:St)(_:Nat)(key:List UInt8)(w:World)(pb:Nat)(u7 u8 u10:Value)(wr:World):Prop:=
 ∃(f:Nat)(A:Option Addr)(c:Nat)(rest:List UInt8)(name:UInt64)(label:UInt8)(word:Int)(way:List Pl)(a0 a1 a2 a3 a4:Value),
  u7= .slice A rest.length c∧u8= .int .u64 (name.toNat:Int)∧pathGo s f name rest label word way=pathP s key∧rest.length<f∧rest.length≤c∧way.length+rest.length≤2*key.length∧
  Blk wr pb 74 [a0,a1,a2,a3,a4,.int .u8 (label.toNat:Int),.int .i64 word]∧WayAt wr w.heap.size u10 way∧(some pb≠u10.ownBlock)∧RsAt wr w.heap.size A rest∧Below w.heap.size w wr
theorem cand_lens(l:List UInt64):(cand l).kids.length≤16∧(cand l).labels.length≤16:=by
 unfold cand;split
 ·unfold cand8 candS
  dsimp only
  split<;>simp [digits_length]<;>omega
 ·unfold cand32;have:=collK_le ((l.drop 4).take 16);simp at this;simp [coll_length];omega
theorem read_lens{s:St}{name:UInt64}{nd:Nd}(h:readP s name=some nd):nd.pre.length≤15∧nd.kids.length≤16∧nd.labels.length≤16:=by
 unfold readP at h;split at h
 ·cases h
 ·split at h
  ·rename_i hd;injection h with h
   subst h;refine⟨?_,(cand_lens _).1,(cand_lens _).2⟩;unfold decOk at hd;simp only [Bool.and_eq_true]at hd;exact((rightB_iff _).1 hd.2.1).1
  ·cases h
theorem cell7{w:World}{g:Nat}{e:TypeId}{a b c d k l m:Value}(h:Blk w g e [a,b,c,d,k,l,m]):w.cell? ⟨g,0,none⟩=some a∧w.cell? ⟨g,1,none⟩=some b∧w.cell? ⟨g,2,none⟩=some c∧w.cell? ⟨g,3,none⟩=some d∧w.cell? ⟨g,4,none⟩=some k∧w.cell? ⟨g,5,none⟩=some l∧w.cell? ⟨g,6,none⟩=some m:=
 ⟨h.cell 0,h.cell 1,h.cell 2,h.cell 3,h.cell 4,h.cell 5,h.cell 6⟩
theorem wrap64(a:Int)(h1: -9223372036854775808≤a)(h2:a<9223372036854775808):IntKind.i64.wrap a=a:=by
 simp only [IntKind.wrap,IntKind.bits,IntKind.signed,Bool.true_and,decide_eq_true_eq,show(2:Int)^(64-1)=9223372036854775808 from rfl,show(2:Int)^64=18446744073709551616 from rfl];split<;>omega
theorem read_off{len:Mode}{w:World}{x d p L:Nat}{s:St}{F:Nat→Prop}(h:IxL len w x d p L s F){name:UInt64}{nd:Nd}(hr:readP s name=some nd):0≤offOf name∧offOf name≤65536:=by
 obtain⟨l0,l1,ok,hntk⟩:=h.L0;unfold readP at hr;split at hr
 ·cases hr
 ·rename_i h0;obtain⟨i,a,hi,ho,hk,hf⟩:=class_at h0;rw [ho];have:=ok.fits;rw [hntk]at hi;rcases hk with k| k<;>rw [k]at hf⊢<;>omega
theorem kidV_some{nd:Nd}{lab:UInt8}{kid:UInt64}{number:Nat}(h:kidP nd lab=some (kid,number)):kidV nd lab= .tuple #[.int .u64 (kid.toNat:Int),.int .i64 (number:Int),.bool true]:=by
 unfold kidP findLb at h;unfold kidV;split at h
 ·rename_i i hi;rw [hi];split at h
  ·rename_i hr;injection h with h
   injection h with h1 h2
   subst h1 h2;simp only [hr,if_true];split<;>rfl
  ·cases h
 ·cases h
theorem kidV_none{nd:Nd}{lab:UInt8}(h:kidP nd lab=none):kidV nd lab= .tuple #[.int .u64 0,.int .i64 0,.bool false]:=by
 unfold kidP findLb at h;unfold kidV;split at h
 ·rename_i i hi;rw [hi];split at h
  ·cases h
  ·rename_i hr;simp only [hr];rfl
 ·rename_i hi;rw [hi]
theorem kid_number{nd:Nd}{lab:UInt8}{kid:UInt64}{number:Nat}(h:kidP nd lab=some (kid,number))(hk:nd.labels.length≤16):number≤300:=by
 unfold kidP findLb at h;have:=lab.toNat_lt;split at h
 ·rename_i i hi;have hil:=(List.findIdx?_eq_some_iff_getElem.1 hi).1;split at h
  ·injection h with h
   injection h with h1 h2
   subst h2;split<;>omega
  ·cases h
 ·cases h
theorem kid_nd{w:World}{base n1 c1 n2 c2 n3 c3:Nat}{A1 A2 A3:Option Addr}{x:Nd}(h:NdV w base (.agg #[.slice A1 n1 c1,.int .u64 (x.val.toNat:Int),.slice A2 n2 c2,.slice A3 n3 c3]) x)(b1:n1≤1000000)(b2:n2≤1000000)(b3:n3≤1000000)(label:UInt8):
 Calls Tryz.prog 47 #[.agg #[.slice A1 n1 c1,.int .u64 (x.val.toNat:Int),.slice A2 n2 c2,.slice A3 n3 c3],.int .u8 (label.toNat:Int)] w fun e w'=>e= .returned (kidV x label)∧Below w.heap.size w w':=by
 obtain⟨_,_,_,_,_,_,e,p1,p2,p3⟩:=h;simp only [Value.agg.injEq]at e;simp at e;obtain⟨⟨rfl,rfl,rfl⟩,⟨rfl,rfl,rfl⟩,⟨rfl,rfl,rfl⟩⟩:=e;exact kid_node _ _ _ _ _ _ _ _ _ x label w b1 b2 b3 (rd_own p1).2 (rd_own p2).2 (rd_own p3).2
section
variable{len:Mode}{w w':World}{x d p L:Nat}{s:St}{F:Nat→Prop}
set_option maxHeartbeats 8000000 in
set_option maxRecDepth 100000 in
theorem path_index (h : IxL len w x d p L s F) (key : ByteArray) (hk : key.size ≤ 1000) : Calls Tryz.prog 23 #[.pointer (some ⟨x, 0, none⟩), .string key] w (PathPost s key.data.toList w) := by
  have HX := Lib.hid h
  have HOf := Lib.hid (of_any key w (by omega))
  have HRt := Lib.hid (fun (W : World) (hW : Below w.heap.size w W) => root_index (HX.out.below hW))
  have HRd := Lib.hid (fun (W : World) (hW : Below w.heap.size w W) => read_index (HX.out.below hW))
  have hxlt := h.box.lt
  clear h
  go_enter Tryz.func23, Tryz.ntmps23
  go_wp2_with fail
  refine HOf.out.mono ?_
  rintro e w1 ⟨v, rfl, ho, hb1⟩
  obtain ⟨A, c, rfl, hc, hr⟩ := rd_of_own ho
  have HO1 := Lib.hid ho
  clear HOf ho hr
  go_wp2_with fail
  refine (HRt.out w1 hb1).mono ?_
  rintro e w2 ⟨rfl, hb2⟩
  have HO2 := Lib.hid (own_below HO1.out hb2)
  have hb2' := hb1.trans (hb2.mono hb1.size)
  clear HO1 hb1 hb2 HRt
  go_wp2_with fail
  obtain ⟨W0, hW0⟩ : ∃ W0, W0 = w2.alloc (.cells #[.slice none 0 0, .int .u64 0, .slice none 0 0, .slice none 0 0, .int .i64 0, .int .u8 0, .int .i64 72] 74) := ⟨_, rfl⟩
  have al : Below w2.heap.size w2 W0 := by rw [hW0]; exact (Below.refl _ _).alloc (Nat.le_refl _) _
  have BP : Blk W0 w2.heap.size 74 [.slice none 0 0, .int .u64 0, .slice none 0 0, .slice none 0 0, .int .i64 0, .int .u8 0, .int .i64 72] := by rw [hW0]; exact heap_alloc_new _ _
  have hb0 : Below w.heap.size w W0 := hb2'.trans (al.mono hb2'.size)
  have hR0 := RsAt.of_own (own_below HO2.out al) (by rw [nibs_len]; simp)
  rw [← hW0]
  have hlen : (nibs key.data.toList).length = 2 * key.size := by rw [nibs_len]; simp
  have hpb := hb2'.size
  obtain ⟨pb, hpbe⟩ : ∃ pb, w2.heap.size = pb := ⟨_, rfl⟩
  rw [hpbe] at BP hpb ⊢
  have HAt : Hid (PathAt s L key.data.toList w pb (.slice A (2 * key.size) c) (.int .u64 ((s.ws 9).toNat : Int)) (.slice none 0 0) W0) :=
    Lib.hid ⟨2 * key.size + 1, A, c, nibs key.data.toList, s.ws 9, 0, 72, [], _, _, _, _, _, by rw [hlen], rfl, by simp [pathP], by omega, by omega, by simp [hlen], BP, WayAt.nil _ _, by simp [Value.ownBlock], hR0, hb0⟩
  clear hW0 al BP hb0 hR0 HO2 hlen hc hb2' hpbe
  go_loopw [7, 8, 10] (fun u7 u8 u10 wr => PathAt s L key.data.toList w pb u7 u8 u10 wr) (fun u7 _ _ _ => lenOf u7)
  case atStart => exact HAt.out
  case round =>
    clear HAt
    obtain ⟨f, A, c, rest, name, label, word, way, a0, a1, a2, a3, a4, rfl, rfl, hgo, hf, hcap, hlen, hB, hway, hne, hrs, hbw⟩ := hrel
    obtain ⟨f, rfl⟩ : ∃ f', f = f' + 1 := ⟨f - 1, by omega⟩
    have hpn := hB.lt
    have HB := Lib.hid hB
    have HWay := Lib.hid hway
    have HNe := Lib.hid hne
    have HRs := Lib.hid hrs
    have HGo := Lib.hid hgo
    have HBw := Lib.hid hbw
    have HLe := Lib.hid (And.intro hf (And.intro hcap hlen))
    clear hB hway hne hrs hgo hbw hf hcap hlen
    by_cases hz : name = 0
    · have HR : Hid (pathP s key.data.toList = some (way, rest)) := Lib.hid (by rw [← HGo.out, pathGo, if_pos hz])
      have t0 : (((name.toNat : Nat) : Int) == 0) = true := by subst hz; rfl
      clear HGo
      go_wp2_with fail
      refine bodyPost_ret (v := .tuple #[u10, .slice A rest.length c, .int .i64 0]) (by simp [results, Tryz.results23, go_sem]) rfl ?_
      refine ⟨HBw.out, ?_⟩
      rw [HR.out]
      exact ⟨_, A, c, rfl, HWay.out, HRs.out, HLe.out.2.1⟩
    · have t0 : (((name.toNat : Nat) : Int) == 0) = false := by
        rw [beq_eq_false_iff_ne]; intro e; apply hz
        exact UInt64.toNat_inj.1 (by have : name.toNat = 0 := by omega
                                     rw [this]; rfl)
      have f4 := HB.out.frozen 4
      have z4 := HB.out.cell 4
      simp only [List.getElem?_cons_succ, List.getElem?_cons_zero] at z4
      have hwr : IntKind.i64.wrap (name.toNat : Int) = offOf name := rfl
      go_wp2_with fail
      have B1 := HB.out.set_ 4 (Value.int .i64 (offOf name))
      have s1 := SameBut.set_ HB.out 4 (Value.int .i64 (offOf name))
      have k1 := Kept.set_ wr pb 4 (Value.int .i64 (offOf name))
      have hbw1 := HBw.out.setCell (p := ⟨pb, 4, none⟩) hpb (Value.int .i64 (offOf name))
      have hsz1 : w.heap.size ≤ wr.heap.size := HBw.out.size
      generalize wr.setCell ⟨pb, 4, none⟩ (Value.int .i64 (offOf name)) = W1 at *
      have S1 := Lib.hid s1
      replace B1 : Blk W1 pb 74 [a0, a1, a2, a3, .int .i64 (offOf name), .int .u8 (label.toNat : Int), .int .i64 word] := B1
      have hsz2 : w.heap.size ≤ W1.heap.size := Nat.le_trans hsz1 s1.1
      clear f4 z4 hwr s1
      refine (HRd.out W1 hbw1 name).mono ?_
      rintro e w3 ⟨hb3, hpost⟩
      have S3 := Lib.hid (S1.out.trans (SameBut.of_below hb3))
      have K3 := Lib.hid (k1.trans' (Kept.of_below hb3))
      clear k1
      have B3 := B1.below hb3 B1.lt
      have hbw3 := hbw1.trans (hb3.mono hsz2)
      have hsz3 : w.heap.size ≤ w3.heap.size := Nat.le_trans hsz2 hb3.size
      clear B1 hbw1 hb3 S1
      cases hrd : readP s name with
      | none =>
        rw [hrd] at hpost
        dsimp only at hpost
        subst hpost
        have HR : Hid (pathP s key.data.toList = none) := Lib.hid (by rw [← HGo.out, pathGo, if_neg hz, hrd])
        have f0 := B3.frozen 0
        have f1 := B3.frozen 1
        have f2 := B3.frozen 2
        have f3 := B3.frozen 3
        have z0 := B3.cell 0
        have z1 := B3.cell 1
        have z2 := B3.cell 2
        have z3 := B3.cell 3
        simp only [List.getElem?_cons_succ, List.getElem?_cons_zero] at z0 z1 z2 z3
        clear hrd HGo
        go_wp2_with fail
        refine bodyPost_ret (v := .tuple #[.slice none 0 0, .slice none 0 0, .int .i64 5]) (by simp [results, Tryz.results23, go_sem]) rfl ?_
        refine ⟨(((hbw3.setCell (p := ⟨pb, 0, none⟩) hpb _).setCell (p := ⟨pb, 1, none⟩) hpb _).setCell (p := ⟨pb, 2, none⟩) hpb _).setCell (p := ⟨pb, 3, none⟩) hpb _, ?_⟩
        rw [HR.out]
      | some nd =>
        rw [hrd] at hpost
        dsimp only at hpost
        obtain ⟨v, rfl, A1, c1, A2, c2, A3, c3, rfl, o1, o2, o3⟩ := hpost
        have HNd := Lib.hid (show NdV w3 w.heap.size (.agg #[.slice A1 nd.pre.length c1, .int .u64 (nd.val.toNat : Int), .slice A2 nd.labels.length c2, .slice A3 nd.kids.length c3]) nd from NdV.mono ⟨A1, c1, A2, c2, A3, c3, rfl, o1, o2, o3⟩ hsz2)
        have HRd' := Lib.hid hrd
        clear hrd o1 o2 o3
        have f0 := B3.frozen 0
        have f1 := B3.frozen 1
        have f2 := B3.frozen 2
        have f3 := B3.frozen 3
        have z0 := B3.cell 0
        have z1 := B3.cell 1
        have z2 := B3.cell 2
        have z3 := B3.cell 3
        have z4 := B3.cell 4
        have z5 := B3.cell 5
        have z6 := B3.cell 6
        simp only [List.getElem?_cons_succ, List.getElem?_cons_zero] at z0 z1 z2 z3 z4 z5 z6
        obtain ⟨vs, hvo, hvp⟩ := HWay.out
        have B5 := (((B3.set_ 0 (Value.slice A1 nd.pre.length c1)).set_ 1 (Value.int .u64 (nd.val.toNat : Int))).set_ 2 (Value.slice A2 nd.labels.length c2)).set_ 3 (Value.slice A3 nd.kids.length c3)
        have hbw5 := (((hbw3.setCell (p := ⟨pb, 0, none⟩) hpb (Value.slice A1 nd.pre.length c1)).setCell (p := ⟨pb, 1, none⟩) hpb (Value.int .u64 (nd.val.toNat : Int))).setCell (p := ⟨pb, 2, none⟩) hpb (Value.slice A2 nd.labels.length c2)).setCell (p := ⟨pb, 3, none⟩) hpb (Value.slice A3 nd.kids.length c3)
        have S5 := S3.out.trans ((((SameBut.set_ B3 0 (Value.slice A1 nd.pre.length c1)).trans (SameBut.set_ (B3.set_ 0 _) 1 (Value.int .u64 (nd.val.toNat : Int)))).trans (SameBut.set_ ((B3.set_ 0 _).set_ 1 _) 2 (Value.slice A2 nd.labels.length c2))).trans (SameBut.set_ (((B3.set_ 0 _).set_ 1 _).set_ 2 _) 3 (Value.slice A3 nd.kids.length c3)))
        have K5 := K3.out.trans' ((((Kept.set_ _ pb 0 (Value.slice A1 nd.pre.length c1)).trans' (Kept.set_ _ pb 1 (Value.int .u64 (nd.val.toNat : Int)))).trans' (Kept.set_ _ pb 2 (Value.slice A2 nd.labels.length c2))).trans' (Kept.set_ _ pb 3 (Value.slice A3 nd.kids.length c3)))
        have HV5 := Lib.hid (own_stay hvo K5 (.inl HNe.out))
        have hnd5 := Lib.hid (((((SameBut.set_ B3 0 (Value.slice A1 nd.pre.length c1)).trans (SameBut.set_ (B3.set_ 0 _) 1 (Value.int .u64 (nd.val.toNat : Int)))).trans (SameBut.set_ ((B3.set_ 0 _).set_ 1 _) 2 (Value.slice A2 nd.labels.length c2))).trans (SameBut.set_ (((B3.set_ 0 _).set_ 1 _).set_ 2 _) 3 (Value.slice A3 nd.kids.length c3))).nd HNd.out)
        have HS5 := Lib.hid S5
        have HB5 := Lib.hid B5
        have HBw5 := Lib.hid hbw5
        have HP5 := Lib.hid (HS5.out.pls vs way hvp)
        have hw5 := hbw5.size
        have hmm : way.length ≤ 1000000 := by have := HLe.out; simp at this; omega
        clear S5 K5 B5 hbw5 hvo hvp
        go_wp2_with (at_builtin; refine wpList_app_one rfl (.tmp 42) (.tmp 44) 67 rfl Tryz.placeTyK ((((w3.setCell ⟨pb, 0, none⟩ (Value.slice A1 nd.pre.length c1)).setCell ⟨pb, 1, none⟩ (Value.int .u64 (nd.val.toNat : Int))).setCell ⟨pb, 2, none⟩ (Value.slice A2 nd.labels.length c2)).setCell ⟨pb, 3, none⟩ (Value.slice A3 nd.kids.length c3)) w.heap.size u10 way.length vs.flatten [Value.slice A1 nd.pre.length c1, Value.int .u64 (nd.val.toNat : Int), Value.slice A2 nd.labels.length c2, Value.slice A3 nd.kids.length c3, .int .i64 (offOf name), .int .u8 (label.toNat : Int), .int .i64 word] rfl HV5.out rfl w3.heap.size 1 rfl (by simp [World.setCell, Array.size_modify]) rfl (by decide) (by simp [Value.oneCell']) hmm (by decide) hw5 ?_; intro g6 c6 w6 hO6 hB6 hK6 hg6; have B6 := (hK6.2 pb HB5.out.lt HNe.out).trans HB5.out; obtain ⟨y0, y1, y2, y3, y4, y5, y6⟩ := cell7 B6)
        have s6 := SameBut.kept HV5.out hK6
        have HB6 : Hid (Blk w6 pb 74 [.slice A1 nd.pre.length c1, .int .u64 (nd.val.toNat : Int), .slice A2 nd.labels.length c2, .slice A3 nd.kids.length c3, .int .i64 (offOf name), .int .u8 (label.toNat : Int), .int .i64 word]) := Lib.hid B6
        have HW6 := Lib.hid (WayAt.app HP5.out (p := ⟨nd, offOf name, label, word⟩) ⟨_, _, _, _, rfl, hnd5.out⟩ s6 hO6)
        have HRs6 := Lib.hid ((HS5.out.trans s6).rs HRs.out)
        have HNd6 := Lib.hid (s6.nd hnd5.out)
        have HBw6 := Lib.hid (HBw5.out.trans hB6)
        have HNe6 : Hid (pb ≠ g6) := Lib.hid (fun e => by
          rcases hg6 with h6 | h6
          · exact HNe.out (by rw [h6, e])
          · have := HB5.out.lt; omega)
        clear s6 B6 hO6 hB6 hK6 hg6 HV5 HP5 hnd5 HS5 HB5 HBw5 HWay HRs HB HNe HBw HNd S3 K3 B3 hbw3 f0 f1 f2 f3 z0 z1 z2 z3 z4 z5 z6 hw5
        obtain ⟨b1, b2, b3⟩ := read_lens HRd'.out
        obtain ⟨kk, hkk⟩ : ∃ kk, kk = common nd.pre rest := ⟨_, rfl⟩
        have hrl : rest.length ≤ 4294967296 := by have := HLe.out; simp at this; omega
        refine (common_any A1 A nd.pre.length rest.length c1 c nd.pre rest w6 (by omega) hrl (by obtain ⟨_, _, _, _, _, _, e, p1, _, _⟩ := HNd6.out; simp only [Value.agg.injEq] at e; simp at e; obtain ⟨⟨rfl, rfl⟩, _⟩ := e; exact (rd_own p1).2) HRs6.out.1).mono ?_
        rintro e w7 ⟨rfl, hd7⟩
        rw [← hkk]
        have hbl7 := hd7.below w6.heap.size
        have s7 : SameBut 74 w6 w7 := SameBut.of_below hbl7
        have B7 := HB6.out.below hbl7 HB6.out.lt
        have HW7 : Hid (WayAt w7 w.heap.size (.slice (some ⟨g6, 0, none⟩) (way.length + 1) c6) (way ++ [⟨nd, offOf name, label, word⟩])) := Lib.hid (by
          obtain ⟨vs', q1, q2⟩ := HW6.out
          exact ⟨vs', own_stay q1 (Kept.of_below (r := none) hbl7) (.inl (by simp [Value.ownBlock])), s7.pls _ _ q2⟩)
        have HRs7 := Lib.hid (s7.rs HRs6.out)
        have HNd7 := Lib.hid (s7.nd HNd6.out)
        have HBw7 := Lib.hid (HBw6.out.trans (hbl7.mono HBw6.out.size))
        have HB7 := Lib.hid B7
        obtain ⟨y0, y1, y2, y3, y4, y5, y6⟩ := cell7 B7
        have HGo2 : Hid ((if kk < nd.pre.length ∨ kk = rest.length then some (way ++ [⟨nd, offOf name, label, word⟩], rest) else
            match kidP nd (rest.getD kk 0) with
            | none => some (way ++ [⟨nd, offOf name, label, word⟩], rest)
            | some (kid, number) => pathGo s f kid (rest.drop (kk + 1)) (rest.getD kk 0) (offOf name + 8 * number) (way ++ [⟨nd, offOf name, label, word⟩])) = pathP s key.data.toList) := Lib.hid (by
          rw [← HGo.out, pathGo, if_neg hz, HRd'.out, hkk]
          rfl)
        have HKk := Lib.hid hkk
        clear hd7 hbl7 s7 B7 HW6 HRs6 HNd6 HBw6 HB6 hkk HGo
        by_cases hs : kk < nd.pre.length ∨ kk = rest.length
        · have HR : Hid (pathP s key.data.toList = some (way ++ [⟨nd, offOf name, label, word⟩], rest)) := Lib.hid (by rw [← HGo2.out, if_pos hs])
          have fin : PathPost s key.data.toList w (.returned (.tuple #[.slice (some ⟨g6, 0, none⟩) (way.length + 1) c6, .slice A rest.length c, .int .i64 0])) w7 := by
            refine ⟨HBw7.out, ?_⟩
            rw [HR.out]
            exact ⟨_, A, c, rfl, HW7.out, HRs7.out, HLe.out.2.1⟩
          have HFin := Lib.hid fin
          clear fin HR HGo2
          by_cases hs1 : kk < nd.pre.length
          · have t1 : decide ((kk : Int) < (nd.pre.length : Int)) = true := decide_eq_true (by omega)
            have t1' : decide (kk < nd.pre.length) = true := decide_eq_true hs1
            clear hs hs1
            go_wp2_with fail
            refine bodyPost_ret (v := .tuple #[.slice (some ⟨g6, 0, none⟩) (way.length + 1) c6, .slice A rest.length c, .int .i64 0]) (by simp [results, Tryz.results23, go_sem]) rfl HFin.out
          · have t1 : decide ((kk : Int) < (nd.pre.length : Int)) = false := decide_eq_false (by omega)
            have t1' : decide (kk < nd.pre.length) = false := decide_eq_false hs1
            have t2 : ((kk : Int) == (rest.length : Int)) = true := by rw [beq_iff_eq]; omega
            have t2' : (kk == rest.length) = true := by rw [beq_iff_eq]; omega
            clear hs hs1
            go_wp2_with fail
            refine bodyPost_ret (v := .tuple #[.slice (some ⟨g6, 0, none⟩) (way.length + 1) c6, .slice A rest.length c, .int .i64 0]) (by simp [results, Tryz.results23, go_sem]) rfl HFin.out
        · have hs1 : ¬ kk < nd.pre.length := fun e => hs (.inl e)
          have hs2 : kk ≠ rest.length := fun e => hs (.inr e)
          have hkl : kk < rest.length := by have := common_le_right nd.pre rest; rw [← HKk.out] at this; omega
          have HGo3 := Lib.hid HGo2.out
          rw [if_neg hs] at HGo3
          have t1 : decide ((kk : Int) < (nd.pre.length : Int)) = false := decide_eq_false (by omega)
          have t1' : decide (kk < nd.pre.length) = false := decide_eq_false hs1
          have t2 : ((kk : Int) == (rest.length : Int)) = false := by rw [beq_eq_false_iff_ne]; omega
          have t2' : (kk == rest.length) = false := by rw [beq_eq_false_iff_ne]; exact hs2
          obtain ⟨b, off, rfl, hb, hcs⟩ := HRs7.out.1.2 (by omega)
          have hck : w7.cell? ⟨b, off + kk, none⟩ = some (.int .u8 ((rest.getD kk 0).toNat : Int)) := by
            rw [hcs kk hkl, List.getElem?_map, List.getElem?_eq_getElem hkl, List.getD_eq_getElem?_getD, List.getElem?_eq_getElem hkl]; rfl
          generalize rest.getD kk 0 = lab at *
          clear hcs HGo2 hs hs1 hs2
          have HKid := Lib.hid (fun (W : World) (hW : Below w7.heap.size w7 W) => kid_nd ((SameBut.of_below hW).nd HNd7.out) (by omega) (by omega) (by omega) lab)
          have hx1 : (decide ((0 : Int) ≤ (kk : Int))) = true := decide_eq_true (by omega)
          have hx2 : (decide ((kk : Int) < (rest.length : Int))) = true := decide_eq_true (by omega)
          cases hkd : kidP nd lab with
          | none =>
            have HV := Lib.hid (kidV_none hkd)
            rw [HV.out] at HKid
            have HR : Hid (pathP s key.data.toList = some (way ++ [⟨nd, offOf name, label, word⟩], rest)) := Lib.hid (by rw [← HGo3.out, hkd])
            clear hkd HGo3
            go_wp2_with fail
            go_region_with (go_at_call 47; go_loud (refine (HKid.out _ ((Dr.drew _).below _)).mono ?_; rintro e w8 ⟨rfl, hb8⟩))
            all_goals (have hb78 := ((Dr.drew w7).below w7.heap.size).trans hb8)
            all_goals (have s8 : SameBut 74 w7 w8 := SameBut.of_below hb78)
            all_goals (have HW8 : Hid (WayAt w8 w.heap.size (.slice (some ⟨g6, 0, none⟩) (way.length + 1) c6) (way ++ [⟨nd, offOf name, label, word⟩])) := Lib.hid (by
              obtain ⟨vs', q1, q2⟩ := HW7.out
              exact ⟨vs', own_stay q1 (Kept.of_below (r := none) hb78) (.inl (by simp [Value.ownBlock])), s8.pls _ _ q2⟩))
            all_goals (have HRs8 := Lib.hid (s8.rs HRs7.out))
            all_goals (have HBw8 := Lib.hid (HBw7.out.trans (hb78.mono HBw7.out.size)))
            all_goals (clear hb78 s8 hb8)
            all_goals (go_wp2_with fail)
            all_goals (refine bodyPost_ret (v := .tuple #[.slice (some ⟨g6, 0, none⟩) (way.length + 1) c6, .slice (some ⟨b, off, none⟩) rest.length c, .int .i64 0]) (by simp [results, Tryz.results23, go_sem]) rfl ?_)
            all_goals (refine ⟨HBw8.out, ?_⟩)
            all_goals (rw [HR.out])
            all_goals (exact ⟨_, _, c, rfl, HW8.out, HRs8.out, HLe.out.2.1⟩)
          | some kn =>
            obtain ⟨kid, number⟩ := kn
            have HV := Lib.hid (kidV_some hkd)
            rw [HV.out] at HKid
            have hnum := kid_number hkd b3
            have HGo4 : Hid (pathGo s f kid (rest.drop (kk + 1)) lab (offOf name + 8 * number) (way ++ [⟨nd, offOf name, label, word⟩]) = pathP s key.data.toList) := Lib.hid (by rw [← HGo3.out, hkd])
            have hw1 : IntKind.i64.wrap (8 * (number : Int)) = 8 * (number : Int) := wrap64 _ (by omega) (by omega)
            have hro := read_off HX.out HRd'.out
            have hw2 : IntKind.i64.wrap (offOf name + 8 * (number : Int)) = offOf name + 8 * (number : Int) := wrap64 _ (by omega) (by omega)
            have hw3 : IntKind.i64.wrap ((kk : Int) + 1) = (kk : Int) + 1 := wrap64 _ (by omega) (by have := HLe.out; simp at this; omega)
            clear hro
            clear hkd HGo3
            go_wp2_with fail
            go_region_with (go_at_call 47; go_loud (refine (HKid.out _ ((Dr.drew _).below _)).mono ?_; rintro e w8 ⟨rfl, hb8⟩))
            all_goals (have hb78 := ((Dr.drew w7).below w7.heap.size).trans hb8)
            all_goals (have s8 : SameBut 74 w7 w8 := SameBut.of_below hb78)
            all_goals (have HW8 : Hid (WayAt w8 w.heap.size (.slice (some ⟨g6, 0, none⟩) (way.length + 1) c6) (way ++ [⟨nd, offOf name, label, word⟩])) := Lib.hid (by
              obtain ⟨vs', q1, q2⟩ := HW7.out
              exact ⟨vs', own_stay q1 (Kept.of_below (r := none) hb78) (.inl (by simp [Value.ownBlock])), s8.pls _ _ q2⟩))
            all_goals (have HRs8 := Lib.hid (s8.rs HRs7.out))
            all_goals (have HBw8 := Lib.hid (HBw7.out.trans (hb78.mono HBw7.out.size)))
            all_goals (have HB8 := Lib.hid (HB7.out.below hb78 HB7.out.lt))
            all_goals (have hck8 := (hb78.cell (p := ⟨b, off + kk, none⟩) hb).trans hck)
            all_goals (clear hb78 s8 hb8)
            all_goals (clear hck y0 y1 y2 y3 y4 y5 y6)
            all_goals (obtain ⟨y0, y1, y2, y3, y4, y5, y6⟩ := cell7 HB8.out)
            all_goals (have f5 := HB8.out.frozen 5)
            all_goals (have f6 := HB8.out.frozen 6)
            all_goals (go_wp2_with fail)
            all_goals (go_region)
            all_goals (have B9 := (HB8.out.set_ 5 (Value.int .u8 (lab.toNat : Int))).set_ 6 (Value.int .i64 (offOf name + 8 * (number : Int))))
            all_goals (have s9 := (SameBut.set_ HB8.out 5 (Value.int .u8 (lab.toNat : Int))).trans (SameBut.set_ (HB8.out.set_ 5 (Value.int .u8 (lab.toNat : Int))) 6 (Value.int .i64 (offOf name + 8 * (number : Int)))))
            all_goals (have k9 := (Kept.set_ w8 pb 5 (Value.int .u8 (lab.toNat : Int))).trans' (Kept.set_ _ pb 6 (Value.int .i64 (offOf name + 8 * (number : Int)))))
            all_goals (have hbw9 := (HBw8.out.setCell (p := ⟨pb, 5, none⟩) hpb (Value.int .u8 (lab.toNat : Int))).setCell (p := ⟨pb, 6, none⟩) hpb (Value.int .i64 (offOf name + 8 * (number : Int))))
            all_goals (have hd9 := (Dr.drew ((w8.setCell ⟨pb, 5, none⟩ (Value.int .u8 (lab.toNat : Int))).setCell ⟨pb, 6, none⟩ (Value.int .i64 (offOf name + 8 * (number : Int))))).below w.heap.size)
            all_goals (obtain ⟨W9, hW9⟩ : ∃ W9, W9 = World.drew ((w8.setCell ⟨pb, 5, none⟩ (Value.int .u8 (lab.toNat : Int))).setCell ⟨pb, 6, none⟩ (Value.int .i64 (offOf name + 8 * (number : Int)))) := ⟨_, rfl⟩)
            all_goals (have HW9 : Hid (WayAt W9 w.heap.size (.slice (some ⟨g6, 0, none⟩) (way.length + 1) c6) (way ++ [⟨nd, offOf name, label, word⟩])) := Lib.hid (by
              obtain ⟨vs', q1, q2⟩ := HW8.out
              rw [hW9]
              exact ⟨vs', own_stay q1 k9 (.inl (by simp [Value.ownBlock, HNe6.out])), (s9.trans (SameBut.of_below ((Dr.drew _).below _))).pls _ _ q2⟩))
            all_goals (have HRs9 : Hid (RsAt W9 w.heap.size (some ⟨b, off, none⟩) rest) := Lib.hid (by rw [hW9]; exact s9.rs HRs8.out))
            all_goals (have HBw9 : Hid (Below w.heap.size w W9) := Lib.hid (by rw [hW9]; exact hbw9.trans hd9))
            all_goals (have HB9 : Hid (Blk W9 pb 74 [.slice A1 nd.pre.length c1, .int .u64 (nd.val.toNat : Int), .slice A2 nd.labels.length c2, .slice A3 nd.kids.length c3, .int .i64 (offOf name), .int .u8 (lab.toNat : Int), .int .i64 (offOf name + 8 * (number : Int))]) := Lib.hid (by rw [hW9]; exact B9))
            all_goals (rw [← hW9])
            all_goals (clear B9 s9 k9 hbw9 hd9 hW9 HB8 HW8 HRs8 HBw8 y0 y1 y2 y3 y4 y5 y6 f5 f6 hck8)
            all_goals (go_wp2_with fail)
            all_goals (go_quiet (fail))
            all_goals (have ⟨hLf, hLc, hLl⟩ := HLe.out)
            all_goals (go_roundw)
            all_goals first
              | (case measure => (simp [lenOf]; omega))
              | (case rel =>
                 refine ⟨_, _, _, _, _, _, _, _, _, _, _, _, _, _, _, _, _, _, _, _, _, _, _, _, _, _, _, _, _, _, _, _, _, _, _, _, _, _, _, _, _, _, _, _, _, _, _, _, _, _, _, _, _, _, _, _, _, _, _, _, _, _, _, _, _, _, _, _, _, _, _, _, _, _, _, _, ?_, rfl⟩
                 refine ⟨f, (if c = kk + 1 then some ⟨b, off, none⟩ else some ⟨b, off + (kk + 1), none⟩), c - (kk + 1), rest.drop (kk + 1), kid, lab, offOf name + 8 * (number : Int), way ++ [⟨nd, offOf name, label, word⟩], _, _, _, _, _, (by rw [List.length_drop]), rfl, HGo4.out, (by rw [List.length_drop]; omega), (by rw [List.length_drop]; omega), (by rw [List.length_append, List.length_drop]; simp only [List.length_singleton]; omega), HB9.out, ?_, (by simp [Value.ownBlock, HNe6.out]), HRs9.out.cut (kk + 1) (by omega) hLc, ?_⟩
                 · first
                   | (have hww := HW9.out; rw [List.length_append]; exact hww)
                   | exact HW9.out
                   | (obtain ⟨vs', q1, q2⟩ := HW9.out; exact ⟨vs', q1, (SameBut.of_below ((Dr.one W9 _).below _)).pls _ _ q2⟩)
                 · first
                   | exact HBw9.out
                   | exact HBw9.out.trans ((Dr.one _ _).below _))
end
structure PlOk(L:Nat)(pl:Pl):Prop where
 word:∃j:Nat,pl.word=((8*j:Nat):Int)∧j<8*L
 off:∃o:Nat,pl.off=((8*o:Nat):Int)∧o+8≤8*L
 right:rightB pl.nd=true
 kids:pl.nd.kids.length≤16
 labels:pl.nd.labels.length≤16
theorem read_ok{L:Nat}{s:St}(ok:ShOk L s.sh)(hntk:s.tk.length=s.sh.slabs){name:UInt64}{nd:Nd}(h:readP s name=some nd):
 rightB nd=true∧∃o:Nat,offOf name=((8*o:Nat):Int)∧o+(if nd.kids.length≤4 then 8 else 32)≤8*L:=by
 unfold readP at h;split at h
 ·cases h
 ·rename_i h0;obtain⟨i,a,hi,ho,hk,hf⟩:=class_at h0;split at h
  ·rename_i hd;injection h with h
   subst h;have hd':=hd;unfold decOk at hd';simp only [Bool.and_eq_true,decide_eq_true_eq]at hd';have hl:=encW_length (cand (wordsAt s.ws ((offOf name).toNat/8) (8*linesN (classP s (offOf name)))));rw [hd'.2.2]at hl;have hwl:(wordsAt s.ws ((offOf name).toNat/8) (8*linesN (classP s (offOf name)))).length=8*linesN (classP s (offOf name)):=by simp [wordsAt]
   rw [hwl]at hl;refine⟨hd'.2.1,(s.sh.data+1024*i+64*linesN (classP s (offOf name))*a)/8,?_⟩;rw [←hl];have h1:=ok.fits;have h2:=ok.data;rw [hntk]at hi;clear hl hwl hd' hd h0;generalize linesN (classP s (offOf name))=m at*;generalize offOf name=off at*;subst ho;rcases hk with rfl| rfl<;>constructor<;>omega
  ·cases h
theorem kid_in{nd:Nd}{lab:UInt8}{kid:UInt64}{number:Nat}(h:kidP nd lab=some (kid,number)):number<(if nd.kids.length≤4 then 8 else 32):=by
 unfold kidP findLb at h;split at h
 ·rename_i i hi;obtain⟨hil,hq,_⟩:=List.findIdx?_eq_some_iff_getElem.1 hi;split at h
  ·rename_i hr;obtain⟨_,_,hlk,hn,_⟩:=(rightB_iff _).1 hr;have hlab:lab.toNat<16:=by
    have:=List.all_eq_true.1 hn _ (List.getElem_mem hil);simp only [beq_iff_eq]at hq;unfold isNib at this;simp only [decide_eq_true_eq]at this;omega
   injection h with h
   injection h with h1 h2
   subst h2;split
   ·omega
   ·omega
  ·cases h
 ·cases h
theorem pathGo_ok{L:Nat}{s:St}(ok:ShOk L s.sh)(hntk:s.tk.length=s.sh.slabs):∀(f:Nat)(name:UInt64)(rest:List UInt8)(label:UInt8)(word:Int)(way way':List Pl)(rest':List UInt8),
 (∃j:Nat,word=((8*j:Nat):Int)∧j<8*L)→(∀pl∈way,PlOk L pl)→pathGo s f name rest label word way=some (way',rest')→(∀pl∈way',PlOk L pl)∧rest'.length≤rest.length
 | 0,name,rest,label,word,way,way',rest',hw,hp,h=>by
   rw [pathGo]at h;injection h with h
   injection h with h1 h2
   subst h1 h2;exact⟨hp,Nat.le_refl _⟩
 | f+1,name,rest,label,word,way,way',rest',hw,hp,h=>by
   rw [pathGo]at h;split at h
   ·injection h with h
    injection h with h1 h2
    subst h1 h2;exact⟨hp,Nat.le_refl _⟩
   ·split at h
    ·cases h
    ·rename_i nd hr;obtain⟨hR,o,ho,hfit⟩:=read_ok ok hntk hr;obtain⟨b1,b2,b3⟩:=read_lens hr;have hpl:∀pl∈way++[⟨nd,offOf name,label,word⟩],PlOk L pl:=by
      intro pl hm;rcases List.mem_append.1 hm with hm| hm
      ·exact hp pl hm
      ·rw [List.mem_singleton]at hm;subst hm;exact⟨hw,⟨o,ho,by split at hfit<;>omega⟩,hR,b2,b3⟩
     split at h
     ·injection h with h
      injection h with h1 h2
      subst h1 h2;exact⟨hpl,Nat.le_refl _⟩
     ·split at h
      ·injection h with h
       injection h with h1 h2
       subst h1 h2;exact⟨hpl,Nat.le_refl _⟩
      ·rename_i kid number hkd;have hk:=kid_in hkd;obtain⟨q1,q2⟩:=pathGo_ok ok hntk f kid _ _ _ _ way' rest' ⟨o+number,by rw [ho];omega,by omega⟩ hpl h;refine⟨q1,?_⟩;rw [List.length_drop]at q2;omega
theorem path_ok{L:Nat}{s:St}(ok:ShOk L s.sh)(l0:1<L)(hntk:s.tk.length=s.sh.slabs){key:List UInt8}{way:List Pl}{rest:List UInt8}(h:pathP s key=some (way,rest)):(∀pl∈way,PlOk L pl)∧rest.length≤2*key.length:=by
 have:=pathGo_ok ok hntk _ _ _ _ _ _ _ _ ⟨9,rfl,by omega⟩ (by intro pl h;cases h) h;rw [nibs_len]at this;exact this
theorem common_full:∀(a b:List UInt8),common a b=a.length→common a b=b.length→a=b:=by
 intro a b h1 h2;induction a generalizing b with
 | nil=>cases b with
   | nil=>rfl
   | cons y t=>simp [common]at h2
 | cons x t ih=>cases b with
   | nil=>simp [common]at h1
   | cons y t'=>
     simp only [common]at h1 h2;split at h1
     ·rename_i e;rw [if_pos e]at h2;simp only [List.length_cons]at h1 h2;rw [ih t' (by omega) (by omega)]
      simp_all
     ·simp at h1
def zv(k:Int):Value:= .int .i64 k
abbrev IxM(w:World)(x d p L:Nat)(q:Ms)(F:Nat→Prop):Prop:=IxL q.pw.mode w x d p L q.s F
structure JobR(w:World)(base jb x d p L:Nat)(j:Jm)(F:Nat→Prop)(v:Value):Prop where
 ix:IxM w x d p L j.s F
 box:Blk w jb 79 [.pointer (some ⟨x,0,none⟩),v]
 row:w.ownsRow base 3 1 v j.made.length (j.made.map zv)
 fj:¬F jb
 bj:base≤jb
 bx:x<base
 bt:0<base∧1<base
 mj:v.ownBlock≠some jb
 mF:∀b,v.ownBlock=some b→¬F b
 mb:∀o∈j.made, -9223372036854775808≤o∧o≤9223372036854775807
def JobAt(w:World)(base jb x d p L:Nat)(j:Jm)(G:Nat→Prop):Prop:=∃F v,JobR w base jb x d p L j F v∧∀b,G b↔(F b∨b=jb∨v.ownBlock=some b)
section
variable{w w':World}{base jb x d p L:Nat}{j:Jm}{F G:Nat→Prop}{v:Value}
theorem JobR.xj(h:JobR w base jb x d p L j F v):x≠jb:=by have:=h.bj;have:=h.bx;omega
theorem JobR.mlt(h:JobR w base jb x d p L j F v):∀b,v.ownBlock=some b→base≤b∧b<w.heap.size:=by
 intro b hb;rcases h.row.2 with⟨h1,_⟩| ⟨g,cap,cur,h1,h2,h3,_⟩
 ·subst h1;simp [Value.ownBlock]at hb
 ·subst h1;simp only [Value.ownBlock,Option.some.injEq]at hb;subst hb;exact⟨h2,(Array.getElem?_eq_some_iff.1 h3).1⟩
theorem JobR.mx(h:JobR w base jb x d p L j F v):v.ownBlock≠some x:=fun e=>by have:=(h.mlt x e).1;have:=h.bx;omega
theorem JobR.below(h:JobR w base jb x d p L j F v)(k:Below w.heap.size w w'):JobR w' base jb x d p L j F v:=
 ⟨h.ix.below k,h.box.below k h.box.lt,own_stay h.row (Kept.of_below (r:=some jb) k) (.inl (fun e=>h.mj e.symm)),h.fj,h.bj,h.bx,h.bt,h.mj,h.mF,h.mb⟩
theorem JobAt.below(h:JobAt w base jb x d p L j G)(k:Below w.heap.size w w'):JobAt w' base jb x d p L j G:=by
 obtain⟨F,v,h,hG⟩:=h;exact⟨F,v,h.below k,hG⟩
theorem JobAt.lt(h:JobAt w base jb x d p L j G):∀b,G b→b<w.heap.size:=by
 obtain⟨F,v,h,hG⟩:=h;intro b hb;rcases(hG b).1 hb with h1| rfl| h1
 ·exact h.ix.sys.lt b h1
 ·exact h.box.lt
 ·exact(h.mlt b h1).2
theorem JobR.move(h:JobR w base jb x d p L j F v)(hG:∀b,G b↔(F b∨b=jb∨v.ownBlock=some b)){s':Ms}{F':Nat→Prop}(hs:SysM w' d p L s' F')(m:Moved F F' w w'):
 ∃G',JobR w' base jb x d p L {j with s:=s'} F' v∧(∀b,G' b↔(F' b∨b=jb∨v.ownBlock=some b))∧Moved G G' w w':=by
 have hjl:=h.box.lt;refine⟨fun b=>F' b∨b=jb∨v.ownBlock=some b,⟨h.ix.move hs m,h.box.touch m.touch h.fj,own_touch h.row m.touch h.mF,fun h'=>(m.own _ h').elim h.fj (fun h''=>by omega),h.bj,h.bx,h.bt,h.mj,fun b hb h'=>(m.own _ h').elim (h.mF b hb) (fun h''=>by have:=(h.mlt b hb).2;omega),h.mb⟩,fun _=>Iff.rfl,m.touch.mono (fun b hb=>(hG b).2 (.inl hb)),fun b hb=> ?_⟩;rcases hb with h1| h1
 ·exact(m.own b h1).imp (fun h2=>(hG b).2 (.inl h2)) id
 ·exact .inl ((hG b).2 (.inr h1))
theorem JobR.app(h:JobR w base jb x d p L j F v)(hG:∀b,G b↔(F b∨b=jb∨v.ownBlock=some b)){o:Int}(ho: -9223372036854775808≤o∧o≤9223372036854775807){g c:Nat}{w1:World}
 (hown:w1.ownsRow base 3 1 (.slice (some ⟨g,0,none⟩) (j.made.length+1) c) (j.made.length+1) (j.made.map zv++[zv o]))(hb:Below base w w1)(hk:Kept w w1 v.ownBlock)(hg:v.ownBlock=some g∨w.heap.size≤g):
 ∃G',JobR (w1.setCell ⟨jb,1,none⟩ (.slice (some ⟨g,0,none⟩) (j.made.length+1) c)) base jb x d p L {j with made:=j.made++[o]} F (.slice (some ⟨g,0,none⟩) (j.made.length+1) c)∧
  (∀b,G' b↔(F b∨b=jb∨(Value.slice (some ⟨g,0,none⟩) (j.made.length+1) c).ownBlock=some b))∧Moved G G' w (w1.setCell ⟨jb,1,none⟩ (.slice (some ⟨g,0,none⟩) (j.made.length+1) c)):=by
 have hjl:=h.box.lt;have hxl:=h.ix.box.lt;have hgj:g≠jb:=by
  rintro rfl;rcases hg with e| e
  ·exact h.mj e
  ·omega
 have hgF:¬F g:=by
  intro hf;rcases hg with e| e
  ·exact h.mF g e hf
  ·have:=h.ix.sys.lt g hf;omega
 have t1:Touch (fun b=>v.ownBlock=some b) w w1:=⟨hb.os,hb.tape,hb.output,hk.1,fun b hb' hn=>hk.2 b hb' (fun e=>hn e.symm)⟩;have t2:Touch (fun b=>b=jb∨v.ownBlock=some b) w (w1.setCell ⟨jb,1,none⟩ (.slice (some ⟨g,0,none⟩) (j.made.length+1) c)):=(t1.mono (fun b=> .inr)).setCell (p:=⟨jb,1,none⟩) (.inl (.inl rfl)) _;have htb:∀{b:Nat},b<base→¬(b=jb∨v.ownBlock=some b):=by
  intro b hb' e;rcases e with rfl| e
  ·have:=h.bj;omega
  ·have:=(h.mlt b e).1;omega
 have hs:SysM (w1.setCell ⟨jb,1,none⟩ (.slice (some ⟨g,0,none⟩) (j.made.length+1) c)) d p L j.s F:=h.ix.sys.keep t2 (fun b hb' hn=>hn.elim (fun e=>h.fj (e▸hb')) (fun e=>h.mF b e hb')) (htb h.bt.1) (htb h.bt.2);have hB1:Blk w1 jb 79 [.pointer (some ⟨x,0,none⟩),v]:=(hk.2 jb hjl (fun e=>h.mj e.symm)).trans h.box;refine⟨fun b=>F b∨b=jb∨(Value.slice (some ⟨g,0,none⟩) (j.made.length+1) c).ownBlock=some b,⟨⟨hs,h.ix.box.touch t2 (fun e=>e.elim h.xj h.mx),h.ix.out⟩,hB1.set_ 1 _,?_,h.fj,h.bj,h.bx,h.bt,by simp [Value.ownBlock,hgj],?_,?_⟩,fun _=>Iff.rfl,?_⟩
 ·have:=own_stay hown (Kept.set_ w1 jb 1 (.slice (some ⟨g,0,none⟩) (j.made.length+1) c)) (.inl (by simp [Value.ownBlock,Ne.symm hgj]));simpa using this
 ·intro b hb';simp only [Value.ownBlock,Option.some.injEq]at hb';exact hb'▸hgF
 ·intro o' ho';rcases List.mem_append.1 ho' with h1| h1
  ·exact h.mb o' h1
  ·rw [List.mem_singleton]at h1;exact h1▸ho
 ·refine⟨t2.mono (fun b hb'=>(hG b).2 (.inr hb')),fun b hb'=> ?_⟩;rcases hb' with h1| h1| h1
  ·exact .inl ((hG b).2 (.inl h1))
  ·exact .inl ((hG b).2 (.inr (.inl h1)))
  ·simp only [Value.ownBlock,Option.some.injEq]at h1;rcases hg with e| e
   ·exact .inl ((hG b).2 (.inr (.inr (h1▸e))))
   ·exact .inr (h1▸e)
theorem Rd.moved{G':Nat→Prop}{A:Option Addr}{n:Nat}{xs:List Value}(h:Rd w A n xs)(m:Moved G G' w w')(hF:∀a,A=some a→¬G a.block):Rd w' A n xs:=h.touch m.touch hF
theorem Moved.out{G':Nat→Prop}(m:Moved G G' w w'){b:Nat}(hb:b<w.heap.size)(h:¬G b):¬G' b:=fun h'=>(m.own b h').elim h (fun h''=>by omega)
end
def RdO(w:World)(G:Nat→Prop)(A:Option Addr)(n:Nat)(xs:List Value):Prop:=Rd w A n xs∧(0<n→∀a,A=some a→¬G a.block)
section
variable{w w':World}{G G':Nat→Prop}{A:Option Addr}{n:Nat}{xs:List Value}
theorem RdO.moved(h:RdO w G A n xs)(m:Moved G G' w w'):RdO w' G' A n xs:=by
 obtain⟨⟨h1,h2⟩,h3⟩:=h;refine⟨⟨h1,fun hn=> ?_⟩,fun hn a e=> ?_⟩
 ·obtain⟨b,off,e,hb,hc⟩:=h2 hn;exact⟨b,off,e,Nat.lt_of_lt_of_le hb m.touch.size,fun j hj=>(World.cell?_of_block (w:=w) (m.touch.block b hb (h3 hn _ e))).trans (hc j hj)⟩
 ·obtain⟨b,off,e',hb,hc⟩:=h2 hn;rw [e']at e;injection e with e
  subst e;exact m.out hb (h3 hn _ e')
theorem RdO.below(h:RdO w G A n xs)(k:Below w.heap.size w w'):RdO w' G A n xs:=h.moved (Moved.of_below k)
theorem RdO.mono{F:Nat→Prop}(h:RdO w G A n xs)(k:∀b,b<w.heap.size→F b→G b):RdO w F A n xs:=⟨h.1,fun hn a e hf=>by
 obtain⟨b,off,e',hb,hc⟩:=h.1.2 hn;rw [e']at e;injection e with e
 subst e;exact h.2 hn _ e' (k _ hb hf)⟩
theorem RdO.take(h:RdO w G A n xs)(k:Nat)(hk:k≤n):RdO w G A k (xs.take k):=by
 obtain⟨⟨h1,h2⟩,h3⟩:=h;refine⟨⟨by rw [List.length_take];omega,fun hn=> ?_⟩,fun hn=>h3 (by omega)⟩;obtain⟨b,off,e,hb,hc⟩:=h2 (by omega);exact⟨b,off,e,hb,fun j hj=>by rw [hc j (by omega),List.getElem?_take,if_pos hj]⟩
theorem RdO.cut{b off c:Nat}(h:RdO w G (some ⟨b,off,none⟩) n xs)(k:Nat)(hk:k≤n)(hc:n≤c):RdO w G (if c=k then some ⟨b,off,none⟩else some ⟨b,off+k,none⟩) (n-k) (xs.drop k):=by
 obtain⟨⟨h1,h2⟩,h3⟩:=h;by_cases hn:k=n
 ·refine⟨⟨by rw [List.length_drop];omega,fun hn'=>by omega⟩,fun hn'=>by omega⟩
 ·rw [if_neg (by omega)];refine⟨⟨by rw [List.length_drop];omega,fun hn'=> ?_⟩,fun hn' a e=> ?_⟩
  ·obtain⟨b',off',e,hb,hcc⟩:=h2 (by omega);injection e with e
   injection e with e1 e2
   subst e1 e2;exact⟨_,_,rfl,hb,fun j hj=>by rw [Nat.add_assoc,hcc (k+j) (by omega),List.getElem?_drop]⟩
  ·injection e with e
   subst e;exact h3 (by omega) ⟨b,off,none⟩ rfl
theorem RdO.of_own{base c:Nat}{e:TypeId}(h:w.ownsRow base e 1 (.slice A n c) n xs)(hG:∀b,base≤b→b<w.heap.size→¬G b):RdO w G A n xs:=by
 refine⟨(rd_own h).2,fun hn a ea=> ?_⟩;rcases h.2 with⟨h1,_⟩| ⟨g',cap,cur,h1,h2,h3,_⟩
 ·simp only [Value.slice.injEq]at h1;rw [h1.1]at ea;cases ea
 ·simp only [Value.slice.injEq]at h1;rw [h1.1]at ea;injection ea with ea
  subst ea;exact hG _ h2 (Array.getElem?_eq_some_iff.1 h3).1
theorem RdO.nil:RdO w G A 0 []:=⟨Rd.nil,fun h=>absurd h (by omega)⟩
end
def NdR(w:World)(G:Nat→Prop)(a b c d:Value)(nd:Nd):Prop:=
 ∃A1 c1 A2 c2 A3 c3,a= .slice A1 nd.pre.length c1∧b= .int .u64 (nd.val.toNat:Int)∧c= .slice A2 nd.labels.length c2∧d= .slice A3 nd.kids.length c3∧nd.pre.length≤c1∧
  RdO w G A1 nd.pre.length (nd.pre.map bv)∧RdO w G A2 nd.labels.length (nd.labels.map bv)∧RdO w G A3 nd.kids.length (nd.kids.map wv)
theorem NdR.moved{w w':World}{G G':Nat→Prop}{a b c d:Value}{nd:Nd}(h:NdR w G a b c d nd)(m:Moved G G' w w'):NdR w' G' a b c d nd:=by
 obtain⟨A1,c1,A2,c2,A3,c3,e1,e2,e3,e4,hc,h1,h2,h3⟩:=h;exact⟨A1,c1,A2,c2,A3,c3,e1,e2,e3,e4,hc,h1.moved m,h2.moved m,h3.moved m⟩
theorem NdR.of_v{w:World}{G:Nat→Prop}{base:Nat}{a b c d:Value}{nd:Nd}(h:NdV w base (.agg #[a,b,c,d]) nd)(hG:∀b,base≤b→b<w.heap.size→¬G b):NdR w G a b c d nd:=by
 obtain⟨A1,c1,A2,c2,A3,c3,e,h1,h2,h3⟩:=h;simp only [Value.agg.injEq]at e;simp at e;obtain⟨rfl,rfl,rfl,rfl⟩:=e;exact⟨A1,c1,A2,c2,A3,c3,rfl,rfl,rfl,rfl,(rd_own h1).1,RdO.of_own h1 hG,RdO.of_own h2 hG,RdO.of_own h3 hG⟩
theorem reserve_at{L:Nat}{s s1:St}{c off:Nat}(ok:ShOk L s.sh)(hntk:s.tk.length=s.sh.slabs)(hc:c=1∨c=2)(h:reserveP s c=some (off,s1)):∃o,off=8*o∧o+8*linesN c≤8*L:=by
 unfold reserveP at h;split at h
 ·cases h
 ·rename_i i hi;split at h
  ·cases h
  ·rename_i a ha;injection h with h
   injection h with h1 h2
   have hil:=(slabFor_some hi).1;have hal:a<blocksN c:=by
    unfold nextW at ha;split at ha
    ·exact lowN_lt ha
    ·cases ha
   unfold placeN at h1;have:=ok.data;have:=ok.fits;rw [hntk]at hil;rcases hc with rfl| rfl
   ·refine⟨off/8,?_,?_⟩<;>simp only [linesN,blocksN]at* <;>omega
   ·refine⟨off/8,?_,?_⟩<;>simp only [linesN,blocksN]at* <;>omega
theorem classN_or(x:Nd):classN x=1∨classN x=2:=by unfold classN;split<;>simp
theorem encW_lines(x:Nd):(encW x).length=8*linesN (classN x):=by
 rw [encW_length];unfold classN;split<;>rfl
theorem buildM_made(j:Jm)(n:Nd):(buildM j n).1.made.length≤j.made.length+1:=by
 unfold buildM;split
 ·simp
 ·split
  ·simp
  ·split;split
   ·split;split<;>simp
   ·simp
theorem aboveM_made(j:Jm)(n:Nd)(label:UInt8)(kid:UInt64)(e:Int):(aboveM j n label kid e).1.made.length≤j.made.length+1:=by
 unfold aboveM;split
 ·simp
 ·split
  ·exact buildM_made _ _
  ·simp
theorem leafM_made:∀(f:Nat)(j:Jm)(l:List UInt8)(value:UInt64),(leafM f j l value).1.made.length≤j.made.length+f
 | 0,j,l,value=>by simp [leafM]
 | f+1,j,l,value=>by
   unfold leafM;split
   ·have:=buildM_made j ⟨l,value,[],[]⟩;omega
   ·have h1:=leafM_made f j (l.drop 16) value;split;rename_i j1 kid e he;rw [he]at h1;have:=aboveM_made j1 ⟨l.take 15,0,[],[]⟩ (l.getD 15 0) kid e;simp only at h1;omega
structure It where
 k:ByteArray
 v:UInt64
def lessK(a b:It):Bool:=Op.bytesLess a.k.toList b.k.toList
theorem bless_total:∀(a b:List UInt8),Op.bytesLess a b=false→Op.bytesLess b a=true∨a=b
 | [],[],_=> .inr rfl
 | [],_::_,h=>by simp [Op.bytesLess]at h
 | _::_,[],_=> .inl rfl
 | x::a,y::b,h=>by
   simp only [Op.bytesLess,Bool.or_eq_false_iff,decide_eq_false_iff_not,Bool.and_eq_false_iff,beq_eq_false_iff_ne]at h;obtain⟨h1,h2⟩:=h;simp only [Op.bytesLess,Bool.or_eq_true,decide_eq_true_eq,Bool.and_eq_true,beq_iff_eq,List.cons.injEq];by_cases e:x=y
   ·subst e;have h3:=h2.resolve_left (fun h=>h rfl);rcases bless_total a b h3 with h4| h4
    ·exact .inl (.inr ⟨rfl,h4⟩)
    ·exact .inr ⟨rfl,h4⟩
   ·refine .inl (.inl ?_);rw [UInt8.lt_iff_toNat_lt]at h1⊢;have:x.toNat≠y.toNat:=fun h=>e (UInt8.toNat_inj.1 h)
    omega
theorem bless_irrefl:∀(a:List UInt8),Op.bytesLess a a=false
 | []=>rfl
 | x::a=>by simp [Op.bytesLess,bless_irrefl a]
theorem bless_trans:∀(a b c:List UInt8),Op.bytesLess a b=true→Op.bytesLess b c=true→Op.bytesLess a c=true
 | _,[],_,h,_=>by simp [Op.bytesLess]at h
 | _,_::_,[],_,h=>by simp [Op.bytesLess]at h
 | [],_::_,_::_,_,_=>rfl
 | x::a,y::b,z::c,h,k=>by
   simp only [Op.bytesLess,Bool.or_eq_true,decide_eq_true_eq,Bool.and_eq_true,beq_iff_eq]at h k⊢;simp only [UInt8.lt_iff_toNat_lt]at h k⊢;rcases h with h| ⟨rfl,h⟩
   ·rcases k with k| ⟨rfl,k⟩
    ·exact .inl (by omega)
    ·exact .inl h
   ·rcases k with k| ⟨rfl,k⟩
    ·exact .inl k
    ·exact .inr ⟨rfl,bless_trans a b c h k⟩
def Up(l:List It):Prop:=l.Pairwise fun a b=>lessK a b=true
def findR(l:List It)(key:ByteArray):Nat:=l.findIdx fun x=> !Op.bytesLess x.k.toList key.toList
def isR(l:List It)(key:ByteArray):Bool:=match l[findR l key]? with
 | some x=>x.k.toList==key.toList
 | none=>false
def putR(l:List It)(key:ByteArray)(v:UInt64):List It×Int:=
 if 16<key.size then(l,3)else if v.toNat=0 then(l,2)else
 (l.take (findR l key)++⟨key,v⟩::l.drop (findR l key+if isR l key then 1 else 0),0)
theorem findR_le(l:List It)(key:ByteArray):findR l key≤l.length:=List.findIdx_le_length
theorem findR_at{l:List It}{key:ByteArray}{i:Nat}(hi:i<l.length)(h1:Op.bytesLess l[i].k.toList key.toList=false)(h2:∀j(h:j<l.length),j<i→Op.bytesLess l[j].k.toList key.toList=true):findR l key=i∧isR l key=(l[i].k.toList==key.toList):=by
 have h:findR l key=i:=by
  unfold findR;rw [List.findIdx_eq hi];exact⟨by rw [h1];rfl,fun j hj=>by rw [h2 j (by omega) hj];rfl⟩
 refine⟨h,?_⟩;unfold isR;rw [h,List.getElem?_eq_getElem hi]
theorem findR_no{l:List It}{key:ByteArray}(h2:∀j(h:j<l.length),Op.bytesLess l[j].k.toList key.toList=true):findR l key=l.length∧isR l key=false:=by
 have h:findR l key=l.length:=by
  unfold findR;rw [List.findIdx_eq_length];intro x hx;obtain⟨j,hj,rfl⟩:=List.getElem_of_mem hx;rw [h2 j hj];rfl
 refine⟨h,?_⟩;unfold isR;rw [h,List.getElem?_eq_none (Nat.le_refl _)]
theorem isR_lt{l:List It}{key:ByteArray}(h:isR l key=true):findR l key<l.length:=by
 unfold isR at h;cases hg:l[findR l key]? with
 | none=>rw [hg]at h;cases h
 | some x=>exact(List.getElem?_eq_some_iff.1 hg).1
theorem putR_len(l:List It)(key:ByteArray)(v:UInt64):(putR l key v).1.length≤l.length+1:=by
 have:=findR_le l key;unfold putR;split
 ·simp
 ·split
  ·simp
  ·simp only [List.length_append,List.length_take,List.length_cons,List.length_drop];omega
end Go.Proofs.YtdjfbnoolfpcnaaGreatDoor
