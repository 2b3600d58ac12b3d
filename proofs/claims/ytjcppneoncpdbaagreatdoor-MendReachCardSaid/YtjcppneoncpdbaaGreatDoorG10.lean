import Derived.Deep.RegionLaw
import Derived.Test.YtjcppneoncpdbaaGreatDoorG03
import Derived.Test.YtjcppneoncpdbaaGreatDoorG04
import Derived.Test.YtjcppneoncpdbaaGreatDoorG08
import Derived.Test.YtjcppneoncpdbaaGreatDoorG09
set_option maxHeartbeats 32000000
set_option maxRecDepth 100000
open Go.World renaming block_lt_of_cell?->Dq
open Nat renaming le_refl->Ae,le_of_lt->Iy,le_trans->Bf
open Go.Lib renaming hid->Aa
open List renaming getElem?_cons_zero->Ad,append_nil->YL,mem_append->AL,range_succ->YM,mem_range->DY,replicate->Bq,getElem?_cons_succ->Af,getElem?_replicate->Ii,getElem_replicate->gW,getD_eq_getElem?_getD->Bh,ext_getElem->Ew,getElem_map->MX,getElem_range->U8
open Array renaming getElem?_eq_some_iff->Az
open Option renaming isSome_iff_exists->YN
open UInt64 renaming ofNat->AA
open Go.Value renaming ownBlock->AX,int->Aw,slice->Ac
namespace Go.Proofs.YtjcppneoncpdbaaGreatDoor
open Go.RowKit
theorem Ug.below{w w':World}(h:Ug w)(k:Below w.heap.size w w'):Ug w':=fun j hj=>(k.cell (p:=⟨1,j,none⟩) (Dq w _ (h j hj))).trans (h j hj)
section
variable{w:World}{d p L:Nat}{s:St}{tb hb n cT cH:Nat}
theorem Iu.below{w':World}(h:Iu w d p L s tb hb n cT cH)(k:Below w.heap.size w w'):Iu w' d p L s tb hb n cT cH:=by
 have key:∀{a:Addr}{v:Value},w.cell? a=some v->w'.cell? a=some v:=fun{a v}hc=>(k.cell (p:=a) (Dq w a hc)).trans hc
 exact⟨key h.y0,key h.y1,key h.y2,key h.y3,key h.y4,key h.y5,key h.y6,fun i hi=>key (h.tk i hi),fun i hi=>key (h.hd i hi),h.ok,h.L1,h.dm,h.Ot⟩
def Qy(s:St)(c i:Nat):Bool:=(JQ (Cm s i) c).isSome
theorem wX(h:Iu w d p L s tb hb n cT cH)(hT:Ug w)(c i:Nat)(hi:i<n)(hc:c<4):
 Calls Tryz.prog 76 #[.agg #[.pointer (some ⟨p,0,none⟩),.int .i64 (c:Int)],.int .i64 (i:Int)] w fun e w'=>e= .returned (.bool (Qy s c i))/\Below w.heap.size w w':=by
 have hb0:Below w.heap.size w (w.alloc (.cells #[.pointer (some ⟨p,0,none⟩),.int .i64 (c:Int)] 166)):=(Below.refl _ _).alloc (Ae _) _;have h1:=h.below hb0;have hT1:=hT.below hb0;have HB:=Aa (fun W(k:Dr _ W)=>KT (h1.dr k) i hi);have HN:=Aa (fun W(k:Dr _ W)=>UH (Cm s i) c W (Nr s i) (by omega) (hT1.dr k));have HR:Hid (decide ((0:Int)<=dA (JQ (Cm s i) c))=Qy s c i):=Aa (by
  unfold Qy dA;cases JQ (Cm s i) c<;>simp)
 clear h h1 hT hT1;go_enter Tryz.func76,Tryz.ntmps76
 go_wp2_with fail
 go_quiet(first
  | (go_at_call 79;exact Ad5 (HB.out _ (Dr.one _ _)))
  | (go_at_call 78;exact Ad5 (HN.out _ (Dr.one _ _))))
 go_wp2_with fail
 trace_state
 go_ret;exact⟨by rw [<-HR.out];rfl,hb0.trans ((Dr.one _ _).below _)⟩
end
def jr(F:Nat->Bool)(l:List Nat):Option Nat->Prop
 | some i=>i∈l/\F i=true/\∀x∈l,F x=true->i<=x
 | none=>∀x∈l,F x=false
def UK:Option Nat->Value
 | some i=> .tuple #[.int .i64 (i:Int),.bool true]
 | none=> .tuple #[.int .i64 0,.bool false]
def VF(w:World)(o:Nat):Nat:=match w.cell? ⟨o,0,none⟩with
 | some (.slice _ n _)=>n
 | _=>0
theorem Ej.VF{w:World}{B o g c:Nat}{l:List Nat}(h:Ej w B o g c l):VF w o=l.length:=by
 have:=h.box.cell 0;unfold Go.Proofs.YtjcppneoncpdbaaGreatDoor.VF;rw [this];rfl
theorem SN{w0 w:World}{d p L:Nat}{s:St}{tb hb n cT cH:Nat}(h:Iu w0 d p L s tb hb n cT cH)(hT:Ug w0)(c:Nat)(hc:c<4)(hB:Below w0.heap.size w0 w)
 {o g cc:Nat}{l:List Nat}(ho:Ej w w0.heap.size o g cc l)(hl:∀x∈l,x<n)(hH:J5 (EM id l) l.length):
 Calls Tryz.prog 77 #[.pointer (some ⟨o,0,none⟩),.func (.func 76) #[.agg #[.pointer (some ⟨p,0,none⟩),.int .i64 (c:Int)]] #[]] w fun e w'=>∃r,e= .returned (UK r)/\jr (Qy s c) l r/\Touch (fun b=>b=o\/b=g) w w':=by
 have HP:=Aa h;have zu:=Aa hT;have HL:=Aa hl;have hob:=ho.hB;have hgb:=ho.mQ.1;have hws:=hB.size;clear h hT hl;go_enter Tryz.func77,Tryz.ntmps77
 go_wp2_with fail
 go_loopw [](fun wr=>∃l1 P,(P++l1).Perm l/\(∀x∈P,Qy s c x=false)/\J5 (EM id l1) l1.length/\Ej wr w0.heap.size o g cc l1/\Touch (fun b=>b=o\/b=g) w wr)(fun wr=>VF wr o)
 case atStart=>exact⟨l,[],List.Perm.refl _,by simp,hH,ho,Touch.refl _ _⟩
 case round=>
  obtain⟨l1,P,hp,hP,hh,ho1,ht1⟩:=hrel;have hb1:Below w0.heap.size w0 wr:=hB.trans (ht1.below hws (fun k hk=>by rcases hk with rfl| rfl<;>assumption));have ZU:=Aa hp;have HPf:=Aa hP;have HH:=Aa hh;have HO:=Aa ho1;have HT1:=Aa ht1;have HB1:=Aa hb1;have y0:=ho1.box.cell 0;simp only [Ad]at y0;have hln:=ho1.len;have HLA:=Aa ho1.VF;obtain⟨m,hm⟩:∃m,l1.length=m:=⟨_,rfl⟩;rw [hm]at y0 hln;have HM:=Aa hm;have HLen:=Aa (pG (some ⟨g,0,none⟩) m cc wr (by omega));clear hp hP hh ho1 ht1 hb1 hm ho hH hB;rcases m with _| m
  ·go_wp2_with fail
   refine HLen.out.mono ?_;rintro e w'⟨rfl,rfl⟩
   go_wp2_with fail
   go_ret2;have hnil:l1=[]:=List.eq_nil_of_length_eq_zero HM.out;refine⟨none,rfl,fun x hx=> ?_,HT1.out⟩;have:=ZU.out.mem_iff.2 hx;rw [hnil,YL]at this;exact HPf.out x this
  ·have t1:decide ((0:Int)<((m+1:Nat):Int))=true:=decide_eq_true (by omega);have wW:=Aa (heapPop HO.out HM.out (by have:=HH.out;rw [HM.out]at this;exact this));generalize hmm:m+1=m1 at y0 HLen t1
   go_wp2_with fail
   refine HLen.out.mono ?_;rintro e w'⟨rfl,rfl⟩
   go_wp2_with fail
   refine wW.out.mono ?_;rintro e w2⟨x,l2,rfl,hp2,hx2,hh2,ho2,ht2⟩;have hxl:x∈l:=ZU.out.mem_iff.1 (List.mem_append_right _ (hp2.mem_iff.1 (List.mem_cons_self)));have hxn:=HL.out x hxl;have ht3:=HT1.out.trans ht2 (fun b h=> .inl h);have hb2:Below w0.heap.size w0 w2:=HB1.out.trans (ht2.below (by have:=HB1.out.size;omega) (fun k hk=>by rcases hk with rfl| rfl<;>assumption));have HF:=wX (HP.out.below hb2) (zu.out.below hb2) c x hxn hc;have HP2:=Aa hp2;have HX2:=Aa hx2;have HH2:=Aa hh2;have QW:=Aa ho2;have HT3:=Aa ht3;have ta:=assert_int (x:Int);clear hp2 hx2 hh2 ho2 ht3 ht2 hb2 wW HLen;have hl2:l2.length=m:=by have:=HP2.out.length_eq;simp only [List.length_cons,HM.out]at this;omega
   have HL2:=Aa hl2;clear hl2;cases hf:Qy s c x
   ·rw [hf]at HF;have HF:=Aa HF;have HFx:=Aa hf;clear hf
    go_wp2_with fail
    refine HF.out.mono ?_;rintro e w3⟨rfl,hb3⟩;have ho3:=QW.out.below hb3;have ht3:=HT3.out.trans (Touch.of_below (F:=fun b=>b=o\/b=g) hb3) (fun b h=> .inl h);have Amy:=Aa ho3.VF;have dK:=Aa ho3;have HT4:=Aa ht3;clear ho3 ht3 hb3 ta
    go_wp2_with fail
    go_roundw
    case rel=>
     refine⟨l2,P++[x],?_,?_,by rw [HL2.out];exact HH2.out,dK.out,HT4.out⟩
     ·rw [List.append_assoc];exact(List.Perm.append_left P HP2.out).trans ZU.out
     ·intro y hy;rcases AL.1 hy with h| h
      ·exact HPf.out y h
      ·rw [List.mem_singleton.1 h];exact HFx.out
    case measure=>show VF w3 o<VF wr o;rw [Amy.out,HLA.out,HL2.out,HM.out];omega
   ·rw [hf]at HF;have HF:=Aa HF;have HFx:=Aa hf;clear hf
    go_wp2_with fail
    refine HF.out.mono ?_;rintro e w3⟨rfl,hb3⟩
    go_wp2_with fail
    go_ret2;refine⟨some x,rfl,⟨hxl,HFx.out,fun y hy hfy=> ?_⟩,HT3.out.trans (Touch.of_below (F:=fun b=>b=o\/b=g) hb3) (fun b h=> .inl h)⟩;rcases AL.1 (ZU.out.mem_iff.2 hy)with h| h
    ·rw [HPf.out y h]at hfy;cases hfy
    ·exact HX2.out y h
def Wv(B:Nat):Array MapEntry:= #[{key:= .int .i64 0,val:= .pointer (some ⟨B+2,0,none⟩),born:=0},{key:= .int .i64 1,val:= .pointer (some ⟨B+4,0,none⟩),born:=1},{key:= .int .i64 2,val:= .pointer (some ⟨B+6,0,none⟩),born:=2}]
structure Tri(w0 W:World)(g cc:Nat->Nat)(Ls:Nat->List Nat):Prop where
 map:W.heap[w0.heap.size]? =some (.map (Wv w0.heap.size) 3)
 ord:∀c,c<3->Ej W w0.heap.size (w0.heap.size+2+2*c) (g c) (cc c) (Ls c)
 heap:∀c,c<3->J5 (EM id (Ls c)) (Ls c).length
 apart:∀c c',c<3->c'<3->c≠c'->g c≠g c'/\g c≠w0.heap.size+2+2*c'
 low:Below w0.heap.size w0 W
theorem Tri.keep{w0 W W':World}{g cc:Nat->Nat}{Ls:Nat->List Nat}(h:Tri w0 W g cc Ls)(k:Below W.heap.size W W'):Tri w0 W' g cc Ls:=
 ⟨(k.block _ (Az.1 h.map).1).trans h.map,fun c hc=>(h.ord c hc).below k,h.heap,h.apart,h.low.trans (k.mono h.low.size)⟩
theorem Tri.push{w0 W W':World}{g cc:Nat->Nat}{Ls:Nat->List Nat}(h:Tri w0 W g cc Ls)(c:Nat)(hc:c<3){g' c':Nat}{l':List Nat}(ho:Ej W' w0.heap.size (w0.heap.size+2+2*c) g' c' l')(hh:J5 (EM id l') l'.length)
 (hg:g'=g c\/W.heap.size<=g')(t:Touch (fun b=>b=w0.heap.size+2+2*c\/b=g c) W W'):
 Tri w0 W' (fun x=>if x=c then g' else g x) (fun x=>if x=c then c' else cc x) (fun x=>if x=c then l' else Ls x):=by
 have hgc:=(h.ord c hc).mQ;have hmb:w0.heap.size≠g c:=fun e=>by
  rcases(h.ord c hc).row.2 with⟨h',_⟩| ⟨g2,cap,cur,hv,hB,hg2,_⟩
  ·cases h'
  ·simp only [Value.slice.injEq,Option.some.injEq,Addr.mk.injEq,and_true,true_and]at hv;obtain⟨rfl,rfl⟩:=hv;have:=h.map;rw [e,hg2]at this;cases this
 have Ag2:=(Az.1 h.map).1;refine⟨(t.block _ Ag2 (fun e=>by rcases e with e| e;omega;exact hmb e)).trans h.map,fun x hx=> ?_,fun x hx=> ?_,fun x y hx hy hxy=> ?_,h.low.trans (t.below h.low.size (fun k hk=>by rcases hk with rfl| rfl;omega;exact hgc.1))⟩
 ·by_cases e:x=c
  ·subst e;simp only [if_true];exact ho
  ·simp only [if_neg e];have:=h.apart c x hc hx (fun e'=>e e'.symm);have h2:=h.apart x c hx hc e;exact(h.ord x hx).touch t (fun e'=>by rcases e' with e'| e';omega;exact this.2 e'.symm) (fun e'=>by rcases e' with e'| e';exact h2.2 e';exact this.1 e'.symm)
 ·by_cases e:x=c
  ·simp only [if_pos e];exact hh
  ·simp only [if_neg e];exact h.heap x hx
 ·have hol:∀z,z<3->w0.heap.size+2+2*z<W.heap.size:=fun z hz=>(h.ord z hz).box.lt
  have hgl:∀z,z<3->g z<W.heap.size:=fun z hz=>(h.ord z hz).mQ.2
  by_cases ex:x=c
  ·have ey:¬y=c:=fun e=>hxy (by rw [ex,e])
   simp only [if_pos ex,if_neg ey];rcases hg with e| e
   ·rw [e,<-ex];exact h.apart x y hx hy hxy
   ·have:=hol y hy;have:=hgl y hy;omega
  ·by_cases ey:y=c
   ·simp only [if_neg ex,if_pos ey];have hxc:=h.apart x c hx hc ex;refine⟨?_,by rw [ey];exact hxc.2⟩;rcases hg with e| e
    ·rw [e];exact hxc.1
    ·have:=hgl x hx;omega
   ·simp only [if_neg ex,if_neg ey];exact h.apart x y hx hy hxy
theorem dL(W:World)(B:Nat)(hB:B<=W.heap.size):Ej ((W.alloc (.cells #[] 3)).alloc (.cells #[.slice (some ⟨W.heap.size,0,none⟩) 0 0] 212)) B (W.heap.size+1) W.heap.size 0 []:=by
 have h1:(W.alloc (.cells #[] 3)).heap.size=W.heap.size+1:=by simp
 refine⟨?_,?_,by omega,by omega,by simp⟩
 ·rw [<-h1];exact heap_alloc_new _ _
 ·exact own_below (World.ownsRow_made W #[] 0 hB (by decide) rfl) ((Below.refl _ _).alloc (Ae _) _)
theorem Tryz.PD:Tryz.prog.underlying 162=some (.map 3 169):=Tryz.underlying162
theorem UL(w W1 W2 W3:World)(h1:W1=Ey (((w.alloc (.map #[] 0)).alloc (.cells #[] 3)).alloc (.cells #[.slice (some ⟨w.heap.size+1,0,none⟩) 0 0] 212)) w.heap.size #[{key:= .int .i64 0,val:= .pointer (some ⟨w.heap.size+1+1,0,none⟩),born:=0}] 1)
 (h2:W2=Ey ((W1.alloc (.cells #[] 3)).alloc (.cells #[.slice (some ⟨W1.heap.size,0,none⟩) 0 0] 212)) w.heap.size #[{key:= .int .i64 0,val:= .pointer (some ⟨w.heap.size+2,0,none⟩),born:=0},{key:= .int .i64 1,val:= .pointer (some ⟨W1.heap.size+1,0,none⟩),born:=1}] 2)
 (h3:W3=Ey ((W2.alloc (.cells #[] 3)).alloc (.cells #[.slice (some ⟨W2.heap.size,0,none⟩) 0 0] 212)) w.heap.size (Wv w.heap.size) 3):
 W1.heap.size=w.heap.size+3/\W2.heap.size=w.heap.size+5/\W1.heap[w.heap.size]? =some (.map #[{key:= .int .i64 0,val:= .pointer (some ⟨w.heap.size+1+1,0,none⟩),born:=0}] 1)/\Tri w W3 (fun c=>w.heap.size+1+2*c) (fun _=>0) (fun _=>[]):=by
 have s1:W1.heap.size=w.heap.size+3:=by rw [h1,VD];simp
 have s2:W2.heap.size=w.heap.size+5:=by rw [h2,VD];simp [s1]
 have hs0:(w.alloc (.map #[] 0)).heap.size=w.heap.size+1:=by simp
 have b0:Below w.heap.size w (w.alloc (.map #[] 0)):=(Below.refl _ _).alloc (Ae _) _;have o1:=dL (w.alloc (.map #[] 0)) w.heap.size (by omega);rw [hs0]at o1;have t1:=JW (((w.alloc (.map #[] 0)).alloc (.cells #[] 3)).alloc (.cells #[.slice (some ⟨w.heap.size+1,0,none⟩) 0 0] 212)) w.heap.size #[{key:= .int .i64 0,val:= .pointer (some ⟨w.heap.size+1+1,0,none⟩),born:=0}] 1;rw [<-h1]at t1;have o1':=o1.touch t1 (by omega) (by omega);have l1:Below w.heap.size w W1:=((b0.alloc (by simp) _).alloc (by simp;omega) _).trans (t1.below (by simp;omega) (fun k hk=>by rw [hk];exact Ae _));have m1:W1.heap[w.heap.size]? =some (.map #[{key:= .int .i64 0,val:= .pointer (some ⟨w.heap.size+1+1,0,none⟩),born:=0}] 1):=by rw [h1];exact O7 _ _ _ _ (by simp;omega)
 have o2:=dL W1 w.heap.size (by omega);have b1:Below W1.heap.size W1 ((W1.alloc (.cells #[] 3)).alloc (.cells #[.slice (some ⟨W1.heap.size,0,none⟩) 0 0] 212)):=((Below.refl _ _).alloc (Ae _) _).alloc (by simp) _;have t2:Touch (fun b=>b=w.heap.size) ((W1.alloc (.cells #[] 3)).alloc (.cells #[.slice (some ⟨W1.heap.size,0,none⟩) 0 0] 212)) W2:=by rw [h2];exact JW _ _ _ _
 have o12:=(o1'.below b1).touch t2 (by omega) (by omega);have o2':=o2.touch t2 (by omega) (by omega);have l2:Below w.heap.size w W2:=l1.trans ((b1.mono (by omega)).trans (t2.below (by simp;omega) (fun k hk=>by rw [hk];exact Ae _)));have o3:=dL W2 w.heap.size (by omega);have b2:Below W2.heap.size W2 ((W2.alloc (.cells #[] 3)).alloc (.cells #[.slice (some ⟨W2.heap.size,0,none⟩) 0 0] 212)):=((Below.refl _ _).alloc (Ae _) _).alloc (by simp) _;have t3:Touch (fun b=>b=w.heap.size) ((W2.alloc (.cells #[] 3)).alloc (.cells #[.slice (some ⟨W2.heap.size,0,none⟩) 0 0] 212)) W3:=by rw [h3];exact JW _ _ _ _
 have o13:=(o12.below b2).touch t3 (by omega) (by omega);have o23:=(o2'.below b2).touch t3 (by omega) (by omega);have o33:=o3.touch t3 (by omega) (by omega);have l3:Below w.heap.size w W3:=l2.trans ((b2.mono (by omega)).trans (t3.below (by simp;omega) (fun k hk=>by rw [hk];exact Ae _)));refine⟨s1,s2,m1,⟨by rw [h3];exact O7 _ _ _ _ (by simp;omega),fun c hc=> ?_,fun c hc k h0 hk=>by simp at hk,fun c c' hc hc' hne=>by constructor<;>omega,l3⟩⟩;rw [s1]at o23;rw [s2]at o33
 match c,hc with
 | 0,_=>exact o13
 | 1,_=>exact o23
 | 2,_=>exact o33
def NT(s:St)(c k:Nat):List Nat:=(List.range k).filter fun i=>decide (Bd (Cm s i)=c)
theorem pJ(s:St)(c k:Nat):NT s c (k+1)=NT s c k++if Bd (Cm s k)=c then [k]else []:=by
 unfold NT;rw [YM,List.filter_append];by_cases h:Bd (Cm s k)=c<;>simp [h]
theorem Aa0(s:St)(c k:Nat):(NT s c k).length<=k:=by
 have:=List.length_filter_le (fun i=>decide (Bd (Cm s i)=c)) (List.range k);simpa [NT]using this
theorem pK(x:Nat):Bd x<3:=by
 have h4:=MQ x;by_cases h:Bd x=3
 ·exfalso;unfold Bd at h;split at h
  ·rename_i hr;unfold FI at hr;rw [h]at hr;by_cases h0:x=0
   ·subst h0;revert h;decide
   ·simp [h0,Bi,fieldN,Nat.mod_one]at hr
  ·cases h
 ·omega
theorem jv{w:World}{d p L:Nat}{s:St}{tb hb n cT cH:Nat}(h:Iu w d p L s tb hb n cT cH):
 Calls Tryz.prog 75 #[.pointer (some ⟨p,0,none⟩)] w fun e w'=>e= .returned (.map (some w.heap.size))/\
  ∃g cc Ls,Tri w w' g cc Ls/\∀c,c<3->(Ls c).Perm (NT s c n):=by
 have HP:=Aa h;have Aka:=Dq w _ h.y5;have y5:=h.y5;have hn:n<=64:=by have:=h.ok.fits;have:=h.L1;have:=h.dm;omega
 have mm:=fun W=>run_makeMap (P:=Tryz.prog) 162 W
 clear h;go_enter Tryz.func75,Tryz.ntmps75
 go_wp2_with fail
 rw [WI Tryz.PD Tryz.underlying3 _ _ #[] 0 _ _ ?h1 ?f1]
 case h1=>exact(heap_alloc_old _ _ (by simp;omega)).trans ((heap_alloc_old _ _ (by simp)).trans (heap_alloc_new _ _))
 case f1=>rfl
 obtain⟨W1,hW1⟩:∃W1,W1=Ey (((w.alloc (.map #[] 0)).alloc (.cells #[] 3)).alloc (.cells #[.slice (some ⟨w.heap.size+1,0,none⟩) 0 0] 212)) w.heap.size #[{key:= .int .i64 0,val:= .pointer (some ⟨w.heap.size+1+1,0,none⟩),born:=0}] 1:=⟨_,rfl⟩;rw [show Ey (((w.alloc (.map #[] 0)).alloc (.cells #[] 3)).alloc (.cells #[.slice (some ⟨w.heap.size+1,0,none⟩) 0 0] 212)) w.heap.size (#[].push {key:= .int .i64 0,val:= .pointer (some ⟨w.heap.size+1+1,0,none⟩),born:=0}) (0+1)=W1 from hW1.symm];have HW1:=Aa hW1;obtain⟨s1, -,m1, -⟩:=UL w W1 _ _ hW1 rfl rfl;clear hW1
 go_wp2_with fail
 rw [WI Tryz.PD Tryz.underlying3 _ _ _ 1 _ _ ?h2 ?f2]
 case h2=>exact(heap_alloc_old _ _ (by simp;omega)).trans ((heap_alloc_old _ _ (by omega)).trans m1)
 case f2=>rfl
 obtain⟨W2,hW2⟩:∃W2,W2=Ey ((W1.alloc (.cells #[] 3)).alloc (.cells #[.slice (some ⟨w.heap.size+3,0,none⟩) 0 0] 212)) w.heap.size #[{key:= .int .i64 0,val:= .pointer (some ⟨w.heap.size+1+1,0,none⟩),born:=0},{key:= .int .i64 1,val:= .pointer (some ⟨w.heap.size+3+1,0,none⟩),born:=1}] 2:=⟨_,rfl⟩;rw [show Ey ((W1.alloc (.cells #[] 3)).alloc (.cells #[.slice (some ⟨w.heap.size+3,0,none⟩) 0 0] 212)) w.heap.size (#[{key:= .int .i64 0,val:= .pointer (some ⟨w.heap.size+1+1,0,none⟩),born:=0}].push {key:= .int .i64 1,val:= .pointer (some ⟨w.heap.size+3+1,0,none⟩),born:=1}) (1+1)=W2 from hW2.symm];have Ag3:W2=Ey ((W1.alloc (.cells #[] 3)).alloc (.cells #[.slice (some ⟨W1.heap.size,0,none⟩) 0 0] 212)) w.heap.size #[{key:= .int .i64 0,val:= .pointer (some ⟨w.heap.size+2,0,none⟩),born:=0},{key:= .int .i64 1,val:= .pointer (some ⟨W1.heap.size+1,0,none⟩),born:=1}] 2:=by rw [hW2,s1]
 have m2:W2.heap[w.heap.size]? =some (.map #[{key:= .int .i64 0,val:= .pointer (some ⟨w.heap.size+1+1,0,none⟩),born:=0},{key:= .int .i64 1,val:= .pointer (some ⟨w.heap.size+3+1,0,none⟩),born:=1}] 2):=by rw [hW2];exact O7 _ _ _ _ (by simp;omega)
 obtain⟨-,s2, -, -⟩:=UL w W1 W2 _ HW1.out Ag3 rfl;have HW2:=Aa Ag3;clear hW2 Ag3 m1
 go_wp2_with fail
 rw [WI Tryz.PD Tryz.underlying3 _ _ _ 2 _ _ ?h3 ?f3]
 case h3=>exact(heap_alloc_old _ _ (by simp;omega)).trans ((heap_alloc_old _ _ (by omega)).trans m2)
 case f3=>rfl
 obtain⟨W3,hW3⟩:∃W3,W3=Ey ((W2.alloc (.cells #[] 3)).alloc (.cells #[.slice (some ⟨w.heap.size+5,0,none⟩) 0 0] 212)) w.heap.size (Wv w.heap.size) 3:=⟨_,rfl⟩;rw [show Ey ((W2.alloc (.cells #[] 3)).alloc (.cells #[.slice (some ⟨w.heap.size+5,0,none⟩) 0 0] 212)) w.heap.size (#[{key:= .int .i64 0,val:= .pointer (some ⟨w.heap.size+1+1,0,none⟩),born:=0},{key:= .int .i64 1,val:= .pointer (some ⟨w.heap.size+3+1,0,none⟩),born:=1}].push {key:= .int .i64 2,val:= .pointer (some ⟨w.heap.size+5+1,0,none⟩),born:=2}) (2+1)=W3 from hW3.symm];have Akb:W3=Ey ((W2.alloc (.cells #[] 3)).alloc (.cells #[.slice (some ⟨W2.heap.size,0,none⟩) 0 0] 212)) w.heap.size (Wv w.heap.size) 3:=by rw [hW3,s2]
 obtain⟨-, -, -,Ag4⟩:=UL w W1 W2 W3 HW1.out HW2.out Akb;have y53:W3.cell? ⟨p,5,none⟩=some (.slice (some ⟨tb,0,none⟩) n cT):=(HP.out.below Ag4.low).y5;clear hW3 Akb HW1 HW2 m2 s1 s2 y5 mm;have HT0:=Aa Ag4;clear Ag4
 go_wp2_with fail
 go_loopw [18](fun i wr=>∃k g cc Ls,k<=n/\i= .int .i64 (k:Nat)/\Tri w wr g cc Ls/\∀c,c<3->(Ls c).Perm (NT s c k))(fun i _=>n- (intOf i).toNat)
 case atStart=>exact⟨0,_,_,_,Nat.zero_le _,rfl,HT0.out,fun c _=>List.Perm.refl _⟩
 case round=>
  obtain⟨k,g,cc,Ls,hk,rfl,XO,hperm⟩:=hrel;have uh:=Aa XO;have ZU:=Aa hperm;clear XO hperm HT0 y53;by_cases hlt:k<n
  ·have hcl:=pK (Cm s k);obtain⟨c,hc⟩:∃c,Bd (Cm s k)=c:=⟨_,rfl⟩;rw [hc]at hcl;have HC:=Aa (GK (Cm s k) · (Nr s k));rw [hc]at HC;have SL:=Aa hc;clear hc
   go_wp2_with fail
   refine(KT (HP.out.below uh.out.low) k hlt).mono ?_;rintro e w2⟨rfl,hd2⟩
   go_wp2_with fail
   refine(HC.out _).mono ?_;rintro e w3⟨rfl,hd3⟩;have hd:=hd2.trans hd3;have Akc:=uh.out.keep (hd.below _);have HT3:=Aa Akc;clear Akc hd2 hd3 hd
   go_wp2_with fail
   rw [Np Tryz.PD Tryz.underlying3 _ _ (Wv w.heap.size) 3 _ c (.pointer (some ⟨w.heap.size+2+2*c,0,none⟩)) ?h4 ?f4]
   case h4=>exact HT3.out.map
   case f4=>
    match c,hcl with
    | 0,_=>rfl
    | 1,_=>rfl
    | 2,_=>rfl
   have hlen:(Ls c).length<1000:=by
    have:=(ZU.out c hcl).length_eq;have:=Aa0 s c k;omega
   have Qg:=Aa (Aaz k (HT3.out.ord c hcl) hlen (HT3.out.heap c hcl))
   go_wp2_with fail
   refine Qg.out.mono ?_;rintro e w4⟨rfl,g',c',l',hp',hh',ho',hg',ht'⟩;have HT4:=Aa (HT3.out.push c hcl ho' hh' hg' ht');have Amz:Hid (∀x,x<3->((fun x=>if x=c then l' else Ls x) x).Perm (NT s x (k+1))):=Aa (fun x hx=>by
    rw [pJ,SL.out];by_cases e:x=c
    ·subst e;simp only [if_true];exact hp'.trans (List.Perm.append_right _ (ZU.out x hx))
    ·rw [if_neg (show¬c=x from fun h=>e h.symm),YL];simp only [if_neg e];exact ZU.out x hx)
   clear hp' hh' ho' hg' ht' Qg
   go_wp2_with fail
   go_roundw
   case rel=>exact⟨k+1,_,_,_,by omega,by go_num,HT4.out,Amz.out⟩
   case measure=>simp [intOf];omega
  ·have hkn:k=n:=by omega
   subst hkn
   go_wp2_with fail
   go_ret;exact⟨rfl,g,cc,Ls,uh.out,ZU.out⟩
theorem XP{s:St}{c k n:Nat}{l:List Nat}{r:Option Nat}(hn:s.tk.length=n)(hl:l.Perm (NT s k n))(h:jr (Qy s c) l r):KN s k c=r:=by
 have hmem:∀x,x∈l<->x<n/\Bd (Cm s x)=k:=fun x=>by rw [hl.mem_iff];simp [NT]
 unfold KN;rw [hn];cases r with
 | none=>
   rw [List.find?_eq_none];intro x hx;have hxn:x<n:=DY.1 hx;by_cases e:Bd (Cm s x)=k
   ·have:=h x ((hmem x).2 ⟨hxn,e⟩);unfold Qy at this;simp [e,this]
   ·simp [e]
 | some i=>
   obtain⟨h1,h2,h3⟩:=h;obtain⟨hin,hik⟩:=(hmem i).1 h1;rw [List.find?_range_eq_some];refine⟨by unfold Qy at h2;simp [hik,h2],DY.2 hin,fun j hj=> ?_⟩;by_cases e:Bd (Cm s j)=k
   ·by_cases f:Qy s c j=true
    ·have:=h3 j ((hmem j).2 ⟨by omega,e⟩) f;omega
    ·unfold Qy at f;simp only [Bool.not_eq_true]at f;simp [e,f]
   ·simp [e]
theorem PE{s:St}{c i:Nat}(h:Lj s c=some i):i<s.tk.length/\(JQ (Cm s i) c).isSome=true:=by
 have key:∀k,KN s k c=some i->i<s.tk.length/\(JQ (Cm s i) c).isSome=true:=fun k hk=>by
  unfold KN at hk;have h1:=DY.1 (List.mem_of_find?_eq_some hk);have h2:=List.find?_some hk;simp only [Bool.and_eq_true]at h2;exact⟨h1,h2.2⟩
 unfold Lj at h;split at h
 ·rename_i j hj;injection h with h
  subst h;exact key c hj
 ·exact key 0 h
theorem jy{x c k:Nat}(h:JQ x c=some k):k<16:=by
 unfold JQ at h;split at h
 ·have:=dw h;have:=H7 c;omega
 ·cases h
theorem PG{w:World}{d p L:Nat}{s:St}{tb hb n cT cH:Nat}(h:Iu w d p L s tb hb n cT cH)(hT:Ug w)(c:Nat)(hc1:1<=c)(hc2:c<=2){W:World}{g cc:Nat->Nat}{Ls:Nat->List Nat}(ht:Tri w W g cc Ls)(hp:∀x,x<3->(Ls x).Perm (NT s x n))(k:Nat)(hk:k<3):
 Calls Tryz.prog 77 #[.pointer (some ⟨w.heap.size+2+2*k,0,none⟩),.func (.func 76) #[.agg #[.pointer (some ⟨p,0,none⟩),.int .i64 (c:Int)]] #[]] W fun e w'=>
  e= .returned (UK (KN s k c))/\Below w.heap.size w w'/\(∀k',k'<3->k'≠k->Ej w' w.heap.size (w.heap.size+2+2*k') (g k') (cc k') (Ls k'))/\w'.heap[w.heap.size]? =some (.map (Wv w.heap.size) 3):=by
 refine(SN h hT c (by omega) ht.low (ht.ord k hk) (fun x hx=> ?_) (ht.heap k hk)).mono ?_
 ·have:=(hp k hk).mem_iff.1 hx;simp [NT]at this;exact this.1
 rintro e w'⟨r,rfl,hr,htc⟩;have hgk:=(ht.ord k hk).mQ;have Ag2:=(Az.1 ht.map).1;refine⟨by rw [XP h.Ot (hp k hk) hr],ht.low.trans (htc.below ht.low.size (fun b hb=>by rcases hb with rfl| rfl;omega;exact hgk.1)),fun k' hk' hne=> ?_,?_⟩
 ·have a1:=ht.apart k k' hk hk' (fun e=>hne e.symm);have a2:=ht.apart k' k hk' hk hne;exact(ht.ord k' hk').touch htc (fun e=>by rcases e with e| e;omega;exact a1.2 e.symm) (fun e=>by rcases e with e| e;exact a2.2 e;exact a2.1 e)
 ·refine(htc.block _ Ag2 (fun e=> ?_)).trans ht.map;rcases e with e| e
  ·omega
  ·rcases(ht.ord k hk).row.2 with⟨h',_⟩| ⟨g2,cap,cur,hv,hB,hg2,_⟩
   ·cases h'
   ·simp only [Value.slice.injEq,Option.some.injEq,Addr.mk.injEq,and_true,true_and]at hv;obtain⟨rfl,rfl⟩:=hv;have:=ht.map;rw [e,hg2]at this;cases this
def resV(s:St)(c:Nat):Value:=match C9 s c with
 | some (off,_)=> .tuple #[.int .i64 (off:Int),.int .i64 0]
 | none=> .tuple #[.int .i64 0,.int .i64 6]
def Qz(s:St)(c:Nat):St:=match C9 s c with
 | some (_,s1)=>s1
 | none=>s
theorem Es.below{len:DX}{w w':World}{d p L:Nat}{s:St}{tb hb n cT cH:Nat}{own:Nat->Prop}(h:Es len w d p L s tb hb n cT cH own)(k:Below w.heap.size w w'):Es len w' d p L s tb hb n cT cH own:=by
 exact⟨h.dev.below k,h.L0,h.L1,h.shape,(k.block _ h.box.lt).trans h.box,h.tk.keep (k.block _ h.tk.lt),h.hd.keep (k.block _ h.hd.lt),h.Ot,h.oU,h.dm,h.cT,h.cH,h.dp,h.dt,h.dh,h.pt,h.ph,h.th,h.tabs.below k,h.g1,h.g2⟩
theorem PH{m:DX}{w:World}{d p L:Nat}{s:St}{F:Nat->Prop}(h:EL m w d p L s F)(c:Nat)(hc1:1<=c)(hc2:c<=2):
 Calls Tryz.prog 34 #[.pointer (some ⟨p,0,none⟩),.int .i64 (c:Int)] w fun e w'=>e= .returned (resV s c)/\EL m w' d p L (Qz s c) F/\AB F F w w':=by
 have HS:=Aa h;obtain⟨tb,hb,n,cT,cH,own,hr,hF⟩:=h;have HA:=Aa hr.at;have HR:=Aa hr;have HFF:=Aa hF;have hn:s.tk.length=n:=hr.Ot;have hT:Ug w:=hr.tabs.di;have zu:=Aa hT;have HN:=Aa (Gu hr.at);have t0:(((Bi c:Nat):Int)==0)=false:=by
  rw [beq_eq_false_iff_ne];have:Bi c≠0:=by
   rcases(by omega:c=1\/c=2)with rfl| rfl<;>decide
  omega
 have HB:=Aa (Gj c w (by omega));generalize Bi c=bl at HB t0;have zx:=Aa (jv hr.at);have hfind:∀k:Nat,k<3->Instr.findNow (.int .i64) (.int .i64 (k:Int)) (Wv w.heap.size).toList 0=some (some (k,.pointer (some ⟨w.heap.size+2+2*k,0,none⟩))):=fun k hk=>by
  match k,hk with
  | 0,_=>rfl
  | 1,_=>rfl
  | 2,_=>rfl
 have HFi:=Aa hfind;clear hr hF hT hfind;cases h1:KN s c c with
 | some i=>
   have H1:Hid (UK (KN s c c)= .tuple #[.int .i64 (i:Int),.bool true]):=Aa (by rw [h1];rfl);have hsf:Lj s c=some i:=by rw [Lj,h1]
   obtain⟨hin,hns⟩:=PE hsf;rw [hn]at hin;obtain⟨a,hna⟩:=YN.1 hns;have hal:=jy hna;obtain⟨x,hx⟩:∃x,(Gh (hdN s i) c a).1=x:=⟨_,rfl⟩;have hxl:x<18446744073709551616:=by rw [<-hx];exact XE _ _ _ (JY s i) (by omega)
   have hres:C9 s c=some (CS s.sh i c a,{s with hd:=s.hd.set i (AA x)}):=by unfold C9;rw [hsf];simp only [hna,hx]
   have HV:Hid (resV s c= .tuple #[.int .i64 ((CS s.sh i c a:Nat):Int),.int .i64 0]):=Aa (by rw [resV,hres]);have HVS:Hid (Qz s c={s with hd:=s.hd.set i (AA x)}):=Aa (by rw [Qz,hres]);have ui:Hid (dA (JQ (Cm s i) c)=(a:Int)):=Aa (by rw [hna];rfl);have YI:=Aa (take_any (hdN s i) c a · (JY s i) (by omega) (by omega));rw [hx]at YI;generalize(Gh (hdN s i) c a).2=bx at*;clear hsf hns hna hx hres;clear h1;go_enter Tryz.func34,Tryz.ntmps34
   go_wp2_with fail
   refine HN.out.mono ?_;rintro e w'⟨rfl,rfl⟩
   go_wp2_with fail
   refine HB.out.mono ?_;rintro e w'⟨rfl,rfl⟩
   go_wp2_with fail
   refine zx.out.mono ?_;rintro e w1⟨rfl,g,cc,Ls,XO,jA⟩;have uh:=Aa XO;have HPe:=Aa jA;clear XO jA zx HB HN
   go_wp2_with fail
   rw [Np Tryz.PD Tryz.underlying3 _ _ (Wv w.heap.size) 3 _ c _ uh.out.map (HFi.out c (by omega))]
   go_wp2_with fail
   refine(PG HA.out zu.out c hc1 hc2 uh.out HPe.out c (by omega)).mono ?_;rintro e w2⟨rfl,hb2,hord,hmap⟩;rw [H1.out];clear hord hmap;have hbw:=Aa hb2;have HA2:=HA.out.below hb2;have HT2:=zu.out.below hb2;clear hb2
   go_wp2_with fail
   refine(KT HA2 i hin).mono ?_;rintro e w5⟨rfl,hd5⟩
   go_wp2_with fail
   refine(UH (Cm s i) c w5 (Nr s i) (by omega) (HT2.dr hd5)).mono ?_;rintro e w6⟨rfl,hd6⟩;rw [ui.out];have hd:=hd5.trans hd6;have hb6:=hbw.out.trans ((hd.below _).mono hbw.out.size);have ha6:=HA.out.below hb6;have z6:=ha6.y6;have z2:=ha6.hd i hin;have z3:w6.frozen? ⟨hb,i,none⟩=false:=(hb6.frozen (p:=⟨hb,i,none⟩) HR.out.hd.lt).trans (HR.out.hd.frozen i);have NH:=Aa hb6;clear hd5 hd6 hd HA2 HT2 ha6 hb6 hbw
   go_wp2_with fail
   go_region_with(go_at_call 80;go_loud(refine(YI.out _).mono ?_;rintro e w7⟨rfl,q,rfl⟩))
   all_goals(clear z6 z2 z3 YI)
   all_goals(have HSR:Hid (∀W,Dr w6 W->Es m (W.setCell ⟨hb,i,none⟩ (.int .u64 (x:Int))) d p L {s with hd:=s.hd.set i (AA x)} tb hb n cT cH own/\AB F F w (W.setCell ⟨hb,i,none⟩ (.int .u64 (x:Int)))):=Aa (fun W k=>by
    have hk:Below w.heap.size w W:=NH.out.trans ((k.below _).mono NH.out.size);have h1:=(HR.out.below hk).Aar i (AA x);rw [dD x hxl]at h1;exact⟨h1,(AB.of_below hk).set (p:=⟨hb,i,none⟩) (.inl ((HFF.out hb).2 (.inr (.inr (.inr rfl))))) _⟩))
   all_goals(go_wp2_with fail)
   all_goals(refine(SI (HSR.out _ (Dr.one w6 _)).1.at i c a hin (by omega) (by omega)).mono ?_)
   all_goals(rintro e w9⟨rfl,hd9⟩)
   all_goals(go_wp2_with fail)
   all_goals(go_ret2)
   all_goals(refine⟨by rw [HV.out];rfl,?_,(HSR.out _ (Dr.one w6 _)).2.dr hd9⟩)
   all_goals(rw [HVS.out])
   all_goals(exact⟨tb,hb,n,cT,cH,own,(HSR.out _ (Dr.one w6 _)).1.dr hd9,HFF.out⟩)
 | none=>
   have H1:Hid (UK (KN s c c)= .tuple #[.int .i64 0,.bool false]):=Aa (by rw [h1];rfl);by_cases hc0:c=0
   ·omega
   cases h2:KN s 0 c with
   | some i=>
     have H2:=Aa h2;have hsf:Lj s c=some i:=by rw [Lj,h1];exact h2
     obtain⟨hin,hns⟩:=PE hsf;rw [hn]at hin;obtain⟨a,hna⟩:=YN.1 hns;have hal:=jy hna;obtain⟨x,hx⟩:∃x,(Gh (hdN s i) c a).1=x:=⟨_,rfl⟩;have hxl:x<18446744073709551616:=by rw [<-hx];exact XE _ _ _ (JY s i) (by omega)
     have hres:C9 s c=some (CS s.sh i c a,{s with hd:=s.hd.set i (AA x)}):=by unfold C9;rw [hsf];simp only [hna,hx]
     have HV:Hid (resV s c= .tuple #[.int .i64 ((CS s.sh i c a:Nat):Int),.int .i64 0]):=Aa (by rw [resV,hres]);have HVS:Hid (Qz s c={s with hd:=s.hd.set i (AA x)}):=Aa (by rw [Qz,hres]);have ui:Hid (dA (JQ (Cm s i) c)=(a:Int)):=Aa (by rw [hna];rfl);have YI:=Aa (take_any (hdN s i) c a · (JY s i) (by omega) (by omega));rw [hx]at YI;generalize(Gh (hdN s i) c a).2=bx at*;clear hsf hns hna hx hres;clear h1 h2;go_enter Tryz.func34,Tryz.ntmps34
     go_wp2_with fail
     refine HN.out.mono ?_;rintro e w'⟨rfl,rfl⟩
     go_wp2_with fail
     refine HB.out.mono ?_;rintro e w'⟨rfl,rfl⟩
     go_wp2_with fail
     refine zx.out.mono ?_;rintro e w1⟨rfl,g,cc,Ls,XO,jA⟩;have uh:=Aa XO;have HPe:=Aa jA;clear XO jA zx HB HN
     go_wp2_with fail
     rw [Np Tryz.PD Tryz.underlying3 _ _ (Wv w.heap.size) 3 _ c _ uh.out.map (HFi.out c (by omega))]
     go_wp2_with fail
     refine(PG HA.out zu.out c hc1 hc2 uh.out HPe.out c (by omega)).mono ?_;rintro e w2⟨rfl,hb2,hord,hmap⟩;rw [H1.out];have ho0:=hord 0 (by omega) (by omega);rw [show w.heap.size+2+2*0=w.heap.size+2 from rfl]at ho0;have Aa1:=Aa hmap;have HO0:=Aa ho0;clear hord hmap ho0
     go_wp2_with fail
     rw [Np Tryz.PD Tryz.underlying3 _ _ (Wv w.heap.size) 3 0 0 (.pointer (some ⟨w.heap.size+2,0,none⟩)) Aa1.out rfl]
     go_wp2_with fail
     refine(SN HA.out zu.out c (by omega) hb2 HO0.out (fun x hx=> ?_) (uh.out.heap 0 (by omega))).mono ?_
     ·have:=(HPe.out 0 (by omega)).mem_iff.1 hx;simp [NT]at this;exact this.1
     rintro e w3⟨r,rfl,hr3,ht3⟩;have hrr:r=some i:=by rw [<-XP hn (HPe.out 0 (by omega)) hr3];exact H2.out
     subst hrr;have hgk:=HO0.out.mQ;have hok:=HO0.out.hB;replace hb2:=hb2.trans (ht3.below hb2.size (fun b hb=>by rcases hb with rfl| rfl;exact hok;exact hgk.1));clear ht3 hr3 hgk hok HO0 Aa1;rw [show UK (some i)= .tuple #[.int .i64 (i:Int),.bool true]from rfl];have hbw:=Aa hb2;have HA2:=HA.out.below hb2;have HT2:=zu.out.below hb2;clear hb2
     go_wp2_with fail
     refine(KT HA2 i hin).mono ?_;rintro e w5⟨rfl,hd5⟩
     go_wp2_with fail
     refine(UH (Cm s i) c w5 (Nr s i) (by omega) (HT2.dr hd5)).mono ?_;rintro e w6⟨rfl,hd6⟩;rw [ui.out];have hd:=hd5.trans hd6;have hb6:=hbw.out.trans ((hd.below _).mono hbw.out.size);have ha6:=HA.out.below hb6;have z6:=ha6.y6;have z2:=ha6.hd i hin;have z3:w6.frozen? ⟨hb,i,none⟩=false:=(hb6.frozen (p:=⟨hb,i,none⟩) HR.out.hd.lt).trans (HR.out.hd.frozen i);have NH:=Aa hb6;clear hd5 hd6 hd HA2 HT2 ha6 hb6 hbw
     go_wp2_with fail
     go_region_with(go_at_call 80;go_loud(refine(YI.out _).mono ?_;rintro e w7⟨rfl,q,rfl⟩))
     all_goals(clear z6 z2 z3 YI)
     all_goals(have HSR:Hid (∀W,Dr w6 W->Es m (W.setCell ⟨hb,i,none⟩ (.int .u64 (x:Int))) d p L {s with hd:=s.hd.set i (AA x)} tb hb n cT cH own/\AB F F w (W.setCell ⟨hb,i,none⟩ (.int .u64 (x:Int)))):=Aa (fun W k=>by
      have hk:Below w.heap.size w W:=NH.out.trans ((k.below _).mono NH.out.size);have h1:=(HR.out.below hk).Aar i (AA x);rw [dD x hxl]at h1;exact⟨h1,(AB.of_below hk).set (p:=⟨hb,i,none⟩) (.inl ((HFF.out hb).2 (.inr (.inr (.inr rfl))))) _⟩))
     all_goals(go_wp2_with fail)
     all_goals(refine(SI (HSR.out _ (Dr.one w6 _)).1.at i c a hin (by omega) (by omega)).mono ?_)
     all_goals(rintro e w9⟨rfl,hd9⟩)
     all_goals(go_wp2_with fail)
     all_goals(go_ret2)
     all_goals(refine⟨by rw [HV.out];rfl,?_,(HSR.out _ (Dr.one w6 _)).2.dr hd9⟩)
     all_goals(rw [HVS.out])
     all_goals(exact⟨tb,hb,n,cT,cH,own,(HSR.out _ (Dr.one w6 _)).1.dr hd9,HFF.out⟩)
   | none=>
     have H2:=Aa h2;have hres:C9 s c=none:=by unfold C9 Lj;rw [h1,h2]
     have HV:Hid (resV s c= .tuple #[.int .i64 0,.int .i64 6]):=Aa (by rw [resV,hres]);have HVS:Hid (Qz s c=s):=Aa (by rw [Qz,hres]);clear h1 h2 hres;go_enter Tryz.func34,Tryz.ntmps34
     go_wp2_with fail
     refine HN.out.mono ?_;rintro e w'⟨rfl,rfl⟩
     go_wp2_with fail
     refine HB.out.mono ?_;rintro e w'⟨rfl,rfl⟩
     go_wp2_with fail
     refine zx.out.mono ?_;rintro e w1⟨rfl,g,cc,Ls,XO,jA⟩;have uh:=Aa XO;have HPe:=Aa jA;clear XO jA zx HB HN
     go_wp2_with fail
     rw [Np Tryz.PD Tryz.underlying3 _ _ (Wv w.heap.size) 3 _ c _ uh.out.map (HFi.out c (by omega))]
     go_wp2_with fail
     refine(PG HA.out zu.out c hc1 hc2 uh.out HPe.out c (by omega)).mono ?_;rintro e w2⟨rfl,hb2,hord,hmap⟩;rw [H1.out];have ho0:=hord 0 (by omega) (by omega);rw [show w.heap.size+2+2*0=w.heap.size+2 from rfl]at ho0;have Aa1:=Aa hmap;have HO0:=Aa ho0;clear hord hmap ho0
     go_wp2_with fail
     rw [Np Tryz.PD Tryz.underlying3 _ _ (Wv w.heap.size) 3 0 0 (.pointer (some ⟨w.heap.size+2,0,none⟩)) Aa1.out rfl]
     go_wp2_with fail
     refine(SN HA.out zu.out c (by omega) hb2 HO0.out (fun x hx=> ?_) (uh.out.heap 0 (by omega))).mono ?_
     ·have:=(HPe.out 0 (by omega)).mem_iff.1 hx;simp [NT]at this;exact this.1
     rintro e w3⟨r,rfl,hr3,ht3⟩;have hrr:r=none:=by rw [<-XP hn (HPe.out 0 (by omega)) hr3];exact H2.out
     subst hrr;have hgk:=HO0.out.mQ;have hok:=HO0.out.hB;replace hb2:=hb2.trans (ht3.below hb2.size (fun b hb=>by rcases hb with rfl| rfl;exact hok;exact hgk.1));clear ht3 hr3 hgk hok HO0 Aa1;rw [show UK none= .tuple #[.int .i64 0,.bool false]from rfl]
     go_wp2_with fail
     go_ret2;refine⟨by rw [HV.out];rfl,?_,AB.of_below hb2⟩;rw [HVS.out];exact HS.out.below hb2
theorem Tryz.Aa2:J4 Tryz.prog 129 23 (.int .u64 0) 1 8:=⟨Tryz.underlying129,by kernel_rfl,rfl⟩
theorem wY(p t i:Nat)(w:World)(y3:w.cell? ⟨p,3,none⟩=some (.int .i64 (t:Int)))(ht:t<=100000)(hi:i<=100000):Calls Tryz.prog 114 #[.pointer (some ⟨p,0,none⟩),.int .i64 (i:Int)] w fun e w'=>e= .returned (.int .i64 ((t:Int)+8*(i:Int)))/\w=w':=by
 go_enter Tryz.func114,Tryz.ntmps114;go_wp2;go_ret;exact⟨by go_num,rfl⟩
theorem dM(ws:Nat->UInt64)(j k:Nat):(wordsAt ws j (k+1)).map wv=(wordsAt ws j k).map wv++[.int .u64 ((ws (j+k)).toNat:Int)]:=by
 simp [wordsAt,YM,wv]
theorem pM{W4 w5 w6:World}{p0 k g6 c6 base:Nat}{v a0 a1 a2 a3 a4 a6:Value}{ws:Nat->UInt64}{j:Nat}{x:UInt64}(hx:ws (j+k)=x)(_:base<=p0)
 (hP:BI w5 p0 131 [a0,a1,a2,a3,a4,v,a6])(hv:(k=0/\v= .slice none 0 0)\/∃g c,v= .slice (some ⟨g,0,none⟩) k c/\p0<g)(hbl:Below p0 W4 w5)(_:W4.heap.size<=w5.heap.size)
 (hO:w6.ownsRow base 23 1 (.slice (some ⟨g6,0,none⟩) (k+1) c6) (k+1) ((wordsAt ws j k).map wv++[.int .u64 (x.toNat:Int)]))(hB:Below base w5 w6)(hK:Kept w5 w6 v.ownBlock)(hg:v.ownBlock=some g6\/w5.heap.size<=g6):
 BI (w6.setCell ⟨p0,5,none⟩ (.slice (some ⟨g6,0,none⟩) (k+1) c6)) p0 131 [a0,a1,a2,a3,a4,.slice (some ⟨g6,0,none⟩) (k+1) c6,a6]/\p0<g6/\
  (w6.setCell ⟨p0,5,none⟩ (.slice (some ⟨g6,0,none⟩) (k+1) c6)).ownsRow base 23 1 (.slice (some ⟨g6,0,none⟩) (k+1) c6) (k+1) ((wordsAt ws j (k+1)).map wv)/\Below p0 W4 (w6.setCell ⟨p0,5,none⟩ (.slice (some ⟨g6,0,none⟩) (k+1) c6)):=by
 have hne:some p0≠v.ownBlock:=fun e=>by rcases hv with⟨_,h⟩| ⟨g,c,h,hlt⟩<;>(subst h;simp [AX]at e);omega
 have hpg:p0<g6:=by
  rcases hg with h| h
  ·rcases hv with⟨_,h'⟩| ⟨g,c,h',hlt⟩<;>(subst h';simp [AX]at h);omega
  ·have:=hP.lt;omega
 have hP6:BI w6 p0 131 [a0,a1,a2,a3,a4,v,a6]:=(hK.2 p0 hP.lt hne).trans hP;refine⟨hP6.AU 5 _,hpg,?_,?_⟩
 ·rw [dM,hx];refine GY hO ((Touch.refl (fun b=>b=p0) w6).setCell (p:=⟨p0,5,none⟩) (.inl rfl) _) (fun b hb e=> ?_);have:g6=b:=by simpa [AX]using hb
  omega
 ·have Aka:=hP.lt;have hb6:Below p0 w5 w6:=⟨hB.os,hB.tape,hB.output,hK.1,fun b hb=>hK.2 b (Nat.lt_trans hb Aka) (fun e=>by
   rcases hv with⟨_,h'⟩| ⟨g,c,h',hlt⟩
   ·subst h';simp [AX]at e
   ·subst h';have:b=g:=by simpa [AX]using e
    omega)⟩
  exact(hbl.trans hb6).setCell (p:=⟨p0,5,none⟩) (Ae _) _
def Ag5(len:Mode)(d L:Nat)(ws:Nat->UInt64)(own:Nat->Prop)(sh:Sh)(w:World)(e:Ending)(w':World):Prop:=
 Below w.heap.size w w'/\((∀i,i<sh.BM->FI (ws (sh.table/8+i)).toNat=true)->∃p F,e= .returned (.tuple #[.pointer (some ⟨p,0,none⟩),.int .i64 0])/\
  EL len w' d p L {sh:=sh,ws:=ws,tk:=wordsAt ws (sh.table/8) sh.BM,hd:=Bq sh.BM 0} F/\∀b,F b->own b\/w.heap.size<=b)/\
  ((∃i,i<sh.BM/\¬FI (ws (sh.table/8+i)).toNat=true)->e= .returned (.tuple #[.pointer none,.int .i64 5]))
theorem Zc{len:Mode}{w:World}{d L:Nat}{ws:Nat->UInt64}{own:Nat->Prop}{sh:Sh}(hL0:0<L)(hL:L<=1024)(hs:shapeOf L=some sh)(hu:len.lf≠0)(h:Dev w d L ws len (fun _=>0) own)(hT:Tabs w)(g1:¬own 0)(g2:¬own 1)
 (h8:wordsAt ws 0 8=wordsOf sh):
 Calls Tryz.prog 65 #[.pointer (some ⟨d,0,none⟩)] w (Ag5 len d L ws own sh w):=by
 have ok:=Io hs;have HO:=Aa (ZP hL0 hL hs hu h hT);have HV:Hid (Uj ws sh= .tuple #[pg sh,.int .i64 0]):=Aa (by rw [Uj,if_pos h8]);obtain⟨n,hn⟩:∃x,sh.BM=x:=⟨_,rfl⟩;obtain⟨tb,htb⟩:∃x,sh.table=x:=⟨_,rfl⟩;obtain⟨dt,hdt⟩:∃x,sh.data=x:=⟨_,rfl⟩;obtain⟨li,hli⟩:∃x,sh.lines=x:=⟨_,rfl⟩;have hsv:pg sh= .agg #[.int .i64 (li:Int),.int .i64 (n:Int),.int .i64 (tb:Int),.int .i64 (dt:Int)]:=by rw [pg,hn,htb,hdt,hli]
 rw [hsv]at HV;have Ag6:n<=64:=by have:=ok.fits;omega
 have Akd:tb=128:=by rw [<-htb];exact ok.table
 obtain⟨i0,hi,hz0,hz1,hz2⟩:=info_parts Tryz.IU.hi;have hmk:∀W:World,(Instr.makeSlice 129 (.int .i64 (n:Int)) (.int .i64 (n:Int))).run Tryz.prog W= .ok (.slice (some ⟨W.heap.size,0,none⟩) n n) (W.alloc (.cells (madeCells (Aw .u64 0).cells (n*1)) 23)):=fun W=>by
  have:=run_make (P:=Tryz.prog) (w:=W) 129 23 i0 (.int .u64 0) Tryz.underlying129 hi hz0 .i64 .i64 (n:Int) (n:Int) (by omega) (by omega) (by rw [hz2];omega) (by omega);rw [hz1]at this;simpa using this
 obtain⟨zc,hzc⟩:∃zc,madeCells (Aw .u64 0).cells (n*1)=zc:=⟨_,rfl⟩;rw [hzc]at hmk;have HDb:=Aa (fun W(k:Below w.heap.size w W)=>(h.below k:Dev W d L ws len (fun _=>0) own));have wZ:=Aa ok;have HLt:=Aa h.lt;have HSh:=Aa hs;have Am0:tb<=100000:=by omega
 have Ake:=Aa Akd;have HTb:=Aa htb;clear h ok hsv h8 hi hz0 hz1 hz2 Akd htb;go_enter Tryz.func65,Tryz.ntmps65
 go_wp2_with fail
 refine HO.out.mono ?_;rintro e w1⟨rfl,hb1⟩;rw [HV.out]
 go_wp2_with fail
 obtain⟨W2,hW2⟩:∃W2,W2=w1.alloc (.cells #[.int .i64 (li:Int),.int .i64 (n:Int),.int .i64 (tb:Int),.int .i64 (dt:Int)] 73):=⟨_,rfl⟩;have hS2:BI W2 w1.heap.size 73 [.int .i64 (li:Int),.int .i64 (n:Int),.int .i64 (tb:Int),.int .i64 (dt:Int)]:=by rw [hW2];exact heap_alloc_new _ _
 have hb2:Below w.heap.size w W2:=by rw [hW2];exact hb1.alloc hb1.size _
 rw [<-hW2];obtain⟨y0,y1,y2,y3,f0,f1,f2,f3⟩:=Ce hS2;have Akf:BI (W2.alloc (.cells zc 23)) w1.heap.size 73 [.int .i64 (li:Int),.int .i64 (n:Int),.int .i64 (tb:Int),.int .i64 (dt:Int)]:=(heap_alloc_old _ _ hS2.lt).trans hS2;obtain⟨x0,x1,x2,x3,_,_,_,_⟩:=Ce Akf;have HS2:=Aa hS2;have HB2:=Aa hb2;clear hW2 hS2 Akf hb2 hb1 HO;go_region;obtain⟨W4,TB⟩:∃W4,W4=((W2.alloc (.cells zc 23)).alloc (.cells #[.pointer (some ⟨d,0,none⟩),.int .i64 (li:Int),.int .i64 (n:Int),.int .i64 (tb:Int),.int .i64 (dt:Int),.slice none 0 0,.slice (some ⟨W2.heap.size,0,none⟩) n n] 131)).drew:=⟨_,rfl⟩;have e1:(W2.alloc (.cells zc 23)).heap.size=W2.heap.size+1:=by simp
 have hP4:BI W4 (W2.heap.size+1) 131 [.pointer (some ⟨d,0,none⟩),.int .i64 (li:Int),.int .i64 (n:Int),.int .i64 (tb:Int),.int .i64 (dt:Int),.slice none 0 0,.slice (some ⟨W2.heap.size,0,none⟩) n n]:=by
  rw [TB,<-e1];exact heap_alloc_new _ _
 have hZ4:W4.heap[W2.heap.size]? =some (.cells zc 23 (0,0)):=by
  rw [TB];exact(heap_alloc_old _ _ (by omega)).trans (heap_alloc_new _ _)
 have hS4:BI W4 w1.heap.size 73 [.int .i64 (li:Int),.int .i64 (n:Int),.int .i64 (tb:Int),.int .i64 (dt:Int)]:=by
  have:=HS2.out.lt;rw [TB];exact(heap_alloc_old _ _ (by omega)).trans ((heap_alloc_old _ _ this).trans HS2.out)
 have hb4:Below w.heap.size w W4:=by
  have:=HB2.out.size;rw [TB];exact((HB2.out.alloc this _).alloc (by omega) _).trans ((Dr.drew _).below _)
 rw [<-TB];have hws:=HB2.out.size;have hs2:=HS2.out.lt;have iK:W4.heap.size=W2.heap.size+1+1:=by rw [TB];show(Array.size _)=_;simp
 clear TB x0 x1 x2 x3 y0 y1 y2 y3 f0 f1 f2 f3 e1;obtain⟨p0,hp0⟩:∃p0,W2.heap.size+1=p0:=⟨_,rfl⟩;obtain⟨h0,hh0⟩:∃h0,W2.heap.size=h0:=⟨_,rfl⟩;obtain⟨s0,hs0⟩:∃s0,w1.heap.size=s0:=⟨_,rfl⟩;rw [hp0]at hP4 iK⊢;rw [hh0]at hP4 hZ4 hws hs2 hp0⊢;rw [hs0]at hS4 hs2⊢;obtain⟨y0,y1,y2,y3,f0,f1,f2,f3⟩:=Ce hS4;have HP4:=Aa hP4;have HZ4:=Aa hZ4;have gI:=Aa hS4;have HB4:=Aa hb4;clear hP4 hZ4 hS4 hb4 HS2 HB2 HV
 go_wp2_with fail
 go_loopw [27](fun i wr=>∃k v,k<=n/\i= .int .i64 (k:Nat)/\BI wr p0 131 [.pointer (some ⟨d,0,none⟩),.int .i64 (li:Int),.int .i64 (n:Int),.int .i64 (tb:Int),.int .i64 (dt:Int),v,.slice (some ⟨h0,0,none⟩) n n]/\
  ((k=0/\v= .slice none 0 0)\/∃g c,v= .slice (some ⟨g,0,none⟩) k c/\p0<g)/\wr.ownsRow w.heap.size 23 1 v k ((wordsAt ws (tb/8) k).map wv)/\Below p0 W4 wr/\∀i,i<k->FI (ws (tb/8+i)).toNat=true)(fun i _=>n- (intOf i).toNat)
 case atStart=>exact⟨0,_,Nat.zero_le _,rfl,HP4.out,.inl ⟨rfl,rfl⟩,World.ownsRow_nil _ _ _ _,Below.refl _ _,fun i hi=>absurd hi (Nat.not_lt_zero _)⟩
 case round=>
  obtain⟨k,v,hk,rfl,hP,hv,hrow,hbl,hal⟩:=hrel;have hbw:Below w.heap.size w wr:=HB4.out.trans (hbl.mono (by omega));have y3':=hP.cell 3;simp only [Af,Ad]at y3';have HEn:=Aa (wY p0 tb k wr y3' Am0 (by omega));have zy:=Aa hP;have HVk:=Aa hv;have jB:=Aa hrow;have dN:=Aa hbl;have jC:=Aa hbw;have HAl:=Aa hal;clear hP hv hrow hbl y3' hal;by_cases hlt:k<n
  ·obtain⟨gd,hbd,hrd,hod⟩:=HDb.out _ hbw;have HG:=cZ d L ws _ _ gd hbd (tb/8+k) 1 wr hL0 hL hu hrd (by have:=wZ.out.fits;have:=wZ.out.NR;have:=Ake.out;omega);rw [show((8*(tb/8+k):Nat):Int)=(tb:Int)+8*(k:Int)by have:=Ake.out;omega]at HG;have HG:=Aa HG;clear hrd hod hbw
   go_wp2_with fail
   refine HEn.out.mono ?_;rintro e w'⟨rfl,rfl⟩
   go_wp2_with fail
   refine HG.out.mono ?_;rintro e w3⟨v3,rfl,ho3,hb3⟩;obtain⟨A3,c3,rfl,hc3,hr3⟩:=CP ho3;obtain⟨g3,rfl,hg3,Am1⟩:=JV ho3 (by omega);have hc0:w3.cell? ⟨g3,0,none⟩=some (.int .u64 ((ws (tb/8+k)).toNat:Int)):=by
    obtain⟨b,off,e,_,hc⟩:=hr3.2 (by omega);injection e with e;injection e with e1 e2;subst e1 e2
    rw [hc 0 (by omega)];simp [O8,wv]
   have gJ:=Aa (SG (ws (tb/8+k)).toNat · (UInt64.toNat_lt _));by_cases hR:FI (ws (tb/8+k)).toNat=true
   case neg=>
    have JF:FI (ws (tb/8+k)).toNat=false:=by simpa using hR
    rw [JF]at gJ;have HNR:=Aa hR;have HB3:=Aa (jC.out.trans (hb3.mono jC.out.size));obtain⟨x,hx⟩:∃x,ws (tb/8+k)=x:=⟨_,rfl⟩;rw [hx]at hc0 gJ;clear ho3 hr3 hb3 hx hR JF HG HEn
    go_wp2_with fail
    refine(gJ.out _).mono ?_;rintro e w5⟨rfl,hd5⟩;have Ou:=Aa (HB3.out.trans ((hd5.below _).mono HB3.out.size));clear hd5 HB3 gJ hc0
    go_wp2_with fail
    go_ret2;have e1:sh.table/8=tb/8:=by rw [HTb.out]
    exact⟨Ou.out,fun h=>absurd (by have:=h k (by rw [hn];exact hlt);rw [e1]at this;exact this) HNR.out,fun _=>rfl⟩
   rw [hR]at gJ;have hP3:=zy.out.below hb3 zy.out.lt;have Apb:p0<g3:=by have:=zy.out.lt;omega
   have hrow3:=own_below jB.out hb3;have Akg:=dN.out.trans (hb3.mono (Iy zy.out.lt));have dO:=Aa hP3;have Akh:=Aa hrow3;have Aki:=Aa Akg;obtain⟨x,hx⟩:∃x,ws (tb/8+k)=x:=⟨_,rfl⟩;rw [hx]at hc0 gJ;have HX:=Aa hx;have HAk:Hid (∀i,i<k+1->FI (ws (tb/8+i)).toNat=true):=Aa (fun i hi=>by
    rcases Nat.lt_succ_iff_lt_or_eq.1 hi with h| h
    ·exact HAl.out i h
    ·subst h;rw [hx];rw [<-hx];exact hR)
   clear ho3 hr3 hb3 hP3 hrow3 Akg hx hR HG HEn
   go_wp2_with fail
   refine(gJ.out _).mono ?_;rintro e w5⟨rfl,hd5⟩;have hb5:=hd5.below w3.heap.size;have hP5:=dO.out.below hb5 dO.out.lt;have hc5:=(hb5.cell (p:=⟨g3,0,none⟩) Am1).trans hc0;have Af7:=own_below Akh.out hb5;have Akj:=Aki.out.trans (hb5.mono (Iy dO.out.lt));have z5:=hP5.cell 5;have f5:=hP5.frozen 5;have hp5:=hP5.lt;simp only [Af,Ad]at z5;have HP5:=Aa hP5;have Am2:=Aa Af7;have Akk:=Aa Akj;have hw5:w.heap.size<=w5.heap.size:=by omega
   clear hd5 hb5 hP5 Af7 Akj hc0 dO Akh Aki gJ;obtain⟨wd,hwd⟩:∃wd,wd=w5.drew:=⟨_,rfl⟩
   go_wp2_with fail
   go_region_law(refine MJ rfl (.tmp 50) (.tmp 54) 129 rfl Tryz.Aa2 w5 w.heap.size v k ((wordsAt ws (tb/8) k).map wv) [.int .u64 (x.toNat:Int)] rfl Am2.out rfl rfl rfl rfl w5.heap.size 1 rfl rfl rfl (by decide) (by intro u hu;simp at hu;subst hu;rfl) (by omega) (by decide) hw5 ?_;intro g6 c6 w6 XQ QV hK6 gK;have hng:some p0≠v.ownBlock:=(fun e=>by rcases HVk.out with⟨_,h⟩| ⟨g,c,h,hlt⟩<;>(subst h;simp [AX]at e);omega);have z6:=(World.cell?_of_block (w:=w5) (a:=⟨p0,5,none⟩) (hK6.2 p0 hp5 hng)).trans z5;have f6:=(World.frozen?_of_block (w:=w5) (a:=⟨p0,5,none⟩) (hK6.2 p0 hp5 hng)).trans f5)
   all_goals(obtain⟨q1,q2,q3,q4⟩:=pM HX.out (by omega) HP5.out HVk.out Akk.out Akk.out.size XQ QV hK6 gK)
   all_goals(have Q1:=Aa q1)
   all_goals(have Q3:=Aa q3)
   all_goals(have Q4:=Aa q4)
   all_goals(clear q1 q3 q4 XQ QV hK6 gK hng z6 f6 z5 f5 hc5)
   all_goals(go_wp2_with fail)
   all_goals(go_roundw)
   all_goals(try(case rel=>exact⟨k+1,_,by omega,by go_num,Q1.out,.inr ⟨g6,c6,rfl,q2⟩,Q3.out,Q4.out,HAk.out⟩))
   all_goals(try(simp [intOf];omega))
  ·have hkn:k=n:=by omega
   subst hkn
   go_wp2_with fail
   go_ret2;have hn0:0<k:=by rw [<-hn];exact wZ.out.BM
   rcases HVk.out with⟨h0',_⟩| ⟨g,c,rfl,hgp⟩
   ·omega
   have hlt:=HLt.out;have hrow:=jB.out;have hZ:=(dN.out.block h0 (by omega)).trans HZ4.out;have hgl:=JV hrow hn0;have htl:=hT.lt;have e1:sh.table/8=tb/8:=by rw [HTb.out]
   refine⟨jC.out,fun _=> ?_,fun⟨i,hi,hni⟩=>absurd (by rw [e1];exact HAl.out i (by rw [<-hn];exact hi)) hni⟩;refine⟨p0,fun b=>own b\/b=p0\/b=g\/b=h0,rfl,⟨g,h0,k,c,k,own,⟨⟨HDb.out _ jC.out,hu⟩,hL0,hL,HSh.out,?_,?_,?_,?_,?_,?_,(Cj hrow).1,Ae _,fun h=> ?_,fun h=> ?_,fun h=> ?_,by omega,by omega,by omega,hT.below jC.out,?_,?_⟩,fun _=>Iff.rfl⟩,fun b hb=> ?_⟩
   ·show BI wr p0 _ _;rw [hli,hn,HTb.out,hdt];exact zy.out
   ·rw [hn,e1];exact Qx.LY hrow
   ·refine⟨zc,hZ,fun t ht=> ?_⟩;have ht':t<k:=by rw [List.length_replicate,hn]at ht;exact ht
    rw [<-Array.getElem?_toList,<-hzc,KH,List.getElem?_map,Ii,if_pos ht',gW];rfl
   ·simp [wordsAt,hn]
   ·simp [hn]
   ·exact hn.symm
   ·have:=hlt _ h;omega
   ·have:=hlt _ h;omega
   ·have:=hlt _ h;omega
   ·rintro(h| h| h| h)
    ·exact g1 h
    ·omega
    ·omega
    ·omega
   ·rintro(h| h| h| h)
    ·exact g2 h
    ·omega
    ·omega
    ·omega
   ·rcases hb with h| h| h| h
    ·exact .inl h
    ·right;omega
    ·right;omega
    ·right;omega
theorem ZV{len:Mode}{w:World}{d L:Nat}{ws:Nat->UInt64}{own:Nat->Prop}{sh:Sh}(hL0:0<L)(hL:L<=1024)(hs:shapeOf L=some sh)(hu:len.lf≠0)(h:Dev w d L ws len (fun _=>0) own)(hT:Tabs w)(g1:¬own 0)(g2:¬own 1)
 (h8:wordsAt ws 0 8=wordsOf sh)(hall:∀i,i<sh.BM->FI (ws (sh.table/8+i)).toNat=true):
 Calls Tryz.prog 65 #[.pointer (some ⟨d,0,none⟩)] w fun e w'=>∃p F,e= .returned (.tuple #[.pointer (some ⟨p,0,none⟩),.int .i64 0])/\
  EL len w' d p L {sh:=sh,ws:=ws,tk:=wordsAt ws (sh.table/8) sh.BM,hd:=Bq sh.BM 0} F/\Below w.heap.size w w'/\∀b,F b->own b\/w.heap.size<=b:=by
 refine(Zc hL0 hL hs hu h hT g1 g2 h8).mono ?_;rintro e w'⟨hb,h1,_⟩;obtain⟨p,F,he,hS,ho⟩:=h1 hall;exact⟨p,F,he,hS,hb,ho⟩
theorem pO(j n:Nat):BA (fun _=>0) j (Bq n 0)=fun _=>0:=by
 funext i;unfold BA;split
 ·rw [Bh,Ii];split<;>rfl
 ·rfl
theorem Q5(sh:Sh):(wordsOf sh).length=8:=rfl
theorem VG(sh:Sh):wordsAt (MH sh) 0 8=wordsOf sh:=by
 apply Ew
 ·rfl
 ·intro i h1 h2;have hi:i<8:=by simpa [wordsAt]using h1
  have h8:=Q5 sh;simp only [wordsAt,MX,U8];unfold MH BA;rw [if_pos (by omega),Bh,show 0+i-0=i by omega,List.getElem?_eq_getElem h2];rfl
theorem H8(sh:Sh)(i:Nat)(hi:8<=i):MH sh i=0:=by
 unfold MH BA;have h8:=Q5 sh;rw [if_neg (by omega)]
def st0(sh:Sh):St:={sh:=sh,ws:=MH sh,tk:=Bq sh.BM 0,hd:=Bq sh.BM 0}
theorem dP(sh:Sh)(h:sh.table=128):wordsAt (MH sh) (sh.table/8) sh.BM=Bq sh.BM 0:=by
 apply Ew
 ·simp [wordsAt]
 ·intro i h1 h2;simp only [wordsAt,MX,U8,gW];exact H8 sh _ (by omega)
theorem pR{w:World}{L:Nat}{sh:Sh}(hL0:0<L)(hL:L<=1024)(hs:shapeOf L=some sh)(hT:Tabs w):
 Calls Tryz.prog 39 #[.int .i64 (L:Int)] w fun e w'=>∃d p F,e= .returned (.tuple #[.pointer (some ⟨d,0,none⟩),.pointer (some ⟨p,0,none⟩)])/\
  Sys w' d p L (st0 sh) F/\Below w.heap.size w w'/\∀b,F b->w.heap.size<=b:=by
 have htl:=hT.lt;obtain⟨v0,v1,v2,v3,hsv⟩:∃v0 v1 v2 v3:Nat,pg sh= .agg #[.int .i64 (v0:Int),.int .i64 (v1:Int),.int .i64 (v2:Int),.int .i64 (v3:Int)]:=⟨_,_,_,_,rfl⟩;have HSV:=Aa hsv;have HTb:=Aa (Io hs).table;clear hsv;go_enter Tryz.func39,Tryz.ntmps39
 go_wp2_with fail
 refine(tZ L w hL0 hL).mono ?_;rintro e w1⟨d,g,rfl,hr,hd1,hg1,hb1⟩;have hD1:Dev w1 d L (fun _=>0) M0 (fun _=>0) (Dh d L g (fun _=>none)):=⟨g,_,hr,fun _=>Iff.rfl⟩;have ho1:∀b,Dh d L g (fun _=>none) b->w.heap.size<=b:=fun b h=>by
  rcases h with h| h| ⟨_,_,h⟩
  ·omega
  ·omega
  ·cases h
 have HF:=pz hL0 hL hs hD1 (hT.below hb1) (fun h=>by have:=ho1 _ h;omega) (fun h=>by have:=ho1 _ h;omega);rw [pO,show BA (fun _=>0) 0 (wordsOf sh)=MH sh from rfl,HSV.out]at HF;have HF:=Aa HF;clear hr hD1
 go_wp2_with fail
 refine HF.out.mono ?_;rintro e w2⟨rfl,Aat,hD2,hM2⟩;have hb2:Below w.heap.size w w2:=hb1.trans (hM2.touch.below hb1.size ho1);have ho2:∀b,Aat b->w.heap.size<=b:=fun b h=>(hM2.own b h).elim (ho1 b) (fun h=>Bf hb1.size h)
 have FT:Below w2.heap.size w2 (w2.alloc (.cells #[.int .i64 (v0:Int),.int .i64 (v1:Int),.int .i64 (v2:Int),.int .i64 (v3:Int)] 73)):=(Below.refl _ _).alloc (Ae _) _;have hb3:=hb2.trans (FT.mono hb2.size);have HO:=ZV hL0 hL hs (by decide) (hD2.below FT) (hT.below hb3) (fun h=>by have:=ho2 _ h;omega) (fun h=>by have:=ho2 _ h;omega) (VG sh) (fun i hi=>by rw [H8 sh _ (by rw [HTb.out];omega)];rfl);rw [dP sh HTb.out]at HO;have HO:=Aa HO;have HB3:=Aa hb3;clear hb2 FT hD2 hM2 HF hb3
 go_wp2_with fail
 refine HO.out.mono ?_;rintro e w4⟨p,F,rfl,hs4,hb4,hF4⟩;have gI:Hid (Sys w4 d p L (st0 sh) F):=Aa hs4;have HB4:=Aa (HB3.out.trans (hb4.mono HB3.out.size));clear hs4 hb4 HO;have hsz:=HB3.out.size
 go_wp2_with fail
 go_ret2;refine⟨d,p,F,rfl,gI.out,HB4.out,fun b hb=>(hF4 b hb).elim (ho2 b) (fun h=>Bf hsz h)⟩
structure Nv(len:DX)(w:World)(x d p L:Nat)(s:St)(F:Nat->Prop):Prop where
 sys:EL len w d p L s F
 box:BI w x 181 [.pointer (some ⟨d,0,none⟩),.pointer (some ⟨p,0,none⟩)]
 out:¬F x
abbrev Ix:=Nv (.up M0)
section
variable{len:DX}{w w':World}{x d p L:Nat}{s:St}{F:Nat->Prop}
theorem Nv.below(h:Nv len w x d p L s F)(k:Below w.heap.size w w'):Nv len w' x d p L s F:=⟨h.sys.below k,h.box.below k h.box.lt,h.out⟩
theorem Nv.move{len':DX}(h:Nv len w x d p L s F){s':St}{F':Nat->Prop}(hs:EL len' w' d p L s' F')(m:AB F F' w w'):Nv len' w' x d p L s' F':=
 ⟨hs,h.box.touch m.touch h.out,fun h'=>(m.own x h').elim h.out (fun h''=>by have:=h.box.lt;omega)⟩
theorem Nv.L0(h:Nv len w x d p L s F):0<L/\L<=1024/\YZ L s.sh/\s.tk.length=s.sh.BM:=by
 obtain⟨_,_,_,_,_,_,hr,_⟩:=h.sys;exact⟨hr.L0,hr.L1,Io hr.shape,by rw [hr.Ot,hr.dm]⟩
theorem JH(h:Nv len w x d p L s F)(key:ByteArray)(hk:key.size<=1000000):Calls Tryz.prog 108 #[.pointer (some ⟨x,0,none⟩),.string key] w fun e w'=>e= .returned (.int .i64 (if 16<key.size then 3 else 0))/\w=w':=by
 have y0:=h.box.cell 0;simp only [Ad]at y0;clear h;by_cases h1:16<key.size
 ·have t1:decide ((16:Int)<(key.size:Int))=true:=decide_eq_true (by omega);rw [if_pos h1];go_enter Tryz.func108,Tryz.ntmps108;go_wp2;go_ret;exact⟨rfl,rfl⟩
 ·have t1:decide ((16:Int)<(key.size:Int))=false:=decide_eq_false (by omega);rw [if_neg h1];go_enter Tryz.func108,Tryz.ntmps108;go_wp2;go_ret;exact⟨rfl,rfl⟩
theorem XR{len:Mode}(h:Nv len w x d p L s F):Calls Tryz.prog 109 #[.pointer (some ⟨x,0,none⟩)] w fun e w'=>e= .returned (.tuple #[.int .u64 ((s.ws 9).toNat:Int),.int .i64 0])/\Below w.heap.size w w':=by
 have y0:=h.box.cell 0;simp only [Ad]at y0;obtain⟨l0,l1,ok,_⟩:=h.L0;have HG:=dn h.sys 9 1 (by have:=ok.fits;have:=ok.NR;have:=ok.BM;omega);rw [show((8*9:Nat):Int)=72 from rfl,show((1:Nat):Int)=1 from rfl]at HG;have HG:=Aa HG;clear h ok;go_enter Tryz.func109,Tryz.ntmps109
 go_wp2_with fail
 refine HG.out.mono ?_;rintro e w1⟨v,rfl,ho,hb⟩;obtain⟨A,c,rfl,hc,hr⟩:=CP ho;obtain⟨g,rfl,hg,hgl⟩:=JV ho (by omega);have hc0:w1.cell? ⟨g,0,none⟩=some (.int .u64 ((s.ws 9).toNat:Int)):=by
  obtain⟨b,off,e,_,hcc⟩:=hr.2 (by omega);injection e with e;injection e with e1 e2;subst e1 e2
  rw [hcc 0 (by omega)];simp [wordsAt,wv]
 clear HG ho hr
 go_wp2_with fail
 go_ret2;exact⟨rfl,hb⟩
end
theorem UM{c:Nat}(h:AZ c≠0):c=1\/c=2:=by
 unfold AZ at h;split at h<;>simp_all
theorem uj(a b:Nat):DF (a||| b)=DF a||| DF b:=by
 unfold DF fieldN;rw [Nat.or_div_two_pow,Nat.or_mod_two_pow]
theorem Ad8(a:Nat):DF a<4:=by
 unfold DF fieldN;exact Nat.mod_lt _ (by decide)
theorem pU{a b:Nat}(h1:AZ (Bd (a||| b))≠0)(h2:AZ (Bd a)≠0):Bd a=Bd (a||| b):=by
 have p1:=UM h1;have p2:=UM h2;have e1:Bd (a||| b)=DF (a||| b):=by
  unfold Bd;split
  ·rfl
  ·rename_i hr;unfold Bd at p1;simp [hr]at p1
 have e2:Bd a=DF a:=by
  unfold Bd;split
  ·rfl
  ·rename_i hr;unfold Bd at p2;simp [hr]at p2
 rw [e1,uj]at p1;rw [e2]at p2;rw [e1,e2,uj];have hb:=Ad8 b;generalize DF a=x at*;generalize DF b=y at*;have:y=0\/y=1\/y=2\/y=3:=by omega
 rcases p2 with rfl| rfl<;>rcases this with rfl| rfl| rfl| rfl<;>simp_all
theorem Ul{s:St}{off:Int}(h:AZ (Dz s off)≠0):∃i a,i<s.tk.length/\off=((s.sh.data+1024*i+64*AZ (Dz s off)*a:Nat):Int)/\(AZ (Dz s off)=1\/AZ (Dz s off)=4)/\AZ (Dz s off)*a+AZ (Dz s off)<=16:=by
 cases hf:IB s off with
 | none=>rw [Dz,hf]at h;exact absurd rfl h
 | some ia=>
   obtain⟨i,a⟩:=ia;obtain⟨hi,ha,ho,hl,hfit⟩:=Ns hf;rw [Dz,hf]at h
   dsimp only at h
   split at h
   ·rename_i hh;have e:Dz s off=Bd (Cm s i):=by
     rw [Dz,hf];dsimp only;rw [if_pos hh];exact pU (by rw [Cm]at hl;omega) h
    rw [e];refine⟨i,a,hi,ho,?_,hfit⟩;rcases UM (c:=Bd (Cm s i)) (by omega)with k| k<;>rw [k]<;>simp [AZ]
   ·exact absurd rfl h
theorem Um(c:Nat):KP (c:Int)=((8*AZ c:Nat):Int):=by
 unfold KP AZ;split
 ·rename_i h;have:c=1:=by omega
  subst this;rfl
 ·rename_i h1;split
  ·rename_i h2;have:c=2:=by omega
   subst this;rfl
  ·rename_i h2;split
   ·simp at h1
   ·simp at h2
   ·rfl
def VH(w:World)(base:Nat)(v:Value)(x:Nd):Prop:=
 ∃A1 c1 A2 c2 A3 c3,v= .agg #[.slice A1 x.pre.length c1,.int .u64 (x.val.toNat:Int),.slice A2 x.labels.length c2,.slice A3 x.kids.length c3]/\
  w.ownsRow base 5 1 (.slice A1 x.pre.length c1) x.pre.length (x.pre.map bv)/\w.ownsRow base 5 1 (.slice A2 x.labels.length c2) x.labels.length (x.labels.map bv)/\w.ownsRow base 23 1 (.slice A3 x.kids.length c3) x.kids.length (x.kids.map wv)
theorem XT{Q:Ending->World->Prop}{W:World}{tmps:Array Value}{fn:Func}(hr:fn.results= #[.cell 4 225,.tmp 5])(g:Nat){a b c d:Value}(h:BI W g 225 [a,b,c,d])(v:Value)(h2:tmps[4]? =some (.pointer (some ⟨g,0,none⟩)))(h3:tmps[5]? =some v)
 (hq:Q (.returned (.tuple #[.agg #[a,b,c,d],v])) W):bodyPost Tryz.prog fn Q Exit.ret {tmps:=tmps,defers:=[]} W:=by
 obtain⟨y0,y1,y2,y3,f0,f1,f2,f3⟩:=Ce h;have hu:=run_underlying (P:=Tryz.prog) Tryz.underlying225;refine bodyPost_ret (v:= .tuple #[.agg #[a,b,c,d],v]) (by simp [results,hr,go_sem,h2,h3,y0,y1,y2,y3]) rfl hq
section
variable{len:Mode}{w w':World}{x d p L:Nat}{s:St}{F:Nat->Prop}
def Aa3(s:St)(name:UInt64)(w:World)(e:Ending)(w':World):Prop:=
 Below w.heap.size w w'/\match ER s name with
  | none=>e= .returned (.tuple #[.agg #[.slice none 0 0,.int .u64 0,.slice none 0 0,.slice none 0 0],.int .i64 5])
  | some nd=>∃v,e= .returned (.tuple #[v,.int .i64 0])/\VH w' w.heap.size v nd
theorem J6(h:Nv len w x d p L s F)(name:UInt64):Calls Tryz.prog 150 #[.pointer (some ⟨x,0,none⟩),.int .u64 (name.toNat:Int)] w (Aa3 s name w):=by
 have HX:=Aa h;obtain⟨l0,l1,ok,Fp⟩:=h.L0;have hwr:IntKind.i64.wrap (name.toNat:Int)=Be name:=rfl;have ho: -9223372036854775808<=Be name/\Be name<=9223372036854775807:=by
  have hlt:=name.toNat_lt;unfold Be;simp only [IntKind.wrap,IntKind.bits,IntKind.signed,Bool.true_and,decide_eq_true_eq,show(2:Int)^(64-1)=9223372036854775808 from rfl,show(2:Int)^64=18446744073709551616 from rfl];constructor<;>split<;>omega
 have Akl:=h.box.lt;obtain⟨off,hoff⟩:∃off,off=Be name:=⟨_,rfl⟩;rw [<-hoff]at hwr ho;clear h;have SL:=Aa (fun(W:World)(hW:Below w.heap.size w W)=>by
  obtain⟨tb,hb,n,cT,cH,own,hr, -⟩:=(HX.out.below hW).sys;exact XI hr.at off ho)
 have y0:=HX.out.box.cell 0;have y1:=HX.out.box.cell 1;simp only [Ad,Af]at y0 y1;have B0:BI (w.alloc (.cells #[.slice none 0 0,.int .u64 0,.slice none 0 0,.slice none 0 0] 225)) w.heap.size 225 [.slice none 0 0,.int .u64 0,.slice none 0 0,.slice none 0 0]:=heap_alloc_new _ _;have hb0:Below w.heap.size w (w.alloc (.cells #[.slice none 0 0,.int .u64 0,.slice none 0 0,.slice none 0 0] 225)):=(Below.refl _ _).alloc (Ae _) _;by_cases hc0:AZ (Dz s off)=0
 ·have HR:Hid (ER s name=none):=Aa (by rw [ER,<-hoff,if_pos hc0]);clear hoff ok Fp;go_enter Tryz.func150,Tryz.ntmps150
  go_wp2_with fail
  generalize w.alloc (.cells #[.slice none 0 0,.int .u64 0,.slice none 0 0,.slice none 0 0] 225)=W0 at*;refine(SL.out W0 hb0).mono ?_;rintro e w1⟨rfl,hd⟩;have hb1:=hb0.trans ((hd.below W0.heap.size).mono hb0.size);have B1:=B0.below (hd.below _) B0.lt;clear B0 hb0 hd
  go_wp2_with fail
  refine(IV _ _).mono ?_;rintro e w2⟨rfl,rfl⟩;rw [Um,hc0];clear SL HX y0 y1 hc0;obtain⟨k0,k1,k2,k3,f0,f1,f2,f3⟩:=Ce B1
  go_wp2_with fail
  have BF:=(((B1.AU 0 (Ac none 0 0)).AU 1 (Aw .u64 0)).AU 2 (Ac none 0 0)).AU 3 (Ac none 0 0);have KF:=(((hb1.setCell (p:=⟨w.heap.size,0,none⟩) (Ae _) (Ac none 0 0)).setCell (p:=⟨w.heap.size,1,none⟩) (Ae _) (Aw .u64 0)).setCell (p:=⟨w.heap.size,2,none⟩) (Ae _) (Ac none 0 0)).setCell (p:=⟨w.heap.size,3,none⟩) (Ae _) (Ac none 0 0);refine XT rfl w.heap.size BF (.int .i64 5) rfl rfl ⟨KF,?_⟩;rw [HR.out]
 ·obtain⟨i,a,hi,Af8,hk,hfit⟩:=Ul hc0;have HRN:Hid (ER s name=if Iz (wordsAt s.ws (off.toNat/8) (8*AZ (Dz s off)))then some (EE (wordsAt s.ws (off.toNat/8) (8*AZ (Dz s off))))else none):=Aa (by rw [ER,<-hoff,if_neg hc0]);have hj:off=((8*(off.toNat/8):Nat):Int)/\off.toNat/8+8*AZ (Dz s off)<=8*L:=by
   have:=ok.data;have:=ok.fits;have:=ok.BM;rw [Fp]at hi;rcases hk with k| k<;>rw [k]at Af8 hfit⊢<;>omega
  obtain⟨j,hjd⟩:∃j,j=off.toNat/8:=⟨_,rfl⟩;rw [<-hjd]at hj HRN;obtain⟨hj1,hj2⟩:=hj;have HG:=Aa (fun(W:World)(hW:Below w.heap.size w W)=>dn (HX.out.below hW).sys j (8*AZ (Dz s off)) hj2);rw [<-hj1]at HG;have t1:(((8*AZ (Dz s off):Nat):Int)==0)=false:=by rw [beq_eq_false_iff_ne];omega
  have HK:Hid (8*AZ (Dz s off)<=1000000):=Aa (by rcases hk with k| k<;>omega);obtain⟨m,hm⟩:∃m,m=8*AZ (Dz s off):=⟨_,rfl⟩;have HWd:Hid (KP (Dz s off:Int)=(m:Int)):=Aa (by rw [Um,hm]);rw [<-hm]at HG t1 HK HRN;clear hoff ok Fp hk hfit Af8 hi hj1 hj2 hjd hc0 hm;go_enter Tryz.func150,Tryz.ntmps150
  go_wp2_with fail
  generalize w.alloc (.cells #[.slice none 0 0,.int .u64 0,.slice none 0 0,.slice none 0 0] 225)=W0 at*;refine(SL.out W0 hb0).mono ?_;rintro e w1⟨rfl,hd⟩;have hb1:=hb0.trans ((hd.below W0.heap.size).mono hb0.size);have B1:=B0.below (hd.below _) B0.lt;have z0:w1.cell? ⟨x,0,none⟩=some (.pointer (some ⟨d,0,none⟩)):=(hb1.cell (p:=⟨x,0,none⟩) Akl).trans y0;clear B0 hb0 hd
  go_wp2_with fail
  refine(IV _ _).mono ?_;rintro e w2⟨rfl,rfl⟩;rw [HWd.out];clear SL HX y0 y1;obtain⟨k0,k1,k2,k3,f0,f1,f2,f3⟩:=Ce B1
  go_wp2_with fail
  refine(HG.out w1 hb1).mono ?_;rintro e w2⟨v,rfl,hown,hb2⟩;obtain⟨A,c,rfl,hc,hr⟩:=CP hown;have hb2':=hb1.trans (hb2.mono hb1.size);have hlt2:w.heap.size<w2.heap.size:=Nat.lt_of_lt_of_le B1.lt hb2.size;have B2:=B1.below hb2 B1.lt;clear HG hown k0 k1 k2 k3 f0 f1 f2 f3 z0 B1;have hr':=Aa hr;clear hr
  go_wp2_with fail
  refine(decode_any A m c _ w2 HK.out hc hr'.out).mono ?_;rintro e w3⟨hb3,hpost⟩;have B3:=B2.below hb3 B2.lt;have Ad9:=hb2'.trans (hb3.mono hb2'.size);have hw2:=hb2'.size;cases hdk:Iz (wordsAt s.ws j m)
  ·have HR:Hid (ER s name=none):=Aa (by rw [HRN.out,hdk];rfl);rw [hdk]at hpost;replace hpost:e= .returned (.tuple #[.agg #[.slice none 0 0,.int .u64 0,.slice none 0 0,.slice none 0 0],.bool false]):=hpost;subst hpost;clear HRN HK hdk hr' HWd;have B4:BI (w3.alloc (.cells #[Ac none 0 0,Aw .u64 0,Ac none 0 0,Ac none 0 0] 225)) w.heap.size _ _:=B3.below ((Below.refl w3.heap.size w3).alloc (Ae _) _) B3.lt;have hb4:Below w.heap.size w (w3.alloc (.cells #[Ac none 0 0,Aw .u64 0,Ac none 0 0,Ac none 0 0] 225)):=Ad9.trans (((Below.refl w3.heap.size w3).alloc (Ae _) _).mono Ad9.size);clear B2 B3 hb1 hb2 hb2' hb3;obtain⟨k0,k1,k2,k3,f0,f1,f2,f3⟩:=Ce B4
   go_wp2_with fail
   have BF:=(((B4.AU 0 (Ac none 0 0)).AU 1 (Aw .u64 0)).AU 2 (Ac none 0 0)).AU 3 (Ac none 0 0);have KF:=(((hb4.setCell (p:=⟨w.heap.size,0,none⟩) (Ae _) (Ac none 0 0)).setCell (p:=⟨w.heap.size,1,none⟩) (Ae _) (Aw .u64 0)).setCell (p:=⟨w.heap.size,2,none⟩) (Ae _) (Ac none 0 0)).setCell (p:=⟨w.heap.size,3,none⟩) (Ae _) (Ac none 0 0);refine XT rfl w.heap.size BF (.int .i64 5) rfl rfl ⟨KF,?_⟩;rw [HR.out]
  ·have HR:Hid (ER s name=some (EE (wordsAt s.ws j m))):=Aa (by rw [HRN.out,hdk];rfl);rw [hdk]at hpost;obtain⟨A1,c1,A2,c2,A3,c3,rfl,hc1,hc2,hc3,hB1,hB2,hB3,o1,o2,o3⟩:=hpost;have HO:=Aa (And.intro o1 (And.intro o2 o3));clear hB1 hB2 hB3 hc1 hc2 hc3 o1 o2 o3 HRN HK hdk hr' HWd;generalize EE (wordsAt s.ws j m)=nd at*;have B4:BI (w3.alloc (.cells #[Ac A1 nd.pre.length c1,Aw .u64 (nd.val.toNat:Int),Ac A2 nd.labels.length c2,Ac A3 nd.kids.length c3] 225)) w.heap.size _ _:=B3.below ((Below.refl w3.heap.size w3).alloc (Ae _) _) B3.lt;have hb4:Below w.heap.size w (w3.alloc (.cells #[Ac A1 nd.pre.length c1,Aw .u64 (nd.val.toNat:Int),Ac A2 nd.labels.length c2,Ac A3 nd.kids.length c3] 225)):=Ad9.trans (((Below.refl w3.heap.size w3).alloc (Ae _) _).mono Ad9.size);clear B2 B3 hb1 hb2 hb2' hb3;obtain⟨k0,k1,k2,k3,f0,f1,f2,f3⟩:=Ce B4
   go_wp2_with fail
   have BF:=(((B4.AU 0 (Ac A1 nd.pre.length c1)).AU 1 (Aw .u64 (nd.val.toNat:Int))).AU 2 (Ac A2 nd.labels.length c2)).AU 3 (Ac A3 nd.kids.length c3);have KF:=(((hb4.setCell (p:=⟨w.heap.size,0,none⟩) (Ae _) (Ac A1 nd.pre.length c1)).setCell (p:=⟨w.heap.size,1,none⟩) (Ae _) (Aw .u64 (nd.val.toNat:Int))).setCell (p:=⟨w.heap.size,2,none⟩) (Ae _) (Ac A2 nd.labels.length c2)).setCell (p:=⟨w.heap.size,3,none⟩) (Ae _) (Ac A3 nd.kids.length c3);refine XT rfl w.heap.size BF (.int .i64 0) rfl rfl ⟨KF,?_⟩;rw [HR.out];obtain⟨o1,o2,o3⟩:=HO.out;have al:Below w3.heap.size w3 (w3.alloc (.cells #[Ac A1 nd.pre.length c1,Aw .u64 (nd.val.toNat:Int),Ac A2 nd.labels.length c2,Ac A3 nd.kids.length c3] 225)):=(Below.refl _ _).alloc (Ae _) _;have hlt:w.heap.size<w2.heap.size:=by omega
   have up:∀{e:TypeId}{v:Value}{n:Nat}{xs:List Value},w3.ownsRow w2.heap.size e 1 v n xs->World.ownsRow (((((w3.alloc (.cells #[Ac A1 nd.pre.length c1,Aw .u64 (nd.val.toNat:Int),Ac A2 nd.labels.length c2,Ac A3 nd.kids.length c3] 225)).setCell ⟨w.heap.size,0,none⟩ (Ac A1 nd.pre.length c1)).setCell ⟨w.heap.size,1,none⟩ (Aw .u64 (nd.val.toNat:Int))).setCell ⟨w.heap.size,2,none⟩ (Ac A2 nd.labels.length c2)).setCell ⟨w.heap.size,3,none⟩ (Ac A3 nd.kids.length c3)) w.heap.size e 1 v n xs:=fun o=>
    SC (AP (AP (AP (AP (own_below o al) hlt _ _) hlt _ _) hlt _ _) hlt _ _) (Iy hlt)
   exact⟨_,rfl,A1,c1,A2,c2,A3,c3,rfl,up o1,up o2,up o3⟩
end
end Go.Proofs.YtjcppneoncpdbaaGreatDoor
