import Derived.Test.YtkimaejoeapmnaaGreatDoorH11
import Derived.Test.YtkimaejoeapmnaaGreatDoorH12
set_option linter.defProp false
set_option maxHeartbeats 32000000
set_option maxRecDepth 100000
open Go.World renaming block_lt_of_cell?->D6
open Nat renaming le_refl->Ad,le_of_lt->IW,le_trans->Bc
open Go.Lib renaming hid->Aa
open List renaming append_nil->df,mem_append->AL,range_succ->di,mem_range->Dy,replicate->BC,getElem?_cons_succ->AA,getElem?_cons_zero->Am,getElem?_replicate->IB,getElem_replicate->nO,getD_eq_getElem?_getD->Bi,ext_getElem->Eu,getElem_map->IU,getElem_range->VY
open Array renaming getElem?_eq_some_iff->AB
open Option renaming isSome_iff_exists->dn
open UInt64 renaming ofNat->Aw
open Go.Value renaming ownBlock->Bd,int->Au,slice->Ac
namespace Go.Proofs.YtkimaejoeapmnaaGreatDoor
open Go.RowKit
open Go.Proofs.Tryz
def Vz.below{w w':World}(h:Vz w)(k:η w w'):Vz w':=λj hj=>(k.cell (p:=Δ 1 j) (D6 w _ (h j hj))).trans (h j hj)
section
variable{w:World}{d p L:Nat}{s:St}{tb hb n cT cH:Nat}
def Ig.below{w':World}(h:Ig w d p L s tb hb n cT cH)(k:η w w'):Ig w' d p L s tb hb n cT cH:=by
 have key:∀{a:Addr}{v:Value},w.cell? a=some v->w'.cell? a=some v:=λ{a v}hc=>(k.cell (p:=a) (D6 w a hc)).trans hc
 exact⟨key h.y0,key h.y1,key h.y2,key h.y3,key h.y4,key h.y5,key h.y6,λi hi=>key (h.tk i hi),λi hi=>key (h.hd i hi),h.ok,h.L1,h.bZ,h.Oq⟩
def RN(s:St)(c i:Nat):Bool:=(KI (CQ s i) c).isSome
def Acn(h:Ig w d p L s tb hb n cT cH)(hT:Vz w)(c i:Nat)(hi:i<n)(hc:c<4):
 Calls prog 54 #[.agg #[Az p,.int .i64 (c:Int)],.int .i64 (i:Int)] w λe w'=>e= .returned (.bool (RN s c i))/\η w w':=by
 have hb0:η w (w.alloc (.cells #[Az p,.int .i64 (c:Int)] 136)):=(Below.refl _ _).alloc (Ad _) _;have h1:=h.below hb0;have hT1:=hT.below hb0;have HB:=Aa (λW(k:Dr _ W)=>LD (h1.dr k) i hi);have HN:=Aa (λW(k:Dr _ W)=>Wv (CQ s i) c W (NY s i) O (hT1.dr k));have HR:Hid (decide ((0:Int)<=jT (KI (CQ s i) c))=RN s c i):=Aa (by
  unfold RN jT;cases KI (CQ s i) c<;>simp)
 clear h h1 hT hT1;go_enter func54,ntmps54
 go_wp2_with fail
 go_quiet(first
  | (go_at_call 57;exact Aj0 (HB.out _ (Dr.one _ _)))
  | (go_at_call 56;exact Aj0 (HN.out _ (Dr.one _ _))))
 go_wp2_with fail
 trace_state
 go_ret;exact⟨by rw [<-HR.out];rfl,hb0.trans ((Dr.one _ _).below _)⟩
end
def qc(F:Nat->Bool)(l:List Nat):Option Nat->Prop
 | some i=>i∈l/\F i=true/\∀x∈l,F x=true->i<=x
 | none=>∀x∈l,F x=false
def WB:Option Nat->Value
 | some i=> .tuple #[.int .i64 (i:Int),.bool true]
 | none=> .tuple #[.int .i64 0,.bool false]
def XE(w:World)(o:Nat):Nat:=match w.cell? (Φ o) with
 | some (.slice _ n _)=>n
 | _=>0
def EF.XE{w:World}{B o g c:Nat}{l:List Nat}(h:EF w B o g c l):XE w o=l.length:=by
 have:=h.box.cell 0;unfold Go.Proofs.YtkimaejoeapmnaaGreatDoor.XE;rw [this];rfl
def Uz{w0 w:World}{d p L:Nat}{s:St}{tb hb n cT cH:Nat}(h:Ig w0 d p L s tb hb n cT cH)(hT:Vz w0)(c:Nat)(hc:c<4)(hB:η w0 w)
 {o g cc:Nat}{l:List Nat}(ho:EF w w0.heap.size o g cc l)(hl:∀x∈l,x<n)(hH:JW (Fh id l) l.length):
 Calls prog 55 #[Az o,.func (.func 54) #[.agg #[Az p,.int .i64 (c:Int)]] #[]] w λe w'=>∃r,e= .returned (WB r)/\qc (RN s c) l r/\Touch (λb=>b=o\/b=g) w w':=by
 have HP:=Aa h;have HTB:=Aa hT;have HL:=Aa hl;have hob:=ho.hB;have hgb:=ho.oQ.1;have hws:=hB.size;clear h hT hl;go_enter func55,ntmps55
 go_wp2_with fail
 go_loopw [](λwr=>∃l1 P,(P++l1).Perm l/\(∀x∈P,RN s c x=false)/\JW (Fh id l1) l1.length/\EF wr w0.heap.size o g cc l1/\Touch (λb=>b=o\/b=g) w wr)(λwr=>XE wr o)
 case atStart=>exact⟨l,[],List.Perm.refl _,by simp,hH,ho,Touch.refl _ _⟩
 case round=>
  obtain⟨l1,P,hp,hP,hh,ho1,ht1⟩:=hrel;have hb1:η w0 wr:=hB.trans (ht1.below hws (λk hk=>by rcases hk with rfl| rfl<;>assumption));have gI:=Aa hp;have HPf:=Aa hP;have HH:=Aa hh;have HO:=Aa ho1;have HT1:=Aa ht1;have HB1:=Aa hb1;have y0:=ho1.box.p1;have hln:=ho1.len;have HLA:=Aa ho1.XE;obtain⟨m,hm⟩:∃m,l1.length=m:=⟨_,rfl⟩;rw [hm]at y0 hln;have HM:=Aa hm;have HLen:=Aa (xe (some (Φ g)) m cc wr O);clear hp hP hh ho1 ht1 hb1 hm ho hH hB;rcases m with _| m
  ·go_wp2_with fail
   refine HLen.out.mono ?_;rintro e w'⟨rfl,rfl⟩
   go_wp2_with fail
   go_ret2;have hnil:l1=[]:=List.eq_nil_of_length_eq_zero HM.out;refine⟨none,rfl,λx hx=> ?_,HT1.out⟩;have:=gI.out.mem_iff.2 hx;rw [hnil,df]at this;exact HPf.out x this
  ·have t1:decide ((0:Int)<((m+1:Nat):Int))=true:=decide_eq_true O;have Acm:=Aa (heapPop HO.out HM.out (by have:=HH.out;rw [HM.out]at this;exact this));generalize hmm:m+1=m1 at y0 HLen t1
   go_wp2_with fail
   refine HLen.out.mono ?_;rintro e w'⟨rfl,rfl⟩
   go_wp2_with fail
   refine Acm.out.mono ?_;rintro e w2⟨x,l2,rfl,hp2,hx2,hh2,ho2,ht2⟩;have hxl:x∈l:=gI.out.mem_iff.1 (List.mem_append_right _ (hp2.mem_iff.1 (List.mem_cons_self)));have hxn:=HL.out x hxl;have ht3:=HT1.out.trans ht2 (λb h=> .inl h);have hb2:η w0 w2:=HB1.out.trans (ht2.below (Ω HB1.out.size) (λk hk=>by rcases hk with rfl| rfl<;>assumption));have HF:=Acn (HP.out.below hb2) (HTB.out.below hb2) c x hxn hc;have HP2:=Aa hp2;have xh:=Aa hx2;have HH2:=Aa hh2;have SY:=Aa ho2;have HT3:=Aa ht3;have ta:=assert_int (x:Int);clear hp2 hx2 hh2 ho2 ht3 ht2 hb2 Acm HLen;have hl2:l2.length=m:=by have:=HP2.out.length_eq;simp only [List.length_cons,HM.out]at this;omega
   have HL2:=Aa hl2;clear hl2;cases hf:RN s c x
   ·rw [hf]at HF;have HF:=Aa HF;have HFx:=Aa hf;clear hf
    go_wp2_with fail
    refine HF.out.mono ?_;rintro e w3⟨rfl,hb3⟩;have ho3:=SY.out.below hb3;have ht3:=HT3.out.trans (Touch.of_below (F:=λb=>b=o\/b=g) hb3) (λb h=> .inl h);have Auz:=Aa ho3.XE;have kF:=Aa ho3;have HT4:=Aa ht3;clear ho3 ht3 hb3 ta
    go_wp2_with fail
    go_roundw
    case rel=>
     refine⟨l2,P++[x],?_,?_,by rw [HL2.out];exact HH2.out,kF.out,HT4.out⟩
     ·rw [List.append_assoc];exact(List.Perm.append_left P HP2.out).trans gI.out
     ·intro y hy;rcases AL.1 hy with h| h
      ·exact HPf.out y h
      ·rw [List.mem_singleton.1 h];exact HFx.out
    case measure=>show XE w3 o<XE wr o;rw [Auz.out,HLA.out,HL2.out,HM.out];omega
   ·rw [hf]at HF;have HF:=Aa HF;have HFx:=Aa hf;clear hf
    go_wp2_with fail
    refine HF.out.mono ?_;rintro e w3⟨rfl,hb3⟩
    go_wp2_with fail
    go_ret2;refine⟨some x,rfl,⟨hxl,HFx.out,λy hy hfy=> ?_⟩,HT3.out.trans (Touch.of_below (F:=λb=>b=o\/b=g) hb3) (λb h=> .inl h)⟩;rcases AL.1 (gI.out.mem_iff.2 hy)with h| h
    ·rw [HPf.out y h]at hfy;cases hfy
    ·exact xh.out y h
def Yq(B:Nat):Array MapEntry:= #[{key:= .int .i64 0,val:=Az (B+2),born:=0},{key:= .int .i64 1,val:=Az (B+4),born:=1},{key:= .int .i64 2,val:=Az (B+6),born:=2}]
structure Tri(w0 W:World)(g cc:Nat->Nat)(Ls:Nat->List Nat):Prop where
 map:W.heap[w0.heap.size]? =some (.map (Yq w0.heap.size) 3)
 ord:∀c,c<3->EF W w0.heap.size (w0.heap.size+2+2*c) (g c) (cc c) (Ls c)
 heap:∀c,c<3->JW (Fh id (Ls c)) (Ls c).length
 apart:∀c c',c<3->c'<3->c≠c'->g c≠g c'/\g c≠w0.heap.size+2+2*c'
 low:η w0 W
def Tri.keep{w0 W W':World}{g cc:Nat->Nat}{Ls:Nat->List Nat}(h:Tri w0 W g cc Ls)(k:η W W'):Tri w0 W' g cc Ls:=
 ⟨(k.block _ (AB.1 h.map).1).trans h.map,λc hc=>(h.ord c hc).below k,h.heap,h.apart,τ h.low k⟩
def Tri.push{w0 W W':World}{g cc:Nat->Nat}{Ls:Nat->List Nat}(h:Tri w0 W g cc Ls)(c:Nat)(hc:c<3){g' c':Nat}{l':List Nat}(ho:EF W' w0.heap.size (w0.heap.size+2+2*c) g' c' l')(hh:JW (Fh id l') l'.length)
 (hg:g'=g c\/W.heap.size<=g')(t:Touch (λb=>b=w0.heap.size+2+2*c\/b=g c) W W'):
 Tri w0 W' (λx=>if x=c then g' else g x) (λx=>if x=c then c' else cc x) (λx=>if x=c then l' else Ls x):=by
 have hgc:=(h.ord c hc).oQ;have hmb:w0.heap.size≠g c:=λe=>by
  rcases(h.ord c hc).row.2 with⟨h',_⟩| ⟨g2,cap,cur,hv,hB,hg2,_⟩
  ·cases h'
  ·simp only [Value.slice.injEq,Option.some.injEq,Addr.mk.injEq,and_true,true_and]at hv;obtain⟨rfl,rfl⟩:=hv;have:=h.map;rw [e,hg2]at this;cases this
 have Anm:=(AB.1 h.map).1;refine⟨(t.block _ Anm (λe=>by rcases e with e| e;omega;exact hmb e)).trans h.map,λx hx=> ?_,λx hx=> ?_,λx y hx hy hxy=> ?_,h.low.trans (t.below h.low.size (λk hk=>by rcases hk with rfl| rfl;omega;exact hgc.1))⟩
 ·by_cases e:x=c
  ·subst e;simp only [if_true];exact ho
  ·simp only [if_neg e];have:=h.apart c x hc hx (λe'=>e e'.symm);have h2:=h.apart x c hx hc e;exact(h.ord x hx).touch t (λe'=>by rcases e' with e'| e';omega;exact this.2 e'.symm) (λe'=>by rcases e' with e'| e';exact h2.2 e';exact this.1 e'.symm)
 ·by_cases e:x=c
  ·simp only [if_pos e];exact hh
  ·simp only [if_neg e];exact h.heap x hx
 ·have hol:∀z,z<3->w0.heap.size+2+2*z<W.heap.size:=λz hz=>(h.ord z hz).box.lt
  have hgl:∀z,z<3->g z<W.heap.size:=λz hz=>(h.ord z hz).oQ.2
  by_cases ex:x=c
  ·have ey:¬y=c:=λe=>hxy (by rw [ex,e])
   simp only [if_pos ex,if_neg ey];rcases hg with e| e
   ·rw [e,<-ex];exact h.apart x y hx hy hxy
   ·have:=hol y hy;have:=hgl y hy;omega
  ·by_cases ey:y=c
   ·simp only [if_neg ex,if_pos ey];have hxc:=h.apart x c hx hc ex;refine⟨?_,by rw [ey];exact hxc.2⟩;rcases hg with e| e
    ·rw [e];exact hxc.1
    ·have:=hgl x hx;omega
   ·simp only [if_neg ex,if_neg ey];exact h.apart x y hx hy hxy
def kG(W:World)(B:Nat)(hB:B<=W.heap.size):EF ((W.alloc (.cells #[] 3)).alloc (.cells #[.slice (some (Φ W.heap.size)) 0 0] 194)) B (W.heap.size+1) W.heap.size 0 []:=by
 have h1:(W.alloc (.cells #[] 3)).heap.size=W.heap.size+1:=by simp
 refine⟨?_,?_,O,O,by simp⟩
 ·rw [<-h1];exact heap_alloc_new _ _
 ·exact own_below (World.ownsRow_made W #[] 0 hB U rfl) ((Below.refl _ _).alloc (Ad _) _)
def Tryz.Qp:prog.underlying 132=some (.map 3 139):=underlying132
def WC(w W1 W2 W3:World)(h1:W1=Ef (((w.alloc (.map #[] 0)).alloc (.cells #[] 3)).alloc (.cells #[.slice (some (Φ (w.heap.size+1))) 0 0] 194)) w.heap.size #[{key:= .int .i64 0,val:=Az (w.heap.size+1+1),born:=0}] 1)
 (h2:W2=Ef ((W1.alloc (.cells #[] 3)).alloc (.cells #[.slice (some (Φ W1.heap.size)) 0 0] 194)) w.heap.size #[{key:= .int .i64 0,val:=Az (w.heap.size+2),born:=0},{key:= .int .i64 1,val:=Az (W1.heap.size+1),born:=1}] 2)
 (h3:W3=Ef ((W2.alloc (.cells #[] 3)).alloc (.cells #[.slice (some (Φ W2.heap.size)) 0 0] 194)) w.heap.size (Yq w.heap.size) 3):
 W1.heap.size=w.heap.size+3/\W2.heap.size=w.heap.size+5/\W1.heap[w.heap.size]? =some (.map #[{key:= .int .i64 0,val:=Az (w.heap.size+1+1),born:=0}] 1)/\Tri w W3 (λc=>w.heap.size+1+2*c) (λ_=>0) (λ_=>[]):=by
 have s1:W1.heap.size=w.heap.size+3:=by rw [h1,XB];simp
 have s2:W2.heap.size=w.heap.size+5:=by rw [h2,XB];simp [s1]
 have hs0:(w.alloc (.map #[] 0)).heap.size=w.heap.size+1:=by simp
 have b0:η w (w.alloc (.map #[] 0)):=(Below.refl _ _).alloc (Ad _) _;have o1:=kG (w.alloc (.map #[] 0)) w.heap.size O;rw [hs0]at o1;have t1:=Iy (((w.alloc (.map #[] 0)).alloc (.cells #[] 3)).alloc (.cells #[.slice (some (Φ (w.heap.size+1))) 0 0] 194)) w.heap.size #[{key:= .int .i64 0,val:=Az (w.heap.size+1+1),born:=0}] 1;rw [<-h1]at t1;have o1':=o1.touch t1 O O;have l1:η w W1:=((b0.alloc Θ _).alloc (by simp;omega) _).trans (t1.below (by simp;omega) (λk hk=>by rw [hk];exact Ad _));have m1:W1.heap[w.heap.size]? =some (.map #[{key:= .int .i64 0,val:=Az (w.heap.size+1+1),born:=0}] 1):=by rw [h1];exact L9 _ _ _ _ (by simp;omega)
 have o2:=kG W1 w.heap.size O;have b1:η W1 ((W1.alloc (.cells #[] 3)).alloc (.cells #[.slice (some (Φ W1.heap.size)) 0 0] 194)):=((Below.refl _ _).alloc (Ad _) _).alloc Θ _;have t2:Touch (λb=>b=w.heap.size) ((W1.alloc (.cells #[] 3)).alloc (.cells #[.slice (some (Φ W1.heap.size)) 0 0] 194)) W2:=by rw [h2];exact Iy _ _ _ _
 have o12:=(o1'.below b1).touch t2 O O;have o2':=o2.touch t2 O O;have l2:η w W2:=l1.trans ((b1.mono O).trans (t2.below (by simp;omega) (λk hk=>by rw [hk];exact Ad _)));have o3:=kG W2 w.heap.size O;have b2:η W2 ((W2.alloc (.cells #[] 3)).alloc (.cells #[.slice (some (Φ W2.heap.size)) 0 0] 194)):=((Below.refl _ _).alloc (Ad _) _).alloc Θ _;have t3:Touch (λb=>b=w.heap.size) ((W2.alloc (.cells #[] 3)).alloc (.cells #[.slice (some (Φ W2.heap.size)) 0 0] 194)) W3:=by rw [h3];exact Iy _ _ _ _
 have o13:=(o12.below b2).touch t3 O O;have o23:=(o2'.below b2).touch t3 O O;have o33:=o3.touch t3 O O;have l3:η w W3:=l2.trans ((b2.mono O).trans (t3.below (by simp;omega) (λk hk=>by rw [hk];exact Ad _)));refine⟨s1,s2,m1,⟨by rw [h3];exact L9 _ _ _ _ (by simp;omega),λc hc=> ?_,λc hc k h0 hk=>by simp at hk,λc c' hc hc' hne=>by constructor<;>omega,l3⟩⟩;rw [s1]at o23;rw [s2]at o33
 match c,hc with
 | 0,_=>exact o13
 | 1,_=>exact o23
 | 2,_=>exact o33
def OA(s:St)(c k:Nat):List Nat:=(List.range k).filter λi=>decide (Bg (CQ s i)=c)
def xk(s:St)(c k:Nat):OA s c (k+1)=OA s c k++if Bg (CQ s k)=c then [k]else []:=by
 unfold OA;rw [di,List.filter_append];by_cases h:Bg (CQ s k)=c<;>simp [h]
def Agj(s:St)(c k:Nat):(OA s c k).length<=k:=by
 have:=List.length_filter_le (λi=>decide (Bg (CQ s i)=c)) (List.range k);simpa [OA]using this
def xm(x:Nat):Bg x<3:=by
 have h4:=NK x;by_cases h:Bg x=3
 ·exfalso;unfold Bg at h;split at h
  ·rename_i hr;unfold EX at hr;rw [h]at hr;by_cases h0:x=0
   ·subst h0;revert h;decide
   ·simp [h0,Bv,fieldN,Nat.mod_one]at hr
  ·cases h
 ·omega
def qf{w:World}{d p L:Nat}{s:St}{tb hb n cT cH:Nat}(h:Ig w d p L s tb hb n cT cH):
 Calls prog 53 #[Az p] w λe w'=>e= .returned (.map (some w.heap.size))/\
  ∃g cc Ls,Tri w w' g cc Ls/\∀c,c<3->(Ls c).Perm (OA s c n):=by
 have HP:=Aa h;have Art:=D6 w _ h.y5;have y5:=h.y5;have hn:n<=64:=Ξ h.ok.fits h.L1 h.bZ
 have mm:=λW=>run_makeMap (P:=prog) 132 W
 clear h;go_enter func53,ntmps53
 go_wp2_with fail
 rw [Y4 Tryz.Qp underlying3 _ _ #[] 0 _ _ ?h1 ?f1]
 case h1=>exact(χ _ _ (by simp;omega)).trans ((χ _ _ Θ).trans (heap_alloc_new _ _))
 case f1=>rfl
 obtain⟨W1,hW1⟩:∃W1,W1=Ef (((w.alloc (.map #[] 0)).alloc (.cells #[] 3)).alloc (.cells #[.slice (some (Φ (w.heap.size+1))) 0 0] 194)) w.heap.size #[{key:= .int .i64 0,val:=Az (w.heap.size+1+1),born:=0}] 1:=⟨_,rfl⟩;rw [show Ef (((w.alloc (.map #[] 0)).alloc (.cells #[] 3)).alloc (.cells #[.slice (some (Φ (w.heap.size+1))) 0 0] 194)) w.heap.size (#[].push {key:= .int .i64 0,val:=Az (w.heap.size+1+1),born:=0}) (0+1)=W1 from hW1.symm];have HW1:=Aa hW1;obtain⟨s1, -,m1, -⟩:=WC w W1 _ _ hW1 rfl rfl;clear hW1
 go_wp2_with fail
 rw [Y4 Tryz.Qp underlying3 _ _ _ 1 _ _ ?h2 ?f2]
 case h2=>exact(χ _ _ (by simp;omega)).trans ((χ _ _ O).trans m1)
 case f2=>rfl
 obtain⟨W2,hW2⟩:∃W2,W2=Ef ((W1.alloc (.cells #[] 3)).alloc (.cells #[.slice (some (Φ (w.heap.size+3))) 0 0] 194)) w.heap.size #[{key:= .int .i64 0,val:=Az (w.heap.size+1+1),born:=0},{key:= .int .i64 1,val:=Az (w.heap.size+3+1),born:=1}] 2:=⟨_,rfl⟩;rw [show Ef ((W1.alloc (.cells #[] 3)).alloc (.cells #[.slice (some (Φ (w.heap.size+3))) 0 0] 194)) w.heap.size (#[{key:= .int .i64 0,val:=Az (w.heap.size+1+1),born:=0}].push {key:= .int .i64 1,val:=Az (w.heap.size+3+1),born:=1}) (1+1)=W2 from hW2.symm];have Ann:W2=Ef ((W1.alloc (.cells #[] 3)).alloc (.cells #[.slice (some (Φ W1.heap.size)) 0 0] 194)) w.heap.size #[{key:= .int .i64 0,val:=Az (w.heap.size+2),born:=0},{key:= .int .i64 1,val:=Az (W1.heap.size+1),born:=1}] 2:=by rw [hW2,s1]
 have m2:W2.heap[w.heap.size]? =some (.map #[{key:= .int .i64 0,val:=Az (w.heap.size+1+1),born:=0},{key:= .int .i64 1,val:=Az (w.heap.size+3+1),born:=1}] 2):=by rw [hW2];exact L9 _ _ _ _ (by simp;omega)
 obtain⟨-,s2, -, -⟩:=WC w W1 W2 _ HW1.out Ann rfl;have HW2:=Aa Ann;clear hW2 Ann m1
 go_wp2_with fail
 rw [Y4 Tryz.Qp underlying3 _ _ _ 2 _ _ ?h3 ?f3]
 case h3=>exact(χ _ _ (by simp;omega)).trans ((χ _ _ O).trans m2)
 case f3=>rfl
 obtain⟨W3,hW3⟩:∃W3,W3=Ef ((W2.alloc (.cells #[] 3)).alloc (.cells #[.slice (some (Φ (w.heap.size+5))) 0 0] 194)) w.heap.size (Yq w.heap.size) 3:=⟨_,rfl⟩;rw [show Ef ((W2.alloc (.cells #[] 3)).alloc (.cells #[.slice (some (Φ (w.heap.size+5))) 0 0] 194)) w.heap.size (#[{key:= .int .i64 0,val:=Az (w.heap.size+1+1),born:=0},{key:= .int .i64 1,val:=Az (w.heap.size+3+1),born:=1}].push {key:= .int .i64 2,val:=Az (w.heap.size+5+1),born:=2}) (2+1)=W3 from hW3.symm];have Aru:W3=Ef ((W2.alloc (.cells #[] 3)).alloc (.cells #[.slice (some (Φ W2.heap.size)) 0 0] 194)) w.heap.size (Yq w.heap.size) 3:=by rw [hW3,s2]
 obtain⟨-, -, -,Ano⟩:=WC w W1 W2 W3 HW1.out HW2.out Aru;have y53:W3.cell? (Δ p 5)=some (.slice (some (Φ tb)) n cT):=(HP.out.below Ano.low).y5;clear hW3 Aru HW1 HW2 m2 s1 s2 y5 mm;have HT0:=Aa Ano;clear Ano
 go_wp2_with fail
 go_loopw [18](λi wr=>∃k g cc Ls,k<=n/\i= .int .i64 (k:Nat)/\Tri w wr g cc Ls/\∀c,c<3->(Ls c).Perm (OA s c k))(λi _=>n- (intOf i).toNat)
 case atStart=>exact⟨0,_,_,_,Nat.zero_le _,rfl,HT0.out,λc _=>List.Perm.refl _⟩
 case round=>
  obtain⟨k,g,cc,Ls,hk,rfl,ZT,hperm⟩:=hrel;have fQ:=Aa ZT;have gI:=Aa hperm;clear ZT hperm HT0 y53;by_cases hlt:k<n
  ·have hcl:=xm (CQ s k);obtain⟨c,hc⟩:∃c,Bg (CQ s k)=c:=⟨_,rfl⟩;rw [hc]at hcl;have HC:=Aa (Hq (CQ s k) · (NY s k));rw [hc]at HC;have QX:=Aa hc;clear hc
   go_wp2_with fail
   refine(LD (HP.out.below fQ.out.low) k hlt).mono ?_;rintro e w2⟨rfl,hd2⟩
   go_wp2_with fail
   refine(HC.out _).mono ?_;rintro e w3⟨rfl,hd3⟩;have hd:=hd2.trans hd3;have Arv:=fQ.out.keep (hd.below _);have HT3:=Aa Arv;clear Arv hd2 hd3 hd
   go_wp2_with fail
   rw [NV Tryz.Qp underlying3 _ _ (Yq w.heap.size) 3 _ c (Az (w.heap.size+2+2*c)) ?h4 ?f4]
   case h4=>exact HT3.out.map
   case f4=>
    match c,hcl with
    | 0,_=>rfl
    | 1,_=>rfl
    | 2,_=>rfl
   have hlen:(Ls c).length<1000:=by
    have:=(gI.out c hcl).length_eq;have:=Agj s c k;omega
   have xn:=Aa (Agi k (HT3.out.ord c hcl) hlen (HT3.out.heap c hcl))
   go_wp2_with fail
   refine xn.out.mono ?_;rintro e w4⟨rfl,g',c',l',hp',hh',ho',hg',ht'⟩;have HT4:=Aa (HT3.out.push c hcl ho' hh' hg' ht');have Au0:Hid (∀x,x<3->((λx=>if x=c then l' else Ls x) x).Perm (OA s x (k+1))):=Aa (λx hx=>by
    rw [xk,QX.out];by_cases e:x=c
    ·subst e;simp only [if_true];exact hp'.trans (List.Perm.append_right _ (gI.out x hx))
    ·rw [if_neg (show¬c=x from λh=>e h.symm),df];simp only [if_neg e];exact gI.out x hx)
   clear hp' hh' ho' hg' ht' xn
   go_wp2_with fail
   go_roundw
   case rel=>exact⟨k+1,_,_,_,O,by go_num,HT4.out,Au0.out⟩
   case measure=>simp [intOf];omega
  ·have hkn:k=n:=O
   subst hkn
   go_wp2_with fail
   go_ret;exact⟨rfl,g,cc,Ls,fQ.out,gI.out⟩
def ZU{s:St}{c k n:Nat}{l:List Nat}{r:Option Nat}(hn:s.tk.length=n)(hl:l.Perm (OA s k n))(h:qc (RN s c) l r):Lr s k c=r:=by
 have hmem:∀x,x∈l<->x<n/\Bg (CQ s x)=k:=λx=>by rw [hl.mem_iff];simp [OA]
 unfold Lr;rw [hn];cases r with
 | none=>
   rw [List.find?_eq_none];intro x hx;have hxn:x<n:=Dy.1 hx;by_cases e:Bg (CQ s x)=k
   ·have:=h x ((hmem x).2 ⟨hxn,e⟩);unfold RN at this;simp [e,this]
   ·simp [e]
 | some i=>
   obtain⟨h1,h2,h3⟩:=h;obtain⟨hin,hik⟩:=(hmem i).1 h1;rw [List.find?_range_eq_some];refine⟨by unfold RN at h2;simp [hik,h2],Dy.2 hin,λj hj=> ?_⟩;by_cases e:Bg (CQ s j)=k
   ·by_cases f:RN s c j=true
    ·have:=h3 j ((hmem j).2 ⟨O,e⟩) f;omega
    ·unfold RN at f;simp only [Bool.not_eq_true]at f;simp [e,f]
   ·simp [e]
def Qq{s:St}{c i:Nat}(h:LY s c=some i):i<s.tk.length/\(KI (CQ s i) c).isSome=true:=by
 have key:∀k,Lr s k c=some i->i<s.tk.length/\(KI (CQ s i) c).isSome=true:=λk hk=>by
  unfold Lr at hk;have h1:=Dy.1 (List.mem_of_find?_eq_some hk);have h2:=List.find?_some hk;simp only [Bool.and_eq_true]at h2;exact⟨h1,h2.2⟩
 unfold LY at h;split at h
 ·rename_i j hj;injection h with h
  subst h;exact key c hj
 ·exact key 0 h
def qg{x c k:Nat}(h:KI x c=some k):k<16:=by
 unfold KI at h;split at h
 ·have:=jS h;have:=Gi c;omega
 ·cases h
def Qr{w:World}{d p L:Nat}{s:St}{tb hb n cT cH:Nat}(h:Ig w d p L s tb hb n cT cH)(hT:Vz w)(c:Nat)(hc1:1<=c)(hc2:c<=2){W:World}{g cc:Nat->Nat}{Ls:Nat->List Nat}(ht:Tri w W g cc Ls)(hp:∀x,x<3->(Ls x).Perm (OA s x n))(k:Nat)(hk:k<3):
 Calls prog 55 #[Az (w.heap.size+2+2*k),.func (.func 54) #[.agg #[Az p,.int .i64 (c:Int)]] #[]] W λe w'=>
  e= .returned (WB (Lr s k c))/\η w w'/\(∀k',k'<3->k'≠k->EF w' w.heap.size (w.heap.size+2+2*k') (g k') (cc k') (Ls k'))/\w'.heap[w.heap.size]? =some (.map (Yq w.heap.size) 3):=by
 refine(Uz h hT c O ht.low (ht.ord k hk) (λx hx=> ?_) (ht.heap k hk)).mono ?_
 ·have:=(hp k hk).mem_iff.1 hx;simp [OA]at this;exact this.1
 rintro e w'⟨r,rfl,hr,htc⟩;have hgk:=(ht.ord k hk).oQ;have Anm:=(AB.1 ht.map).1;refine⟨by rw [ZU h.Oq (hp k hk) hr],ht.low.trans (htc.below ht.low.size (λb hb=>by rcases hb with rfl| rfl;omega;exact hgk.1)),λk' hk' hne=> ?_,?_⟩
 ·have a1:=ht.apart k k' hk hk' (λe=>hne e.symm);have a2:=ht.apart k' k hk' hk hne;exact(ht.ord k' hk').touch htc (λe=>by rcases e with e| e;omega;exact a1.2 e.symm) (λe=>by rcases e with e| e;exact a2.2 e;exact a2.1 e)
 ·refine(htc.block _ Anm (λe=> ?_)).trans ht.map;rcases e with e| e
  ·omega
  ·rcases(ht.ord k hk).row.2 with⟨h',_⟩| ⟨g2,cap,cur,hv,hB,hg2,_⟩
   ·cases h'
   ·simp only [Value.slice.injEq,Option.some.injEq,Addr.mk.injEq,and_true,true_and]at hv;obtain⟨rfl,rfl⟩:=hv;have:=ht.map;rw [e,hg2]at this;cases this
def resV(s:St)(c:Nat):Value:=match CO s c with
 | some (off,_)=> .tuple #[.int .i64 (off:Int),.int .i64 0]
 | none=> .tuple #[.int .i64 0,.int .i64 6]
def OV(s:St)(c:Nat):St:=match CO s c with
 | some (_,s1)=>s1
 | none=>s
def E5.below{len:DY}{w w':World}{d p L:Nat}{s:St}{tb hb n cT cH:Nat}{own:Nat->Prop}(h:E5 len w d p L s tb hb n cT cH own)(k:η w w'):E5 len w' d p L s tb hb n cT cH own:=by
 exact⟨h.dev.below k,h.L0,h.L1,h.shape,(k.block _ h.box.lt).trans h.box,h.tk.keep (k.block _ h.tk.lt),h.hd.keep (k.block _ h.hd.lt),h.Oq,h.mX,h.bZ,h.cT,h.cH,h.dp,h.dt,h.dh,h.pt,h.ph,h.th,h.tabs.below k,h.g1,h.g2⟩
def NC{m:DY}{w:World}{d p L:Nat}{s:St}{F:Nat->Prop}(h:Ew m w d p L s F)(c:Nat)(hc1:1<=c)(hc2:c<=2):
 Calls prog 18 #[Az p,.int .i64 (c:Int)] w λe w'=>e= .returned (resV s c)/\Ew m w' d p L (OV s c) F/\AP F F w w':=by
 have HS:=Aa h;obtain⟨tb,hb,n,cT,cH,own,hr,hF⟩:=h;have HA:=Aa hr.at;have HR:=Aa hr;have HFF:=Aa hF;have hn:s.tk.length=n:=hr.Oq;have hT:Vz w:=hr.tabs.jQ;have HTB:=Aa hT;have HN:=Aa (Gx hr.at);have t0:(((Bv c:Nat):Int)==0)=false:=by
  rw [beq_eq_false_iff_ne];have:Bv c≠0:=by
   rcases(by omega:c=1\/c=2)with rfl| rfl<;>decide
  omega
 have HB:=Aa (GG c w O);generalize Bv c=bl at HB t0;have HSo:=Aa (qf hr.at);have hfind:∀k:Nat,k<3->Instr.findNow (.int .i64) (.int .i64 (k:Int)) (Yq w.heap.size).toList 0=some (some (k,Az (w.heap.size+2+2*k))):=λk hk=>by
  match k,hk with
  | 0,_=>rfl
  | 1,_=>rfl
  | 2,_=>rfl
 have HFi:=Aa hfind;clear hr hF hT hfind;cases h1:Lr s c c with
 | some i=>
   have H1:Hid (WB (Lr s c c)= .tuple #[.int .i64 (i:Int),.bool true]):=Aa (by rw [h1];rfl);have hsf:LY s c=some i:=by rw [LY,h1]
   obtain⟨hin,hns⟩:=Qq hsf;rw [hn]at hin;obtain⟨a,hna⟩:=dn.1 hns;have hal:=qg hna;obtain⟨x,hx⟩:∃x,(Gt (hdN s i) c a).1=x:=⟨_,rfl⟩;have hxl:x<18446744073709551616:=by rw [<-hx];exact ZH _ _ _ (JV s i) O
   have hres:CO s c=some (CY s.sh i c a,{s with hd:=s.hd.set i (Aw x)}):=by unfold CO;rw [hsf];simp only [hna,hx]
   have HV:Hid (resV s c= .tuple #[.int .i64 ((CY s.sh i c a:Nat):Int),.int .i64 0]):=Aa (by rw [resV,hres]);have HVS:Hid (OV s c={s with hd:=s.hd.set i (Aw x)}):=Aa (by rw [OV,hres]);have cu:Hid (jT (KI (CQ s i) c)=(a:Int)):=Aa (by rw [hna];rfl);have UN:=Aa (take_any (hdN s i) c a · (JV s i) O O);rw [hx]at UN;generalize(Gt (hdN s i) c a).2=bx at*;clear hsf hns hna hx hres;clear h1;go_enter func18,ntmps18
   go_wp2_with fail
   refine HN.out.mono ?_;rintro e w'⟨rfl,rfl⟩
   go_wp2_with fail
   refine HB.out.mono ?_;rintro e w'⟨rfl,rfl⟩
   go_wp2_with fail
   refine HSo.out.mono ?_;rintro e w1⟨rfl,g,cc,Ls,ZT,qh⟩;have fQ:=Aa ZT;have HPe:=Aa qh;clear ZT qh HSo HB HN
   go_wp2_with fail
   rw [NV Tryz.Qp underlying3 _ _ (Yq w.heap.size) 3 _ c _ fQ.out.map (HFi.out c O)]
   go_wp2_with fail
   refine(Qr HA.out HTB.out c hc1 hc2 fQ.out HPe.out c O).mono ?_;rintro e w2⟨rfl,hb2,hord,hmap⟩;rw [H1.out];clear hord hmap;have hbw:=Aa hb2;have HA2:=HA.out.below hb2;have HT2:=HTB.out.below hb2;clear hb2
   go_wp2_with fail
   refine(LD HA2 i hin).mono ?_;rintro e w5⟨rfl,hd5⟩
   go_wp2_with fail
   refine(Wv (CQ s i) c w5 (NY s i) O (HT2.dr hd5)).mono ?_;rintro e w6⟨rfl,hd6⟩;rw [cu.out];have hd:=hd5.trans hd6;have hb6:=τ hbw.out (hd.below _);have ha6:=HA.out.below hb6;have z6:=ha6.y6;have z2:=ha6.hd i hin;have z3:w6.frozen? (Δ hb i)=false:=(hb6.frozen (p:=Δ hb i) HR.out.hd.lt).trans (HR.out.hd.frozen i);have Me:=Aa hb6;clear hd5 hd6 hd HA2 HT2 ha6 hb6 hbw
   go_wp2_with fail
   go_region_with(go_at_call 58;go_loud(refine(UN.out _).mono ?_;rintro e w7⟨rfl,q,rfl⟩))
   all_goals(clear z6 z2 z3 UN)
   all_goals(have HSR:Hid (∀W,Dr w6 W->E5 m (W.setCell (Δ hb i) (.int .u64 (x:Int))) d p L {s with hd:=s.hd.set i (Aw x)} tb hb n cT cH own/\AP F F w (W.setCell (Δ hb i) (.int .u64 (x:Int)))):=Aa (λW k=>by
    have hk:η w W:=τ Me.out (k.below _);have h1:=(HR.out.below hk).Af8 i (Aw x);rw [jW x hxl]at h1;exact⟨h1,(AP.of_below hk).set (p:=Δ hb i) (.inl ((HFF.out hb).2 (.inr (.inr (.inr rfl))))) _⟩))
   all_goals(go_wp2_with fail)
   all_goals(refine(Ut (HSR.out _ (Dr.one w6 _)).1.at i c a hin O O).mono ?_)
   all_goals(rintro e w9⟨rfl,hd9⟩)
   all_goals(go_wp2_with fail)
   all_goals(go_ret2)
   all_goals(refine⟨by rw [HV.out];rfl,?_,(HSR.out _ (Dr.one w6 _)).2.dr hd9⟩)
   all_goals(rw [HVS.out])
   all_goals(exact⟨tb,hb,n,cT,cH,own,(HSR.out _ (Dr.one w6 _)).1.dr hd9,HFF.out⟩)
 | none=>
   have H1:Hid (WB (Lr s c c)= .tuple #[.int .i64 0,.bool false]):=Aa (by rw [h1];rfl);by_cases hc0:c=0
   ·omega
   cases h2:Lr s 0 c with
   | some i=>
     have H2:=Aa h2;have hsf:LY s c=some i:=by rw [LY,h1];exact h2
     obtain⟨hin,hns⟩:=Qq hsf;rw [hn]at hin;obtain⟨a,hna⟩:=dn.1 hns;have hal:=qg hna;obtain⟨x,hx⟩:∃x,(Gt (hdN s i) c a).1=x:=⟨_,rfl⟩;have hxl:x<18446744073709551616:=by rw [<-hx];exact ZH _ _ _ (JV s i) O
     have hres:CO s c=some (CY s.sh i c a,{s with hd:=s.hd.set i (Aw x)}):=by unfold CO;rw [hsf];simp only [hna,hx]
     have HV:Hid (resV s c= .tuple #[.int .i64 ((CY s.sh i c a:Nat):Int),.int .i64 0]):=Aa (by rw [resV,hres]);have HVS:Hid (OV s c={s with hd:=s.hd.set i (Aw x)}):=Aa (by rw [OV,hres]);have cu:Hid (jT (KI (CQ s i) c)=(a:Int)):=Aa (by rw [hna];rfl);have UN:=Aa (take_any (hdN s i) c a · (JV s i) O O);rw [hx]at UN;generalize(Gt (hdN s i) c a).2=bx at*;clear hsf hns hna hx hres;clear h1 h2;go_enter func18,ntmps18
     go_wp2_with fail
     refine HN.out.mono ?_;rintro e w'⟨rfl,rfl⟩
     go_wp2_with fail
     refine HB.out.mono ?_;rintro e w'⟨rfl,rfl⟩
     go_wp2_with fail
     refine HSo.out.mono ?_;rintro e w1⟨rfl,g,cc,Ls,ZT,qh⟩;have fQ:=Aa ZT;have HPe:=Aa qh;clear ZT qh HSo HB HN
     go_wp2_with fail
     rw [NV Tryz.Qp underlying3 _ _ (Yq w.heap.size) 3 _ c _ fQ.out.map (HFi.out c O)]
     go_wp2_with fail
     refine(Qr HA.out HTB.out c hc1 hc2 fQ.out HPe.out c O).mono ?_;rintro e w2⟨rfl,hb2,hord,hmap⟩;rw [H1.out];have ho0:=hord 0 O O;rw [show w.heap.size+2+2*0=w.heap.size+2 from rfl]at ho0;have Agk:=Aa hmap;have HO0:=Aa ho0;clear hord hmap ho0
     go_wp2_with fail
     rw [NV Tryz.Qp underlying3 _ _ (Yq w.heap.size) 3 0 0 (Az (w.heap.size+2)) Agk.out rfl]
     go_wp2_with fail
     refine(Uz HA.out HTB.out c O hb2 HO0.out (λx hx=> ?_) (fQ.out.heap 0 O)).mono ?_
     ·have:=(HPe.out 0 O).mem_iff.1 hx;simp [OA]at this;exact this.1
     rintro e w3⟨r,rfl,hr3,ht3⟩;have hrr:r=some i:=by rw [<-ZU hn (HPe.out 0 O) hr3];exact H2.out
     subst hrr;have hgk:=HO0.out.oQ;have hok:=HO0.out.hB;replace hb2:=hb2.trans (ht3.below hb2.size (λb hb=>by rcases hb with rfl| rfl;exact hok;exact hgk.1));clear ht3 hr3 hgk hok HO0 Agk;rw [show WB (some i)= .tuple #[.int .i64 (i:Int),.bool true]from rfl];have hbw:=Aa hb2;have HA2:=HA.out.below hb2;have HT2:=HTB.out.below hb2;clear hb2
     go_wp2_with fail
     refine(LD HA2 i hin).mono ?_;rintro e w5⟨rfl,hd5⟩
     go_wp2_with fail
     refine(Wv (CQ s i) c w5 (NY s i) O (HT2.dr hd5)).mono ?_;rintro e w6⟨rfl,hd6⟩;rw [cu.out];have hd:=hd5.trans hd6;have hb6:=τ hbw.out (hd.below _);have ha6:=HA.out.below hb6;have z6:=ha6.y6;have z2:=ha6.hd i hin;have z3:w6.frozen? (Δ hb i)=false:=(hb6.frozen (p:=Δ hb i) HR.out.hd.lt).trans (HR.out.hd.frozen i);have Me:=Aa hb6;clear hd5 hd6 hd HA2 HT2 ha6 hb6 hbw
     go_wp2_with fail
     go_region_with(go_at_call 58;go_loud(refine(UN.out _).mono ?_;rintro e w7⟨rfl,q,rfl⟩))
     all_goals(clear z6 z2 z3 UN)
     all_goals(have HSR:Hid (∀W,Dr w6 W->E5 m (W.setCell (Δ hb i) (.int .u64 (x:Int))) d p L {s with hd:=s.hd.set i (Aw x)} tb hb n cT cH own/\AP F F w (W.setCell (Δ hb i) (.int .u64 (x:Int)))):=Aa (λW k=>by
      have hk:η w W:=τ Me.out (k.below _);have h1:=(HR.out.below hk).Af8 i (Aw x);rw [jW x hxl]at h1;exact⟨h1,(AP.of_below hk).set (p:=Δ hb i) (.inl ((HFF.out hb).2 (.inr (.inr (.inr rfl))))) _⟩))
     all_goals(go_wp2_with fail)
     all_goals(refine(Ut (HSR.out _ (Dr.one w6 _)).1.at i c a hin O O).mono ?_)
     all_goals(rintro e w9⟨rfl,hd9⟩)
     all_goals(go_wp2_with fail)
     all_goals(go_ret2)
     all_goals(refine⟨by rw [HV.out];rfl,?_,(HSR.out _ (Dr.one w6 _)).2.dr hd9⟩)
     all_goals(rw [HVS.out])
     all_goals(exact⟨tb,hb,n,cT,cH,own,(HSR.out _ (Dr.one w6 _)).1.dr hd9,HFF.out⟩)
   | none=>
     have H2:=Aa h2;have hres:CO s c=none:=by unfold CO LY;rw [h1,h2]
     have HV:Hid (resV s c= .tuple #[.int .i64 0,.int .i64 6]):=Aa (by rw [resV,hres]);have HVS:Hid (OV s c=s):=Aa (by rw [OV,hres]);clear h1 h2 hres;go_enter func18,ntmps18
     go_wp2_with fail
     refine HN.out.mono ?_;rintro e w'⟨rfl,rfl⟩
     go_wp2_with fail
     refine HB.out.mono ?_;rintro e w'⟨rfl,rfl⟩
     go_wp2_with fail
     refine HSo.out.mono ?_;rintro e w1⟨rfl,g,cc,Ls,ZT,qh⟩;have fQ:=Aa ZT;have HPe:=Aa qh;clear ZT qh HSo HB HN
     go_wp2_with fail
     rw [NV Tryz.Qp underlying3 _ _ (Yq w.heap.size) 3 _ c _ fQ.out.map (HFi.out c O)]
     go_wp2_with fail
     refine(Qr HA.out HTB.out c hc1 hc2 fQ.out HPe.out c O).mono ?_;rintro e w2⟨rfl,hb2,hord,hmap⟩;rw [H1.out];have ho0:=hord 0 O O;rw [show w.heap.size+2+2*0=w.heap.size+2 from rfl]at ho0;have Agk:=Aa hmap;have HO0:=Aa ho0;clear hord hmap ho0
     go_wp2_with fail
     rw [NV Tryz.Qp underlying3 _ _ (Yq w.heap.size) 3 0 0 (Az (w.heap.size+2)) Agk.out rfl]
     go_wp2_with fail
     refine(Uz HA.out HTB.out c O hb2 HO0.out (λx hx=> ?_) (fQ.out.heap 0 O)).mono ?_
     ·have:=(HPe.out 0 O).mem_iff.1 hx;simp [OA]at this;exact this.1
     rintro e w3⟨r,rfl,hr3,ht3⟩;have hrr:r=none:=by rw [<-ZU hn (HPe.out 0 O) hr3];exact H2.out
     subst hrr;have hgk:=HO0.out.oQ;have hok:=HO0.out.hB;replace hb2:=hb2.trans (ht3.below hb2.size (λb hb=>by rcases hb with rfl| rfl;exact hok;exact hgk.1));clear ht3 hr3 hgk hok HO0 Agk;rw [show WB none= .tuple #[.int .i64 0,.bool false]from rfl]
     go_wp2_with fail
     go_ret2;refine⟨by rw [HV.out];rfl,?_,AP.of_below hb2⟩;rw [HVS.out];exact HS.out.below hb2
def Tryz.Agl:JS prog 91 28 (.int .u64 0) 1 8:=⟨underlying91,by kernel_rfl,rfl⟩
def Aco(p t i:Nat)(w:World)(y3:w.cell? (Δ p 3)=some (.int .i64 (t:Int)))(ht:t<=100000)(hi:i<=100000):Calls prog 66 #[Az p,.int .i64 (i:Int)] w λe w'=>e= .returned (.int .i64 ((t:Int)+8*(i:Int)))/\w=w':=by
 go_enter func66,ntmps66;go_wp2;go_ret;exact⟨by go_num,rfl⟩
def kH(ws:Nat->UInt64)(j k:Nat):(wordsAt ws j (k+1)).map wv=(wordsAt ws j k).map wv++[.int .u64 ((ws (j+k)).toNat:Int)]:=by
 simp [wordsAt,di,wv]
def xq{W4 w5 w6:World}{p0 k g6 c6 base:Nat}{v a0 a1 a2 a3 a4 a6:Value}{ws:Nat->UInt64}{j:Nat}{x:UInt64}(hx:ws (j+k)=x)(_:base<=p0)
 (hP:CS w5 p0 127 [a0,a1,a2,a3,a4,v,a6])(hv:(k=0/\v= .slice none 0 0)\/∃g c,v= .slice (some (Φ g)) k c/\p0<g)(hbl:Below p0 W4 w5)(_:W4.heap.size<=w5.heap.size)
 (hO:w6.ownsRow base 28 1 (.slice (some (Φ g6)) (k+1) c6) (k+1) ((wordsAt ws j k).map wv++[.int .u64 (x.toNat:Int)]))(hB:Below base w5 w6)(hK:Kept w5 w6 v.ownBlock)(hg:v.ownBlock=some g6\/w5.heap.size<=g6):
 CS (w6.setCell (Δ p0 5) (.slice (some (Φ g6)) (k+1) c6)) p0 127 [a0,a1,a2,a3,a4,.slice (some (Φ g6)) (k+1) c6,a6]/\p0<g6/\
  (w6.setCell (Δ p0 5) (.slice (some (Φ g6)) (k+1) c6)).ownsRow base 28 1 (.slice (some (Φ g6)) (k+1) c6) (k+1) ((wordsAt ws j (k+1)).map wv)/\Below p0 W4 (w6.setCell (Δ p0 5) (.slice (some (Φ g6)) (k+1) c6)):=by
 have hne:some p0≠v.ownBlock:=λe=>by rcases hv with⟨_,h⟩| ⟨g,c,h,hlt⟩<;>(subst h;simp [Bd]at e);omega
 have hpg:p0<g6:=by
  rcases hg with h| h
  ·rcases hv with⟨_,h'⟩| ⟨g,c,h',hlt⟩<;>(subst h';simp [Bd]at h);omega
  ·have:=hP.lt;omega
 have hP6:CS w6 p0 127 [a0,a1,a2,a3,a4,v,a6]:=(hK.2 p0 hP.lt hne).trans hP;refine⟨hP6.AZ 5 _,hpg,?_,?_⟩
 ·rw [kH,hx];refine Ie hO ((Touch.refl (λb=>b=p0) w6).setCell (p:=Δ p0 5) (.inl rfl) _) (λb hb e=> ?_);have:g6=b:=by simpa [Bd]using hb
  omega
 ·have Art:=hP.lt;have hb6:Below p0 w5 w6:=⟨hB.os,hB.tape,hB.output,hK.1,λb hb=>hK.2 b (Nat.lt_trans hb Art) (λe=>by
   rcases hv with⟨_,h'⟩| ⟨g,c,h',hlt⟩
   ·subst h';simp [Bd]at e
   ·subst h';have:b=g:=by simpa [Bd]using e
    omega)⟩
  exact(hbl.trans hb6).setCell (p:=Δ p0 5) (Ad _) _
def Anp(len:Mode)(d L:Nat)(ws:Nat->UInt64)(own:Nat->Prop)(sh:Sh)(w:World)(e:Ending)(w':World):Prop:=
 η w w'/\((∀i,i<sh.BM->EX (ws (sh.table/8+i)).toNat=true)->∃p F,e= .returned (.tuple #[Az p,.int .i64 0])/\
  Ew len w' d p L {sh:=sh,ws:=ws,tk:=wordsAt ws (sh.table/8) sh.BM,hd:=BC sh.BM 0} F/\∀b,F b->own b\/w.heap.size<=b)/\
  ((∃i,i<sh.BM/\¬EX (ws (sh.table/8+i)).toNat=true)->e= .returned (.tuple #[.pointer none,.int .i64 5]))
def TU{len:Mode}{w:World}{d L:Nat}{ws:Nat->UInt64}{own:Nat->Prop}{sh:Sh}(hL0:0<L)(hL:L<=1024)(hs:shapeOf L=some sh)(hu:len.lf≠0)(h:Dev w d L ws len (λ_=>0) own)(hT:Tabs w)(g1:¬own 0)(g2:¬own 1)
 (h8:wordsAt ws 0 8=wordsOf sh):
 Calls prog 27 #[Az d] w (Anp len d L ws own sh w):=by
 have ok:=FK hs;have HO:=Aa (Tf hL0 hL hs hu h hT);have HV:Hid (RI ws sh= .tuple #[uM sh,.int .i64 0]):=Aa (by rw [RI,if_pos h8]);obtain⟨n,hn⟩:∃x,sh.BM=x:=⟨_,rfl⟩;obtain⟨tb,htb⟩:∃x,sh.table=x:=⟨_,rfl⟩;obtain⟨dt,hdt⟩:∃x,sh.data=x:=⟨_,rfl⟩;obtain⟨li,wR⟩:∃x,sh.lines=x:=⟨_,rfl⟩;have hsv:uM sh= .agg #[.int .i64 (li:Int),.int .i64 (n:Int),.int .i64 (tb:Int),.int .i64 (dt:Int)]:=by rw [uM,hn,htb,hdt,wR]
 rw [hsv]at HV;have Aj3:n<=64:=Ω ok.fits
 have Arw:tb=128:=by rw [<-htb];exact ok.table
 obtain⟨i0,hi,hz0,hz1,hz2⟩:=info_parts Tryz.Jp.hi;have hmk:∀W:World,(Instr.makeSlice 91 (.int .i64 (n:Int)) (.int .i64 (n:Int))).run prog W= .ok (.slice (some (Φ W.heap.size)) n n) (W.alloc (.cells (madeCells (Au .u64 0).cells (n*1)) 28)):=λW=>by
  have:=run_make (P:=prog) (w:=W) 91 28 i0 (.int .u64 0) underlying91 hi hz0 .i64 .i64 (n:Int) (n:Int) O O (by rw [hz2];omega) O;rw [hz1]at this;simpa using this
 obtain⟨zc,hzc⟩:∃zc,madeCells (Au .u64 0).cells (n*1)=zc:=⟨_,rfl⟩;rw [hzc]at hmk;have HDb:=Aa (λW(k:η w W)=>(h.below k:Dev W d L ws len (λ_=>0) own));have jX:=Aa ok;have HLt:=Aa h.lt;have HSh:=Aa hs;have Au1:tb<=100000:=O
 have Arx:=Aa Arw;have HTb:=Aa htb;clear h ok hsv h8 hi hz0 hz1 hz2 Arw htb;go_enter func27,ntmps27
 go_wp2_with fail
 refine HO.out.mono ?_;rintro e w1⟨rfl,hb1⟩;rw [HV.out]
 go_wp2_with fail
 obtain⟨W2,hW2⟩:∃W2,W2=w1.alloc (.cells #[.int .i64 (li:Int),.int .i64 (n:Int),.int .i64 (tb:Int),.int .i64 (dt:Int)] 35):=⟨_,rfl⟩;have hS2:CS W2 w1.heap.size 35 [.int .i64 (li:Int),.int .i64 (n:Int),.int .i64 (tb:Int),.int .i64 (dt:Int)]:=by rw [hW2];exact heap_alloc_new _ _
 have hb2:η w W2:=by rw [hW2];exact hb1.alloc hb1.size _
 rw [<-hW2];obtain⟨y0,y1,y2,y3,f0,f1,f2,f3⟩:=CG hS2;have Ary:CS (W2.alloc (.cells zc 28)) w1.heap.size 35 [.int .i64 (li:Int),.int .i64 (n:Int),.int .i64 (tb:Int),.int .i64 (dt:Int)]:=(χ _ _ hS2.lt).trans hS2;obtain⟨x0,x1,x2,x3,_,_,_,_⟩:=CG Ary;have HS2:=Aa hS2;have HB2:=Aa hb2;clear hW2 hS2 Ary hb2 hb1 HO;go_region;obtain⟨W4,VV⟩:∃W4,W4=((W2.alloc (.cells zc 28)).alloc (.cells #[Az d,.int .i64 (li:Int),.int .i64 (n:Int),.int .i64 (tb:Int),.int .i64 (dt:Int),.slice none 0 0,.slice (some (Φ W2.heap.size)) n n] 127)).drew:=⟨_,rfl⟩;have e1:(W2.alloc (.cells zc 28)).heap.size=W2.heap.size+1:=by simp
 have hP4:CS W4 (W2.heap.size+1) 127 [Az d,.int .i64 (li:Int),.int .i64 (n:Int),.int .i64 (tb:Int),.int .i64 (dt:Int),.slice none 0 0,.slice (some (Φ W2.heap.size)) n n]:=by
  rw [VV,<-e1];exact heap_alloc_new _ _
 have hZ4:W4.heap[W2.heap.size]? =some (.cells zc 28 (0,0)):=by
  rw [VV];exact(χ _ _ O).trans (heap_alloc_new _ _)
 have hS4:CS W4 w1.heap.size 35 [.int .i64 (li:Int),.int .i64 (n:Int),.int .i64 (tb:Int),.int .i64 (dt:Int)]:=by
  have:=HS2.out.lt;rw [VV];exact(χ _ _ O).trans ((χ _ _ this).trans HS2.out)
 have hb4:η w W4:=by
  have:=HB2.out.size;rw [VV];exact((HB2.out.alloc this _).alloc O _).trans ((Dr.drew _).below _)
 rw [<-VV];have hws:=HB2.out.size;have hs2:=HS2.out.lt;have oH:W4.heap.size=W2.heap.size+1+1:=by rw [VV];show(Array.size _)=_;simp
 clear VV x0 x1 x2 x3 y0 y1 y2 y3 f0 f1 f2 f3 e1;obtain⟨p0,hp0⟩:∃p0,W2.heap.size+1=p0:=⟨_,rfl⟩;obtain⟨h0,hh0⟩:∃h0,W2.heap.size=h0:=⟨_,rfl⟩;obtain⟨s0,hs0⟩:∃s0,w1.heap.size=s0:=⟨_,rfl⟩;rw [hp0]at hP4 oH⊢;rw [hh0]at hP4 hZ4 hws hs2 hp0⊢;rw [hs0]at hS4 hs2⊢;obtain⟨y0,y1,y2,y3,f0,f1,f2,f3⟩:=CG hS4;have HP4:=Aa hP4;have HZ4:=Aa hZ4;have ni:=Aa hS4;have HB4:=Aa hb4;clear hP4 hZ4 hS4 hb4 HS2 HB2 HV
 go_wp2_with fail
 go_loopw [27](λi wr=>∃k v,k<=n/\i= .int .i64 (k:Nat)/\CS wr p0 127 [Az d,.int .i64 (li:Int),.int .i64 (n:Int),.int .i64 (tb:Int),.int .i64 (dt:Int),v,.slice (some (Φ h0)) n n]/\
  ((k=0/\v= .slice none 0 0)\/∃g c,v= .slice (some (Φ g)) k c/\p0<g)/\wr.ownsRow w.heap.size 28 1 v k ((wordsAt ws (tb/8) k).map wv)/\Below p0 W4 wr/\∀i,i<k->EX (ws (tb/8+i)).toNat=true)(λi _=>n- (intOf i).toNat)
 case atStart=>exact⟨0,_,Nat.zero_le _,rfl,HP4.out,.inl ⟨rfl,rfl⟩,World.ownsRow_nil _ _ _ _,Below.refl _ _,λi hi=>absurd hi (Nat.not_lt_zero _)⟩
 case round=>
  obtain⟨k,v,hk,rfl,hP,hv,hrow,hbl,hal⟩:=hrel;have hbw:η w wr:=HB4.out.trans (hbl.mono O);have y3':=hP.cell 3;simp only [AA,Am]at y3';have HEn:=Aa (Aco p0 tb k wr y3' Au1 O);have HPk:=Aa hP;have HVk:=Aa hv;have qi:=Aa hrow;have kJ:=Aa hbl;have qj:=Aa hbw;have UO:=Aa hal;clear hP hv hrow hbl y3' hal;by_cases hlt:k<n
  ·obtain⟨gd,hbd,hrd,hod⟩:=HDb.out _ hbw;have HG:=Y7 d L ws _ _ gd hbd (tb/8+k) 1 wr hL0 hL hu hrd (Ξ jX.out.fits jX.out.Le Arx.out);rw [show((8*(tb/8+k):Nat):Int)=(tb:Int)+8*(k:Int)by have:=Arx.out;omega]at HG;have HG:=Aa HG;clear hrd hod hbw
   go_wp2_with fail
   refine HEn.out.mono ?_;rintro e w'⟨rfl,rfl⟩
   go_wp2_with fail
   refine HG.out.mono ?_;rintro e w3⟨v3,rfl,ho3,hb3⟩;obtain⟨A3,c3,rfl,hc3,hr3⟩:=CU ho3;obtain⟨g3,rfl,hg3,Au2⟩:=KL ho3 O;have hc0:w3.cell? (Φ g3)=some (.int .u64 ((ws (tb/8+k)).toNat:Int)):=by
    obtain⟨b,off,e,_,hc⟩:=hr3.2 O;injection e with e;injection e with e1 e2;subst e1 e2
    rw [hc 0 O];simp [Py,wv]
   have nz:=Aa (Uo (ws (tb/8+k)).toNat · (UInt64.toNat_lt _));by_cases hR:EX (ws (tb/8+k)).toNat=true
   case neg=>
    have hRf:EX (ws (tb/8+k)).toNat=false:=by simpa using hR
    rw [hRf]at nz;have HNR:=Aa hR;have HB3:=Aa (τ qj.out hb3);obtain⟨x,hx⟩:∃x,ws (tb/8+k)=x:=⟨_,rfl⟩;rw [hx]at hc0 nz;clear ho3 hr3 hb3 hx hR hRf HG HEn
    go_wp2_with fail
    refine(nz.out _).mono ?_;rintro e w5⟨rfl,hd5⟩;have Jz:=Aa (τ HB3.out (hd5.below _));clear hd5 HB3 nz hc0
    go_wp2_with fail
    go_ret2;have e1:sh.table/8=tb/8:=by rw [HTb.out]
    exact⟨Jz.out,λh=>absurd (by have:=h k (by rw [hn];exact hlt);rw [e1]at this;exact this) HNR.out,λ_=>rfl⟩
   rw [hR]at nz;have hP3:=HPk.out.ξ hb3;have Axi:p0<g3:=Ω HPk.out.lt
   have hrow3:=own_below qi.out hb3;have Arz:=kJ.out.trans (hb3.mono (IW HPk.out.lt));have kK:=Aa hP3;have Ar0:=Aa hrow3;have Ar1:=Aa Arz;obtain⟨x,hx⟩:∃x,ws (tb/8+k)=x:=⟨_,rfl⟩;rw [hx]at hc0 nz;have HX:=Aa hx;have HAk:Hid (∀i,i<k+1->EX (ws (tb/8+i)).toNat=true):=Aa (λi hi=>by
    rcases Nat.lt_succ_iff_lt_or_eq.1 hi with h| h
    ·exact UO.out i h
    ·subst h;rw [hx];rw [<-hx];exact hR)
   clear ho3 hr3 hb3 hP3 hrow3 Arz hx hR HG HEn
   go_wp2_with fail
   refine(nz.out _).mono ?_;rintro e w5⟨rfl,hd5⟩;have hb5:=hd5.below w3.heap.size;have hP5:=kK.out.ξ hb5;have hc5:=(hb5.cell (p:=Φ g3) Au2).trans hc0;have Aml:=own_below Ar0.out hb5;have Ar2:=Ar1.out.trans (hb5.mono (IW kK.out.lt));have z5:=hP5.cell 5;have f5:=hP5.frozen 5;have hp5:=hP5.lt;simp only [AA,Am]at z5;have HP5:=Aa hP5;have Au3:=Aa Aml;have Ar3:=Aa Ar2;have hw5:w.heap.size<=w5.heap.size:=O
   clear hd5 hb5 hP5 Aml Ar2 hc0 kK Ar0 Ar1 nz;obtain⟨wd,hwd⟩:∃wd,wd=w5.drew:=⟨_,rfl⟩
   go_wp2_with fail
   go_region_law(refine N9 rfl (.tmp 50) (.tmp 54) 91 rfl Tryz.Agl w5 w.heap.size v k ((wordsAt ws (tb/8) k).map wv) [.int .u64 (x.toNat:Int)] rfl Au3.out rfl rfl rfl rfl w5.heap.size 1 rfl rfl rfl U (by intro u hu;simp at hu;subst hu;rfl) O U hw5 ?_;intro g6 c6 w6 ZV O5 hK6 nC;have hng:some p0≠v.ownBlock:=(λe=>by rcases HVk.out with⟨_,h⟩| ⟨g,c,h,hlt⟩<;>(subst h;simp [Bd]at e);omega);have z6:=(World.cell?_of_block (w:=w5) (a:=Δ p0 5) (hK6.2 p0 hp5 hng)).trans z5;have f6:=(World.frozen?_of_block (w:=w5) (a:=Δ p0 5) (hK6.2 p0 hp5 hng)).trans f5)
   all_goals(obtain⟨q1,q2,q3,q4⟩:=xq HX.out O HP5.out HVk.out Ar3.out Ar3.out.size ZV O5 hK6 nC)
   all_goals(have Q1:=Aa q1)
   all_goals(have Q3:=Aa q3)
   all_goals(have Q4:=Aa q4)
   all_goals(clear q1 q3 q4 ZV O5 hK6 nC hng z6 f6 z5 f5 hc5)
   all_goals(go_wp2_with fail)
   all_goals(go_roundw)
   all_goals(try(case rel=>exact⟨k+1,_,O,by go_num,Q1.out,.inr ⟨g6,c6,rfl,q2⟩,Q3.out,Q4.out,HAk.out⟩))
   all_goals(try(simp [intOf];omega))
  ·have hkn:k=n:=O
   subst hkn
   go_wp2_with fail
   go_ret2;have hn0:0<k:=by rw [<-hn];exact jX.out.BM
   rcases HVk.out with⟨h0',_⟩| ⟨g,c,rfl,hgp⟩
   ·omega
   have hlt:=HLt.out;have hrow:=qi.out;have hZ:=(kJ.out.block h0 O).trans HZ4.out;have hgl:=KL hrow hn0;have htl:=hT.lt;have e1:sh.table/8=tb/8:=by rw [HTb.out]
   refine⟨qj.out,λ_=> ?_,λ⟨i,hi,hni⟩=>absurd (by rw [e1];exact UO.out i (by rw [<-hn];exact hi)) hni⟩;refine⟨p0,λb=>own b\/b=p0\/b=g\/b=h0,rfl,⟨g,h0,k,c,k,own,⟨⟨HDb.out _ qj.out,hu⟩,hL0,hL,HSh.out,?_,?_,?_,?_,?_,?_,(CP hrow).1,Ad _,λh=> ?_,λh=> ?_,λh=> ?_,O,O,O,hT.below qj.out,?_,?_⟩,λ_=>Iff.rfl⟩,λb hb=> ?_⟩
   ·show CS wr p0 _ _;rw [wR,hn,HTb.out,hdt];exact HPk.out
   ·rw [hn,e1];exact RG.JU hrow
   ·refine⟨zc,hZ,λt ht=> ?_⟩;have ht':t<k:=by rw [List.length_replicate,hn]at ht;exact ht
    rw [<-Array.getElem?_toList,<-hzc,Lj,List.getElem?_map,IB,if_pos ht',nO];rfl
   ·simp [wordsAt,hn]
   ·simp [hn]
   ·exact hn.symm
   ·have:=hlt _ h;omega
   ·have:=hlt _ h;omega
   ·have:=hlt _ h;omega
   ·rintro(h| h| h| h)
    ·exact g1 h
    ·omega
    ·omega
    ·omega
   ·rintro(h| h| h| h)
    ·exact g2 h
    ·omega
    ·omega
    ·omega
   ·rcases hb with h| h| h| h
    ·exact .inl h
    ·right;omega
    ·right;omega
    ·right;omega
def gJ{len:Mode}{w:World}{d L:Nat}{ws:Nat->UInt64}{own:Nat->Prop}{sh:Sh}(hL0:0<L)(hL:L<=1024)(hs:shapeOf L=some sh)(hu:len.lf≠0)(h:Dev w d L ws len (λ_=>0) own)(hT:Tabs w)(g1:¬own 0)(g2:¬own 1)
 (h8:wordsAt ws 0 8=wordsOf sh)(hall:∀i,i<sh.BM->EX (ws (sh.table/8+i)).toNat=true):
 Calls prog 27 #[Az d] w λe w'=>∃p F,e= .returned (.tuple #[Az p,.int .i64 0])/\
  Ew len w' d p L {sh:=sh,ws:=ws,tk:=wordsAt ws (sh.table/8) sh.BM,hd:=BC sh.BM 0} F/\η w w'/\∀b,F b->own b\/w.heap.size<=b:=by
 refine(TU hL0 hL hs hu h hT g1 g2 h8).mono ?_;rintro e w'⟨hb,h1,_⟩;obtain⟨p,F,he,hS,ho⟩:=h1 hall;exact⟨p,F,he,hS,hb,ho⟩
def xu(j n:Nat):BO (λ_=>0) j (BC n 0)=λ_=>0:=by
 funext i;unfold BO;split
 ·rw [Bi,IB];split<;>rfl
 ·rfl
def RP(sh:Sh):(wordsOf sh).length=8:=rfl
def RQ(sh:Sh):wordsAt (LZ sh) 0 8=wordsOf sh:=by
 apply Eu
 ·rfl
 ·intro i h1 h2;have hi:i<8:=by simpa [wordsAt]using h1
  have h8:=RP sh;simp only [wordsAt,IU,VY];unfold LZ BO;rw [if_pos O,Bi,show 0+i-0=i by omega,List.getElem?_eq_getElem h2];rfl
def Iz(sh:Sh)(i:Nat)(hi:8<=i):LZ sh i=0:=by
 unfold LZ BO;have h8:=RP sh;rw [if_neg O]
def st0(sh:Sh):St:={sh:=sh,ws:=LZ sh,tk:=BC sh.BM 0,hd:=BC sh.BM 0}
def kL(sh:Sh)(h:sh.table=128):wordsAt (LZ sh) (sh.table/8) sh.BM=BC sh.BM 0:=by
 apply Eu
 ·simp [wordsAt]
 ·intro i h1 h2;simp only [wordsAt,IU,VY,nO];exact Iz sh _ O
def xw{w:World}{L:Nat}{sh:Sh}(hL0:0<L)(hL:L<=1024)(hs:shapeOf L=some sh)(hT:Tabs w):
 Calls prog 44 #[.int .i64 (L:Int)] w λe w'=>∃d p F,e= .returned (.tuple #[Az d,Az p])/\
  Sys w' d p L (st0 sh) F/\η w w'/\∀b,F b->w.heap.size<=b:=by
 have htl:=hT.lt;obtain⟨v0,v1,v2,v3,hsv⟩:∃v0 v1 v2 v3:Nat,uM sh= .agg #[.int .i64 (v0:Int),.int .i64 (v1:Int),.int .i64 (v2:Int),.int .i64 (v3:Int)]:=⟨_,_,_,_,rfl⟩;have HSV:=Aa hsv;have HTb:=Aa (FK hs).table;clear hsv;go_enter func44,ntmps44
 go_wp2_with fail
 refine(zV L w hL0 hL).mono ?_;rintro e w1⟨d,g,rfl,hr,hd1,hg1,hb1⟩;have hD1:Dev w1 d L (λ_=>0) M0 (λ_=>0) (Dh d L g (λ_=>none)):=⟨g,_,hr,λ_=>Iff.rfl⟩;have ho1:∀b,Dh d L g (λ_=>none) b->w.heap.size<=b:=λb h=>by
  rcases h with h| h| ⟨_,_,h⟩
  ·omega
  ·omega
  ·cases h
 have HF:=wU hL0 hL hs hD1 (hT.below hb1) (λh=>Ω (ho1 _ h)) (λh=>Ω (ho1 _ h));rw [xu,show BO (λ_=>0) 0 (wordsOf sh)=LZ sh from rfl,HSV.out]at HF;have HF:=Aa HF;clear hr hD1
 go_wp2_with fail
 refine HF.out.mono ?_;rintro e w2⟨rfl,Aga,hD2,hM2⟩;have hb2:η w w2:=hb1.trans (hM2.touch.below hb1.size ho1);have ho2:∀b,Aga b->w.heap.size<=b:=λb h=>(hM2.own b h).elim (ho1 b) (λh=>Bc hb1.size h)
 have Gn:η w2 (w2.alloc (.cells #[.int .i64 (v0:Int),.int .i64 (v1:Int),.int .i64 (v2:Int),.int .i64 (v3:Int)] 35)):=(Below.refl _ _).alloc (Ad _) _;have hb3:=τ hb2 Gn;have HO:=gJ hL0 hL hs U (hD2.below Gn) (hT.below hb3) (λh=>Ω (ho2 _ h)) (λh=>Ω (ho2 _ h)) (RQ sh) (λi hi=>by rw [Iz sh _ (by rw [HTb.out];omega)];rfl);rw [kL sh HTb.out]at HO;have HO:=Aa HO;have HB3:=Aa hb3;clear hb2 Gn hD2 hM2 HF hb3
 go_wp2_with fail
 refine HO.out.mono ?_;rintro e w4⟨p,F,rfl,hs4,hb4,hF4⟩;have ni:Hid (Sys w4 d p L (st0 sh) F):=Aa hs4;have HB4:=Aa (τ HB3.out hb4);clear hs4 hb4 HO;have hsz:=HB3.out.size
 go_wp2_with fail
 go_ret2;refine⟨d,p,F,rfl,ni.out,HB4.out,λb hb=>(hF4 b hb).elim (ho2 b) (λh=>Bc hsz h)⟩
structure Jd(len:DY)(w:World)(x d p L:Nat)(s:St)(F:Nat->Prop):Prop where
 sys:Ew len w d p L s F
 box:CS w x 154 [Az d,Az p]
 out:¬F x
abbrev Ix:=Jd (.up M0)
section
variable{len:DY}{w w':World}{x d p L:Nat}{s:St}{F:Nat->Prop}
def Jd.below(h:Jd len w x d p L s F)(k:η w w'):Jd len w' x d p L s F:=⟨h.sys.below k,h.box.ξ k,h.out⟩
def Jd.move{len':DY}(h:Jd len w x d p L s F){s':St}{F':Nat->Prop}(hs:Ew len' w' d p L s' F')(m:AP F F' w w'):Jd len' w' x d p L s' F':=
 ⟨hs,h.box.touch m.touch h.out,λh'=>(m.own x h').elim h.out (λh''=>Ω h.box.lt)⟩
def Jd.L0(h:Jd len w x d p L s F):0<L/\L<=1024/\dJ L s.sh/\s.tk.length=s.sh.BM:=by
 obtain⟨_,_,_,_,_,_,hr,_⟩:=h.sys;exact⟨hr.L0,hr.L1,FK hr.shape,by rw [hr.Oq,hr.bZ]⟩
def KA(h:Jd len w x d p L s F)(key:ByteArray)(hk:key.size<=1000000):Calls prog 109 #[Az x,.string key] w λe w'=>e= .returned (.int .i64 (if 16<key.size then 3 else 0))/\w=w':=by
 have y0:=h.box.p1;clear h;by_cases h1:16<key.size
 ·have t1:decide ((16:Int)<(key.size:Int))=true:=decide_eq_true O;rw [if_pos h1];go_enter func109,ntmps109;go_wp2;go_ret;exact⟨rfl,rfl⟩
 ·have t1:decide ((16:Int)<(key.size:Int))=false:=decide_eq_false O;rw [if_neg h1];go_enter func109,ntmps109;go_wp2;go_ret;exact⟨rfl,rfl⟩
def ZW{len:Mode}(h:Jd len w x d p L s F):Calls prog 121 #[Az x] w λe w'=>e= .returned (.tuple #[.int .u64 ((s.ws 9).toNat:Int),.int .i64 0])/\η w w':=by
 have y0:=h.box.p1;obtain⟨l0,l1,ok,_⟩:=h.L0;have HG:=jR h.sys 9 1 (Ξ ok.fits ok.Le ok.BM);rw [show((8*9:Nat):Int)=72 from rfl,show((1:Nat):Int)=1 from rfl]at HG;have HG:=Aa HG;clear h ok;go_enter func121,ntmps121
 go_wp2_with fail
 refine HG.out.mono ?_;rintro e w1⟨v,rfl,ho,hb⟩;obtain⟨A,c,rfl,hc,hr⟩:=CU ho;obtain⟨g,rfl,hg,hgl⟩:=KL ho O;have hc0:w1.cell? (Φ g)=some (.int .u64 ((s.ws 9).toNat:Int)):=by
  obtain⟨b,off,e,_,hcc⟩:=hr.2 O;injection e with e;injection e with e1 e2;subst e1 e2
  rw [hcc 0 O];simp [wordsAt,wv]
 clear HG ho hr
 go_wp2_with fail
 go_ret2;exact⟨rfl,hb⟩
end
def WE{c:Nat}(h:Bf c≠0):c=1\/c=2:=by
 unfold Bf at h;split at h<;>simp_all
def Aad(a b:Nat):DX (a||| b)=DX a||| DX b:=by
 unfold DX fieldN;rw [Nat.or_div_two_pow,Nat.or_mod_two_pow]
def Aj4(a:Nat):DX a<4:=by
 unfold DX fieldN;exact Nat.mod_lt _ U
def xy{a b:Nat}(h1:Bf (Bg (a||| b))≠0)(h2:Bf (Bg a)≠0):Bg a=Bg (a||| b):=by
 have p1:=WE h1;have p2:=WE h2;have e1:Bg (a||| b)=DX (a||| b):=by
  unfold Bg;split
  ·rfl
  ·rename_i hr;unfold Bg at p1;simp [hr]at p1
 have e2:Bg a=DX a:=by
  unfold Bg;split
  ·rfl
  ·rename_i hr;unfold Bg at p2;simp [hr]at p2
 rw [e1,Aad]at p1;rw [e2]at p2;rw [e1,e2,Aad];have hb:=Aj4 b;generalize DX a=x at*;generalize DX b=y at*;have:y=0\/y=1\/y=2\/y=3:=O
 rcases p2 with rfl| rfl<;>rcases this with rfl| rfl| rfl| rfl<;>simp_all
def V8{s:St}{off:Int}(h:Bf (D7 s off)≠0):∃i a,i<s.tk.length/\off=((s.sh.data+1024*i+64*Bf (D7 s off)*a:Nat):Int)/\(Bf (D7 s off)=1\/Bf (D7 s off)=4)/\Bf (D7 s off)*a+Bf (D7 s off)<=16:=by
 cases hf:Ia s off with
 | none=>rw [D7,hf]at h;exact absurd rfl h
 | some ia=>
   obtain⟨i,a⟩:=ia;obtain⟨hi,ha,ho,hl,hfit⟩:=NZ hf;rw [D7,hf]at h
   dsimp only at h
   split at h
   ·rename_i hh;have e:D7 s off=Bg (CQ s i):=by
     rw [D7,hf];dsimp only;rw [if_pos hh];exact xy (by rw [CQ]at hl;omega) h
    rw [e];refine⟨i,a,hi,ho,?_,hfit⟩;rcases WE (c:=Bg (CQ s i)) O with k| k<;>rw [k]<;>simp [Bf]
   ·exact absurd rfl h
def V9(c:Nat):Lu (c:Int)=((8*Bf c:Nat):Int):=by
 unfold Lu Bf;split
 ·rename_i h;have:c=1:=O
  subst this;rfl
 ·rename_i h1;split
  ·rename_i h2;have:c=2:=O
   subst this;rfl
  ·rename_i h2;split
   ·simp at h1
   ·simp at h2
   ·rfl
def XF(w:World)(base:Nat)(v:Value)(x:Nd):Prop:=
 ∃A1 c1 A2 c2 A3 c3,v= .agg #[.slice A1 x.pre.length c1,.int .u64 (x.val.toNat:Int),.slice A2 x.labels.length c2,.slice A3 x.kids.length c3]/\
  w.ownsRow base 5 1 (.slice A1 x.pre.length c1) x.pre.length (x.pre.map bv)/\w.ownsRow base 5 1 (.slice A2 x.labels.length c2) x.labels.length (x.labels.map bv)/\w.ownsRow base 28 1 (.slice A3 x.kids.length c3) x.kids.length (x.kids.map wv)
def ZX{Q:Ending->World->Prop}{W:World}{tmps:Array Value}{fn:Func}(hr:fn.results= #[.cell 4 212,.tmp 5])(g:Nat){a b c d:Value}(h:CS W g 212 [a,b,c,d])(v:Value)(h2:tmps[4]? =some (Az g))(h3:tmps[5]? =some v)
 (hq:Q (.returned (.tuple #[.agg #[a,b,c,d],v])) W):bodyPost prog fn Q Exit.ret {tmps:=tmps,defers:=[]} W:=by
 obtain⟨y0,y1,y2,y3,f0,f1,f2,f3⟩:=CG h;have hu:=run_underlying (P:=prog) underlying212;refine bodyPost_ret (v:= .tuple #[.agg #[a,b,c,d],v]) (by simp [results,hr,go_sem,h2,h3,y0,y1,y2,y3]) rfl hq
section
variable{len:Mode}{w w':World}{x d p L:Nat}{s:St}{F:Nat->Prop}
def Agm(s:St)(name:UInt64)(w:World)(e:Ending)(w':World):Prop:=
 η w w'/\match Fb s name with
  | none=>e= .returned (.tuple #[.agg #[.slice none 0 0,.int .u64 0,.slice none 0 0,.slice none 0 0],.int .i64 5])
  | some nd=>∃v,e= .returned (.tuple #[v,.int .i64 0])/\XF w' w.heap.size v nd
def JX(h:Jd len w x d p L s F)(name:UInt64):Calls prog 154 #[Az x,.int .u64 (name.toNat:Int)] w (Agm s name w):=by
 have HX:=Aa h;obtain⟨l0,l1,ok,FZ⟩:=h.L0;have hwr:IntKind.i64.wrap (name.toNat:Int)=Bj name:=rfl;have ho: -9223372036854775808<=Bj name/\Bj name<=9223372036854775807:=by
  have hlt:=name.toNat_lt;unfold Bj;simp only [IntKind.wrap,IntKind.bits,IntKind.signed,Bool.true_and,decide_eq_true_eq,show(2:Int)^(64-1)=9223372036854775808 from rfl,show(2:Int)^64=18446744073709551616 from rfl];constructor<;>split<;>omega
 have Ar4:=h.box.lt;obtain⟨off,hoff⟩:∃off,off=Bj name:=⟨_,rfl⟩;rw [<-hoff]at hwr ho;clear h;have QX:=Aa (λ(W:World)(hW:η w W)=>by
  obtain⟨tb,hb,n,cT,cH,own,hr, -⟩:=(HX.out.below hW).sys;exact ZL hr.at off ho)
 obtain⟨y0,y1⟩:=HX.out.box.p2;have B0:CS (w.alloc (.cells #[.slice none 0 0,.int .u64 0,.slice none 0 0,.slice none 0 0] 212)) w.heap.size 212 [.slice none 0 0,.int .u64 0,.slice none 0 0,.slice none 0 0]:=heap_alloc_new _ _;have hb0:η w (w.alloc (.cells #[.slice none 0 0,.int .u64 0,.slice none 0 0,.slice none 0 0] 212)):=(Below.refl _ _).alloc (Ad _) _;by_cases hc0:Bf (D7 s off)=0
 ·have HR:Hid (Fb s name=none):=Aa (by rw [Fb,<-hoff,if_pos hc0]);clear hoff ok FZ;go_enter func154,ntmps154
  go_wp2_with fail
  generalize w.alloc (.cells #[.slice none 0 0,.int .u64 0,.slice none 0 0,.slice none 0 0] 212)=W0 at*;refine(QX.out W0 hb0).mono ?_;rintro e w1⟨rfl,hd⟩;have hb1:=τ hb0 (hd.below W0.heap.size);have B1:=B0.ξ (hd.below _);clear B0 hb0 hd
  go_wp2_with fail
  refine(Jq _ _).mono ?_;rintro e w2⟨rfl,rfl⟩;rw [V9,hc0];clear QX HX y0 y1 hc0;obtain⟨k0,k1,k2,k3,f0,f1,f2,f3⟩:=CG B1
  go_wp2_with fail
  have BF:=(((B1.AZ 0 (Ac none 0 0)).AZ 1 (Au .u64 0)).AZ 2 (Ac none 0 0)).AZ 3 (Ac none 0 0);have Ld:=(((hb1.setCell (p:=Φ w.heap.size) (Ad _) (Ac none 0 0)).setCell (p:=Δ w.heap.size 1) (Ad _) (Au .u64 0)).setCell (p:=Δ w.heap.size 2) (Ad _) (Ac none 0 0)).setCell (p:=Δ w.heap.size 3) (Ad _) (Ac none 0 0);refine ZX rfl w.heap.size BF (.int .i64 5) rfl rfl ⟨Ld,?_⟩;rw [HR.out]
 ·obtain⟨i,a,hi,Amm,hk,hfit⟩:=V8 hc0;have HRN:Hid (Fb s name=if IX (wordsAt s.ws (off.toNat/8) (8*Bf (D7 s off)))then some (EY (wordsAt s.ws (off.toNat/8) (8*Bf (D7 s off))))else none):=Aa (by rw [Fb,<-hoff,if_neg hc0]);have hj:off=((8*(off.toNat/8):Nat):Int)/\off.toNat/8+8*Bf (D7 s off)<=8*L:=by
   have:=ok.data;have:=ok.fits;have:=ok.BM;rw [FZ]at hi;rcases hk with k| k<;>rw [k]at Amm hfit⊢<;>omega
  obtain⟨j,hjd⟩:∃j,j=off.toNat/8:=⟨_,rfl⟩;rw [<-hjd]at hj HRN;obtain⟨hj1,hj2⟩:=hj;have HG:=Aa (λ(W:World)(hW:η w W)=>jR (HX.out.below hW).sys j (8*Bf (D7 s off)) hj2);rw [<-hj1]at HG;have t1:(((8*Bf (D7 s off):Nat):Int)==0)=false:=by rw [beq_eq_false_iff_ne];omega
  have HK:Hid (8*Bf (D7 s off)<=1000000):=Aa (by rcases hk with k| k<;>omega);obtain⟨m,hm⟩:∃m,m=8*Bf (D7 s off):=⟨_,rfl⟩;have HWd:Hid (Lu (D7 s off:Int)=(m:Int)):=Aa (by rw [V9,hm]);rw [<-hm]at HG t1 HK HRN;clear hoff ok FZ hk hfit Amm hi hj1 hj2 hjd hc0 hm;go_enter func154,ntmps154
  go_wp2_with fail
  generalize w.alloc (.cells #[.slice none 0 0,.int .u64 0,.slice none 0 0,.slice none 0 0] 212)=W0 at*;refine(QX.out W0 hb0).mono ?_;rintro e w1⟨rfl,hd⟩;have hb1:=τ hb0 (hd.below W0.heap.size);have B1:=B0.ξ (hd.below _);have z0:w1.cell? (Φ x)=some (Az d):=(hb1.cell (p:=Φ x) Ar4).trans y0;clear B0 hb0 hd
  go_wp2_with fail
  refine(Jq _ _).mono ?_;rintro e w2⟨rfl,rfl⟩;rw [HWd.out];clear QX HX y0 y1;obtain⟨k0,k1,k2,k3,f0,f1,f2,f3⟩:=CG B1
  go_wp2_with fail
  refine(HG.out w1 hb1).mono ?_;rintro e w2⟨v,rfl,hown,hb2⟩;obtain⟨A,c,rfl,hc,hr⟩:=CU hown;have hb2':=τ hb1 hb2;have hlt2:w.heap.size<w2.heap.size:=Nat.lt_of_lt_of_le B1.lt hb2.size;have B2:=B1.ξ hb2;clear HG hown k0 k1 k2 k3 f0 f1 f2 f3 z0 B1;have hr':=Aa hr;clear hr
  go_wp2_with fail
  refine(decode_any A m c _ w2 HK.out hc hr'.out).mono ?_;rintro e w3⟨hb3,hpost⟩;have B3:=B2.ξ hb3;have Aj5:=τ hb2' hb3;have hw2:=hb2'.size;cases hdk:IX (wordsAt s.ws j m)
  ·have HR:Hid (Fb s name=none):=Aa (by rw [HRN.out,hdk];rfl);rw [hdk]at hpost;replace hpost:e= .returned (.tuple #[.agg #[.slice none 0 0,.int .u64 0,.slice none 0 0,.slice none 0 0],.bool false]):=hpost;subst hpost;clear HRN HK hdk hr' HWd;have B4:CS (w3.alloc (.cells #[Ac none 0 0,Au .u64 0,Ac none 0 0,Ac none 0 0] 212)) w.heap.size _ _:=B3.ξ ((Below.refl w3.heap.size w3).alloc (Ad _) _);have hb4:η w (w3.alloc (.cells #[Ac none 0 0,Au .u64 0,Ac none 0 0,Ac none 0 0] 212)):=τ Aj5 ((Below.refl w3.heap.size w3).alloc (Ad _) _);clear B2 B3 hb1 hb2 hb2' hb3;obtain⟨k0,k1,k2,k3,f0,f1,f2,f3⟩:=CG B4
   go_wp2_with fail
   have BF:=(((B4.AZ 0 (Ac none 0 0)).AZ 1 (Au .u64 0)).AZ 2 (Ac none 0 0)).AZ 3 (Ac none 0 0);have Ld:=(((hb4.setCell (p:=Φ w.heap.size) (Ad _) (Ac none 0 0)).setCell (p:=Δ w.heap.size 1) (Ad _) (Au .u64 0)).setCell (p:=Δ w.heap.size 2) (Ad _) (Ac none 0 0)).setCell (p:=Δ w.heap.size 3) (Ad _) (Ac none 0 0);refine ZX rfl w.heap.size BF (.int .i64 5) rfl rfl ⟨Ld,?_⟩;rw [HR.out]
  ·have HR:Hid (Fb s name=some (EY (wordsAt s.ws j m))):=Aa (by rw [HRN.out,hdk];rfl);rw [hdk]at hpost;obtain⟨A1,c1,A2,c2,A3,c3,rfl,hc1,hc2,hc3,hB1,hB2,hB3,o1,o2,o3⟩:=hpost;have HO:=Aa (And.intro o1 (And.intro o2 o3));clear hB1 hB2 hB3 hc1 hc2 hc3 o1 o2 o3 HRN HK hdk hr' HWd;generalize EY (wordsAt s.ws j m)=nd at*;have B4:CS (w3.alloc (.cells #[Ac A1 nd.pre.length c1,Au .u64 (nd.val.toNat:Int),Ac A2 nd.labels.length c2,Ac A3 nd.kids.length c3] 212)) w.heap.size _ _:=B3.ξ ((Below.refl w3.heap.size w3).alloc (Ad _) _);have hb4:η w (w3.alloc (.cells #[Ac A1 nd.pre.length c1,Au .u64 (nd.val.toNat:Int),Ac A2 nd.labels.length c2,Ac A3 nd.kids.length c3] 212)):=τ Aj5 ((Below.refl w3.heap.size w3).alloc (Ad _) _);clear B2 B3 hb1 hb2 hb2' hb3;obtain⟨k0,k1,k2,k3,f0,f1,f2,f3⟩:=CG B4
   go_wp2_with fail
   have BF:=(((B4.AZ 0 (Ac A1 nd.pre.length c1)).AZ 1 (Au .u64 (nd.val.toNat:Int))).AZ 2 (Ac A2 nd.labels.length c2)).AZ 3 (Ac A3 nd.kids.length c3);have Ld:=(((hb4.setCell (p:=Φ w.heap.size) (Ad _) (Ac A1 nd.pre.length c1)).setCell (p:=Δ w.heap.size 1) (Ad _) (Au .u64 (nd.val.toNat:Int))).setCell (p:=Δ w.heap.size 2) (Ad _) (Ac A2 nd.labels.length c2)).setCell (p:=Δ w.heap.size 3) (Ad _) (Ac A3 nd.kids.length c3);refine ZX rfl w.heap.size BF (.int .i64 0) rfl rfl ⟨Ld,?_⟩;rw [HR.out];obtain⟨o1,o2,o3⟩:=HO.out;have al:η w3 (w3.alloc (.cells #[Ac A1 nd.pre.length c1,Au .u64 (nd.val.toNat:Int),Ac A2 nd.labels.length c2,Ac A3 nd.kids.length c3] 212)):=(Below.refl _ _).alloc (Ad _) _;have hlt:w.heap.size<w2.heap.size:=O
   have up:∀{e:TypeId}{v:Value}{n:Nat}{xs:List Value},w3.ownsRow w2.heap.size e 1 v n xs->World.ownsRow (((((w3.alloc (.cells #[Ac A1 nd.pre.length c1,Au .u64 (nd.val.toNat:Int),Ac A2 nd.labels.length c2,Ac A3 nd.kids.length c3] 212)).setCell (Φ w.heap.size) (Ac A1 nd.pre.length c1)).setCell (Δ w.heap.size 1) (Au .u64 (nd.val.toNat:Int))).setCell (Δ w.heap.size 2) (Ac A2 nd.labels.length c2)).setCell (Δ w.heap.size 3) (Ac A3 nd.kids.length c3)) w.heap.size e 1 v n xs:=λo=>
    Um (AU (AU (AU (AU (own_below o al) hlt _ _) hlt _ _) hlt _ _) hlt _ _) (IW hlt)
   exact⟨_,rfl,A1,c1,A2,c2,A3,c3,rfl,up o1,up o2,up o3⟩
end
