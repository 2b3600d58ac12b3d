import Derived.Test.YtkimaejoeapmnaaGreatDoorG11
import Derived.Test.YtkimaejoeapmnaaGreatDoorG12
set_option maxHeartbeats 32000000
set_option maxRecDepth 100000
open Go.World renaming block_lt_of_cell?->Dz
open Nat renaming le_refl->Ad,le_of_lt->IC,le_trans->Bg
open Go.Lib renaming hid->Aa
open List renaming append_nil->aC,mem_append->AL,range_succ->aF,mem_range->Dj,replicate->BB,getElem?_cons_succ->Az,getElem?_cons_zero->Aj,getElem?_replicate->Iy,getElem_replicate->kX,getD_eq_getElem?_getD->Bh,ext_getElem->EH,getElem_map->GU,getElem_range->Vx
open Array renaming getElem?_eq_some_iff->AB
open Option renaming isSome_iff_exists->aG
open UInt64 renaming ofNat->AA
open Go.Value renaming ownBlock->Ba,int->Au,slice->Ac
namespace Go.Proofs.YtkimaejoeapmnaaGreatDoor
open Go.RowKit
theorem UL.below{w w':World}(h:UL w)(k:Below w.heap.size w w'):UL w':=fun j hj=>(k.cell (p:=⟨1,j,none⟩) (Dz w _ (h j hj))).trans (h j hj)
section
variable{w:World}{d p L:Nat}{s:St}{tb hb n cT cH:Nat}
theorem H7.below{w':World}(h:H7 w d p L s tb hb n cT cH)(k:Below w.heap.size w w'):H7 w' d p L s tb hb n cT cH:=by
 have key:∀{a:Addr}{v:Value},w.cell? a=some v->w'.cell? a=some v:=fun{a v}hc=>(k.cell (p:=a) (Dz w a hc)).trans hc
 exact⟨key h.y0,key h.y1,key h.y2,key h.y3,key h.y4,key h.y5,key h.y6,fun i hi=>key (h.tk i hi),fun i hi=>key (h.hd i hi),h.ok,h.L1,h.au,h.NR⟩
def Rh(s:St)(c i:Nat):Bool:=(Kq (CE s i) c).isSome
theorem Abh(h:H7 w d p L s tb hb n cT cH)(hT:UL w)(c i:Nat)(hi:i<n)(hc:c<4):
 Calls Tryz.prog 54 #[.agg #[Aw p,.int .i64 (c:Int)],.int .i64 (i:Int)] w fun e w'=>e= .returned (.bool (Rh s c i))/\Below w.heap.size w w':=by
 have hb0:Below w.heap.size w (w.alloc (.cells #[Aw p,.int .i64 (c:Int)] 136)):=(Below.refl _ _).alloc (Ad _) _;have h1:=h.below hb0;have hT1:=hT.below hb0;have HB:=Aa (fun W(k:Dr _ W)=>Lc (h1.dr k) i hi);have HN:=Aa (fun W(k:Dr _ W)=>VB (CE s i) c W (N9 s i) (by omega) (hT1.dr k));have HR:Hid (decide ((0:Int)<=iL (Kq (CE s i) c))=Rh s c i):=Aa (by
  unfold Rh iL;cases Kq (CE s i) c<;>simp)
 clear h h1 hT hT1;go_enter Tryz.func54,Tryz.ntmps54
 go_wp2_with fail
 go_quiet(first
  | (go_at_call 57;exact Aio (HB.out _ (Dr.one _ _)))
  | (go_at_call 56;exact Aio (HN.out _ (Dr.one _ _))))
 go_wp2_with fail
 trace_state
 go_ret;exact⟨by rw [<-HR.out];rfl,hb0.trans ((Dr.one _ _).below _)⟩
end
def nO(F:Nat->Bool)(l:List Nat):Option Nat->Prop
 | some i=>i∈l/\F i=true/\∀x∈l,F x=true->i<=x
 | none=>∀x∈l,F x=false
def VF:Option Nat->Value
 | some i=> .tuple #[.int .i64 (i:Int),.bool true]
 | none=> .tuple #[.int .i64 0,.bool false]
def WZ(w:World)(o:Nat):Nat:=match w.cell? ⟨o,0,none⟩with
 | some (.slice _ n _)=>n
 | _=>0
theorem E5.WZ{w:World}{B o g c:Nat}{l:List Nat}(h:E5 w B o g c l):WZ w o=l.length:=by
 have:=h.box.cell 0;unfold Go.Proofs.YtkimaejoeapmnaaGreatDoor.WZ;rw [this];rfl
theorem TV{w0 w:World}{d p L:Nat}{s:St}{tb hb n cT cH:Nat}(h:H7 w0 d p L s tb hb n cT cH)(hT:UL w0)(c:Nat)(hc:c<4)(hB:Below w0.heap.size w0 w)
 {o g cc:Nat}{l:List Nat}(ho:E5 w w0.heap.size o g cc l)(hl:∀x∈l,x<n)(hH:JK (Fg id l) l.length):
 Calls Tryz.prog 55 #[Aw o,.func (.func 54) #[.agg #[Aw p,.int .i64 (c:Int)]] #[]] w fun e w'=>∃r,e= .returned (VF r)/\nO (Rh s c) l r/\Touch (fun b=>b=o\/b=g) w w':=by
 have HP:=Aa h;have HTB:=Aa hT;have HL:=Aa hl;have hob:=ho.hB;have hgb:=ho.mi.1;have hws:=hB.size;clear h hT hl;go_enter Tryz.func55,Tryz.ntmps55
 go_wp2_with fail
 go_loopw [](fun wr=>∃l1 P,(P++l1).Perm l/\(∀x∈P,Rh s c x=false)/\JK (Fg id l1) l1.length/\E5 wr w0.heap.size o g cc l1/\Touch (fun b=>b=o\/b=g) w wr)(fun wr=>WZ wr o)
 case atStart=>exact⟨l,[],List.Perm.refl _,by simp,hH,ho,Touch.refl _ _⟩
 case round=>
  obtain⟨l1,P,hp,hP,hh,ho1,ht1⟩:=hrel;have hb1:Below w0.heap.size w0 wr:=hB.trans (ht1.below hws (fun k hk=>by rcases hk with rfl| rfl<;>assumption));have dO:=Aa hp;have HPf:=Aa hP;have HH:=Aa hh;have HO:=Aa ho1;have HT1:=Aa ht1;have HB1:=Aa hb1;have y0:=ho1.box.p1;have hln:=ho1.len;have HLA:=Aa ho1.WZ;obtain⟨m,hm⟩:∃m,l1.length=m:=⟨_,rfl⟩;rw [hm]at y0 hln;have HM:=Aa hm;have HLen:=Aa (uZ (some ⟨g,0,none⟩) m cc wr (by omega));clear hp hP hh ho1 ht1 hb1 hm ho hH hB;rcases m with _| m
  ·go_wp2_with fail
   refine HLen.out.mono ?_;rintro e w'⟨rfl,rfl⟩
   go_wp2_with fail
   go_ret2;have hnil:l1=[]:=List.eq_nil_of_length_eq_zero HM.out;refine⟨none,rfl,fun x hx=> ?_,HT1.out⟩;have:=dO.out.mem_iff.2 hx;rw [hnil,aC]at this;exact HPf.out x this
  ·have t1:decide ((0:Int)<((m+1:Nat):Int))=true:=decide_eq_true (by omega);have Abg:=Aa (heapPop HO.out HM.out (by have:=HH.out;rw [HM.out]at this;exact this));generalize hmm:m+1=m1 at y0 HLen t1
   go_wp2_with fail
   refine HLen.out.mono ?_;rintro e w'⟨rfl,rfl⟩
   go_wp2_with fail
   refine Abg.out.mono ?_;rintro e w2⟨x,l2,rfl,hp2,hx2,hh2,ho2,ht2⟩;have hxl:x∈l:=dO.out.mem_iff.1 (List.mem_append_right _ (hp2.mem_iff.1 (List.mem_cons_self)));have hxn:=HL.out x hxl;have ht3:=HT1.out.trans ht2 (fun b h=> .inl h);have hb2:Below w0.heap.size w0 w2:=HB1.out.trans (ht2.below (by have:=HB1.out.size;omega) (fun k hk=>by rcases hk with rfl| rfl<;>assumption));have HF:=Abh (HP.out.below hb2) (HTB.out.below hb2) c x hxn hc;have HP2:=Aa hp2;have vg:=Aa hx2;have HH2:=Aa hh2;have QB:=Aa ho2;have HT3:=Aa ht3;have ta:=assert_int (x:Int);clear hp2 hx2 hh2 ho2 ht3 ht2 hb2 Abg HLen;have hl2:l2.length=m:=by have:=HP2.out.length_eq;simp only [List.length_cons,HM.out]at this;omega
   have HL2:=Aa hl2;clear hl2;cases hf:Rh s c x
   ·rw [hf]at HF;have HF:=Aa HF;have HFx:=Aa hf;clear hf
    go_wp2_with fail
    refine HF.out.mono ?_;rintro e w3⟨rfl,hb3⟩;have ho3:=QB.out.below hb3;have ht3:=HT3.out.trans (Touch.of_below (F:=fun b=>b=o\/b=g) hb3) (fun b h=> .inl h);have Atm:=Aa ho3.WZ;have iZ:=Aa ho3;have HT4:=Aa ht3;clear ho3 ht3 hb3 ta
    go_wp2_with fail
    go_roundw
    case rel=>
     refine⟨l2,P++[x],?_,?_,by rw [HL2.out];exact HH2.out,iZ.out,HT4.out⟩
     ·rw [List.append_assoc];exact(List.Perm.append_left P HP2.out).trans dO.out
     ·intro y hy;rcases AL.1 hy with h| h
      ·exact HPf.out y h
      ·rw [List.mem_singleton.1 h];exact HFx.out
    case measure=>show WZ w3 o<WZ wr o;rw [Atm.out,HLA.out,HL2.out,HM.out];omega
   ·rw [hf]at HF;have HF:=Aa HF;have HFx:=Aa hf;clear hf
    go_wp2_with fail
    refine HF.out.mono ?_;rintro e w3⟨rfl,hb3⟩
    go_wp2_with fail
    go_ret2;refine⟨some x,rfl,⟨hxl,HFx.out,fun y hy hfy=> ?_⟩,HT3.out.trans (Touch.of_below (F:=fun b=>b=o\/b=g) hb3) (fun b h=> .inl h)⟩;rcases AL.1 (dO.out.mem_iff.2 hy)with h| h
    ·rw [HPf.out y h]at hfy;cases hfy
    ·exact vg.out y h
def XC(B:Nat):Array MapEntry:= #[{key:= .int .i64 0,val:=Aw (B+2),born:=0},{key:= .int .i64 1,val:=Aw (B+4),born:=1},{key:= .int .i64 2,val:=Aw (B+6),born:=2}]
structure Tri(w0 W:World)(g cc:Nat->Nat)(Ls:Nat->List Nat):Prop where
 map:W.heap[w0.heap.size]? =some (.map (XC w0.heap.size) 3)
 ord:∀c,c<3->E5 W w0.heap.size (w0.heap.size+2+2*c) (g c) (cc c) (Ls c)
 heap:∀c,c<3->JK (Fg id (Ls c)) (Ls c).length
 apart:∀c c',c<3->c'<3->c≠c'->g c≠g c'/\g c≠w0.heap.size+2+2*c'
 low:Below w0.heap.size w0 W
theorem Tri.keep{w0 W W':World}{g cc:Nat->Nat}{Ls:Nat->List Nat}(h:Tri w0 W g cc Ls)(k:Below W.heap.size W W'):Tri w0 W' g cc Ls:=
 ⟨(k.block _ (AB.1 h.map).1).trans h.map,fun c hc=>(h.ord c hc).below k,h.heap,h.apart,h.low.trans (k.mono h.low.size)⟩
theorem Tri.push{w0 W W':World}{g cc:Nat->Nat}{Ls:Nat->List Nat}(h:Tri w0 W g cc Ls)(c:Nat)(hc:c<3){g' c':Nat}{l':List Nat}(ho:E5 W' w0.heap.size (w0.heap.size+2+2*c) g' c' l')(hh:JK (Fg id l') l'.length)
 (hg:g'=g c\/W.heap.size<=g')(t:Touch (fun b=>b=w0.heap.size+2+2*c\/b=g c) W W'):
 Tri w0 W' (fun x=>if x=c then g' else g x) (fun x=>if x=c then c' else cc x) (fun x=>if x=c then l' else Ls x):=by
 have hgc:=(h.ord c hc).mi;have hmb:w0.heap.size≠g c:=fun e=>by
  rcases(h.ord c hc).row.2 with⟨h',_⟩| ⟨g2,cap,cur,hv,hB,hg2,_⟩
  ·cases h'
  ·simp only [Value.slice.injEq,Option.some.injEq,Addr.mk.injEq,and_true,true_and]at hv;obtain⟨rfl,rfl⟩:=hv;have:=h.map;rw [e,hg2]at this;cases this
 have Al4:=(AB.1 h.map).1;refine⟨(t.block _ Al4 (fun e=>by rcases e with e| e;omega;exact hmb e)).trans h.map,fun x hx=> ?_,fun x hx=> ?_,fun x y hx hy hxy=> ?_,h.low.trans (t.below h.low.size (fun k hk=>by rcases hk with rfl| rfl;omega;exact hgc.1))⟩
 ·by_cases e:x=c
  ·subst e;simp only [if_true];exact ho
  ·simp only [if_neg e];have:=h.apart c x hc hx (fun e'=>e e'.symm);have h2:=h.apart x c hx hc e;exact(h.ord x hx).touch t (fun e'=>by rcases e' with e'| e';omega;exact this.2 e'.symm) (fun e'=>by rcases e' with e'| e';exact h2.2 e';exact this.1 e'.symm)
 ·by_cases e:x=c
  ·simp only [if_pos e];exact hh
  ·simp only [if_neg e];exact h.heap x hx
 ·have hol:∀z,z<3->w0.heap.size+2+2*z<W.heap.size:=fun z hz=>(h.ord z hz).box.lt
  have hgl:∀z,z<3->g z<W.heap.size:=fun z hz=>(h.ord z hz).mi.2
  by_cases ex:x=c
  ·have ey:¬y=c:=fun e=>hxy (by rw [ex,e])
   simp only [if_pos ex,if_neg ey];rcases hg with e| e
   ·rw [e,<-ex];exact h.apart x y hx hy hxy
   ·have:=hol y hy;have:=hgl y hy;omega
  ·by_cases ey:y=c
   ·simp only [if_neg ex,if_pos ey];have hxc:=h.apart x c hx hc ex;refine⟨?_,by rw [ey];exact hxc.2⟩;rcases hg with e| e
    ·rw [e];exact hxc.1
    ·have:=hgl x hx;omega
   ·simp only [if_neg ex,if_neg ey];exact h.apart x y hx hy hxy
theorem ja(W:World)(B:Nat)(hB:B<=W.heap.size):E5 ((W.alloc (.cells #[] 3)).alloc (.cells #[.slice (some ⟨W.heap.size,0,none⟩) 0 0] 194)) B (W.heap.size+1) W.heap.size 0 []:=by
 have h1:(W.alloc (.cells #[] 3)).heap.size=W.heap.size+1:=by simp
 refine⟨?_,?_,by omega,by omega,by simp⟩
 ·rw [<-h1];exact heap_alloc_new _ _
 ·exact own_below (World.ownsRow_made W #[] 0 hB (by decide) rfl) ((Below.refl _ _).alloc (Ad _) _)
theorem Tryz.PY:Tryz.prog.underlying 132=some (.map 3 139):=Tryz.underlying132
theorem VG(w W1 W2 W3:World)(h1:W1=Ey (((w.alloc (.map #[] 0)).alloc (.cells #[] 3)).alloc (.cells #[.slice (some ⟨w.heap.size+1,0,none⟩) 0 0] 194)) w.heap.size #[{key:= .int .i64 0,val:=Aw (w.heap.size+1+1),born:=0}] 1)
 (h2:W2=Ey ((W1.alloc (.cells #[] 3)).alloc (.cells #[.slice (some ⟨W1.heap.size,0,none⟩) 0 0] 194)) w.heap.size #[{key:= .int .i64 0,val:=Aw (w.heap.size+2),born:=0},{key:= .int .i64 1,val:=Aw (W1.heap.size+1),born:=1}] 2)
 (h3:W3=Ey ((W2.alloc (.cells #[] 3)).alloc (.cells #[.slice (some ⟨W2.heap.size,0,none⟩) 0 0] 194)) w.heap.size (XC w.heap.size) 3):
 W1.heap.size=w.heap.size+3/\W2.heap.size=w.heap.size+5/\W1.heap[w.heap.size]? =some (.map #[{key:= .int .i64 0,val:=Aw (w.heap.size+1+1),born:=0}] 1)/\Tri w W3 (fun c=>w.heap.size+1+2*c) (fun _=>0) (fun _=>[]):=by
 have s1:W1.heap.size=w.heap.size+3:=by rw [h1,WW];simp
 have s2:W2.heap.size=w.heap.size+5:=by rw [h2,WW];simp [s1]
 have hs0:(w.alloc (.map #[] 0)).heap.size=w.heap.size+1:=by simp
 have b0:Below w.heap.size w (w.alloc (.map #[] 0)):=(Below.refl _ _).alloc (Ad _) _;have o1:=ja (w.alloc (.map #[] 0)) w.heap.size (by omega);rw [hs0]at o1;have t1:=Jh (((w.alloc (.map #[] 0)).alloc (.cells #[] 3)).alloc (.cells #[.slice (some ⟨w.heap.size+1,0,none⟩) 0 0] 194)) w.heap.size #[{key:= .int .i64 0,val:=Aw (w.heap.size+1+1),born:=0}] 1;rw [<-h1]at t1;have o1':=o1.touch t1 (by omega) (by omega);have l1:Below w.heap.size w W1:=((b0.alloc (by simp) _).alloc (by simp;omega) _).trans (t1.below (by simp;omega) (fun k hk=>by rw [hk];exact Ad _));have m1:W1.heap[w.heap.size]? =some (.map #[{key:= .int .i64 0,val:=Aw (w.heap.size+1+1),born:=0}] 1):=by rw [h1];exact Nl _ _ _ _ (by simp;omega)
 have o2:=ja W1 w.heap.size (by omega);have b1:Below W1.heap.size W1 ((W1.alloc (.cells #[] 3)).alloc (.cells #[.slice (some ⟨W1.heap.size,0,none⟩) 0 0] 194)):=((Below.refl _ _).alloc (Ad _) _).alloc (by simp) _;have t2:Touch (fun b=>b=w.heap.size) ((W1.alloc (.cells #[] 3)).alloc (.cells #[.slice (some ⟨W1.heap.size,0,none⟩) 0 0] 194)) W2:=by rw [h2];exact Jh _ _ _ _
 have o12:=(o1'.below b1).touch t2 (by omega) (by omega);have o2':=o2.touch t2 (by omega) (by omega);have l2:Below w.heap.size w W2:=l1.trans ((b1.mono (by omega)).trans (t2.below (by simp;omega) (fun k hk=>by rw [hk];exact Ad _)));have o3:=ja W2 w.heap.size (by omega);have b2:Below W2.heap.size W2 ((W2.alloc (.cells #[] 3)).alloc (.cells #[.slice (some ⟨W2.heap.size,0,none⟩) 0 0] 194)):=((Below.refl _ _).alloc (Ad _) _).alloc (by simp) _;have t3:Touch (fun b=>b=w.heap.size) ((W2.alloc (.cells #[] 3)).alloc (.cells #[.slice (some ⟨W2.heap.size,0,none⟩) 0 0] 194)) W3:=by rw [h3];exact Jh _ _ _ _
 have o13:=(o12.below b2).touch t3 (by omega) (by omega);have o23:=(o2'.below b2).touch t3 (by omega) (by omega);have o33:=o3.touch t3 (by omega) (by omega);have l3:Below w.heap.size w W3:=l2.trans ((b2.mono (by omega)).trans (t3.below (by simp;omega) (fun k hk=>by rw [hk];exact Ad _)));refine⟨s1,s2,m1,⟨by rw [h3];exact Nl _ _ _ _ (by simp;omega),fun c hc=> ?_,fun c hc k h0 hk=>by simp at hk,fun c c' hc hc' hne=>by constructor<;>omega,l3⟩⟩;rw [s1]at o23;rw [s2]at o33
 match c,hc with
 | 0,_=>exact o13
 | 1,_=>exact o23
 | 2,_=>exact o33
def Og(s:St)(c k:Nat):List Nat:=(List.range k).filter fun i=>decide (Bd (CE s i)=c)
theorem vz(s:St)(c k:Nat):Og s c (k+1)=Og s c k++if Bd (CE s k)=c then [k]else []:=by
 unfold Og;rw [aF,List.filter_append];by_cases h:Bd (CE s k)=c<;>simp [h]
theorem Ae9(s:St)(c k:Nat):(Og s c k).length<=k:=by
 have:=List.length_filter_le (fun i=>decide (Bd (CE s i)=c)) (List.range k);simpa [Og]using this
theorem vC(x:Nat):Bd x<3:=by
 have h4:=Nk x;by_cases h:Bd x=3
 ·exfalso;unfold Bd at h;split at h
  ·rename_i hr;unfold ES at hr;rw [h]at hr;by_cases h0:x=0
   ·subst h0;revert h;decide
   ·simp [h0,Bv,fieldN,Nat.mod_one]at hr
  ·cases h
 ·omega
theorem nP{w:World}{d p L:Nat}{s:St}{tb hb n cT cH:Nat}(h:H7 w d p L s tb hb n cT cH):
 Calls Tryz.prog 53 #[Aw p] w fun e w'=>e= .returned (.map (some w.heap.size))/\
  ∃g cc Ls,Tri w w' g cc Ls/\∀c,c<3->(Ls c).Perm (Og s c n):=by
 have HP:=Aa h;have Ap8:=Dz w _ h.y5;have y5:=h.y5;have hn:n<=64:=by have:=h.ok.fits;have:=h.L1;have:=h.au;omega
 have mm:=fun W=>run_makeMap (P:=Tryz.prog) 132 W
 clear h;go_enter Tryz.func53,Tryz.ntmps53
 go_wp2_with fail
 rw [XP Tryz.PY Tryz.underlying3 _ _ #[] 0 _ _ ?h1 ?f1]
 case h1=>exact(heap_alloc_old _ _ (by simp;omega)).trans ((heap_alloc_old _ _ (by simp)).trans (heap_alloc_new _ _))
 case f1=>rfl
 obtain⟨W1,hW1⟩:∃W1,W1=Ey (((w.alloc (.map #[] 0)).alloc (.cells #[] 3)).alloc (.cells #[.slice (some ⟨w.heap.size+1,0,none⟩) 0 0] 194)) w.heap.size #[{key:= .int .i64 0,val:=Aw (w.heap.size+1+1),born:=0}] 1:=⟨_,rfl⟩;rw [show Ey (((w.alloc (.map #[] 0)).alloc (.cells #[] 3)).alloc (.cells #[.slice (some ⟨w.heap.size+1,0,none⟩) 0 0] 194)) w.heap.size (#[].push {key:= .int .i64 0,val:=Aw (w.heap.size+1+1),born:=0}) (0+1)=W1 from hW1.symm];have HW1:=Aa hW1;obtain⟨s1, -,m1, -⟩:=VG w W1 _ _ hW1 rfl rfl;clear hW1
 go_wp2_with fail
 rw [XP Tryz.PY Tryz.underlying3 _ _ _ 1 _ _ ?h2 ?f2]
 case h2=>exact(heap_alloc_old _ _ (by simp;omega)).trans ((heap_alloc_old _ _ (by omega)).trans m1)
 case f2=>rfl
 obtain⟨W2,hW2⟩:∃W2,W2=Ey ((W1.alloc (.cells #[] 3)).alloc (.cells #[.slice (some ⟨w.heap.size+3,0,none⟩) 0 0] 194)) w.heap.size #[{key:= .int .i64 0,val:=Aw (w.heap.size+1+1),born:=0},{key:= .int .i64 1,val:=Aw (w.heap.size+3+1),born:=1}] 2:=⟨_,rfl⟩;rw [show Ey ((W1.alloc (.cells #[] 3)).alloc (.cells #[.slice (some ⟨w.heap.size+3,0,none⟩) 0 0] 194)) w.heap.size (#[{key:= .int .i64 0,val:=Aw (w.heap.size+1+1),born:=0}].push {key:= .int .i64 1,val:=Aw (w.heap.size+3+1),born:=1}) (1+1)=W2 from hW2.symm];have Al5:W2=Ey ((W1.alloc (.cells #[] 3)).alloc (.cells #[.slice (some ⟨W1.heap.size,0,none⟩) 0 0] 194)) w.heap.size #[{key:= .int .i64 0,val:=Aw (w.heap.size+2),born:=0},{key:= .int .i64 1,val:=Aw (W1.heap.size+1),born:=1}] 2:=by rw [hW2,s1]
 have m2:W2.heap[w.heap.size]? =some (.map #[{key:= .int .i64 0,val:=Aw (w.heap.size+1+1),born:=0},{key:= .int .i64 1,val:=Aw (w.heap.size+3+1),born:=1}] 2):=by rw [hW2];exact Nl _ _ _ _ (by simp;omega)
 obtain⟨-,s2, -, -⟩:=VG w W1 W2 _ HW1.out Al5 rfl;have HW2:=Aa Al5;clear hW2 Al5 m1
 go_wp2_with fail
 rw [XP Tryz.PY Tryz.underlying3 _ _ _ 2 _ _ ?h3 ?f3]
 case h3=>exact(heap_alloc_old _ _ (by simp;omega)).trans ((heap_alloc_old _ _ (by omega)).trans m2)
 case f3=>rfl
 obtain⟨W3,hW3⟩:∃W3,W3=Ey ((W2.alloc (.cells #[] 3)).alloc (.cells #[.slice (some ⟨w.heap.size+5,0,none⟩) 0 0] 194)) w.heap.size (XC w.heap.size) 3:=⟨_,rfl⟩;rw [show Ey ((W2.alloc (.cells #[] 3)).alloc (.cells #[.slice (some ⟨w.heap.size+5,0,none⟩) 0 0] 194)) w.heap.size (#[{key:= .int .i64 0,val:=Aw (w.heap.size+1+1),born:=0},{key:= .int .i64 1,val:=Aw (w.heap.size+3+1),born:=1}].push {key:= .int .i64 2,val:=Aw (w.heap.size+5+1),born:=2}) (2+1)=W3 from hW3.symm];have Ap9:W3=Ey ((W2.alloc (.cells #[] 3)).alloc (.cells #[.slice (some ⟨W2.heap.size,0,none⟩) 0 0] 194)) w.heap.size (XC w.heap.size) 3:=by rw [hW3,s2]
 obtain⟨-, -, -,Al6⟩:=VG w W1 W2 W3 HW1.out HW2.out Ap9;have y53:W3.cell? ⟨p,5,none⟩=some (.slice (some ⟨tb,0,none⟩) n cT):=(HP.out.below Al6.low).y5;clear hW3 Ap9 HW1 HW2 m2 s1 s2 y5 mm;have HT0:=Aa Al6;clear Al6
 go_wp2_with fail
 go_loopw [18](fun i wr=>∃k g cc Ls,k<=n/\i= .int .i64 (k:Nat)/\Tri w wr g cc Ls/\∀c,c<3->(Ls c).Perm (Og s c k))(fun i _=>n- (intOf i).toNat)
 case atStart=>exact⟨0,_,_,_,Nat.zero_le _,rfl,HT0.out,fun c _=>List.Perm.refl _⟩
 case round=>
  obtain⟨k,g,cc,Ls,hk,rfl,Zn,hperm⟩:=hrel;have dD:=Aa Zn;have dO:=Aa hperm;clear Zn hperm HT0 y53;by_cases hlt:k<n
  ·have hcl:=vC (CE s k);obtain⟨c,hc⟩:∃c,Bd (CE s k)=c:=⟨_,rfl⟩;rw [hc]at hcl;have HC:=Aa (Hf (CE s k) · (N9 s k));rw [hc]at HC;have QD:=Aa hc;clear hc
   go_wp2_with fail
   refine(Lc (HP.out.below dD.out.low) k hlt).mono ?_;rintro e w2⟨rfl,hd2⟩
   go_wp2_with fail
   refine(HC.out _).mono ?_;rintro e w3⟨rfl,hd3⟩;have hd:=hd2.trans hd3;have Aqa:=dD.out.keep (hd.below _);have HT3:=Aa Aqa;clear Aqa hd2 hd3 hd
   go_wp2_with fail
   rw [N7 Tryz.PY Tryz.underlying3 _ _ (XC w.heap.size) 3 _ c (Aw (w.heap.size+2+2*c)) ?h4 ?f4]
   case h4=>exact HT3.out.map
   case f4=>
    match c,hcl with
    | 0,_=>rfl
    | 1,_=>rfl
    | 2,_=>rfl
   have hlen:(Ls c).length<1000:=by
    have:=(dO.out c hcl).length_eq;have:=Ae9 s c k;omega
   have vF:=Aa (Ae8 k (HT3.out.ord c hcl) hlen (HT3.out.heap c hcl))
   go_wp2_with fail
   refine vF.out.mono ?_;rintro e w4⟨rfl,g',c',l',hp',hh',ho',hg',ht'⟩;have HT4:=Aa (HT3.out.push c hcl ho' hh' hg' ht');have Atn:Hid (∀x,x<3->((fun x=>if x=c then l' else Ls x) x).Perm (Og s x (k+1))):=Aa (fun x hx=>by
    rw [vz,QD.out];by_cases e:x=c
    ·subst e;simp only [if_true];exact hp'.trans (List.Perm.append_right _ (dO.out x hx))
    ·rw [if_neg (show¬c=x from fun h=>e h.symm),aC];simp only [if_neg e];exact dO.out x hx)
   clear hp' hh' ho' hg' ht' vF
   go_wp2_with fail
   go_roundw
   case rel=>exact⟨k+1,_,_,_,by omega,by go_num,HT4.out,Atn.out⟩
   case measure=>simp [intOf];omega
  ·have hkn:k=n:=by omega
   subst hkn
   go_wp2_with fail
   go_ret;exact⟨rfl,g,cc,Ls,dD.out,dO.out⟩
theorem Zo{s:St}{c k n:Nat}{l:List Nat}{r:Option Nat}(hn:s.tk.length=n)(hl:l.Perm (Og s k n))(h:nO (Rh s c) l r):KU s k c=r:=by
 have hmem:∀x,x∈l<->x<n/\Bd (CE s x)=k:=fun x=>by rw [hl.mem_iff];simp [Og]
 unfold KU;rw [hn];cases r with
 | none=>
   rw [List.find?_eq_none];intro x hx;have hxn:x<n:=Dj.1 hx;by_cases e:Bd (CE s x)=k
   ·have:=h x ((hmem x).2 ⟨hxn,e⟩);unfold Rh at this;simp [e,this]
   ·simp [e]
 | some i=>
   obtain⟨h1,h2,h3⟩:=h;obtain⟨hin,hik⟩:=(hmem i).1 h1;rw [List.find?_range_eq_some];refine⟨by unfold Rh at h2;simp [hik,h2],Dj.2 hin,fun j hj=> ?_⟩;by_cases e:Bd (CE s j)=k
   ·by_cases f:Rh s c j=true
    ·have:=h3 j ((hmem j).2 ⟨by omega,e⟩) f;omega
    ·unfold Rh at f;simp only [Bool.not_eq_true]at f;simp [e,f]
   ·simp [e]
theorem PZ{s:St}{c i:Nat}(h:L8 s c=some i):i<s.tk.length/\(Kq (CE s i) c).isSome=true:=by
 have key:∀k,KU s k c=some i->i<s.tk.length/\(Kq (CE s i) c).isSome=true:=fun k hk=>by
  unfold KU at hk;have h1:=Dj.1 (List.mem_of_find?_eq_some hk);have h2:=List.find?_some hk;simp only [Bool.and_eq_true]at h2;exact⟨h1,h2.2⟩
 unfold L8 at h;split at h
 ·rename_i j hj;injection h with h
  subst h;exact key c hj
 ·exact key 0 h
theorem nR{x c k:Nat}(h:Kq x c=some k):k<16:=by
 unfold Kq at h;split at h
 ·have:=iK h;have:=FY c;omega
 ·cases h
theorem Qa{w:World}{d p L:Nat}{s:St}{tb hb n cT cH:Nat}(h:H7 w d p L s tb hb n cT cH)(hT:UL w)(c:Nat)(hc1:1<=c)(hc2:c<=2){W:World}{g cc:Nat->Nat}{Ls:Nat->List Nat}(ht:Tri w W g cc Ls)(hp:∀x,x<3->(Ls x).Perm (Og s x n))(k:Nat)(hk:k<3):
 Calls Tryz.prog 55 #[Aw (w.heap.size+2+2*k),.func (.func 54) #[.agg #[Aw p,.int .i64 (c:Int)]] #[]] W fun e w'=>
  e= .returned (VF (KU s k c))/\Below w.heap.size w w'/\(∀k',k'<3->k'≠k->E5 w' w.heap.size (w.heap.size+2+2*k') (g k') (cc k') (Ls k'))/\w'.heap[w.heap.size]? =some (.map (XC w.heap.size) 3):=by
 refine(TV h hT c (by omega) ht.low (ht.ord k hk) (fun x hx=> ?_) (ht.heap k hk)).mono ?_
 ·have:=(hp k hk).mem_iff.1 hx;simp [Og]at this;exact this.1
 rintro e w'⟨r,rfl,hr,htc⟩;have hgk:=(ht.ord k hk).mi;have Al4:=(AB.1 ht.map).1;refine⟨by rw [Zo h.NR (hp k hk) hr],ht.low.trans (htc.below ht.low.size (fun b hb=>by rcases hb with rfl| rfl;omega;exact hgk.1)),fun k' hk' hne=> ?_,?_⟩
 ·have a1:=ht.apart k k' hk hk' (fun e=>hne e.symm);have a2:=ht.apart k' k hk' hk hne;exact(ht.ord k' hk').touch htc (fun e=>by rcases e with e| e;omega;exact a1.2 e.symm) (fun e=>by rcases e with e| e;exact a2.2 e;exact a2.1 e)
 ·refine(htc.block _ Al4 (fun e=> ?_)).trans ht.map;rcases e with e| e
  ·omega
  ·rcases(ht.ord k hk).row.2 with⟨h',_⟩| ⟨g2,cap,cur,hv,hB,hg2,_⟩
   ·cases h'
   ·simp only [Value.slice.injEq,Option.some.injEq,Addr.mk.injEq,and_true,true_and]at hv;obtain⟨rfl,rfl⟩:=hv;have:=ht.map;rw [e,hg2]at this;cases this
def resV(s:St)(c:Nat):Value:=match CQ s c with
 | some (off,_)=> .tuple #[.int .i64 (off:Int),.int .i64 0]
 | none=> .tuple #[.int .i64 0,.int .i64 6]
def O5(s:St)(c:Nat):St:=match CQ s c with
 | some (_,s1)=>s1
 | none=>s
theorem Es.below{len:DW}{w w':World}{d p L:Nat}{s:St}{tb hb n cT cH:Nat}{own:Nat->Prop}(h:Es len w d p L s tb hb n cT cH own)(k:Below w.heap.size w w'):Es len w' d p L s tb hb n cT cH own:=by
 exact⟨h.dev.below k,h.L0,h.L1,h.shape,(k.block _ h.box.lt).trans h.box,h.tk.keep (k.block _ h.tk.lt),h.hd.keep (k.block _ h.hd.lt),h.NR,h.kL,h.au,h.cT,h.cH,h.dp,h.dt,h.dh,h.pt,h.ph,h.th,h.tabs.below k,h.g1,h.g2⟩
theorem MW{m:DW}{w:World}{d p L:Nat}{s:St}{F:Nat->Prop}(h:Ej m w d p L s F)(c:Nat)(hc1:1<=c)(hc2:c<=2):
 Calls Tryz.prog 18 #[Aw p,.int .i64 (c:Int)] w fun e w'=>e= .returned (resV s c)/\Ej m w' d p L (O5 s c) F/\AO F F w w':=by
 have HS:=Aa h;obtain⟨tb,hb,n,cT,cH,own,hr,hF⟩:=h;have HA:=Aa hr.at;have HR:=Aa hr;have HFF:=Aa hF;have hn:s.tk.length=n:=hr.NR;have hT:UL w:=hr.tabs.iI;have HTB:=Aa hT;have HN:=Aa (Gt hr.at);have t0:(((Bv c:Nat):Int)==0)=false:=by
  rw [beq_eq_false_iff_ne];have:Bv c≠0:=by
   rcases(by omega:c=1\/c=2)with rfl| rfl<;>decide
  omega
 have HB:=Aa (Gw c w (by omega));generalize Bv c=bl at HB t0;have HSo:=Aa (nP hr.at);have hfind:∀k:Nat,k<3->Instr.findNow (.int .i64) (.int .i64 (k:Int)) (XC w.heap.size).toList 0=some (some (k,Aw (w.heap.size+2+2*k))):=fun k hk=>by
  match k,hk with
  | 0,_=>rfl
  | 1,_=>rfl
  | 2,_=>rfl
 have HFi:=Aa hfind;clear hr hF hT hfind;cases h1:KU s c c with
 | some i=>
   have H1:Hid (VF (KU s c c)= .tuple #[.int .i64 (i:Int),.bool true]):=Aa (by rw [h1];rfl);have hsf:L8 s c=some i:=by rw [L8,h1]
   obtain⟨hin,hns⟩:=PZ hsf;rw [hn]at hin;obtain⟨a,hna⟩:=aG.1 hns;have hal:=nR hna;obtain⟨x,hx⟩:∃x,(Gm (hdN s i) c a).1=x:=⟨_,rfl⟩;have hxl:x<18446744073709551616:=by rw [<-hx];exact Zc _ _ _ (JJ s i) (by omega)
   have hres:CQ s c=some (CW s.sh i c a,{s with hd:=s.hd.set i (AA x)}):=by unfold CQ;rw [hsf];simp only [hna,hx]
   have HV:Hid (resV s c= .tuple #[.int .i64 ((CW s.sh i c a:Nat):Int),.int .i64 0]):=Aa (by rw [resV,hres]);have HVS:Hid (O5 s c={s with hd:=s.hd.set i (AA x)}):=Aa (by rw [O5,hres]);have ay:Hid (iL (Kq (CE s i) c)=(a:Int)):=Aa (by rw [hna];rfl);have Vr:=Aa (take_any (hdN s i) c a · (JJ s i) (by omega) (by omega));rw [hx]at Vr;generalize(Gm (hdN s i) c a).2=bx at*;clear hsf hns hna hx hres;clear h1;go_enter Tryz.func18,Tryz.ntmps18
   go_wp2_with fail
   refine HN.out.mono ?_;rintro e w'⟨rfl,rfl⟩
   go_wp2_with fail
   refine HB.out.mono ?_;rintro e w'⟨rfl,rfl⟩
   go_wp2_with fail
   refine HSo.out.mono ?_;rintro e w1⟨rfl,g,cc,Ls,Zn,nS⟩;have dD:=Aa Zn;have HPe:=Aa nS;clear Zn nS HSo HB HN
   go_wp2_with fail
   rw [N7 Tryz.PY Tryz.underlying3 _ _ (XC w.heap.size) 3 _ c _ dD.out.map (HFi.out c (by omega))]
   go_wp2_with fail
   refine(Qa HA.out HTB.out c hc1 hc2 dD.out HPe.out c (by omega)).mono ?_;rintro e w2⟨rfl,hb2,hord,hmap⟩;rw [H1.out];clear hord hmap;have hbw:=Aa hb2;have HA2:=HA.out.below hb2;have HT2:=HTB.out.below hb2;clear hb2
   go_wp2_with fail
   refine(Lc HA2 i hin).mono ?_;rintro e w5⟨rfl,hd5⟩
   go_wp2_with fail
   refine(VB (CE s i) c w5 (N9 s i) (by omega) (HT2.dr hd5)).mono ?_;rintro e w6⟨rfl,hd6⟩;rw [ay.out];have hd:=hd5.trans hd6;have hb6:=hbw.out.trans ((hd.below _).mono hbw.out.size);have ha6:=HA.out.below hb6;have z6:=ha6.y6;have z2:=ha6.hd i hin;have z3:w6.frozen? ⟨hb,i,none⟩=false:=(hb6.frozen (p:=⟨hb,i,none⟩) HR.out.hd.lt).trans (HR.out.hd.frozen i);have KO:=Aa hb6;clear hd5 hd6 hd HA2 HT2 ha6 hb6 hbw
   go_wp2_with fail
   go_region_with(go_at_call 58;go_loud(refine(Vr.out _).mono ?_;rintro e w7⟨rfl,q,rfl⟩))
   all_goals(clear z6 z2 z3 Vr)
   all_goals(have HSR:Hid (∀W,Dr w6 W->Es m (W.setCell ⟨hb,i,none⟩ (.int .u64 (x:Int))) d p L {s with hd:=s.hd.set i (AA x)} tb hb n cT cH own/\AO F F w (W.setCell ⟨hb,i,none⟩ (.int .u64 (x:Int)))):=Aa (fun W k=>by
    have hk:Below w.heap.size w W:=KO.out.trans ((k.below _).mono KO.out.size);have h1:=(HR.out.below hk).Aey i (AA x);rw [iP x hxl]at h1;exact⟨h1,(AO.of_below hk).set (p:=⟨hb,i,none⟩) (.inl ((HFF.out hb).2 (.inr (.inr (.inr rfl))))) _⟩))
   all_goals(go_wp2_with fail)
   all_goals(refine(TQ (HSR.out _ (Dr.one w6 _)).1.at i c a hin (by omega) (by omega)).mono ?_)
   all_goals(rintro e w9⟨rfl,hd9⟩)
   all_goals(go_wp2_with fail)
   all_goals(go_ret2)
   all_goals(refine⟨by rw [HV.out];rfl,?_,(HSR.out _ (Dr.one w6 _)).2.dr hd9⟩)
   all_goals(rw [HVS.out])
   all_goals(exact⟨tb,hb,n,cT,cH,own,(HSR.out _ (Dr.one w6 _)).1.dr hd9,HFF.out⟩)
 | none=>
   have H1:Hid (VF (KU s c c)= .tuple #[.int .i64 0,.bool false]):=Aa (by rw [h1];rfl);by_cases hc0:c=0
   ·omega
   cases h2:KU s 0 c with
   | some i=>
     have H2:=Aa h2;have hsf:L8 s c=some i:=by rw [L8,h1];exact h2
     obtain⟨hin,hns⟩:=PZ hsf;rw [hn]at hin;obtain⟨a,hna⟩:=aG.1 hns;have hal:=nR hna;obtain⟨x,hx⟩:∃x,(Gm (hdN s i) c a).1=x:=⟨_,rfl⟩;have hxl:x<18446744073709551616:=by rw [<-hx];exact Zc _ _ _ (JJ s i) (by omega)
     have hres:CQ s c=some (CW s.sh i c a,{s with hd:=s.hd.set i (AA x)}):=by unfold CQ;rw [hsf];simp only [hna,hx]
     have HV:Hid (resV s c= .tuple #[.int .i64 ((CW s.sh i c a:Nat):Int),.int .i64 0]):=Aa (by rw [resV,hres]);have HVS:Hid (O5 s c={s with hd:=s.hd.set i (AA x)}):=Aa (by rw [O5,hres]);have ay:Hid (iL (Kq (CE s i) c)=(a:Int)):=Aa (by rw [hna];rfl);have Vr:=Aa (take_any (hdN s i) c a · (JJ s i) (by omega) (by omega));rw [hx]at Vr;generalize(Gm (hdN s i) c a).2=bx at*;clear hsf hns hna hx hres;clear h1 h2;go_enter Tryz.func18,Tryz.ntmps18
     go_wp2_with fail
     refine HN.out.mono ?_;rintro e w'⟨rfl,rfl⟩
     go_wp2_with fail
     refine HB.out.mono ?_;rintro e w'⟨rfl,rfl⟩
     go_wp2_with fail
     refine HSo.out.mono ?_;rintro e w1⟨rfl,g,cc,Ls,Zn,nS⟩;have dD:=Aa Zn;have HPe:=Aa nS;clear Zn nS HSo HB HN
     go_wp2_with fail
     rw [N7 Tryz.PY Tryz.underlying3 _ _ (XC w.heap.size) 3 _ c _ dD.out.map (HFi.out c (by omega))]
     go_wp2_with fail
     refine(Qa HA.out HTB.out c hc1 hc2 dD.out HPe.out c (by omega)).mono ?_;rintro e w2⟨rfl,hb2,hord,hmap⟩;rw [H1.out];have ho0:=hord 0 (by omega) (by omega);rw [show w.heap.size+2+2*0=w.heap.size+2 from rfl]at ho0;have Afa:=Aa hmap;have HO0:=Aa ho0;clear hord hmap ho0
     go_wp2_with fail
     rw [N7 Tryz.PY Tryz.underlying3 _ _ (XC w.heap.size) 3 0 0 (Aw (w.heap.size+2)) Afa.out rfl]
     go_wp2_with fail
     refine(TV HA.out HTB.out c (by omega) hb2 HO0.out (fun x hx=> ?_) (dD.out.heap 0 (by omega))).mono ?_
     ·have:=(HPe.out 0 (by omega)).mem_iff.1 hx;simp [Og]at this;exact this.1
     rintro e w3⟨r,rfl,hr3,ht3⟩;have hrr:r=some i:=by rw [<-Zo hn (HPe.out 0 (by omega)) hr3];exact H2.out
     subst hrr;have hgk:=HO0.out.mi;have hok:=HO0.out.hB;replace hb2:=hb2.trans (ht3.below hb2.size (fun b hb=>by rcases hb with rfl| rfl;exact hok;exact hgk.1));clear ht3 hr3 hgk hok HO0 Afa;rw [show VF (some i)= .tuple #[.int .i64 (i:Int),.bool true]from rfl];have hbw:=Aa hb2;have HA2:=HA.out.below hb2;have HT2:=HTB.out.below hb2;clear hb2
     go_wp2_with fail
     refine(Lc HA2 i hin).mono ?_;rintro e w5⟨rfl,hd5⟩
     go_wp2_with fail
     refine(VB (CE s i) c w5 (N9 s i) (by omega) (HT2.dr hd5)).mono ?_;rintro e w6⟨rfl,hd6⟩;rw [ay.out];have hd:=hd5.trans hd6;have hb6:=hbw.out.trans ((hd.below _).mono hbw.out.size);have ha6:=HA.out.below hb6;have z6:=ha6.y6;have z2:=ha6.hd i hin;have z3:w6.frozen? ⟨hb,i,none⟩=false:=(hb6.frozen (p:=⟨hb,i,none⟩) HR.out.hd.lt).trans (HR.out.hd.frozen i);have KO:=Aa hb6;clear hd5 hd6 hd HA2 HT2 ha6 hb6 hbw
     go_wp2_with fail
     go_region_with(go_at_call 58;go_loud(refine(Vr.out _).mono ?_;rintro e w7⟨rfl,q,rfl⟩))
     all_goals(clear z6 z2 z3 Vr)
     all_goals(have HSR:Hid (∀W,Dr w6 W->Es m (W.setCell ⟨hb,i,none⟩ (.int .u64 (x:Int))) d p L {s with hd:=s.hd.set i (AA x)} tb hb n cT cH own/\AO F F w (W.setCell ⟨hb,i,none⟩ (.int .u64 (x:Int)))):=Aa (fun W k=>by
      have hk:Below w.heap.size w W:=KO.out.trans ((k.below _).mono KO.out.size);have h1:=(HR.out.below hk).Aey i (AA x);rw [iP x hxl]at h1;exact⟨h1,(AO.of_below hk).set (p:=⟨hb,i,none⟩) (.inl ((HFF.out hb).2 (.inr (.inr (.inr rfl))))) _⟩))
     all_goals(go_wp2_with fail)
     all_goals(refine(TQ (HSR.out _ (Dr.one w6 _)).1.at i c a hin (by omega) (by omega)).mono ?_)
     all_goals(rintro e w9⟨rfl,hd9⟩)
     all_goals(go_wp2_with fail)
     all_goals(go_ret2)
     all_goals(refine⟨by rw [HV.out];rfl,?_,(HSR.out _ (Dr.one w6 _)).2.dr hd9⟩)
     all_goals(rw [HVS.out])
     all_goals(exact⟨tb,hb,n,cT,cH,own,(HSR.out _ (Dr.one w6 _)).1.dr hd9,HFF.out⟩)
   | none=>
     have H2:=Aa h2;have hres:CQ s c=none:=by unfold CQ L8;rw [h1,h2]
     have HV:Hid (resV s c= .tuple #[.int .i64 0,.int .i64 6]):=Aa (by rw [resV,hres]);have HVS:Hid (O5 s c=s):=Aa (by rw [O5,hres]);clear h1 h2 hres;go_enter Tryz.func18,Tryz.ntmps18
     go_wp2_with fail
     refine HN.out.mono ?_;rintro e w'⟨rfl,rfl⟩
     go_wp2_with fail
     refine HB.out.mono ?_;rintro e w'⟨rfl,rfl⟩
     go_wp2_with fail
     refine HSo.out.mono ?_;rintro e w1⟨rfl,g,cc,Ls,Zn,nS⟩;have dD:=Aa Zn;have HPe:=Aa nS;clear Zn nS HSo HB HN
     go_wp2_with fail
     rw [N7 Tryz.PY Tryz.underlying3 _ _ (XC w.heap.size) 3 _ c _ dD.out.map (HFi.out c (by omega))]
     go_wp2_with fail
     refine(Qa HA.out HTB.out c hc1 hc2 dD.out HPe.out c (by omega)).mono ?_;rintro e w2⟨rfl,hb2,hord,hmap⟩;rw [H1.out];have ho0:=hord 0 (by omega) (by omega);rw [show w.heap.size+2+2*0=w.heap.size+2 from rfl]at ho0;have Afa:=Aa hmap;have HO0:=Aa ho0;clear hord hmap ho0
     go_wp2_with fail
     rw [N7 Tryz.PY Tryz.underlying3 _ _ (XC w.heap.size) 3 0 0 (Aw (w.heap.size+2)) Afa.out rfl]
     go_wp2_with fail
     refine(TV HA.out HTB.out c (by omega) hb2 HO0.out (fun x hx=> ?_) (dD.out.heap 0 (by omega))).mono ?_
     ·have:=(HPe.out 0 (by omega)).mem_iff.1 hx;simp [Og]at this;exact this.1
     rintro e w3⟨r,rfl,hr3,ht3⟩;have hrr:r=none:=by rw [<-Zo hn (HPe.out 0 (by omega)) hr3];exact H2.out
     subst hrr;have hgk:=HO0.out.mi;have hok:=HO0.out.hB;replace hb2:=hb2.trans (ht3.below hb2.size (fun b hb=>by rcases hb with rfl| rfl;exact hok;exact hgk.1));clear ht3 hr3 hgk hok HO0 Afa;rw [show VF none= .tuple #[.int .i64 0,.bool false]from rfl]
     go_wp2_with fail
     go_ret2;refine⟨by rw [HV.out];rfl,?_,AO.of_below hb2⟩;rw [HVS.out];exact HS.out.below hb2
theorem Tryz.Afb:Jt Tryz.prog 91 28 (.int .u64 0) 1 8:=⟨Tryz.underlying91,by kernel_rfl,rfl⟩
theorem Abi(p t i:Nat)(w:World)(y3:w.cell? ⟨p,3,none⟩=some (.int .i64 (t:Int)))(ht:t<=100000)(hi:i<=100000):Calls Tryz.prog 66 #[Aw p,.int .i64 (i:Int)] w fun e w'=>e= .returned (.int .i64 ((t:Int)+8*(i:Int)))/\w=w':=by
 go_enter Tryz.func66,Tryz.ntmps66;go_wp2;go_ret;exact⟨by go_num,rfl⟩
theorem jc(ws:Nat->UInt64)(j k:Nat):(wordsAt ws j (k+1)).map wv=(wordsAt ws j k).map wv++[.int .u64 ((ws (j+k)).toNat:Int)]:=by
 simp [wordsAt,aF,wv]
theorem vG{W4 w5 w6:World}{p0 k g6 c6 base:Nat}{v a0 a1 a2 a3 a4 a6:Value}{ws:Nat->UInt64}{j:Nat}{x:UInt64}(hx:ws (j+k)=x)(_:base<=p0)
 (hP:CG w5 p0 127 [a0,a1,a2,a3,a4,v,a6])(hv:(k=0/\v= .slice none 0 0)\/∃g c,v= .slice (some ⟨g,0,none⟩) k c/\p0<g)(hbl:Below p0 W4 w5)(_:W4.heap.size<=w5.heap.size)
 (hO:w6.ownsRow base 28 1 (.slice (some ⟨g6,0,none⟩) (k+1) c6) (k+1) ((wordsAt ws j k).map wv++[.int .u64 (x.toNat:Int)]))(hB:Below base w5 w6)(hK:Kept w5 w6 v.ownBlock)(hg:v.ownBlock=some g6\/w5.heap.size<=g6):
 CG (w6.setCell ⟨p0,5,none⟩ (.slice (some ⟨g6,0,none⟩) (k+1) c6)) p0 127 [a0,a1,a2,a3,a4,.slice (some ⟨g6,0,none⟩) (k+1) c6,a6]/\p0<g6/\
  (w6.setCell ⟨p0,5,none⟩ (.slice (some ⟨g6,0,none⟩) (k+1) c6)).ownsRow base 28 1 (.slice (some ⟨g6,0,none⟩) (k+1) c6) (k+1) ((wordsAt ws j (k+1)).map wv)/\Below p0 W4 (w6.setCell ⟨p0,5,none⟩ (.slice (some ⟨g6,0,none⟩) (k+1) c6)):=by
 have hne:some p0≠v.ownBlock:=fun e=>by rcases hv with⟨_,h⟩| ⟨g,c,h,hlt⟩<;>(subst h;simp [Ba]at e);omega
 have hpg:p0<g6:=by
  rcases hg with h| h
  ·rcases hv with⟨_,h'⟩| ⟨g,c,h',hlt⟩<;>(subst h';simp [Ba]at h);omega
  ·have:=hP.lt;omega
 have hP6:CG w6 p0 127 [a0,a1,a2,a3,a4,v,a6]:=(hK.2 p0 hP.lt hne).trans hP;refine⟨hP6.AZ 5 _,hpg,?_,?_⟩
 ·rw [jc,hx];refine H6 hO ((Touch.refl (fun b=>b=p0) w6).setCell (p:=⟨p0,5,none⟩) (.inl rfl) _) (fun b hb e=> ?_);have:g6=b:=by simpa [Ba]using hb
  omega
 ·have Ap8:=hP.lt;have hb6:Below p0 w5 w6:=⟨hB.os,hB.tape,hB.output,hK.1,fun b hb=>hK.2 b (Nat.lt_trans hb Ap8) (fun e=>by
   rcases hv with⟨_,h'⟩| ⟨g,c,h',hlt⟩
   ·subst h';simp [Ba]at e
   ·subst h';have:b=g:=by simpa [Ba]using e
    omega)⟩
  exact(hbl.trans hb6).setCell (p:=⟨p0,5,none⟩) (Ad _) _
def Al7(len:Mode)(d L:Nat)(ws:Nat->UInt64)(own:Nat->Prop)(sh:Sh)(w:World)(e:Ending)(w':World):Prop:=
 Below w.heap.size w w'/\((∀i,i<sh.BI->ES (ws (sh.table/8+i)).toNat=true)->∃p F,e= .returned (.tuple #[Aw p,.int .i64 0])/\
  Ej len w' d p L {sh:=sh,ws:=ws,tk:=wordsAt ws (sh.table/8) sh.BI,hd:=BB sh.BI 0} F/\∀b,F b->own b\/w.heap.size<=b)/\
  ((∃i,i<sh.BI/\¬ES (ws (sh.table/8+i)).toNat=true)->e= .returned (.tuple #[.pointer none,.int .i64 5]))
theorem Tq{len:Mode}{w:World}{d L:Nat}{ws:Nat->UInt64}{own:Nat->Prop}{sh:Sh}(hL0:0<L)(hL:L<=1024)(hs:shapeOf L=some sh)(hu:len.lf≠0)(h:Dev w d L ws len (fun _=>0) own)(hT:Tabs w)(g1:¬own 0)(g2:¬own 1)
 (h8:wordsAt ws 0 8=wordsOf sh):
 Calls Tryz.prog 27 #[Aw d] w (Al7 len d L ws own sh w):=by
 have ok:=FI hs;have HO:=Aa (S9 hL0 hL hs hu h hT);have HV:Hid (QZ ws sh= .tuple #[rW sh,.int .i64 0]):=Aa (by rw [QZ,if_pos h8]);obtain⟨n,hn⟩:∃x,sh.BI=x:=⟨_,rfl⟩;obtain⟨tb,htb⟩:∃x,sh.table=x:=⟨_,rfl⟩;obtain⟨dt,hdt⟩:∃x,sh.data=x:=⟨_,rfl⟩;obtain⟨li,uQ⟩:∃x,sh.lines=x:=⟨_,rfl⟩;have hsv:rW sh= .agg #[.int .i64 (li:Int),.int .i64 (n:Int),.int .i64 (tb:Int),.int .i64 (dt:Int)]:=by rw [rW,hn,htb,hdt,uQ]
 rw [hsv]at HV;have Air:n<=64:=by have:=ok.fits;omega
 have Aqb:tb=128:=by rw [<-htb];exact ok.table
 obtain⟨i0,hi,hz0,hz1,hz2⟩:=info_parts Tryz.Je.hi;have hmk:∀W:World,(Instr.makeSlice 91 (.int .i64 (n:Int)) (.int .i64 (n:Int))).run Tryz.prog W= .ok (.slice (some ⟨W.heap.size,0,none⟩) n n) (W.alloc (.cells (madeCells (Au .u64 0).cells (n*1)) 28)):=fun W=>by
  have:=run_make (P:=Tryz.prog) (w:=W) 91 28 i0 (.int .u64 0) Tryz.underlying91 hi hz0 .i64 .i64 (n:Int) (n:Int) (by omega) (by omega) (by rw [hz2];omega) (by omega);rw [hz1]at this;simpa using this
 obtain⟨zc,hzc⟩:∃zc,madeCells (Au .u64 0).cells (n*1)=zc:=⟨_,rfl⟩;rw [hzc]at hmk;have HDb:=Aa (fun W(k:Below w.heap.size w W)=>(h.below k:Dev W d L ws len (fun _=>0) own));have iQ:=Aa ok;have HLt:=Aa h.lt;have HSh:=Aa hs;have Ato:tb<=100000:=by omega
 have Aqc:=Aa Aqb;have HTb:=Aa htb;clear h ok hsv h8 hi hz0 hz1 hz2 Aqb htb;go_enter Tryz.func27,Tryz.ntmps27
 go_wp2_with fail
 refine HO.out.mono ?_;rintro e w1⟨rfl,hb1⟩;rw [HV.out]
 go_wp2_with fail
 obtain⟨W2,hW2⟩:∃W2,W2=w1.alloc (.cells #[.int .i64 (li:Int),.int .i64 (n:Int),.int .i64 (tb:Int),.int .i64 (dt:Int)] 35):=⟨_,rfl⟩;have hS2:CG W2 w1.heap.size 35 [.int .i64 (li:Int),.int .i64 (n:Int),.int .i64 (tb:Int),.int .i64 (dt:Int)]:=by rw [hW2];exact heap_alloc_new _ _
 have hb2:Below w.heap.size w W2:=by rw [hW2];exact hb1.alloc hb1.size _
 rw [<-hW2];obtain⟨y0,y1,y2,y3,f0,f1,f2,f3⟩:=C9 hS2;have Aqd:CG (W2.alloc (.cells zc 28)) w1.heap.size 35 [.int .i64 (li:Int),.int .i64 (n:Int),.int .i64 (tb:Int),.int .i64 (dt:Int)]:=(heap_alloc_old _ _ hS2.lt).trans hS2;obtain⟨x0,x1,x2,x3,_,_,_,_⟩:=C9 Aqd;have HS2:=Aa hS2;have HB2:=Aa hb2;clear hW2 hS2 Aqd hb2 hb1 HO;go_region;obtain⟨W4,Vs⟩:∃W4,W4=((W2.alloc (.cells zc 28)).alloc (.cells #[Aw d,.int .i64 (li:Int),.int .i64 (n:Int),.int .i64 (tb:Int),.int .i64 (dt:Int),.slice none 0 0,.slice (some ⟨W2.heap.size,0,none⟩) n n] 127)).drew:=⟨_,rfl⟩;have e1:(W2.alloc (.cells zc 28)).heap.size=W2.heap.size+1:=by simp
 have hP4:CG W4 (W2.heap.size+1) 127 [Aw d,.int .i64 (li:Int),.int .i64 (n:Int),.int .i64 (tb:Int),.int .i64 (dt:Int),.slice none 0 0,.slice (some ⟨W2.heap.size,0,none⟩) n n]:=by
  rw [Vs,<-e1];exact heap_alloc_new _ _
 have hZ4:W4.heap[W2.heap.size]? =some (.cells zc 28 (0,0)):=by
  rw [Vs];exact(heap_alloc_old _ _ (by omega)).trans (heap_alloc_new _ _)
 have hS4:CG W4 w1.heap.size 35 [.int .i64 (li:Int),.int .i64 (n:Int),.int .i64 (tb:Int),.int .i64 (dt:Int)]:=by
  have:=HS2.out.lt;rw [Vs];exact(heap_alloc_old _ _ (by omega)).trans ((heap_alloc_old _ _ this).trans HS2.out)
 have hb4:Below w.heap.size w W4:=by
  have:=HB2.out.size;rw [Vs];exact((HB2.out.alloc this _).alloc (by omega) _).trans ((Dr.drew _).below _)
 rw [<-Vs];have hws:=HB2.out.size;have hs2:=HS2.out.lt;have lS:W4.heap.size=W2.heap.size+1+1:=by rw [Vs];show(Array.size _)=_;simp
 clear Vs x0 x1 x2 x3 y0 y1 y2 y3 f0 f1 f2 f3 e1;obtain⟨p0,hp0⟩:∃p0,W2.heap.size+1=p0:=⟨_,rfl⟩;obtain⟨h0,hh0⟩:∃h0,W2.heap.size=h0:=⟨_,rfl⟩;obtain⟨s0,hs0⟩:∃s0,w1.heap.size=s0:=⟨_,rfl⟩;rw [hp0]at hP4 lS⊢;rw [hh0]at hP4 hZ4 hws hs2 hp0⊢;rw [hs0]at hS4 hs2⊢;obtain⟨y0,y1,y2,y3,f0,f1,f2,f3⟩:=C9 hS4;have HP4:=Aa hP4;have HZ4:=Aa hZ4;have kN:=Aa hS4;have HB4:=Aa hb4;clear hP4 hZ4 hS4 hb4 HS2 HB2 HV
 go_wp2_with fail
 go_loopw [27](fun i wr=>∃k v,k<=n/\i= .int .i64 (k:Nat)/\CG wr p0 127 [Aw d,.int .i64 (li:Int),.int .i64 (n:Int),.int .i64 (tb:Int),.int .i64 (dt:Int),v,.slice (some ⟨h0,0,none⟩) n n]/\
  ((k=0/\v= .slice none 0 0)\/∃g c,v= .slice (some ⟨g,0,none⟩) k c/\p0<g)/\wr.ownsRow w.heap.size 28 1 v k ((wordsAt ws (tb/8) k).map wv)/\Below p0 W4 wr/\∀i,i<k->ES (ws (tb/8+i)).toNat=true)(fun i _=>n- (intOf i).toNat)
 case atStart=>exact⟨0,_,Nat.zero_le _,rfl,HP4.out,.inl ⟨rfl,rfl⟩,World.ownsRow_nil _ _ _ _,Below.refl _ _,fun i hi=>absurd hi (Nat.not_lt_zero _)⟩
 case round=>
  obtain⟨k,v,hk,rfl,hP,hv,hrow,hbl,hal⟩:=hrel;have hbw:Below w.heap.size w wr:=HB4.out.trans (hbl.mono (by omega));have y3':=hP.cell 3;simp only [Az,Aj]at y3';have HEn:=Aa (Abi p0 tb k wr y3' Ato (by omega));have HPk:=Aa hP;have HVk:=Aa hv;have nT:=Aa hrow;have jd:=Aa hbl;have nU:=Aa hbw;have XW:=Aa hal;clear hP hv hrow hbl y3' hal;by_cases hlt:k<n
  ·obtain⟨gd,hbd,hrd,hod⟩:=HDb.out _ hbw;have HG:=XR d L ws _ _ gd hbd (tb/8+k) 1 wr hL0 hL hu hrd (by have:=iQ.out.fits;have:=iQ.out.MK;have:=Aqc.out;omega);rw [show((8*(tb/8+k):Nat):Int)=(tb:Int)+8*(k:Int)by have:=Aqc.out;omega]at HG;have HG:=Aa HG;clear hrd hod hbw
   go_wp2_with fail
   refine HEn.out.mono ?_;rintro e w'⟨rfl,rfl⟩
   go_wp2_with fail
   refine HG.out.mono ?_;rintro e w3⟨v3,rfl,ho3,hb3⟩;obtain⟨A3,c3,rfl,hc3,hr3⟩:=CO ho3;obtain⟨g3,rfl,hg3,Atp⟩:=Kr ho3 (by omega);have hc0:w3.cell? ⟨g3,0,none⟩=some (.int .u64 ((ws (tb/8+k)).toNat:Int)):=by
    obtain⟨b,off,e,_,hc⟩:=hr3.2 (by omega);injection e with e;injection e with e1 e2;subst e1 e2
    rw [hc 0 (by omega)];simp [OM,wv]
   have kQ:=Aa (TN (ws (tb/8+k)).toNat · (UInt64.toNat_lt _));by_cases hR:ES (ws (tb/8+k)).toNat=true
   case neg=>
    have yN:ES (ws (tb/8+k)).toNat=false:=by simpa using hR
    rw [yN]at kQ;have HNR:=Aa hR;have HB3:=Aa (nU.out.trans (hb3.mono nU.out.size));obtain⟨x,hx⟩:∃x,ws (tb/8+k)=x:=⟨_,rfl⟩;rw [hx]at hc0 kQ;clear ho3 hr3 hb3 hx hR yN HG HEn
    go_wp2_with fail
    refine(kQ.out _).mono ?_;rintro e w5⟨rfl,hd5⟩;have Jy:=Aa (HB3.out.trans ((hd5.below _).mono HB3.out.size));clear hd5 HB3 kQ hc0
    go_wp2_with fail
    go_ret2;have e1:sh.table/8=tb/8:=by rw [HTb.out]
    exact⟨Jy.out,fun h=>absurd (by have:=h k (by rw [hn];exact hlt);rw [e1]at this;exact this) HNR.out,fun _=>rfl⟩
   rw [hR]at kQ;have hP3:=HPk.out.below hb3 HPk.out.lt;have Awc:p0<g3:=by have:=HPk.out.lt;omega
   have hrow3:=own_below nT.out hb3;have Aqe:=jd.out.trans (hb3.mono (IC HPk.out.lt));have je:=Aa hP3;have Aqf:=Aa hrow3;have Aqg:=Aa Aqe;obtain⟨x,hx⟩:∃x,ws (tb/8+k)=x:=⟨_,rfl⟩;rw [hx]at hc0 kQ;have HX:=Aa hx;have HAk:Hid (∀i,i<k+1->ES (ws (tb/8+i)).toNat=true):=Aa (fun i hi=>by
    rcases Nat.lt_succ_iff_lt_or_eq.1 hi with h| h
    ·exact XW.out i h
    ·subst h;rw [hx];rw [<-hx];exact hR)
   clear ho3 hr3 hb3 hP3 hrow3 Aqe hx hR HG HEn
   go_wp2_with fail
   refine(kQ.out _).mono ?_;rintro e w5⟨rfl,hd5⟩;have hb5:=hd5.below w3.heap.size;have hP5:=je.out.below hb5 je.out.lt;have hc5:=(hb5.cell (p:=⟨g3,0,none⟩) Atp).trans hc0;have Akz:=own_below Aqf.out hb5;have Aqh:=Aqg.out.trans (hb5.mono (IC je.out.lt));have z5:=hP5.cell 5;have f5:=hP5.frozen 5;have hp5:=hP5.lt;simp only [Az,Aj]at z5;have HP5:=Aa hP5;have Atq:=Aa Akz;have Aqi:=Aa Aqh;have hw5:w.heap.size<=w5.heap.size:=by omega
   clear hd5 hb5 hP5 Akz Aqh hc0 je Aqf Aqg kQ;obtain⟨wd,hwd⟩:∃wd,wd=w5.drew:=⟨_,rfl⟩
   go_wp2_with fail
   go_region_law(refine MV rfl (.tmp 50) (.tmp 54) 91 rfl Tryz.Afb w5 w.heap.size v k ((wordsAt ws (tb/8) k).map wv) [.int .u64 (x.toNat:Int)] rfl Atq.out rfl rfl rfl rfl w5.heap.size 1 rfl rfl rfl (by decide) (by intro u hu;simp at hu;subst hu;rfl) (by omega) (by decide) hw5 ?_;intro g6 c6 w6 Xa Nz hK6 kR;have hng:some p0≠v.ownBlock:=(fun e=>by rcases HVk.out with⟨_,h⟩| ⟨g,c,h,hlt⟩<;>(subst h;simp [Ba]at e);omega);have z6:=(World.cell?_of_block (w:=w5) (a:=⟨p0,5,none⟩) (hK6.2 p0 hp5 hng)).trans z5;have f6:=(World.frozen?_of_block (w:=w5) (a:=⟨p0,5,none⟩) (hK6.2 p0 hp5 hng)).trans f5)
   all_goals(obtain⟨q1,q2,q3,q4⟩:=vG HX.out (by omega) HP5.out HVk.out Aqi.out Aqi.out.size Xa Nz hK6 kR)
   all_goals(have Q1:=Aa q1)
   all_goals(have Q3:=Aa q3)
   all_goals(have Q4:=Aa q4)
   all_goals(clear q1 q3 q4 Xa Nz hK6 kR hng z6 f6 z5 f5 hc5)
   all_goals(go_wp2_with fail)
   all_goals(go_roundw)
   all_goals(try(case rel=>exact⟨k+1,_,by omega,by go_num,Q1.out,.inr ⟨g6,c6,rfl,q2⟩,Q3.out,Q4.out,HAk.out⟩))
   all_goals(try(simp [intOf];omega))
  ·have hkn:k=n:=by omega
   subst hkn
   go_wp2_with fail
   go_ret2;have hn0:0<k:=by rw [<-hn];exact iQ.out.BI
   rcases HVk.out with⟨h0',_⟩| ⟨g,c,rfl,hgp⟩
   ·omega
   have hlt:=HLt.out;have hrow:=nT.out;have hZ:=(jd.out.block h0 (by omega)).trans HZ4.out;have hgl:=Kr hrow hn0;have htl:=hT.lt;have e1:sh.table/8=tb/8:=by rw [HTb.out]
   refine⟨nU.out,fun _=> ?_,fun⟨i,hi,hni⟩=>absurd (by rw [e1];exact XW.out i (by rw [<-hn];exact hi)) hni⟩;refine⟨p0,fun b=>own b\/b=p0\/b=g\/b=h0,rfl,⟨g,h0,k,c,k,own,⟨⟨HDb.out _ nU.out,hu⟩,hL0,hL,HSh.out,?_,?_,?_,?_,?_,?_,(CB hrow).1,Ad _,fun h=> ?_,fun h=> ?_,fun h=> ?_,by omega,by omega,by omega,hT.below nU.out,?_,?_⟩,fun _=>Iff.rfl⟩,fun b hb=> ?_⟩
   ·show CG wr p0 _ _;rw [uQ,hn,HTb.out,hdt];exact HPk.out
   ·rw [hn,e1];exact QX.JI hrow
   ·refine⟨zc,hZ,fun t ht=> ?_⟩;have ht':t<k:=by rw [List.length_replicate,hn]at ht;exact ht
    rw [<-Array.getElem?_toList,<-hzc,KP,List.getElem?_map,Iy,if_pos ht',kX];rfl
   ·simp [wordsAt,hn]
   ·simp [hn]
   ·exact hn.symm
   ·have:=hlt _ h;omega
   ·have:=hlt _ h;omega
   ·have:=hlt _ h;omega
   ·rintro(h| h| h| h)
    ·exact g1 h
    ·omega
    ·omega
    ·omega
   ·rintro(h| h| h| h)
    ·exact g2 h
    ·omega
    ·omega
    ·omega
   ·rcases hb with h| h| h| h
    ·exact .inl h
    ·right;omega
    ·right;omega
    ·right;omega
theorem dP{len:Mode}{w:World}{d L:Nat}{ws:Nat->UInt64}{own:Nat->Prop}{sh:Sh}(hL0:0<L)(hL:L<=1024)(hs:shapeOf L=some sh)(hu:len.lf≠0)(h:Dev w d L ws len (fun _=>0) own)(hT:Tabs w)(g1:¬own 0)(g2:¬own 1)
 (h8:wordsAt ws 0 8=wordsOf sh)(hall:∀i,i<sh.BI->ES (ws (sh.table/8+i)).toNat=true):
 Calls Tryz.prog 27 #[Aw d] w fun e w'=>∃p F,e= .returned (.tuple #[Aw p,.int .i64 0])/\
  Ej len w' d p L {sh:=sh,ws:=ws,tk:=wordsAt ws (sh.table/8) sh.BI,hd:=BB sh.BI 0} F/\Below w.heap.size w w'/\∀b,F b->own b\/w.heap.size<=b:=by
 refine(Tq hL0 hL hs hu h hT g1 g2 h8).mono ?_;rintro e w'⟨hb,h1,_⟩;obtain⟨p,F,he,hS,ho⟩:=h1 hall;exact⟨p,F,he,hS,hb,ho⟩
theorem vH(j n:Nat):BQ (fun _=>0) j (BB n 0)=fun _=>0:=by
 funext i;unfold BQ;split
 ·rw [Bh,Iy];split<;>rfl
 ·rfl
theorem Ri(sh:Sh):(wordsOf sh).length=8:=rfl
theorem Xb(sh:Sh):wordsAt (MR sh) 0 8=wordsOf sh:=by
 apply EH
 ·rfl
 ·intro i h1 h2;have hi:i<8:=by simpa [wordsAt]using h1
  have h8:=Ri sh;simp only [wordsAt,GU,Vx];unfold MR BQ;rw [if_pos (by omega),Bh,show 0+i-0=i by omega,List.getElem?_eq_getElem h2];rfl
theorem Il(sh:Sh)(i:Nat)(hi:8<=i):MR sh i=0:=by
 unfold MR BQ;have h8:=Ri sh;rw [if_neg (by omega)]
def st0(sh:Sh):St:={sh:=sh,ws:=MR sh,tk:=BB sh.BI 0,hd:=BB sh.BI 0}
theorem jf(sh:Sh)(h:sh.table=128):wordsAt (MR sh) (sh.table/8) sh.BI=BB sh.BI 0:=by
 apply EH
 ·simp [wordsAt]
 ·intro i h1 h2;simp only [wordsAt,GU,Vx,kX];exact Il sh _ (by omega)
theorem vI{w:World}{L:Nat}{sh:Sh}(hL0:0<L)(hL:L<=1024)(hs:shapeOf L=some sh)(hT:Tabs w):
 Calls Tryz.prog 44 #[.int .i64 (L:Int)] w fun e w'=>∃d p F,e= .returned (.tuple #[Aw d,Aw p])/\
  Sys w' d p L (st0 sh) F/\Below w.heap.size w w'/\∀b,F b->w.heap.size<=b:=by
 have htl:=hT.lt;obtain⟨v0,v1,v2,v3,hsv⟩:∃v0 v1 v2 v3:Nat,rW sh= .agg #[.int .i64 (v0:Int),.int .i64 (v1:Int),.int .i64 (v2:Int),.int .i64 (v3:Int)]:=⟨_,_,_,_,rfl⟩;have HSV:=Aa hsv;have HTb:=Aa (FI hs).table;clear hsv;go_enter Tryz.func44,Tryz.ntmps44
 go_wp2_with fail
 refine(yF L w hL0 hL).mono ?_;rintro e w1⟨d,g,rfl,hr,hd1,hg1,hb1⟩;have hD1:Dev w1 d L (fun _=>0) M0 (fun _=>0) (Df d L g (fun _=>none)):=⟨g,_,hr,fun _=>Iff.rfl⟩;have ho1:∀b,Df d L g (fun _=>none) b->w.heap.size<=b:=fun b h=>by
  rcases h with h| h| ⟨_,_,h⟩
  ·omega
  ·omega
  ·cases h
 have HF:=uT hL0 hL hs hD1 (hT.below hb1) (fun h=>by have:=ho1 _ h;omega) (fun h=>by have:=ho1 _ h;omega);rw [vH,show BQ (fun _=>0) 0 (wordsOf sh)=MR sh from rfl,HSV.out]at HF;have HF:=Aa HF;clear hr hD1
 go_wp2_with fail
 refine HF.out.mono ?_;rintro e w2⟨rfl,Ae0,hD2,hM2⟩;have hb2:Below w.heap.size w w2:=hb1.trans (hM2.touch.below hb1.size ho1);have ho2:∀b,Ae0 b->w.heap.size<=b:=fun b h=>(hM2.own b h).elim (ho1 b) (fun h=>Bg hb1.size h)
 have Gh:Below w2.heap.size w2 (w2.alloc (.cells #[.int .i64 (v0:Int),.int .i64 (v1:Int),.int .i64 (v2:Int),.int .i64 (v3:Int)] 35)):=(Below.refl _ _).alloc (Ad _) _;have hb3:=hb2.trans (Gh.mono hb2.size);have HO:=dP hL0 hL hs (by decide) (hD2.below Gh) (hT.below hb3) (fun h=>by have:=ho2 _ h;omega) (fun h=>by have:=ho2 _ h;omega) (Xb sh) (fun i hi=>by rw [Il sh _ (by rw [HTb.out];omega)];rfl);rw [jf sh HTb.out]at HO;have HO:=Aa HO;have HB3:=Aa hb3;clear hb2 Gh hD2 hM2 HF hb3
 go_wp2_with fail
 refine HO.out.mono ?_;rintro e w4⟨p,F,rfl,hs4,hb4,hF4⟩;have kN:Hid (Sys w4 d p L (st0 sh) F):=Aa hs4;have HB4:=Aa (HB3.out.trans (hb4.mono HB3.out.size));clear hs4 hb4 HO;have hsz:=HB3.out.size
 go_wp2_with fail
 go_ret2;refine⟨d,p,F,rfl,kN.out,HB4.out,fun b hb=>(hF4 b hb).elim (ho2 b) (fun h=>Bg hsz h)⟩
structure IX(len:DW)(w:World)(x d p L:Nat)(s:St)(F:Nat->Prop):Prop where
 sys:Ej len w d p L s F
 box:CG w x 154 [Aw d,Aw p]
 out:¬F x
abbrev Ix:=IX (.up M0)
section
variable{len:DW}{w w':World}{x d p L:Nat}{s:St}{F:Nat->Prop}
theorem IX.below(h:IX len w x d p L s F)(k:Below w.heap.size w w'):IX len w' x d p L s F:=⟨h.sys.below k,h.box.below k h.box.lt,h.out⟩
theorem IX.move{len':DW}(h:IX len w x d p L s F){s':St}{F':Nat->Prop}(hs:Ej len' w' d p L s' F')(m:AO F F' w w'):IX len' w' x d p L s' F':=
 ⟨hs,h.box.touch m.touch h.out,fun h'=>(m.own x h').elim h.out (fun h''=>by have:=h.box.lt;omega)⟩
theorem IX.L0(h:IX len w x d p L s F):0<L/\L<=1024/\aX L s.sh/\s.tk.length=s.sh.BI:=by
 obtain⟨_,_,_,_,_,_,hr,_⟩:=h.sys;exact⟨hr.L0,hr.L1,FI hr.shape,by rw [hr.NR,hr.au]⟩
theorem JV(h:IX len w x d p L s F)(key:ByteArray)(hk:key.size<=1000000):Calls Tryz.prog 109 #[Aw x,.string key] w fun e w'=>e= .returned (.int .i64 (if 16<key.size then 3 else 0))/\w=w':=by
 have y0:=h.box.p1;clear h;by_cases h1:16<key.size
 ·have t1:decide ((16:Int)<(key.size:Int))=true:=decide_eq_true (by omega);rw [if_pos h1];go_enter Tryz.func109,Tryz.ntmps109;go_wp2;go_ret;exact⟨rfl,rfl⟩
 ·have t1:decide ((16:Int)<(key.size:Int))=false:=decide_eq_false (by omega);rw [if_neg h1];go_enter Tryz.func109,Tryz.ntmps109;go_wp2;go_ret;exact⟨rfl,rfl⟩
theorem Zp{len:Mode}(h:IX len w x d p L s F):Calls Tryz.prog 121 #[Aw x] w fun e w'=>e= .returned (.tuple #[.int .u64 ((s.ws 9).toNat:Int),.int .i64 0])/\Below w.heap.size w w':=by
 have y0:=h.box.p1;obtain⟨l0,l1,ok,_⟩:=h.L0;have HG:=iJ h.sys 9 1 (by have:=ok.fits;have:=ok.MK;have:=ok.BI;omega);rw [show((8*9:Nat):Int)=72 from rfl,show((1:Nat):Int)=1 from rfl]at HG;have HG:=Aa HG;clear h ok;go_enter Tryz.func121,Tryz.ntmps121
 go_wp2_with fail
 refine HG.out.mono ?_;rintro e w1⟨v,rfl,ho,hb⟩;obtain⟨A,c,rfl,hc,hr⟩:=CO ho;obtain⟨g,rfl,hg,hgl⟩:=Kr ho (by omega);have hc0:w1.cell? ⟨g,0,none⟩=some (.int .u64 ((s.ws 9).toNat:Int)):=by
  obtain⟨b,off,e,_,hcc⟩:=hr.2 (by omega);injection e with e;injection e with e1 e2;subst e1 e2
  rw [hcc 0 (by omega)];simp [wordsAt,wv]
 clear HG ho hr
 go_wp2_with fail
 go_ret2;exact⟨rfl,hb⟩
end
theorem VH{c:Nat}(h:Be c≠0):c=1\/c=2:=by
 unfold Be at h;split at h<;>simp_all
theorem yO(a b:Nat):DV (a||| b)=DV a||| DV b:=by
 unfold DV fieldN;rw [Nat.or_div_two_pow,Nat.or_mod_two_pow]
theorem Ais(a:Nat):DV a<4:=by
 unfold DV fieldN;exact Nat.mod_lt _ (by decide)
theorem vJ{a b:Nat}(h1:Be (Bd (a||| b))≠0)(h2:Be (Bd a)≠0):Bd a=Bd (a||| b):=by
 have p1:=VH h1;have p2:=VH h2;have e1:Bd (a||| b)=DV (a||| b):=by
  unfold Bd;split
  ·rfl
  ·rename_i hr;unfold Bd at p1;simp [hr]at p1
 have e2:Bd a=DV a:=by
  unfold Bd;split
  ·rfl
  ·rename_i hr;unfold Bd at p2;simp [hr]at p2
 rw [e1,yO]at p1;rw [e2]at p2;rw [e1,e2,yO];have hb:=Ais b;generalize DV a=x at*;generalize DV b=y at*;have:y=0\/y=1\/y=2\/y=3:=by omega
 rcases p2 with rfl| rfl<;>rcases this with rfl| rfl| rfl| rfl<;>simp_all
theorem UT{s:St}{off:Int}(h:Be (D5 s off)≠0):∃i a,i<s.tk.length/\off=((s.sh.data+1024*i+64*Be (D5 s off)*a:Nat):Int)/\(Be (D5 s off)=1\/Be (D5 s off)=4)/\Be (D5 s off)*a+Be (D5 s off)<=16:=by
 cases hf:Hz s off with
 | none=>rw [D5,hf]at h;exact absurd rfl h
 | some ia=>
   obtain⟨i,a⟩:=ia;obtain⟨hi,ha,ho,hl,hfit⟩:=NC hf;rw [D5,hf]at h
   dsimp only at h
   split at h
   ·rename_i hh;have e:D5 s off=Bd (CE s i):=by
     rw [D5,hf];dsimp only;rw [if_pos hh];exact vJ (by rw [CE]at hl;omega) h
    rw [e];refine⟨i,a,hi,ho,?_,hfit⟩;rcases VH (c:=Bd (CE s i)) (by omega)with k| k<;>rw [k]<;>simp [Be]
   ·exact absurd rfl h
theorem UU(c:Nat):KY (c:Int)=((8*Be c:Nat):Int):=by
 unfold KY Be;split
 ·rename_i h;have:c=1:=by omega
  subst this;rfl
 ·rename_i h1;split
  ·rename_i h2;have:c=2:=by omega
   subst this;rfl
  ·rename_i h2;split
   ·simp at h1
   ·simp at h2
   ·rfl
def Xc(w:World)(base:Nat)(v:Value)(x:Nd):Prop:=
 ∃A1 c1 A2 c2 A3 c3,v= .agg #[.slice A1 x.pre.length c1,.int .u64 (x.val.toNat:Int),.slice A2 x.labels.length c2,.slice A3 x.kids.length c3]/\
  w.ownsRow base 5 1 (.slice A1 x.pre.length c1) x.pre.length (x.pre.map bv)/\w.ownsRow base 5 1 (.slice A2 x.labels.length c2) x.labels.length (x.labels.map bv)/\w.ownsRow base 28 1 (.slice A3 x.kids.length c3) x.kids.length (x.kids.map wv)
theorem Zq{Q:Ending->World->Prop}{W:World}{tmps:Array Value}{fn:Func}(hr:fn.results= #[.cell 4 212,.tmp 5])(g:Nat){a b c d:Value}(h:CG W g 212 [a,b,c,d])(v:Value)(h2:tmps[4]? =some (Aw g))(h3:tmps[5]? =some v)
 (hq:Q (.returned (.tuple #[.agg #[a,b,c,d],v])) W):bodyPost Tryz.prog fn Q Exit.ret {tmps:=tmps,defers:=[]} W:=by
 obtain⟨y0,y1,y2,y3,f0,f1,f2,f3⟩:=C9 h;have hu:=run_underlying (P:=Tryz.prog) Tryz.underlying212;refine bodyPost_ret (v:= .tuple #[.agg #[a,b,c,d],v]) (by simp [results,hr,go_sem,h2,h3,y0,y1,y2,y3]) rfl hq
section
variable{len:Mode}{w w':World}{x d p L:Nat}{s:St}{F:Nat->Prop}
def Afc(s:St)(name:UInt64)(w:World)(e:Ending)(w':World):Prop:=
 Below w.heap.size w w'/\match EZ s name with
  | none=>e= .returned (.tuple #[.agg #[.slice none 0 0,.int .u64 0,.slice none 0 0,.slice none 0 0],.int .i64 5])
  | some nd=>∃v,e= .returned (.tuple #[v,.int .i64 0])/\Xc w' w.heap.size v nd
theorem JL(h:IX len w x d p L s F)(name:UInt64):Calls Tryz.prog 154 #[Aw x,.int .u64 (name.toNat:Int)] w (Afc s name w):=by
 have HX:=Aa h;obtain⟨l0,l1,ok,FT⟩:=h.L0;have hwr:IntKind.i64.wrap (name.toNat:Int)=Bi name:=rfl;have ho: -9223372036854775808<=Bi name/\Bi name<=9223372036854775807:=by
  have hlt:=name.toNat_lt;unfold Bi;simp only [IntKind.wrap,IntKind.bits,IntKind.signed,Bool.true_and,decide_eq_true_eq,show(2:Int)^(64-1)=9223372036854775808 from rfl,show(2:Int)^64=18446744073709551616 from rfl];constructor<;>split<;>omega
 have Aqj:=h.box.lt;obtain⟨off,hoff⟩:∃off,off=Bi name:=⟨_,rfl⟩;rw [<-hoff]at hwr ho;clear h;have QD:=Aa (fun(W:World)(hW:Below w.heap.size w W)=>by
  obtain⟨tb,hb,n,cT,cH,own,hr, -⟩:=(HX.out.below hW).sys;exact Zg hr.at off ho)
 obtain⟨y0,y1⟩:=HX.out.box.p2;have B0:CG (w.alloc (.cells #[.slice none 0 0,.int .u64 0,.slice none 0 0,.slice none 0 0] 212)) w.heap.size 212 [.slice none 0 0,.int .u64 0,.slice none 0 0,.slice none 0 0]:=heap_alloc_new _ _;have hb0:Below w.heap.size w (w.alloc (.cells #[.slice none 0 0,.int .u64 0,.slice none 0 0,.slice none 0 0] 212)):=(Below.refl _ _).alloc (Ad _) _;by_cases hc0:Be (D5 s off)=0
 ·have HR:Hid (EZ s name=none):=Aa (by rw [EZ,<-hoff,if_pos hc0]);clear hoff ok FT;go_enter Tryz.func154,Tryz.ntmps154
  go_wp2_with fail
  generalize w.alloc (.cells #[.slice none 0 0,.int .u64 0,.slice none 0 0,.slice none 0 0] 212)=W0 at*;refine(QD.out W0 hb0).mono ?_;rintro e w1⟨rfl,hd⟩;have hb1:=hb0.trans ((hd.below W0.heap.size).mono hb0.size);have B1:=B0.below (hd.below _) B0.lt;clear B0 hb0 hd
  go_wp2_with fail
  refine(Jf _ _).mono ?_;rintro e w2⟨rfl,rfl⟩;rw [UU,hc0];clear QD HX y0 y1 hc0;obtain⟨k0,k1,k2,k3,f0,f1,f2,f3⟩:=C9 B1
  go_wp2_with fail
  have BF:=(((B1.AZ 0 (Ac none 0 0)).AZ 1 (Au .u64 0)).AZ 2 (Ac none 0 0)).AZ 3 (Ac none 0 0);have KL:=(((hb1.setCell (p:=⟨w.heap.size,0,none⟩) (Ad _) (Ac none 0 0)).setCell (p:=⟨w.heap.size,1,none⟩) (Ad _) (Au .u64 0)).setCell (p:=⟨w.heap.size,2,none⟩) (Ad _) (Ac none 0 0)).setCell (p:=⟨w.heap.size,3,none⟩) (Ad _) (Ac none 0 0);refine Zq rfl w.heap.size BF (.int .i64 5) rfl rfl ⟨KL,?_⟩;rw [HR.out]
 ·obtain⟨i,a,hi,Ak0,hk,hfit⟩:=UT hc0;have HRN:Hid (EZ s name=if IG (wordsAt s.ws (off.toNat/8) (8*Be (D5 s off)))then some (ET (wordsAt s.ws (off.toNat/8) (8*Be (D5 s off))))else none):=Aa (by rw [EZ,<-hoff,if_neg hc0]);have hj:off=((8*(off.toNat/8):Nat):Int)/\off.toNat/8+8*Be (D5 s off)<=8*L:=by
   have:=ok.data;have:=ok.fits;have:=ok.BI;rw [FT]at hi;rcases hk with k| k<;>rw [k]at Ak0 hfit⊢<;>omega
  obtain⟨j,hjd⟩:∃j,j=off.toNat/8:=⟨_,rfl⟩;rw [<-hjd]at hj HRN;obtain⟨hj1,hj2⟩:=hj;have HG:=Aa (fun(W:World)(hW:Below w.heap.size w W)=>iJ (HX.out.below hW).sys j (8*Be (D5 s off)) hj2);rw [<-hj1]at HG;have t1:(((8*Be (D5 s off):Nat):Int)==0)=false:=by rw [beq_eq_false_iff_ne];omega
  have HK:Hid (8*Be (D5 s off)<=1000000):=Aa (by rcases hk with k| k<;>omega);obtain⟨m,hm⟩:∃m,m=8*Be (D5 s off):=⟨_,rfl⟩;have HWd:Hid (KY (D5 s off:Int)=(m:Int)):=Aa (by rw [UU,hm]);rw [<-hm]at HG t1 HK HRN;clear hoff ok FT hk hfit Ak0 hi hj1 hj2 hjd hc0 hm;go_enter Tryz.func154,Tryz.ntmps154
  go_wp2_with fail
  generalize w.alloc (.cells #[.slice none 0 0,.int .u64 0,.slice none 0 0,.slice none 0 0] 212)=W0 at*;refine(QD.out W0 hb0).mono ?_;rintro e w1⟨rfl,hd⟩;have hb1:=hb0.trans ((hd.below W0.heap.size).mono hb0.size);have B1:=B0.below (hd.below _) B0.lt;have z0:w1.cell? ⟨x,0,none⟩=some (Aw d):=(hb1.cell (p:=⟨x,0,none⟩) Aqj).trans y0;clear B0 hb0 hd
  go_wp2_with fail
  refine(Jf _ _).mono ?_;rintro e w2⟨rfl,rfl⟩;rw [HWd.out];clear QD HX y0 y1;obtain⟨k0,k1,k2,k3,f0,f1,f2,f3⟩:=C9 B1
  go_wp2_with fail
  refine(HG.out w1 hb1).mono ?_;rintro e w2⟨v,rfl,hown,hb2⟩;obtain⟨A,c,rfl,hc,hr⟩:=CO hown;have hb2':=hb1.trans (hb2.mono hb1.size);have hlt2:w.heap.size<w2.heap.size:=Nat.lt_of_lt_of_le B1.lt hb2.size;have B2:=B1.below hb2 B1.lt;clear HG hown k0 k1 k2 k3 f0 f1 f2 f3 z0 B1;have hr':=Aa hr;clear hr
  go_wp2_with fail
  refine(decode_any A m c _ w2 HK.out hc hr'.out).mono ?_;rintro e w3⟨hb3,hpost⟩;have B3:=B2.below hb3 B2.lt;have Ait:=hb2'.trans (hb3.mono hb2'.size);have hw2:=hb2'.size;cases hdk:IG (wordsAt s.ws j m)
  ·have HR:Hid (EZ s name=none):=Aa (by rw [HRN.out,hdk];rfl);rw [hdk]at hpost;replace hpost:e= .returned (.tuple #[.agg #[.slice none 0 0,.int .u64 0,.slice none 0 0,.slice none 0 0],.bool false]):=hpost;subst hpost;clear HRN HK hdk hr' HWd;have B4:CG (w3.alloc (.cells #[Ac none 0 0,Au .u64 0,Ac none 0 0,Ac none 0 0] 212)) w.heap.size _ _:=B3.below ((Below.refl w3.heap.size w3).alloc (Ad _) _) B3.lt;have hb4:Below w.heap.size w (w3.alloc (.cells #[Ac none 0 0,Au .u64 0,Ac none 0 0,Ac none 0 0] 212)):=Ait.trans (((Below.refl w3.heap.size w3).alloc (Ad _) _).mono Ait.size);clear B2 B3 hb1 hb2 hb2' hb3;obtain⟨k0,k1,k2,k3,f0,f1,f2,f3⟩:=C9 B4
   go_wp2_with fail
   have BF:=(((B4.AZ 0 (Ac none 0 0)).AZ 1 (Au .u64 0)).AZ 2 (Ac none 0 0)).AZ 3 (Ac none 0 0);have KL:=(((hb4.setCell (p:=⟨w.heap.size,0,none⟩) (Ad _) (Ac none 0 0)).setCell (p:=⟨w.heap.size,1,none⟩) (Ad _) (Au .u64 0)).setCell (p:=⟨w.heap.size,2,none⟩) (Ad _) (Ac none 0 0)).setCell (p:=⟨w.heap.size,3,none⟩) (Ad _) (Ac none 0 0);refine Zq rfl w.heap.size BF (.int .i64 5) rfl rfl ⟨KL,?_⟩;rw [HR.out]
  ·have HR:Hid (EZ s name=some (ET (wordsAt s.ws j m))):=Aa (by rw [HRN.out,hdk];rfl);rw [hdk]at hpost;obtain⟨A1,c1,A2,c2,A3,c3,rfl,hc1,hc2,hc3,hB1,hB2,hB3,o1,o2,o3⟩:=hpost;have HO:=Aa (And.intro o1 (And.intro o2 o3));clear hB1 hB2 hB3 hc1 hc2 hc3 o1 o2 o3 HRN HK hdk hr' HWd;generalize ET (wordsAt s.ws j m)=nd at*;have B4:CG (w3.alloc (.cells #[Ac A1 nd.pre.length c1,Au .u64 (nd.val.toNat:Int),Ac A2 nd.labels.length c2,Ac A3 nd.kids.length c3] 212)) w.heap.size _ _:=B3.below ((Below.refl w3.heap.size w3).alloc (Ad _) _) B3.lt;have hb4:Below w.heap.size w (w3.alloc (.cells #[Ac A1 nd.pre.length c1,Au .u64 (nd.val.toNat:Int),Ac A2 nd.labels.length c2,Ac A3 nd.kids.length c3] 212)):=Ait.trans (((Below.refl w3.heap.size w3).alloc (Ad _) _).mono Ait.size);clear B2 B3 hb1 hb2 hb2' hb3;obtain⟨k0,k1,k2,k3,f0,f1,f2,f3⟩:=C9 B4
   go_wp2_with fail
   have BF:=(((B4.AZ 0 (Ac A1 nd.pre.length c1)).AZ 1 (Au .u64 (nd.val.toNat:Int))).AZ 2 (Ac A2 nd.labels.length c2)).AZ 3 (Ac A3 nd.kids.length c3);have KL:=(((hb4.setCell (p:=⟨w.heap.size,0,none⟩) (Ad _) (Ac A1 nd.pre.length c1)).setCell (p:=⟨w.heap.size,1,none⟩) (Ad _) (Au .u64 (nd.val.toNat:Int))).setCell (p:=⟨w.heap.size,2,none⟩) (Ad _) (Ac A2 nd.labels.length c2)).setCell (p:=⟨w.heap.size,3,none⟩) (Ad _) (Ac A3 nd.kids.length c3);refine Zq rfl w.heap.size BF (.int .i64 0) rfl rfl ⟨KL,?_⟩;rw [HR.out];obtain⟨o1,o2,o3⟩:=HO.out;have al:Below w3.heap.size w3 (w3.alloc (.cells #[Ac A1 nd.pre.length c1,Au .u64 (nd.val.toNat:Int),Ac A2 nd.labels.length c2,Ac A3 nd.kids.length c3] 212)):=(Below.refl _ _).alloc (Ad _) _;have hlt:w.heap.size<w2.heap.size:=by omega
   have up:∀{e:TypeId}{v:Value}{n:Nat}{xs:List Value},w3.ownsRow w2.heap.size e 1 v n xs->World.ownsRow (((((w3.alloc (.cells #[Ac A1 nd.pre.length c1,Au .u64 (nd.val.toNat:Int),Ac A2 nd.labels.length c2,Ac A3 nd.kids.length c3] 212)).setCell ⟨w.heap.size,0,none⟩ (Ac A1 nd.pre.length c1)).setCell ⟨w.heap.size,1,none⟩ (Au .u64 (nd.val.toNat:Int))).setCell ⟨w.heap.size,2,none⟩ (Ac A2 nd.labels.length c2)).setCell ⟨w.heap.size,3,none⟩ (Ac A3 nd.kids.length c3)) w.heap.size e 1 v n xs:=fun o=>
    TL (AU (AU (AU (AU (own_below o al) hlt _ _) hlt _ _) hlt _ _) hlt _ _) (IC hlt)
   exact⟨_,rfl,A1,c1,A2,c2,A3,c3,rfl,up o1,up o2,up o3⟩
end
