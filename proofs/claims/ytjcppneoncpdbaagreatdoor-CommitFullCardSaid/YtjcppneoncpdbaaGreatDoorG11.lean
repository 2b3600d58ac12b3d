import Derived.Test.YtjcppneoncpdbaaGreatDoorG01
import Derived.Test.YtjcppneoncpdbaaGreatDoorG03
import Derived.Test.YtjcppneoncpdbaaGreatDoorG04
import Derived.Test.YtjcppneoncpdbaaGreatDoorG08
import Derived.Test.YtjcppneoncpdbaaGreatDoorG09
import Derived.Test.YtjcppneoncpdbaaGreatDoorG10
set_option maxHeartbeats 32000000
set_option maxRecDepth 100000
open Nat renaming le_refl->Ad,lt_of_lt_of_le->Bg,le_trans->AL,add_assoc->VM
open Go.Lib renaming hid->Aa
open List renaming getElem?_cons_zero->Ac,append_nil->Ye,length_cons->Bh,getElem?_cons_succ->Ae,length_drop->Au,getElem?_drop->Cf,getElem?_eq_getElem->Af,length_append->Az,mem_singleton->BM,getElem_of_mem->Ci,getElem_set->Je,getElem_drop->Vj,length_take->Dt
open Array renaming size_modify->NC,getElem?_modify->JW
namespace Go.Proofs.YtjcppneoncpdbaaGreatDoor
open Go.RowKit
theorem SX.below{w w':World}(h:SX w)(k:Below w.heap.size w w'):SX w':=fun j hj=>(k.cell (p:=⟨1,j,none⟩) (World.block_lt_of_cell? w _ (h j hj))).trans (h j hj)
section
variable{w:World}{d p L:Nat}{s:St}{tb hb n cT cH:Nat}
theorem Gg.below{w':World}(h:Gg w d p L s tb hb n cT cH)(k:Below w.heap.size w w'):Gg w' d p L s tb hb n cT cH:=by
 have key:∀{a:Addr}{v:Value},w.cell? a=some v->w'.cell? a=some v:=fun{a v}hc=>(k.cell (p:=a) (World.block_lt_of_cell? w a hc)).trans hc
 exact⟨key h.y0,key h.y1,key h.y2,key h.y3,key h.y4,key h.y5,key h.y6,fun i hi=>key (h.tk i hi),fun i hi=>key (h.hd i hi),h.ok,h.L1,h.YS,h.Pn⟩
def PT(s:St)(c i:Nat):Bool:=(Ji (BJ s i) c).isSome
theorem tZ(h:Gg w d p L s tb hb n cT cH)(hT:SX w)(c i:Nat)(hi:i<n)(hc:c<4):
 Calls Tryz.prog 76 #[.agg #[.pointer (some ⟨p,0,none⟩),.int .i64 (c:Int)],.int .i64 (i:Int)] w fun e w'=>e= .returned (.bool (PT s c i))/\Below w.heap.size w w':=by
 have hb0:Below w.heap.size w (w.alloc (.cells #[.pointer (some ⟨p,0,none⟩),.int .i64 (c:Int)] 166)):=(Below.refl _ _).alloc (Ad _) _;have h1:=h.below hb0;have hT1:=hT.below hb0;have HB:=Aa (fun W(k:Dr _ W)=>JL (h1.dr k) i hi);have HN:=Aa (fun W(k:Dr _ W)=>Uc (BJ s i) c W (MC s i) (by omega) (hT1.dr k));have HR:Hid (decide ((0:Int)<=aA (Ji (BJ s i) c))=PT s c i):=Aa (by
  unfold PT aA;cases Ji (BJ s i) c<;>simp)
 clear h h1 hT hT1;go_enter Tryz.func76,Tryz.ntmps76
 go_wp2_with fail
 go_quiet(first
  | (go_at_call 79;exact Abv (HB.out _ (Dr.one _ _)))
  | (go_at_call 78;exact Abv (HN.out _ (Dr.one _ _))))
 go_wp2_with fail
 trace_state
 go_ret;exact⟨by rw [<-HR.out];rfl,hb0.trans ((Dr.one _ _).below _)⟩
end
def gK(F:Nat->Bool)(l:List Nat):Option Nat->Prop
 | some i=>i∈l/\F i=true/\∀x∈l,F x=true->i<=x
 | none=>∀x∈l,F x=false
def Uf:Option Nat->Value
 | some i=> .tuple #[.int .i64 (i:Int),.bool true]
 | none=> .tuple #[.int .i64 0,.bool false]
def UK(w:World)(o:Nat):Nat:=match w.cell? ⟨o,0,none⟩with
 | some (.slice _ n _)=>n
 | _=>0
theorem DL.UK{w:World}{B o g c:Nat}{l:List Nat}(h:DL w B o g c l):UK w o=l.length:=by
 have:=h.box.cell 0;unfold Go.Proofs.YtjcppneoncpdbaaGreatDoor.UK;rw [this];rfl
theorem Ru{w0 w:World}{d p L:Nat}{s:St}{tb hb n cT cH:Nat}(h:Gg w0 d p L s tb hb n cT cH)(hT:SX w0)(c:Nat)(hc:c<4)(hB:Below w0.heap.size w0 w)
 {o g cc:Nat}{l:List Nat}(ho:DL w w0.heap.size o g cc l)(hl:∀x∈l,x<n)(hH:IG (Eo id l) l.length):
 Calls Tryz.prog 77 #[.pointer (some ⟨o,0,none⟩),.func (.func 76) #[.agg #[.pointer (some ⟨p,0,none⟩),.int .i64 (c:Int)]] #[]] w fun e w'=>∃r,e= .returned (Uf r)/\gK (PT s c) l r/\Touch (fun b=>b=o\/b=g) w w':=by
 have HP:=Aa h;have wS:=Aa hT;have HL:=Aa hl;have hob:=ho.hB;have hgb:=ho.sH.1;have hws:=hB.size;clear h hT hl;go_enter Tryz.func77,Tryz.ntmps77
 go_wp2_with fail
 go_loopw [](fun wr=>∃l1 P,(P++l1).Perm l/\(∀x∈P,PT s c x=false)/\IG (Eo id l1) l1.length/\DL wr w0.heap.size o g cc l1/\Touch (fun b=>b=o\/b=g) w wr)(fun wr=>UK wr o)
 case atStart=>exact⟨l,[],List.Perm.refl _,by simp,hH,ho,Touch.refl _ _⟩
 case round=>
  obtain⟨l1,P,hp,hP,hh,ho1,ht1⟩:=hrel;have hb1:Below w0.heap.size w0 wr:=hB.trans (ht1.below hws (fun k hk=>by rcases hk with rfl| rfl<;>assumption));have Za:=Aa hp;have HPf:=Aa hP;have HH:=Aa hh;have HO:=Aa ho1;have HT1:=Aa ht1;have HB1:=Aa hb1;have y0:=ho1.box.cell 0;simp only [Ac]at y0;have hln:=ho1.len;have HLA:=Aa ho1.UK;obtain⟨m,hm⟩:∃m,l1.length=m:=⟨_,rfl⟩;rw [hm]at y0 hln;have HM:=Aa hm;have HLen:=Aa (lZ (some ⟨g,0,none⟩) m cc wr (by omega));clear hp hP hh ho1 ht1 hb1 hm ho hH hB;rcases m with _| m
  ·go_wp2_with fail
   refine HLen.out.mono ?_;rintro e w'⟨rfl,rfl⟩
   go_wp2_with fail
   go_ret2;have hnil:l1=[]:=List.eq_nil_of_length_eq_zero HM.out;refine⟨none,rfl,fun x hx=> ?_,HT1.out⟩;have:=Za.out.mem_iff.2 hx;rw [hnil,Ye]at this;exact HPf.out x this
  ·have t1:decide ((0:Int)<((m+1:Nat):Int))=true:=decide_eq_true (by omega);have tY:=Aa (heapPop HO.out HM.out (by have:=HH.out;rw [HM.out]at this;exact this));generalize hmm:m+1=m1 at y0 HLen t1
   go_wp2_with fail
   refine HLen.out.mono ?_;rintro e w'⟨rfl,rfl⟩
   go_wp2_with fail
   refine tY.out.mono ?_;rintro e w2⟨x,l2,rfl,hp2,hx2,hh2,ho2,ht2⟩;have hxl:x∈l:=Za.out.mem_iff.1 (List.mem_append_right _ (hp2.mem_iff.1 (List.mem_cons_self)));have hxn:=HL.out x hxl;have ht3:=HT1.out.trans ht2 (fun b h=> .inl h);have hb2:Below w0.heap.size w0 w2:=HB1.out.trans (ht2.below (by have:=HB1.out.size;omega) (fun k hk=>by rcases hk with rfl| rfl<;>assumption));have HF:=tZ (HP.out.below hb2) (wS.out.below hb2) c x hxn hc;have HP2:=Aa hp2;have HX2:=Aa hx2;have HH2:=Aa hh2;have Qp:=Aa ho2;have HT3:=Aa ht3;have ta:=assert_int (x:Int);clear hp2 hx2 hh2 ho2 ht3 ht2 hb2 tY HLen;have hl2:l2.length=m:=by have:=HP2.out.length_eq;simp only [Bh,HM.out]at this;omega
   have HL2:=Aa hl2;clear hl2;cases hf:PT s c x
   ·rw [hf]at HF;have HF:=Aa HF;have HFx:=Aa hf;clear hf
    go_wp2_with fail
    refine HF.out.mono ?_;rintro e w3⟨rfl,hb3⟩;have ho3:=Qp.out.below hb3;have ht3:=HT3.out.trans (Touch.of_below (F:=fun b=>b=o\/b=g) hb3) (fun b h=> .inl h);have Akl:=Aa ho3.UK;have jX:=Aa ho3;have HT4:=Aa ht3;clear ho3 ht3 hb3 ta
    go_wp2_with fail
    go_roundw
    case rel=>
     refine⟨l2,P++[x],?_,?_,by rw [HL2.out];exact HH2.out,jX.out,HT4.out⟩
     ·rw [List.append_assoc];exact(List.Perm.append_left P HP2.out).trans Za.out
     ·intro y hy;rcases List.mem_append.1 hy with h| h
      ·exact HPf.out y h
      ·rw [List.mem_singleton.1 h];exact HFx.out
    case measure=>show UK w3 o<UK wr o;rw [Akl.out,HLA.out,HL2.out,HM.out];omega
   ·rw [hf]at HF;have HF:=Aa HF;have HFx:=Aa hf;clear hf
    go_wp2_with fail
    refine HF.out.mono ?_;rintro e w3⟨rfl,hb3⟩
    go_wp2_with fail
    go_ret2;refine⟨some x,rfl,⟨hxl,HFx.out,fun y hy hfy=> ?_⟩,HT3.out.trans (Touch.of_below (F:=fun b=>b=o\/b=g) hb3) (fun b h=> .inl h)⟩;rcases List.mem_append.1 (Za.out.mem_iff.2 hy)with h| h
    ·rw [HPf.out y h]at hfy;cases hfy
    ·exact HX2.out y h
def Vu(B:Nat):Array MapEntry:= #[{key:= .int .i64 0,val:= .pointer (some ⟨B+2,0,none⟩),born:=0},{key:= .int .i64 1,val:= .pointer (some ⟨B+4,0,none⟩),born:=1},{key:= .int .i64 2,val:= .pointer (some ⟨B+6,0,none⟩),born:=2}]
structure Tri(w0 W:World)(g cc:Nat->Nat)(Ls:Nat->List Nat):Prop where
 map:W.heap[w0.heap.size]? =some (.map (Vu w0.heap.size) 3)
 ord:∀c,c<3->DL W w0.heap.size (w0.heap.size+2+2*c) (g c) (cc c) (Ls c)
 heap:∀c,c<3->IG (Eo id (Ls c)) (Ls c).length
 apart:∀c c',c<3->c'<3->c≠c'->g c≠g c'/\g c≠w0.heap.size+2+2*c'
 low:Below w0.heap.size w0 W
theorem Tri.keep{w0 W W':World}{g cc:Nat->Nat}{Ls:Nat->List Nat}(h:Tri w0 W g cc Ls)(k:Below W.heap.size W W'):Tri w0 W' g cc Ls:=
 ⟨(k.block _ (Array.getElem?_eq_some_iff.1 h.map).1).trans h.map,fun c hc=>(h.ord c hc).below k,h.heap,h.apart,h.low.trans (k.mono h.low.size)⟩
theorem Tri.push{w0 W W':World}{g cc:Nat->Nat}{Ls:Nat->List Nat}(h:Tri w0 W g cc Ls)(c:Nat)(hc:c<3){g' c':Nat}{l':List Nat}(ho:DL W' w0.heap.size (w0.heap.size+2+2*c) g' c' l')(hh:IG (Eo id l') l'.length)
 (hg:g'=g c\/W.heap.size<=g')(t:Touch (fun b=>b=w0.heap.size+2+2*c\/b=g c) W W'):
 Tri w0 W' (fun x=>if x=c then g' else g x) (fun x=>if x=c then c' else cc x) (fun x=>if x=c then l' else Ls x):=by
 have hgc:=(h.ord c hc).sH;have hmb:w0.heap.size≠g c:=fun e=>by
  rcases(h.ord c hc).row.2 with⟨h',_⟩| ⟨g2,cap,cur,hv,hB,hg2,_⟩
  ·cases h'
  ·simp only [Value.slice.injEq,Option.some.injEq,Addr.mk.injEq,and_true,true_and]at hv;obtain⟨rfl,rfl⟩:=hv;have:=h.map;rw [e,hg2]at this;cases this
 have Aet:=(Array.getElem?_eq_some_iff.1 h.map).1;refine⟨(t.block _ Aet (fun e=>by rcases e with e| e;omega;exact hmb e)).trans h.map,fun x hx=> ?_,fun x hx=> ?_,fun x y hx hy hxy=> ?_,h.low.trans (t.below h.low.size (fun k hk=>by rcases hk with rfl| rfl;omega;exact hgc.1))⟩
 ·by_cases e:x=c
  ·subst e;simp only [if_true];exact ho
  ·simp only [if_neg e];have:=h.apart c x hc hx (fun e'=>e e'.symm);have h2:=h.apart x c hx hc e;exact(h.ord x hx).touch t (fun e'=>by rcases e' with e'| e';omega;exact this.2 e'.symm) (fun e'=>by rcases e' with e'| e';exact h2.2 e';exact this.1 e'.symm)
 ·by_cases e:x=c
  ·simp only [if_pos e];exact hh
  ·simp only [if_neg e];exact h.heap x hx
 ·have hol:∀z,z<3->w0.heap.size+2+2*z<W.heap.size:=fun z hz=>(h.ord z hz).box.lt
  have hgl:∀z,z<3->g z<W.heap.size:=fun z hz=>(h.ord z hz).sH.2
  by_cases ex:x=c
  ·have ey:¬y=c:=fun e=>hxy (by rw [ex,e])
   simp only [if_pos ex,if_neg ey];rcases hg with e| e
   ·rw [e,<-ex];exact h.apart x y hx hy hxy
   ·have:=hol y hy;have:=hgl y hy;omega
  ·by_cases ey:y=c
   ·simp only [if_neg ex,if_pos ey];have hxc:=h.apart x c hx hc ex;refine⟨?_,by rw [ey];exact hxc.2⟩;rcases hg with e| e
    ·rw [e];exact hxc.1
    ·have:=hgl x hx;omega
   ·simp only [if_neg ex,if_neg ey];exact h.apart x y hx hy hxy
theorem aT(W:World)(B:Nat)(hB:B<=W.heap.size):DL ((W.alloc (.cells #[] 3)).alloc (.cells #[.slice (some ⟨W.heap.size,0,none⟩) 0 0] 212)) B (W.heap.size+1) W.heap.size 0 []:=by
 have h1:(W.alloc (.cells #[] 3)).heap.size=W.heap.size+1:=by simp
 refine⟨?_,?_,by omega,by omega,by simp⟩
 ·rw [<-h1];exact heap_alloc_new _ _
 ·exact own_below (World.ownsRow_made W #[] 0 hB (by decide) rfl) ((Below.refl _ _).alloc (Ad _) _)
theorem Tryz.OE:Tryz.prog.underlying 162=some (.map 3 169):=Tryz.underlying162
theorem Ug(w W1 W2 W3:World)(h1:W1=D9 (((w.alloc (.map #[] 0)).alloc (.cells #[] 3)).alloc (.cells #[.slice (some ⟨w.heap.size+1,0,none⟩) 0 0] 212)) w.heap.size #[{key:= .int .i64 0,val:= .pointer (some ⟨w.heap.size+1+1,0,none⟩),born:=0}] 1)
 (h2:W2=D9 ((W1.alloc (.cells #[] 3)).alloc (.cells #[.slice (some ⟨W1.heap.size,0,none⟩) 0 0] 212)) w.heap.size #[{key:= .int .i64 0,val:= .pointer (some ⟨w.heap.size+2,0,none⟩),born:=0},{key:= .int .i64 1,val:= .pointer (some ⟨W1.heap.size+1,0,none⟩),born:=1}] 2)
 (h3:W3=D9 ((W2.alloc (.cells #[] 3)).alloc (.cells #[.slice (some ⟨W2.heap.size,0,none⟩) 0 0] 212)) w.heap.size (Vu w.heap.size) 3):
 W1.heap.size=w.heap.size+3/\W2.heap.size=w.heap.size+5/\W1.heap[w.heap.size]? =some (.map #[{key:= .int .i64 0,val:= .pointer (some ⟨w.heap.size+1+1,0,none⟩),born:=0}] 1)/\Tri w W3 (fun c=>w.heap.size+1+2*c) (fun _=>0) (fun _=>[]):=by
 have s1:W1.heap.size=w.heap.size+3:=by rw [h1,UH];simp
 have s2:W2.heap.size=w.heap.size+5:=by rw [h2,UH];simp [s1]
 have hs0:(w.alloc (.map #[] 0)).heap.size=w.heap.size+1:=by simp
 have b0:Below w.heap.size w (w.alloc (.map #[] 0)):=(Below.refl _ _).alloc (Ad _) _;have o1:=aT (w.alloc (.map #[] 0)) w.heap.size (by omega);rw [hs0]at o1;have t1:=Ia (((w.alloc (.map #[] 0)).alloc (.cells #[] 3)).alloc (.cells #[.slice (some ⟨w.heap.size+1,0,none⟩) 0 0] 212)) w.heap.size #[{key:= .int .i64 0,val:= .pointer (some ⟨w.heap.size+1+1,0,none⟩),born:=0}] 1;rw [<-h1]at t1;have o1':=o1.touch t1 (by omega) (by omega);have l1:Below w.heap.size w W1:=((b0.alloc (by simp) _).alloc (by simp;omega) _).trans (t1.below (by simp;omega) (fun k hk=>by rw [hk];exact Ad _));have m1:W1.heap[w.heap.size]? =some (.map #[{key:= .int .i64 0,val:= .pointer (some ⟨w.heap.size+1+1,0,none⟩),born:=0}] 1):=by rw [h1];exact LJ _ _ _ _ (by simp;omega)
 have o2:=aT W1 w.heap.size (by omega);have b1:Below W1.heap.size W1 ((W1.alloc (.cells #[] 3)).alloc (.cells #[.slice (some ⟨W1.heap.size,0,none⟩) 0 0] 212)):=((Below.refl _ _).alloc (Ad _) _).alloc (by simp) _;have t2:Touch (fun b=>b=w.heap.size) ((W1.alloc (.cells #[] 3)).alloc (.cells #[.slice (some ⟨W1.heap.size,0,none⟩) 0 0] 212)) W2:=by rw [h2];exact Ia _ _ _ _
 have o12:=(o1'.below b1).touch t2 (by omega) (by omega);have o2':=o2.touch t2 (by omega) (by omega);have l2:Below w.heap.size w W2:=l1.trans ((b1.mono (by omega)).trans (t2.below (by simp;omega) (fun k hk=>by rw [hk];exact Ad _)));have o3:=aT W2 w.heap.size (by omega);have b2:Below W2.heap.size W2 ((W2.alloc (.cells #[] 3)).alloc (.cells #[.slice (some ⟨W2.heap.size,0,none⟩) 0 0] 212)):=((Below.refl _ _).alloc (Ad _) _).alloc (by simp) _;have t3:Touch (fun b=>b=w.heap.size) ((W2.alloc (.cells #[] 3)).alloc (.cells #[.slice (some ⟨W2.heap.size,0,none⟩) 0 0] 212)) W3:=by rw [h3];exact Ia _ _ _ _
 have o13:=(o12.below b2).touch t3 (by omega) (by omega);have o23:=(o2'.below b2).touch t3 (by omega) (by omega);have o33:=o3.touch t3 (by omega) (by omega);have l3:Below w.heap.size w W3:=l2.trans ((b2.mono (by omega)).trans (t3.below (by simp;omega) (fun k hk=>by rw [hk];exact Ad _)));refine⟨s1,s2,m1,⟨by rw [h3];exact LJ _ _ _ _ (by simp;omega),fun c hc=> ?_,fun c hc k h0 hk=>by simp at hk,fun c c' hc hc' hne=>by constructor<;>omega,l3⟩⟩;rw [s1]at o23;rw [s2]at o33
 match c,hc with
 | 0,_=>exact o13
 | 1,_=>exact o23
 | 2,_=>exact o33
def MZ(s:St)(c k:Nat):List Nat:=(List.range k).filter fun i=>decide (AU (BJ s i)=c)
theorem mg(s:St)(c k:Nat):MZ s c (k+1)=MZ s c k++if AU (BJ s k)=c then [k]else []:=by
 unfold MZ;rw [List.range_succ,List.filter_append];by_cases h:AU (BJ s k)=c<;>simp [h]
theorem yC(s:St)(c k:Nat):(MZ s c k).length<=k:=by
 have:=List.length_filter_le (fun i=>decide (AU (BJ s i)=c)) (List.range k);simpa [MZ]using this
theorem mi(x:Nat):AU x<3:=by
 have h4:=LH x;by_cases h:AU x=3
 ·exfalso;unfold AU at h;split at h
  ·rename_i hr;unfold FK at hr;rw [h]at hr;by_cases h0:x=0
   ·subst h0;revert h;decide
   ·simp [h0,Ba,fieldN,Nat.mod_one]at hr
  ·cases h
 ·omega
theorem gQ{w:World}{d p L:Nat}{s:St}{tb hb n cT cH:Nat}(h:Gg w d p L s tb hb n cT cH):
 Calls Tryz.prog 75 #[.pointer (some ⟨p,0,none⟩)] w fun e w'=>e= .returned (.map (some w.heap.size))/\
  ∃g cc Ls,Tri w w' g cc Ls/\∀c,c<3->(Ls c).Perm (MZ s c n):=by
 have HP:=Aa h;have Ahy:=World.block_lt_of_cell? w _ h.y5;have y5:=h.y5;have hn:n<=64:=by have:=h.ok.fits;have:=h.L1;have:=h.YS;omega
 have mm:=fun W=>run_makeMap (P:=Tryz.prog) 162 W
 clear h;go_enter Tryz.func75,Tryz.ntmps75
 go_wp2_with fail
 rw [V9 Tryz.OE Tryz.underlying3 _ _ #[] 0 _ _ ?h1 ?f1]
 case h1=>exact(heap_alloc_old _ _ (by simp;omega)).trans ((heap_alloc_old _ _ (by simp)).trans (heap_alloc_new _ _))
 case f1=>rfl
 obtain⟨W1,hW1⟩:∃W1,W1=D9 (((w.alloc (.map #[] 0)).alloc (.cells #[] 3)).alloc (.cells #[.slice (some ⟨w.heap.size+1,0,none⟩) 0 0] 212)) w.heap.size #[{key:= .int .i64 0,val:= .pointer (some ⟨w.heap.size+1+1,0,none⟩),born:=0}] 1:=⟨_,rfl⟩;rw [show D9 (((w.alloc (.map #[] 0)).alloc (.cells #[] 3)).alloc (.cells #[.slice (some ⟨w.heap.size+1,0,none⟩) 0 0] 212)) w.heap.size (#[].push {key:= .int .i64 0,val:= .pointer (some ⟨w.heap.size+1+1,0,none⟩),born:=0}) (0+1)=W1 from hW1.symm];have HW1:=Aa hW1;obtain⟨s1, -,m1, -⟩:=Ug w W1 _ _ hW1 rfl rfl;clear hW1
 go_wp2_with fail
 rw [V9 Tryz.OE Tryz.underlying3 _ _ _ 1 _ _ ?h2 ?f2]
 case h2=>exact(heap_alloc_old _ _ (by simp;omega)).trans ((heap_alloc_old _ _ (by omega)).trans m1)
 case f2=>rfl
 obtain⟨W2,hW2⟩:∃W2,W2=D9 ((W1.alloc (.cells #[] 3)).alloc (.cells #[.slice (some ⟨w.heap.size+3,0,none⟩) 0 0] 212)) w.heap.size #[{key:= .int .i64 0,val:= .pointer (some ⟨w.heap.size+1+1,0,none⟩),born:=0},{key:= .int .i64 1,val:= .pointer (some ⟨w.heap.size+3+1,0,none⟩),born:=1}] 2:=⟨_,rfl⟩;rw [show D9 ((W1.alloc (.cells #[] 3)).alloc (.cells #[.slice (some ⟨w.heap.size+3,0,none⟩) 0 0] 212)) w.heap.size (#[{key:= .int .i64 0,val:= .pointer (some ⟨w.heap.size+1+1,0,none⟩),born:=0}].push {key:= .int .i64 1,val:= .pointer (some ⟨w.heap.size+3+1,0,none⟩),born:=1}) (1+1)=W2 from hW2.symm];have Aeu:W2=D9 ((W1.alloc (.cells #[] 3)).alloc (.cells #[.slice (some ⟨W1.heap.size,0,none⟩) 0 0] 212)) w.heap.size #[{key:= .int .i64 0,val:= .pointer (some ⟨w.heap.size+2,0,none⟩),born:=0},{key:= .int .i64 1,val:= .pointer (some ⟨W1.heap.size+1,0,none⟩),born:=1}] 2:=by rw [hW2,s1]
 have m2:W2.heap[w.heap.size]? =some (.map #[{key:= .int .i64 0,val:= .pointer (some ⟨w.heap.size+1+1,0,none⟩),born:=0},{key:= .int .i64 1,val:= .pointer (some ⟨w.heap.size+3+1,0,none⟩),born:=1}] 2):=by rw [hW2];exact LJ _ _ _ _ (by simp;omega)
 obtain⟨-,s2, -, -⟩:=Ug w W1 W2 _ HW1.out Aeu rfl;have HW2:=Aa Aeu;clear hW2 Aeu m1
 go_wp2_with fail
 rw [V9 Tryz.OE Tryz.underlying3 _ _ _ 2 _ _ ?h3 ?f3]
 case h3=>exact(heap_alloc_old _ _ (by simp;omega)).trans ((heap_alloc_old _ _ (by omega)).trans m2)
 case f3=>rfl
 obtain⟨W3,hW3⟩:∃W3,W3=D9 ((W2.alloc (.cells #[] 3)).alloc (.cells #[.slice (some ⟨w.heap.size+5,0,none⟩) 0 0] 212)) w.heap.size (Vu w.heap.size) 3:=⟨_,rfl⟩;rw [show D9 ((W2.alloc (.cells #[] 3)).alloc (.cells #[.slice (some ⟨w.heap.size+5,0,none⟩) 0 0] 212)) w.heap.size (#[{key:= .int .i64 0,val:= .pointer (some ⟨w.heap.size+1+1,0,none⟩),born:=0},{key:= .int .i64 1,val:= .pointer (some ⟨w.heap.size+3+1,0,none⟩),born:=1}].push {key:= .int .i64 2,val:= .pointer (some ⟨w.heap.size+5+1,0,none⟩),born:=2}) (2+1)=W3 from hW3.symm];have Ah9:W3=D9 ((W2.alloc (.cells #[] 3)).alloc (.cells #[.slice (some ⟨W2.heap.size,0,none⟩) 0 0] 212)) w.heap.size (Vu w.heap.size) 3:=by rw [hW3,s2]
 obtain⟨-, -, -,Aev⟩:=Ug w W1 W2 W3 HW1.out HW2.out Ah9;have y53:W3.cell? ⟨p,5,none⟩=some (.slice (some ⟨tb,0,none⟩) n cT):=(HP.out.below Aev.low).y5;clear hW3 Ah9 HW1 HW2 m2 s1 s2 y5 mm;have HT0:=Aa Aev;clear Aev
 go_wp2_with fail
 go_loopw [18](fun i wr=>∃k g cc Ls,k<=n/\i= .int .i64 (k:Nat)/\Tri w wr g cc Ls/\∀c,c<3->(Ls c).Perm (MZ s c k))(fun i _=>n- (intOf i).toNat)
 case atStart=>exact⟨0,_,_,_,Nat.zero_le _,rfl,HT0.out,fun c _=>List.Perm.refl _⟩
 case round=>
  obtain⟨k,g,cc,Ls,hk,rfl,Xb,hperm⟩:=hrel;have qj:=Aa Xb;have Za:=Aa hperm;clear Xb hperm HT0 y53;by_cases hlt:k<n
  ·have hcl:=mi (BJ s k);obtain⟨c,hc⟩:∃c,AU (BJ s k)=c:=⟨_,rfl⟩;rw [hc]at hcl;have HC:=Aa (FT (BJ s k) · (MC s k));rw [hc]at HC;have TP:=Aa hc;clear hc
   go_wp2_with fail
   refine(JL (HP.out.below qj.out.low) k hlt).mono ?_;rintro e w2⟨rfl,hd2⟩
   go_wp2_with fail
   refine(HC.out _).mono ?_;rintro e w3⟨rfl,hd3⟩;have hd:=hd2.trans hd3;have Aia:=qj.out.keep (hd.below _);have HT3:=Aa Aia;clear Aia hd2 hd3 hd
   go_wp2_with fail
   rw [MB Tryz.OE Tryz.underlying3 _ _ (Vu w.heap.size) 3 _ c (.pointer (some ⟨w.heap.size+2+2*c,0,none⟩)) ?h4 ?f4]
   case h4=>exact HT3.out.map
   case f4=>
    match c,hcl with
    | 0,_=>rfl
    | 1,_=>rfl
    | 2,_=>rfl
   have hlen:(Ls c).length<1000:=by
    have:=(Za.out c hcl).length_eq;have:=yC s c k;omega
   have Pz:=Aa (yB k (HT3.out.ord c hcl) hlen (HT3.out.heap c hcl))
   go_wp2_with fail
   refine Pz.out.mono ?_;rintro e w4⟨rfl,g',c',l',hp',hh',ho',hg',ht'⟩;have HT4:=Aa (HT3.out.push c hcl ho' hh' hg' ht');have Akm:Hid (∀x,x<3->((fun x=>if x=c then l' else Ls x) x).Perm (MZ s x (k+1))):=Aa (fun x hx=>by
    rw [mg,TP.out];by_cases e:x=c
    ·subst e;simp only [if_true];exact hp'.trans (List.Perm.append_right _ (Za.out x hx))
    ·rw [if_neg (show¬c=x from fun h=>e h.symm),Ye];simp only [if_neg e];exact Za.out x hx)
   clear hp' hh' ho' hg' ht' Pz
   go_wp2_with fail
   go_roundw
   case rel=>exact⟨k+1,_,_,_,by omega,by go_num,HT4.out,Akm.out⟩
   case measure=>simp [intOf];omega
  ·have hkn:k=n:=by omega
   subst hkn
   go_wp2_with fail
   go_ret;exact⟨rfl,g,cc,Ls,qj.out,Za.out⟩
theorem Xc{s:St}{c k n:Nat}{l:List Nat}{r:Option Nat}(hn:s.tk.length=n)(hl:l.Perm (MZ s k n))(h:gK (PT s c) l r):JD s k c=r:=by
 have hmem:∀x,x∈l<->x<n/\AU (BJ s x)=k:=fun x=>by rw [hl.mem_iff];simp [MZ]
 unfold JD;rw [hn];cases r with
 | none=>
   rw [List.find?_eq_none];intro x hx;have hxn:x<n:=List.mem_range.1 hx;by_cases e:AU (BJ s x)=k
   ·have:=h x ((hmem x).2 ⟨hxn,e⟩);unfold PT at this;simp [e,this]
   ·simp [e]
 | some i=>
   obtain⟨h1,h2,h3⟩:=h;obtain⟨hin,hik⟩:=(hmem i).1 h1;rw [List.find?_range_eq_some];refine⟨by unfold PT at h2;simp [hik,h2],List.mem_range.2 hin,fun j hj=> ?_⟩;by_cases e:AU (BJ s j)=k
   ·by_cases f:PT s c j=true
    ·have:=h3 j ((hmem j).2 ⟨by omega,e⟩) f;omega
    ·unfold PT at f;simp only [Bool.not_eq_true]at f;simp [e,f]
   ·simp [e]
theorem OG{s:St}{c i:Nat}(h:Kq s c=some i):i<s.tk.length/\(Ji (BJ s i) c).isSome=true:=by
 have key:∀k,JD s k c=some i->i<s.tk.length/\(Ji (BJ s i) c).isSome=true:=fun k hk=>by
  unfold JD at hk;have h1:=List.mem_range.1 (List.mem_of_find?_eq_some hk);have h2:=List.find?_some hk;simp only [Bool.and_eq_true]at h2;exact⟨h1,h2.2⟩
 unfold Kq at h;split at h
 ·rename_i j hj;injection h with h
  subst h;exact key c hj
 ·exact key 0 h
theorem gU{x c k:Nat}(h:Ji x c=some k):k<16:=by
 unfold Ji at h;split at h
 ·have:=az h;have:=Fq c;omega
 ·cases h
theorem OH{w:World}{d p L:Nat}{s:St}{tb hb n cT cH:Nat}(h:Gg w d p L s tb hb n cT cH)(hT:SX w)(c:Nat)(hc1:1<=c)(hc2:c<=2){W:World}{g cc:Nat->Nat}{Ls:Nat->List Nat}(ht:Tri w W g cc Ls)(hp:∀x,x<3->(Ls x).Perm (MZ s x n))(k:Nat)(hk:k<3):
 Calls Tryz.prog 77 #[.pointer (some ⟨w.heap.size+2+2*k,0,none⟩),.func (.func 76) #[.agg #[.pointer (some ⟨p,0,none⟩),.int .i64 (c:Int)]] #[]] W fun e w'=>
  e= .returned (Uf (JD s k c))/\Below w.heap.size w w'/\(∀k',k'<3->k'≠k->DL w' w.heap.size (w.heap.size+2+2*k') (g k') (cc k') (Ls k'))/\w'.heap[w.heap.size]? =some (.map (Vu w.heap.size) 3):=by
 refine(Ru h hT c (by omega) ht.low (ht.ord k hk) (fun x hx=> ?_) (ht.heap k hk)).mono ?_
 ·have:=(hp k hk).mem_iff.1 hx;simp [MZ]at this;exact this.1
 rintro e w'⟨r,rfl,hr,htc⟩;have hgk:=(ht.ord k hk).sH;have Aet:=(Array.getElem?_eq_some_iff.1 ht.map).1;refine⟨by rw [Xc h.Pn (hp k hk) hr],ht.low.trans (htc.below ht.low.size (fun b hb=>by rcases hb with rfl| rfl;omega;exact hgk.1)),fun k' hk' hne=> ?_,?_⟩
 ·have a1:=ht.apart k k' hk hk' (fun e=>hne e.symm);have a2:=ht.apart k' k hk' hk hne;exact(ht.ord k' hk').touch htc (fun e=>by rcases e with e| e;omega;exact a1.2 e.symm) (fun e=>by rcases e with e| e;exact a2.2 e;exact a2.1 e)
 ·refine(htc.block _ Aet (fun e=> ?_)).trans ht.map;rcases e with e| e
  ·omega
  ·rcases(ht.ord k hk).row.2 with⟨h',_⟩| ⟨g2,cap,cur,hv,hB,hg2,_⟩
   ·cases h'
   ·simp only [Value.slice.injEq,Option.some.injEq,Addr.mk.injEq,and_true,true_and]at hv;obtain⟨rfl,rfl⟩:=hv;have:=ht.map;rw [e,hg2]at this;cases this
def resV(s:St)(c:Nat):Value:=match CJ s c with
 | some (off,_)=> .tuple #[.int .i64 (off:Int),.int .i64 0]
 | none=> .tuple #[.int .i64 0,.int .i64 6]
def Rw(s:St)(c:Nat):St:=match CJ s c with
 | some (_,s1)=>s1
 | none=>s
theorem FD.below{len:Nat->Nat}{w w':World}{d p L:Nat}{s:St}{tb hb n cT cH:Nat}{own:Nat->Prop}(h:FD len w d p L s tb hb n cT cH own)(k:Below w.heap.size w w'):FD len w' d p L s tb hb n cT cH own:=by
 obtain⟨g,hb0,hr,ho⟩:=h.dev;exact⟨⟨g,hb0,hr.below k,ho⟩,h.L0,h.L1,h.shape,(k.block _ h.box.lt).trans h.box,h.tk.keep (k.block _ h.tk.lt),h.hd.keep (k.block _ h.hd.lt),h.Pn,h.jW,h.YS,h.cT,h.cH,h.dp,h.dt,h.dh,h.pt,h.ph,h.th,h.tabs.below k,h.g1,h.g2⟩
theorem Tc{w:World}{d p L:Nat}{s:St}{F:Nat->Prop}(h:Sys w d p L s F)(c:Nat)(hc1:1<=c)(hc2:c<=2):
 Calls Tryz.prog 34 #[.pointer (some ⟨p,0,none⟩),.int .i64 (c:Int)] w fun e w'=>e= .returned (resV s c)/\Sys w' d p L (Rw s c) F/\Aq F F w w':=by
 have HS:=Aa h;obtain⟨tb,hb,n,cT,cH,own,hr,hF⟩:=h;have HA:=Aa hr.at;have HR:=Aa hr;have HFF:=Aa hF;have hn:s.tk.length=n:=hr.Pn;have hT:SX w:=hr.tabs.au;have wS:=Aa hT;have HN:=Aa (Ff hr.at);have t0:(((Ba c:Nat):Int)==0)=false:=by
  rw [beq_eq_false_iff_ne];have:Ba c≠0:=by
   rcases(by omega:c=1\/c=2)with rfl| rfl<;>decide
  omega
 have HB:=Aa (Fv c w (by omega));generalize Ba c=bl at HB t0;have HSo:=Aa (gQ hr.at);have hfind:∀k:Nat,k<3->Instr.findNow (.int .i64) (.int .i64 (k:Int)) (Vu w.heap.size).toList 0=some (some (k,.pointer (some ⟨w.heap.size+2+2*k,0,none⟩))):=fun k hk=>by
  match k,hk with
  | 0,_=>rfl
  | 1,_=>rfl
  | 2,_=>rfl
 have HFi:=Aa hfind;clear hr hF hT hfind;cases h1:JD s c c with
 | some i=>
   have H1:Hid (Uf (JD s c c)= .tuple #[.int .i64 (i:Int),.bool true]):=Aa (by rw [h1];rfl);have hsf:Kq s c=some i:=by rw [Kq,h1]
   obtain⟨hin,hns⟩:=OG hsf;rw [hn]at hin;obtain⟨a,hna⟩:=Option.isSome_iff_exists.1 hns;have hal:=gU hna;obtain⟨x,hx⟩:∃x,(Fh (hdN s i) c a).1=x:=⟨_,rfl⟩;have hxl:x<18446744073709551616:=by rw [<-hx];exact WQ _ _ _ (JK s i) (by omega)
   have hres:CJ s c=some (Ce s.sh i c a,{s with hd:=s.hd.set i (UInt64.ofNat x)}):=by unfold CJ;rw [hsf];simp only [hna,hx]
   have HV:Hid (resV s c= .tuple #[.int .i64 ((Ce s.sh i c a:Nat):Int),.int .i64 0]):=Aa (by rw [resV,hres]);have HVS:Hid (Rw s c={s with hd:=s.hd.set i (UInt64.ofNat x)}):=Aa (by rw [Rw,hres]);have yD:Hid (aA (Ji (BJ s i) c)=(a:Int)):=Aa (by rw [hna];rfl);have UL:=Aa (take_any (hdN s i) c a · (JK s i) (by omega) (by omega));rw [hx]at UL;generalize(Fh (hdN s i) c a).2=bx at*;clear hsf hns hna hx hres;clear h1;go_enter Tryz.func34,Tryz.ntmps34
   go_wp2_with fail
   refine HN.out.mono ?_;rintro e w'⟨rfl,rfl⟩
   go_wp2_with fail
   refine HB.out.mono ?_;rintro e w'⟨rfl,rfl⟩
   go_wp2_with fail
   refine HSo.out.mono ?_;rintro e w1⟨rfl,g,cc,Ls,Xb,gV⟩;have qj:=Aa Xb;have HPe:=Aa gV;clear Xb gV HSo HB HN
   go_wp2_with fail
   rw [MB Tryz.OE Tryz.underlying3 _ _ (Vu w.heap.size) 3 _ c _ qj.out.map (HFi.out c (by omega))]
   go_wp2_with fail
   refine(OH HA.out wS.out c hc1 hc2 qj.out HPe.out c (by omega)).mono ?_;rintro e w2⟨rfl,hb2,hord,hmap⟩;rw [H1.out];clear hord hmap;have hbw:=Aa hb2;have HA2:=HA.out.below hb2;have HT2:=wS.out.below hb2;clear hb2
   go_wp2_with fail
   refine(JL HA2 i hin).mono ?_;rintro e w5⟨rfl,hd5⟩
   go_wp2_with fail
   refine(Uc (BJ s i) c w5 (MC s i) (by omega) (HT2.dr hd5)).mono ?_;rintro e w6⟨rfl,hd6⟩;rw [yD.out];have hd:=hd5.trans hd6;have hb6:=hbw.out.trans ((hd.below _).mono hbw.out.size);have ha6:=HA.out.below hb6;have z6:=ha6.y6;have z2:=ha6.hd i hin;have z3:w6.frozen? ⟨hb,i,none⟩=false:=(hb6.frozen (p:=⟨hb,i,none⟩) HR.out.hd.lt).trans (HR.out.hd.frozen i);have Qs:=Aa hb6;clear hd5 hd6 hd HA2 HT2 ha6 hb6 hbw
   go_wp2_with fail
   go_region_with(go_at_call 80;go_loud(refine(UL.out _).mono ?_;rintro e w7⟨rfl,q,rfl⟩))
   all_goals(clear z6 z2 z3 UL)
   all_goals(have HSR:Hid (∀W,Dr w6 W->ax (W.setCell ⟨hb,i,none⟩ (.int .u64 (x:Int))) d p L {s with hd:=s.hd.set i (UInt64.ofNat x)} tb hb n cT cH own/\Aq F F w (W.setCell ⟨hb,i,none⟩ (.int .u64 (x:Int)))):=Aa (fun W k=>by
    have hk:Below w.heap.size w W:=Qs.out.trans ((k.below _).mono Qs.out.size);have h1:=(HR.out.below hk).yc i (UInt64.ofNat x);rw [aB x hxl]at h1;exact⟨h1,(Aq.of_below hk).set (p:=⟨hb,i,none⟩) (.inl ((HFF.out hb).2 (.inr (.inr (.inr rfl))))) _⟩))
   all_goals(go_wp2_with fail)
   all_goals(refine(Rk (HSR.out _ (Dr.one w6 _)).1.at i c a hin (by omega) (by omega)).mono ?_)
   all_goals(rintro e w9⟨rfl,hd9⟩)
   all_goals(go_wp2_with fail)
   all_goals(go_ret2)
   all_goals(refine⟨by rw [HV.out];rfl,?_,(HSR.out _ (Dr.one w6 _)).2.dr hd9⟩)
   all_goals(rw [HVS.out])
   all_goals(exact⟨tb,hb,n,cT,cH,own,(HSR.out _ (Dr.one w6 _)).1.dr hd9,HFF.out⟩)
 | none=>
   have H1:Hid (Uf (JD s c c)= .tuple #[.int .i64 0,.bool false]):=Aa (by rw [h1];rfl);by_cases hc0:c=0
   ·omega
   cases h2:JD s 0 c with
   | some i=>
     have H2:=Aa h2;have hsf:Kq s c=some i:=by rw [Kq,h1];exact h2
     obtain⟨hin,hns⟩:=OG hsf;rw [hn]at hin;obtain⟨a,hna⟩:=Option.isSome_iff_exists.1 hns;have hal:=gU hna;obtain⟨x,hx⟩:∃x,(Fh (hdN s i) c a).1=x:=⟨_,rfl⟩;have hxl:x<18446744073709551616:=by rw [<-hx];exact WQ _ _ _ (JK s i) (by omega)
     have hres:CJ s c=some (Ce s.sh i c a,{s with hd:=s.hd.set i (UInt64.ofNat x)}):=by unfold CJ;rw [hsf];simp only [hna,hx]
     have HV:Hid (resV s c= .tuple #[.int .i64 ((Ce s.sh i c a:Nat):Int),.int .i64 0]):=Aa (by rw [resV,hres]);have HVS:Hid (Rw s c={s with hd:=s.hd.set i (UInt64.ofNat x)}):=Aa (by rw [Rw,hres]);have yD:Hid (aA (Ji (BJ s i) c)=(a:Int)):=Aa (by rw [hna];rfl);have UL:=Aa (take_any (hdN s i) c a · (JK s i) (by omega) (by omega));rw [hx]at UL;generalize(Fh (hdN s i) c a).2=bx at*;clear hsf hns hna hx hres;clear h1 h2;go_enter Tryz.func34,Tryz.ntmps34
     go_wp2_with fail
     refine HN.out.mono ?_;rintro e w'⟨rfl,rfl⟩
     go_wp2_with fail
     refine HB.out.mono ?_;rintro e w'⟨rfl,rfl⟩
     go_wp2_with fail
     refine HSo.out.mono ?_;rintro e w1⟨rfl,g,cc,Ls,Xb,gV⟩;have qj:=Aa Xb;have HPe:=Aa gV;clear Xb gV HSo HB HN
     go_wp2_with fail
     rw [MB Tryz.OE Tryz.underlying3 _ _ (Vu w.heap.size) 3 _ c _ qj.out.map (HFi.out c (by omega))]
     go_wp2_with fail
     refine(OH HA.out wS.out c hc1 hc2 qj.out HPe.out c (by omega)).mono ?_;rintro e w2⟨rfl,hb2,hord,hmap⟩;rw [H1.out];have ho0:=hord 0 (by omega) (by omega);rw [show w.heap.size+2+2*0=w.heap.size+2 from rfl]at ho0;have yE:=Aa hmap;have HO0:=Aa ho0;clear hord hmap ho0
     go_wp2_with fail
     rw [MB Tryz.OE Tryz.underlying3 _ _ (Vu w.heap.size) 3 0 0 (.pointer (some ⟨w.heap.size+2,0,none⟩)) yE.out rfl]
     go_wp2_with fail
     refine(Ru HA.out wS.out c (by omega) hb2 HO0.out (fun x hx=> ?_) (qj.out.heap 0 (by omega))).mono ?_
     ·have:=(HPe.out 0 (by omega)).mem_iff.1 hx;simp [MZ]at this;exact this.1
     rintro e w3⟨r,rfl,hr3,ht3⟩;have hrr:r=some i:=by rw [<-Xc hn (HPe.out 0 (by omega)) hr3];exact H2.out
     subst hrr;have hgk:=HO0.out.sH;have hok:=HO0.out.hB;replace hb2:=hb2.trans (ht3.below hb2.size (fun b hb=>by rcases hb with rfl| rfl;exact hok;exact hgk.1));clear ht3 hr3 hgk hok HO0 yE;rw [show Uf (some i)= .tuple #[.int .i64 (i:Int),.bool true]from rfl];have hbw:=Aa hb2;have HA2:=HA.out.below hb2;have HT2:=wS.out.below hb2;clear hb2
     go_wp2_with fail
     refine(JL HA2 i hin).mono ?_;rintro e w5⟨rfl,hd5⟩
     go_wp2_with fail
     refine(Uc (BJ s i) c w5 (MC s i) (by omega) (HT2.dr hd5)).mono ?_;rintro e w6⟨rfl,hd6⟩;rw [yD.out];have hd:=hd5.trans hd6;have hb6:=hbw.out.trans ((hd.below _).mono hbw.out.size);have ha6:=HA.out.below hb6;have z6:=ha6.y6;have z2:=ha6.hd i hin;have z3:w6.frozen? ⟨hb,i,none⟩=false:=(hb6.frozen (p:=⟨hb,i,none⟩) HR.out.hd.lt).trans (HR.out.hd.frozen i);have Qs:=Aa hb6;clear hd5 hd6 hd HA2 HT2 ha6 hb6 hbw
     go_wp2_with fail
     go_region_with(go_at_call 80;go_loud(refine(UL.out _).mono ?_;rintro e w7⟨rfl,q,rfl⟩))
     all_goals(clear z6 z2 z3 UL)
     all_goals(have HSR:Hid (∀W,Dr w6 W->ax (W.setCell ⟨hb,i,none⟩ (.int .u64 (x:Int))) d p L {s with hd:=s.hd.set i (UInt64.ofNat x)} tb hb n cT cH own/\Aq F F w (W.setCell ⟨hb,i,none⟩ (.int .u64 (x:Int)))):=Aa (fun W k=>by
      have hk:Below w.heap.size w W:=Qs.out.trans ((k.below _).mono Qs.out.size);have h1:=(HR.out.below hk).yc i (UInt64.ofNat x);rw [aB x hxl]at h1;exact⟨h1,(Aq.of_below hk).set (p:=⟨hb,i,none⟩) (.inl ((HFF.out hb).2 (.inr (.inr (.inr rfl))))) _⟩))
     all_goals(go_wp2_with fail)
     all_goals(refine(Rk (HSR.out _ (Dr.one w6 _)).1.at i c a hin (by omega) (by omega)).mono ?_)
     all_goals(rintro e w9⟨rfl,hd9⟩)
     all_goals(go_wp2_with fail)
     all_goals(go_ret2)
     all_goals(refine⟨by rw [HV.out];rfl,?_,(HSR.out _ (Dr.one w6 _)).2.dr hd9⟩)
     all_goals(rw [HVS.out])
     all_goals(exact⟨tb,hb,n,cT,cH,own,(HSR.out _ (Dr.one w6 _)).1.dr hd9,HFF.out⟩)
   | none=>
     have H2:=Aa h2;have hres:CJ s c=none:=by unfold CJ Kq;rw [h1,h2]
     have HV:Hid (resV s c= .tuple #[.int .i64 0,.int .i64 6]):=Aa (by rw [resV,hres]);have HVS:Hid (Rw s c=s):=Aa (by rw [Rw,hres]);clear h1 h2 hres;go_enter Tryz.func34,Tryz.ntmps34
     go_wp2_with fail
     refine HN.out.mono ?_;rintro e w'⟨rfl,rfl⟩
     go_wp2_with fail
     refine HB.out.mono ?_;rintro e w'⟨rfl,rfl⟩
     go_wp2_with fail
     refine HSo.out.mono ?_;rintro e w1⟨rfl,g,cc,Ls,Xb,gV⟩;have qj:=Aa Xb;have HPe:=Aa gV;clear Xb gV HSo HB HN
     go_wp2_with fail
     rw [MB Tryz.OE Tryz.underlying3 _ _ (Vu w.heap.size) 3 _ c _ qj.out.map (HFi.out c (by omega))]
     go_wp2_with fail
     refine(OH HA.out wS.out c hc1 hc2 qj.out HPe.out c (by omega)).mono ?_;rintro e w2⟨rfl,hb2,hord,hmap⟩;rw [H1.out];have ho0:=hord 0 (by omega) (by omega);rw [show w.heap.size+2+2*0=w.heap.size+2 from rfl]at ho0;have yE:=Aa hmap;have HO0:=Aa ho0;clear hord hmap ho0
     go_wp2_with fail
     rw [MB Tryz.OE Tryz.underlying3 _ _ (Vu w.heap.size) 3 0 0 (.pointer (some ⟨w.heap.size+2,0,none⟩)) yE.out rfl]
     go_wp2_with fail
     refine(Ru HA.out wS.out c (by omega) hb2 HO0.out (fun x hx=> ?_) (qj.out.heap 0 (by omega))).mono ?_
     ·have:=(HPe.out 0 (by omega)).mem_iff.1 hx;simp [MZ]at this;exact this.1
     rintro e w3⟨r,rfl,hr3,ht3⟩;have hrr:r=none:=by rw [<-Xc hn (HPe.out 0 (by omega)) hr3];exact H2.out
     subst hrr;have hgk:=HO0.out.sH;have hok:=HO0.out.hB;replace hb2:=hb2.trans (ht3.below hb2.size (fun b hb=>by rcases hb with rfl| rfl;exact hok;exact hgk.1));clear ht3 hr3 hgk hok HO0 yE;rw [show Uf none= .tuple #[.int .i64 0,.bool false]from rfl]
     go_wp2_with fail
     go_ret2;refine⟨by rw [HV.out];rfl,?_,Aq.of_below hb2⟩;rw [HVS.out];exact HS.out.below hb2
structure Qu(len:Nat->Nat)(w:World)(x d p L:Nat)(s:St)(F:Nat->Prop):Prop where
 sys:GU len w d p L s F
 box:BH w x 181 [.pointer (some ⟨d,0,none⟩),.pointer (some ⟨p,0,none⟩)]
 out:¬F x
abbrev Ix:=Qu (fun _=>0)
section
variable{len:Nat->Nat}{w w':World}{x d p L:Nat}{s:St}{F:Nat->Prop}
theorem Qu.below(h:Qu len w x d p L s F)(k:Below w.heap.size w w'):Qu len w' x d p L s F:=⟨h.sys.below k,h.box.below k h.box.lt,h.out⟩
theorem Qu.move{len':Nat->Nat}(h:Qu len w x d p L s F){s':St}{F':Nat->Prop}(hs:GU len' w' d p L s' F')(m:Aq F F' w w'):Qu len' w' x d p L s' F':=
 ⟨hs,h.box.touch m.touch h.out,fun h'=>(m.own x h').elim h.out (fun h''=>by have:=h.box.lt;omega)⟩
theorem Qu.L0(h:Qu len w x d p L s F):0<L/\L<=1024/\Yq L s.sh/\s.tk.length=s.sh.BQ:=by
 obtain⟨_,_,_,_,_,_,hr,_⟩:=h.sys;exact⟨hr.L0,hr.L1,Jn hr.shape,by rw [hr.Pn,hr.YS]⟩
theorem IZ(h:Qu len w x d p L s F)(key:ByteArray)(hk:key.size<=1000000):Calls Tryz.prog 108 #[.pointer (some ⟨x,0,none⟩),.string key] w fun e w'=>e= .returned (.int .i64 (if 16<key.size then 3 else 0))/\w=w':=by
 have y0:=h.box.cell 0;simp only [Ac]at y0;clear h;by_cases h1:16<key.size
 ·have t1:decide ((16:Int)<(key.size:Int))=true:=decide_eq_true (by omega);rw [if_pos h1];go_enter Tryz.func108,Tryz.ntmps108;go_wp2;go_ret;exact⟨rfl,rfl⟩
 ·have t1:decide ((16:Int)<(key.size:Int))=false:=decide_eq_false (by omega);rw [if_neg h1];go_enter Tryz.func108,Tryz.ntmps108;go_wp2;go_ret;exact⟨rfl,rfl⟩
theorem Xd(h:Qu len w x d p L s F):Calls Tryz.prog 109 #[.pointer (some ⟨x,0,none⟩)] w fun e w'=>e= .returned (.tuple #[.int .u64 ((s.ws 9).toNat:Int),.int .i64 0])/\Below w.heap.size w w':=by
 have y0:=h.box.cell 0;simp only [Ac]at y0;obtain⟨l0,l1,ok,_⟩:=h.L0;have HG:=ay h.sys 9 1 (by have:=ok.fits;have:=ok.NR;have:=ok.BQ;omega);rw [show((8*9:Nat):Int)=72 from rfl,show((1:Nat):Int)=1 from rfl]at HG;have HG:=Aa HG;clear h ok;go_enter Tryz.func109,Tryz.ntmps109
 go_wp2_with fail
 refine HG.out.mono ?_;rintro e w1⟨v,rfl,ho,hb⟩;obtain⟨A,c,rfl,hc,hr⟩:=BU ho;obtain⟨g,rfl,hg,hgl⟩:=Me ho (by omega);have hc0:w1.cell? ⟨g,0,none⟩=some (.int .u64 ((s.ws 9).toNat:Int)):=by
  obtain⟨b,off,e,_,hcc⟩:=hr.2 (by omega);injection e with e;injection e with e1 e2;subst e1 e2
  rw [hcc 0 (by omega)];simp [wordsAt,wv]
 clear HG ho hr
 go_wp2_with fail
 go_ret2;exact⟨rfl,hb⟩
end
theorem Uh{c:Nat}(h:AQ c≠0):c=1\/c=2:=by
 unfold AQ at h;split at h<;>simp_all
theorem ql(a b:Nat):Dq (a||| b)=Dq a||| Dq b:=by
 unfold Dq fieldN;rw [Nat.or_div_two_pow,Nat.or_mod_two_pow]
theorem Ab1(a:Nat):Dq a<4:=by
 unfold Dq fieldN;exact Nat.mod_lt _ (by decide)
theorem mr{a b:Nat}(h1:AQ (AU (a||| b))≠0)(h2:AQ (AU a)≠0):AU a=AU (a||| b):=by
 have p1:=Uh h1;have p2:=Uh h2;have e1:AU (a||| b)=Dq (a||| b):=by
  unfold AU;split
  ·rfl
  ·rename_i hr;unfold AU at p1;simp [hr]at p1
 have e2:AU a=Dq a:=by
  unfold AU;split
  ·rfl
  ·rename_i hr;unfold AU at p2;simp [hr]at p2
 rw [e1,ql]at p1;rw [e2]at p2;rw [e1,e2,ql];have hb:=Ab1 b;generalize Dq a=x at*;generalize Dq b=y at*;have:y=0\/y=1\/y=2\/y=3:=by omega
 rcases p2 with rfl| rfl<;>rcases this with rfl| rfl| rfl| rfl<;>simp_all
theorem Td{s:St}{off:Int}(h:AQ (Dc s off)≠0):∃i a,i<s.tk.length/\off=((s.sh.data+1024*i+64*AQ (Dc s off)*a:Nat):Int)/\(AQ (Dc s off)=1\/AQ (Dc s off)=4)/\AQ (Dc s off)*a+AQ (Dc s off)<=16:=by
 cases hf:J4 s off with
 | none=>rw [Dc,hf]at h;exact absurd rfl h
 | some ia=>
   obtain⟨i,a⟩:=ia;obtain⟨hi,ha,ho,hl,hfit⟩:=O7 hf;rw [Dc,hf]at h
   dsimp only at h
   split at h
   ·rename_i hh;have e:Dc s off=AU (BJ s i):=by
     rw [Dc,hf];dsimp only;rw [if_pos hh];exact mr (by rw [BJ]at hl;omega) h
    rw [e];refine⟨i,a,hi,ho,?_,hfit⟩;rcases Uh (c:=AU (BJ s i)) (by omega)with k| k<;>rw [k]<;>simp [AQ]
   ·exact absurd rfl h
theorem Tf(c:Nat):JF (c:Int)=((8*AQ c:Nat):Int):=by
 unfold JF AQ;split
 ·rename_i h;have:c=1:=by omega
  subst this;rfl
 ·rename_i h1;split
  ·rename_i h2;have:c=2:=by omega
   subst this;rfl
  ·rename_i h2;split
   ·simp at h1
   ·simp at h2
   ·rfl
def UM(w:World)(base:Nat)(v:Value)(x:Nd):Prop:=
 ∃A1 c1 A2 c2 A3 c3,v= .agg #[.slice A1 x.pre.length c1,.int .u64 (x.val.toNat:Int),.slice A2 x.labels.length c2,.slice A3 x.kids.length c3]/\
  w.ownsRow base 5 1 (.slice A1 x.pre.length c1) x.pre.length (x.pre.map bv)/\w.ownsRow base 5 1 (.slice A2 x.labels.length c2) x.labels.length (x.labels.map bv)/\w.ownsRow base 23 1 (.slice A3 x.kids.length c3) x.kids.length (x.kids.map wv)
theorem Xe{Q:Ending->World->Prop}{W:World}{tmps:Array Value}{fn:Func}(hr:fn.results= #[.cell 4 225,.tmp 5])(g:Nat){a b c d:Value}(h:BH W g 225 [a,b,c,d])(v:Value)(h2:tmps[4]? =some (.pointer (some ⟨g,0,none⟩)))(h3:tmps[5]? =some v)
 (hq:Q (.returned (.tuple #[.agg #[a,b,c,d],v])) W):bodyPost Tryz.prog fn Q Exit.ret {tmps:=tmps,defers:=[]} W:=by
 obtain⟨y0,y1,y2,y3,f0,f1,f2,f3⟩:=Cb h;have hu:=run_underlying (P:=Tryz.prog) Tryz.underlying225;refine bodyPost_ret (v:= .tuple #[.agg #[a,b,c,d],v]) (by simp [results,hr,go_sem,h2,h3,y0,y1,y2,y3]) rfl hq
section
variable{len:Nat->Nat}{w w':World}{x d p L:Nat}{s:St}{F:Nat->Prop}
def yF(s:St)(name:UInt64)(w:World)(e:Ending)(w':World):Prop:=
 Below w.heap.size w w'/\match Et s name with
  | none=>e= .returned (.tuple #[.agg #[.slice none 0 0,.int .u64 0,.slice none 0 0,.slice none 0 0],.int .i64 5])
  | some nd=>∃v,e= .returned (.tuple #[v,.int .i64 0])/\UM w' w.heap.size v nd
theorem II(h:Qu len w x d p L s F)(name:UInt64):Calls Tryz.prog 150 #[.pointer (some ⟨x,0,none⟩),.int .u64 (name.toNat:Int)] w (yF s name w):=by
 have HX:=Aa h;obtain⟨l0,l1,ok,EU⟩:=h.L0;have hwr:IntKind.i64.wrap (name.toNat:Int)=AX name:=rfl;have ho: -9223372036854775808<=AX name/\AX name<=9223372036854775807:=by
  have hlt:=name.toNat_lt;unfold AX;simp only [IntKind.wrap,IntKind.bits,IntKind.signed,Bool.true_and,decide_eq_true_eq,show(2:Int)^(64-1)=9223372036854775808 from rfl,show(2:Int)^64=18446744073709551616 from rfl];constructor<;>split<;>omega
 have Aib:=h.box.lt;obtain⟨off,hoff⟩:∃off,off=AX name:=⟨_,rfl⟩;rw [<-hoff]at hwr ho;clear h;have TP:=Aa (fun(W:World)(hW:Below w.heap.size w W)=>by
  obtain⟨tb,hb,n,cT,cH,own,hr, -⟩:=(HX.out.below hW).sys;exact WT hr.at off ho)
 have y0:=HX.out.box.cell 0;have y1:=HX.out.box.cell 1;simp only [Ac,Ae]at y0 y1;have B0:BH (w.alloc (.cells #[.slice none 0 0,.int .u64 0,.slice none 0 0,.slice none 0 0] 225)) w.heap.size 225 [.slice none 0 0,.int .u64 0,.slice none 0 0,.slice none 0 0]:=heap_alloc_new _ _;have hb0:Below w.heap.size w (w.alloc (.cells #[.slice none 0 0,.int .u64 0,.slice none 0 0,.slice none 0 0] 225)):=(Below.refl _ _).alloc (Ad _) _;by_cases hc0:AQ (Dc s off)=0
 ·have HR:Hid (Et s name=none):=Aa (by rw [Et,<-hoff,if_pos hc0]);clear hoff ok EU;go_enter Tryz.func150,Tryz.ntmps150
  go_wp2_with fail
  generalize w.alloc (.cells #[.slice none 0 0,.int .u64 0,.slice none 0 0,.slice none 0 0] 225)=W0 at*;refine(TP.out W0 hb0).mono ?_;rintro e w1⟨rfl,hd⟩;have hb1:=hb0.trans ((hd.below W0.heap.size).mono hb0.size);have B1:=B0.below (hd.below _) B0.lt;clear B0 hb0 hd
  go_wp2_with fail
  refine(H9 _ _).mono ?_;rintro e w2⟨rfl,rfl⟩;rw [Tf,hc0];clear TP HX y0 y1 hc0;obtain⟨k0,k1,k2,k3,f0,f1,f2,f3⟩:=Cb B1
  go_wp2_with fail
  have BF:=(((B1.AV 0 (Value.slice none 0 0)).AV 1 (Value.int .u64 0)).AV 2 (Value.slice none 0 0)).AV 3 (Value.slice none 0 0);have J6:=(((hb1.setCell (p:=⟨w.heap.size,0,none⟩) (Ad _) (Value.slice none 0 0)).setCell (p:=⟨w.heap.size,1,none⟩) (Ad _) (Value.int .u64 0)).setCell (p:=⟨w.heap.size,2,none⟩) (Ad _) (Value.slice none 0 0)).setCell (p:=⟨w.heap.size,3,none⟩) (Ad _) (Value.slice none 0 0);refine Xe rfl w.heap.size BF (.int .i64 5) rfl rfl ⟨J6,?_⟩;rw [HR.out]
 ·obtain⟨i,a,hi,Ad1,hk,hfit⟩:=Td hc0;have HRN:Hid (Et s name=if GY (wordsAt s.ws (off.toNat/8) (8*AQ (Dc s off)))then some (Ef (wordsAt s.ws (off.toNat/8) (8*AQ (Dc s off))))else none):=Aa (by rw [Et,<-hoff,if_neg hc0]);have hj:off=((8*(off.toNat/8):Nat):Int)/\off.toNat/8+8*AQ (Dc s off)<=8*L:=by
   have:=ok.data;have:=ok.fits;have:=ok.BQ;rw [EU]at hi;rcases hk with k| k<;>rw [k]at Ad1 hfit⊢<;>omega
  obtain⟨j,hjd⟩:∃j,j=off.toNat/8:=⟨_,rfl⟩;rw [<-hjd]at hj HRN;obtain⟨hj1,hj2⟩:=hj;have HG:=Aa (fun(W:World)(hW:Below w.heap.size w W)=>ay (HX.out.below hW).sys j (8*AQ (Dc s off)) hj2);rw [<-hj1]at HG;have t1:(((8*AQ (Dc s off):Nat):Int)==0)=false:=by rw [beq_eq_false_iff_ne];omega
  have HK:Hid (8*AQ (Dc s off)<=1000000):=Aa (by rcases hk with k| k<;>omega);obtain⟨m,hm⟩:∃m,m=8*AQ (Dc s off):=⟨_,rfl⟩;have HWd:Hid (JF (Dc s off:Int)=(m:Int)):=Aa (by rw [Tf,hm]);rw [<-hm]at HG t1 HK HRN;clear hoff ok EU hk hfit Ad1 hi hj1 hj2 hjd hc0 hm;go_enter Tryz.func150,Tryz.ntmps150
  go_wp2_with fail
  generalize w.alloc (.cells #[.slice none 0 0,.int .u64 0,.slice none 0 0,.slice none 0 0] 225)=W0 at*;refine(TP.out W0 hb0).mono ?_;rintro e w1⟨rfl,hd⟩;have hb1:=hb0.trans ((hd.below W0.heap.size).mono hb0.size);have B1:=B0.below (hd.below _) B0.lt;have z0:w1.cell? ⟨x,0,none⟩=some (.pointer (some ⟨d,0,none⟩)):=(hb1.cell (p:=⟨x,0,none⟩) Aib).trans y0;clear B0 hb0 hd
  go_wp2_with fail
  refine(H9 _ _).mono ?_;rintro e w2⟨rfl,rfl⟩;rw [HWd.out];clear TP HX y0 y1;obtain⟨k0,k1,k2,k3,f0,f1,f2,f3⟩:=Cb B1
  go_wp2_with fail
  refine(HG.out w1 hb1).mono ?_;rintro e w2⟨v,rfl,hown,hb2⟩;obtain⟨A,c,rfl,hc,hr⟩:=BU hown;have hb2':=hb1.trans (hb2.mono hb1.size);have hlt2:w.heap.size<w2.heap.size:=Bg B1.lt hb2.size;have B2:=B1.below hb2 B1.lt;clear HG hown k0 k1 k2 k3 f0 f1 f2 f3 z0 B1;have hr':=Aa hr;clear hr
  go_wp2_with fail
  refine(decode_any A m c _ w2 HK.out hc hr'.out).mono ?_;rintro e w3⟨hb3,hpost⟩;have B3:=B2.below hb3 B2.lt;have Ab2:=hb2'.trans (hb3.mono hb2'.size);have hw2:=hb2'.size;cases hdk:GY (wordsAt s.ws j m)
  ·have HR:Hid (Et s name=none):=Aa (by rw [HRN.out,hdk];rfl);rw [hdk]at hpost;replace hpost:e= .returned (.tuple #[.agg #[.slice none 0 0,.int .u64 0,.slice none 0 0,.slice none 0 0],.bool false]):=hpost;subst hpost;clear HRN HK hdk hr' HWd;have B4:BH (w3.alloc (.cells #[Value.slice none 0 0,Value.int .u64 0,Value.slice none 0 0,Value.slice none 0 0] 225)) w.heap.size _ _:=B3.below ((Below.refl w3.heap.size w3).alloc (Ad _) _) B3.lt;have hb4:Below w.heap.size w (w3.alloc (.cells #[Value.slice none 0 0,Value.int .u64 0,Value.slice none 0 0,Value.slice none 0 0] 225)):=Ab2.trans (((Below.refl w3.heap.size w3).alloc (Ad _) _).mono Ab2.size);clear B2 B3 hb1 hb2 hb2' hb3;obtain⟨k0,k1,k2,k3,f0,f1,f2,f3⟩:=Cb B4
   go_wp2_with fail
   have BF:=(((B4.AV 0 (Value.slice none 0 0)).AV 1 (Value.int .u64 0)).AV 2 (Value.slice none 0 0)).AV 3 (Value.slice none 0 0);have J6:=(((hb4.setCell (p:=⟨w.heap.size,0,none⟩) (Ad _) (Value.slice none 0 0)).setCell (p:=⟨w.heap.size,1,none⟩) (Ad _) (Value.int .u64 0)).setCell (p:=⟨w.heap.size,2,none⟩) (Ad _) (Value.slice none 0 0)).setCell (p:=⟨w.heap.size,3,none⟩) (Ad _) (Value.slice none 0 0);refine Xe rfl w.heap.size BF (.int .i64 5) rfl rfl ⟨J6,?_⟩;rw [HR.out]
  ·have HR:Hid (Et s name=some (Ef (wordsAt s.ws j m))):=Aa (by rw [HRN.out,hdk];rfl);rw [hdk]at hpost;obtain⟨A1,c1,A2,c2,A3,c3,rfl,hc1,hc2,hc3,hB1,hB2,hB3,o1,o2,o3⟩:=hpost;have HO:=Aa (And.intro o1 (And.intro o2 o3));clear hB1 hB2 hB3 hc1 hc2 hc3 o1 o2 o3 HRN HK hdk hr' HWd;generalize Ef (wordsAt s.ws j m)=nd at*;have B4:BH (w3.alloc (.cells #[Value.slice A1 nd.pre.length c1,Value.int .u64 (nd.val.toNat:Int),Value.slice A2 nd.labels.length c2,Value.slice A3 nd.kids.length c3] 225)) w.heap.size _ _:=B3.below ((Below.refl w3.heap.size w3).alloc (Ad _) _) B3.lt;have hb4:Below w.heap.size w (w3.alloc (.cells #[Value.slice A1 nd.pre.length c1,Value.int .u64 (nd.val.toNat:Int),Value.slice A2 nd.labels.length c2,Value.slice A3 nd.kids.length c3] 225)):=Ab2.trans (((Below.refl w3.heap.size w3).alloc (Ad _) _).mono Ab2.size);clear B2 B3 hb1 hb2 hb2' hb3;obtain⟨k0,k1,k2,k3,f0,f1,f2,f3⟩:=Cb B4
   go_wp2_with fail
   have BF:=(((B4.AV 0 (Value.slice A1 nd.pre.length c1)).AV 1 (Value.int .u64 (nd.val.toNat:Int))).AV 2 (Value.slice A2 nd.labels.length c2)).AV 3 (Value.slice A3 nd.kids.length c3);have J6:=(((hb4.setCell (p:=⟨w.heap.size,0,none⟩) (Ad _) (Value.slice A1 nd.pre.length c1)).setCell (p:=⟨w.heap.size,1,none⟩) (Ad _) (Value.int .u64 (nd.val.toNat:Int))).setCell (p:=⟨w.heap.size,2,none⟩) (Ad _) (Value.slice A2 nd.labels.length c2)).setCell (p:=⟨w.heap.size,3,none⟩) (Ad _) (Value.slice A3 nd.kids.length c3);refine Xe rfl w.heap.size BF (.int .i64 0) rfl rfl ⟨J6,?_⟩;rw [HR.out];obtain⟨o1,o2,o3⟩:=HO.out;have al:Below w3.heap.size w3 (w3.alloc (.cells #[Value.slice A1 nd.pre.length c1,Value.int .u64 (nd.val.toNat:Int),Value.slice A2 nd.labels.length c2,Value.slice A3 nd.kids.length c3] 225)):=(Below.refl _ _).alloc (Ad _) _;have hlt:w.heap.size<w2.heap.size:=by omega
   have up:∀{e:TypeId}{v:Value}{n:Nat}{xs:List Value},w3.ownsRow w2.heap.size e 1 v n xs->World.ownsRow (((((w3.alloc (.cells #[Value.slice A1 nd.pre.length c1,Value.int .u64 (nd.val.toNat:Int),Value.slice A2 nd.labels.length c2,Value.slice A3 nd.kids.length c3] 225)).setCell ⟨w.heap.size,0,none⟩ (Value.slice A1 nd.pre.length c1)).setCell ⟨w.heap.size,1,none⟩ (Value.int .u64 (nd.val.toNat:Int))).setCell ⟨w.heap.size,2,none⟩ (Value.slice A2 nd.labels.length c2)).setCell ⟨w.heap.size,3,none⟩ (Value.slice A3 nd.kids.length c3)) w.heap.size e 1 v n xs:=fun o=>
    Rf (Aw (Aw (Aw (Aw (own_below o al) hlt _ _) hlt _ _) hlt _ _) hlt _ _) (Nat.le_of_lt hlt)
   exact⟨_,rfl,A1,c1,A2,c2,A3,c3,rfl,up o1,up o2,up o3⟩
end
theorem Tryz.yG:IE Tryz.prog 221 227 (.agg #[.slice none 0 0,.int .u64 0,.slice none 0 0,.slice none 0 0,.int .i64 0,.int .u8 0,.int .i64 0]) 7 104:=⟨Tryz.underlying221,by kernel_rfl,rfl⟩
def Cc(e:TypeId)(w w':World):Prop:=w.heap.size<=w'.heap.size/\∀j,j<w.heap.size->(∃cs fz,w.heap[j]? =some (.cells cs e fz))\/w'.heap[j]? =w.heap[j]?
theorem Cc.of_below{e:TypeId}{w w':World}(h:Below w.heap.size w w'):Cc e w w':=⟨h.size,fun j hj=> .inr (h.block j hj)⟩
theorem Cc.trans{e:TypeId}{a b c:World}(h:Cc e a b)(k:Cc e b c):Cc e a c:=by
 refine⟨AL h.1 k.1,fun j hj=> ?_⟩;rcases h.2 j hj with h'| h'
 ·exact .inl h'
 ·rcases k.2 j (Bg hj h.1)with⟨cs,fz,k'⟩| k'
  ·exact .inl ⟨cs,fz,h'▸k'⟩
  ·exact .inr (k'.trans h')
theorem Cc.AV{e:TypeId}{w:World}{g:Nat}{xs:List Value}(h:BH w g e xs)(i:Nat)(u:Value):Cc e w (w.setCell ⟨g,i,none⟩ u):=by
 refine⟨by simp [World.setCell,NC],fun j hj=> ?_⟩;by_cases hjg:j=g
 ·exact .inl ⟨_,_,hjg▸h⟩
 ·exact .inr (by simp only [World.setCell,JW];rw [if_neg (fun e=>hjg e.symm)])
theorem Cc.kept{e:TypeId}{w w':World}{base k n:Nat}{v:Value}{xs:List Value}(h:w.ownsRow base e k v n xs)(hk:Kept w w' v.ownBlock):Cc e w w':=by
 refine⟨hk.1,fun j hj=> ?_⟩;by_cases hjv:some j=v.ownBlock
 ·rcases h.2 with⟨h1,_⟩| ⟨g,cap,cur,h1,_,h3,_⟩
  ·subst h1;simp [Value.ownBlock]at hjv
  ·subst h1;simp [Value.ownBlock]at hjv;subst hjv;exact .inl ⟨_,_,h3⟩
 ·exact .inr (hk.2 j hj hjv)
theorem Cc.own{e f:TypeId}(hef:f≠e){w w':World}{base k n:Nat}{v:Value}{xs:List Value}(s:Cc e w w')(h:w.ownsRow base f k v n xs):w'.ownsRow base f k v n xs:=by
 refine⟨h.1,?_⟩;rcases h.2 with h1| ⟨g,cap,cur,h1,h2,h3,h4⟩
 ·exact .inl h1
 ·refine .inr ⟨g,cap,cur,h1,h2,?_,h4⟩;rcases s.2 g (Array.getElem?_eq_some_iff.1 h3).1 with⟨cs,fz,h'⟩| h'
  ·rw [h3]at h';injection h' with h';injection h' with _ h'';exact absurd h'' hef
  ·rw [h',h3]
theorem Cc.nd{w w':World}{base:Nat}{v:Value}{x:Nd}(s:Cc 227 w w')(h:UM w base v x):UM w' base v x:=by
 obtain⟨A1,c1,A2,c2,A3,c3,e,h1,h2,h3⟩:=h;exact⟨A1,c1,A2,c2,A3,c3,e,s.own (by decide) h1,s.own (by decide) h2,s.own (by decide) h3⟩
theorem UM.mono{w:World}{base base':Nat}{v:Value}{x:Nd}(h:UM w base v x)(hb:base'<=base):UM w base' v x:=by
 obtain⟨A1,c1,A2,c2,A3,c3,e,h1,h2,h3⟩:=h;exact⟨A1,c1,A2,c2,A3,c3,e,Ea h1 hb,Ea h2 hb,Ea h3 hb⟩
def PlV(w:World)(base:Nat)(cs:List Value)(pl:Pl):Prop:=
 ∃a b c d,cs=[a,b,c,d,.int .i64 pl.off,.int .u8 (pl.label.toNat:Int),.int .i64 pl.word]/\UM w base (.agg #[a,b,c,d]) pl.nd
def Ui(w:World)(base:Nat):List (List Value)->List Pl->Prop
 | [],[]=>True
 | c::cs,p::ps=>PlV w base c p/\Ui w base cs ps
 | _,_=>False
theorem Cc.pl{w w':World}{base:Nat}{cs:List Value}{p:Pl}(s:Cc 227 w w')(h:PlV w base cs p):PlV w' base cs p:=by
 obtain⟨a,b,c,d,e,h⟩:=h;exact⟨a,b,c,d,e,s.nd h⟩
theorem Cc.pls{w w':World}{base:Nat}(s:Cc 227 w w'):∀(vs:List (List Value))(ps:List Pl),Ui w base vs ps->Ui w' base vs ps
 | [],[],_=>trivial
 | _::vs,_::ps,h=>⟨s.pl h.1,s.pls vs ps h.2⟩
 | [],_::_,h=>h.elim
 | _::_,[],h=>h.elim
theorem Ui.app{w:World}{base:Nat}{c:List Value}{p:Pl}(hp:PlV w base c p):∀(vs:List (List Value))(ps:List Pl),Ui w base vs ps->Ui w base (vs++[c]) (ps++[p])
 | [],[],_=>⟨hp,trivial⟩
 | _::vs,_::ps,h=>⟨h.1,Ui.app hp vs ps h.2⟩
 | [],_::_,h=>h.elim
 | _::_,[],h=>h.elim
def MH(w:World)(base:Nat)(v:Value)(way:List Pl):Prop:=
 ∃vs,w.ownsRow base 227 7 v way.length (vs.flatten)/\Ui w base vs way
theorem MH.nil(w:World)(base:Nat):MH w base (.slice none 0 0) []:=⟨[],World.ownsRow_nil _ _ _ _,trivial⟩
theorem MH.app{w w':World}{base:Nat}{v':Value}{way:List Pl}{vs:List (List Value)}{c:List Value}{p:Pl}(h:Ui w base vs way)(hp:PlV w base c p)(s:Cc 227 w w')
 (ho:w'.ownsRow base 227 7 v' (way.length+1) (vs.flatten++c)):MH w' base v' (way++[p]):=
 ⟨vs++[c],by simpa using ho,(s.pls vs way h).app (s.pl hp)⟩
def OI(w:World)(base:Nat)(A:Option Addr)(l:List UInt8):Prop:=
 Bs w A l.length l/\∀g off,A=some ⟨g,off,none⟩->base<=g/\∃cs fz,w.heap[g]? =some (.cells cs 5 fz)
theorem Cc.rs{w w':World}{base:Nat}{A:Option Addr}{l:List UInt8}(s:Cc 227 w w')(h:OI w base A l):OI w' base A l:=by
 have key:∀g off,A=some ⟨g,off,none⟩->w'.heap[g]? =w.heap[g]? :=fun g off e=>by
  obtain⟨_,cs,fz,hg⟩:=h.2 g off e;rcases s.2 g (Array.getElem?_eq_some_iff.1 hg).1 with⟨cs',fz',h'⟩| h'
  ·rw [hg]at h';injection h' with h';injection h' with _ h'';exact absurd h'' (by decide)
  ·exact h'
 refine⟨⟨h.1.1,fun hn=> ?_⟩,fun g off e=> ?_⟩
 ·obtain⟨b,off,e,hb,hc⟩:=h.1.2 hn;exact⟨b,off,e,Bg hb s.1,fun j hj=>(World.cell?_of_block (w:=w) (key b off e)).trans (hc j hj)⟩
 ·obtain⟨h1,cs,fz,hg⟩:=h.2 g off e;exact⟨h1,cs,fz,(key g off e).trans hg⟩
theorem OI.KY{w:World}{base n c:Nat}{A:Option Addr}{l:List UInt8}(h:w.ownsRow base 5 1 (.slice A n c) n (l.map bv))(hn:n=l.length):OI w base A l:=by
 subst hn;refine⟨(BK h).2,fun g off e=> ?_⟩;rcases h.2 with⟨h1,_⟩| ⟨g',cap,cur,h1,h2,h3,_⟩
 ·simp only [Value.slice.injEq]at h1;rw [h1.1]at e;cases e
 ·simp only [Value.slice.injEq]at h1;rw [h1.1]at e;injection e with e;injection e with e1 e2;subst e1;exact⟨h2,_,_,h3⟩
theorem OI.drop{w:World}{base g off:Nat}{l:List UInt8}(h:OI w base (some ⟨g,off,none⟩) l)(k:Nat)(hk:k<=l.length):OI w base (some ⟨g,off+k,none⟩) (l.drop k):=by
 refine⟨⟨by simp,fun hn=> ?_⟩,fun g' off' e=> ?_⟩
 ·simp only [Au]at hn;obtain⟨b,off',e,hb,hc⟩:=h.1.2 (by omega);injection e with e;injection e with e1 e2;subst e1 e2
  refine⟨_,_,rfl,hb,fun j hj=> ?_⟩;simp only [Au]at hj;rw [VM,hc (k+j) (by omega),List.map_drop,Cf]
 ·injection e with e;injection e with e1 e2;subst e1
  exact h.2 _ _ rfl
theorem OI.cut{w:World}{base b off c:Nat}{l:List UInt8}(h:OI w base (some ⟨b,off,none⟩) l)(k:Nat)(hk:k<=l.length)(hc:l.length<=c):OI w base (if c=k then some ⟨b,off,none⟩else some ⟨b,off+k,none⟩) (l.drop k):=by
 split
 ·refine⟨⟨by simp,fun hn=> ?_⟩,h.2⟩;simp only [Au]at hn;omega
 ·exact h.drop k hk
theorem Kept.trans'{a b c:World}{r:Option Nat}(h:Kept a b r)(k:Kept b c r):Kept a c r:=
 ⟨AL h.1 k.1,fun j hj hr=>(k.2 j (Bg hj h.1) hr).trans (h.2 j hj hr)⟩
theorem Kept.of_below{a b:World}{r:Option Nat}(h:Below a.heap.size a b):Kept a b r:=⟨h.size,fun j hj _=>h.block j hj⟩
theorem Kept.AV(w:World)(g i:Nat)(u:Value):Kept w (w.setCell ⟨g,i,none⟩ u) (some g):=
 ⟨by simp [World.setCell,NC],fun j _ hr=>by simp only [World.setCell,JW];rw [if_neg (fun e=>hr (by rw [e]))]⟩
theorem Ed{w w':World}{base k n:Nat}{e:TypeId}{v:Value}{xs:List Value}{r:Option Nat}(h:w.ownsRow base e k v n xs)(hk:Kept w w' r)(hn:r≠v.ownBlock\/v.ownBlock=none):w'.ownsRow base e k v n xs:=by
 refine⟨h.1,?_⟩
 rcases h.2 with h1| ⟨g,cap,cur,h1,h2,h3,h4⟩
 ·exact .inl h1
 ·refine .inr ⟨g,cap,cur,h1,h2,?_,h4⟩
  subst h1
  rw [hk.2 g (Array.getElem?_eq_some_iff.1 h3).1 (fun e=>by rcases hn with hn| hn
                                                            ·exact hn (by rw [<-e];rfl)
                                                            ·simp [Value.ownBlock]at hn)]
  exact h3
def lenOf:Value->Nat
 | .slice _ n _=>n
 | _=>0
def gW(s:St)(key:List UInt8)(w:World)(e:Ending)(w':World):Prop:=
 Below w.heap.size w w'/\match Fj s key with
  | none=>e= .returned (.tuple #[.slice none 0 0,.slice none 0 0,.int .i64 5])
  | some (way,rest)=>∃vw A c,e= .returned (.tuple #[vw,.slice A rest.length c,.int .i64 0])/\MH w' w.heap.size vw way/\OI w' w.heap.size A rest/\rest.length<=c
theorem Xf(l:List UInt8):(CQ l).length=2*l.length:=by
 induction l with
 | nil=>rfl
 | cons a t ih=>simp [CQ]at ih⊢;omega
def yH(s:St)(_:Nat)(key:List UInt8)(w:World)(pb:Nat)(u7 u8 u10:Value)(wr:World):Prop:=
 ∃(f:Nat)(A:Option Addr)(c:Nat)(rest:List UInt8)(name:UInt64)(label:UInt8)(word:Int)(way:List Pl)(a0 a1 a2 a3 a4:Value),
  u7= .slice A rest.length c/\u8= .int .u64 (name.toNat:Int)/\DD s f name rest label word way=Fj s key/\rest.length<f/\rest.length<=c/\way.length+rest.length<=2*key.length/\
  BH wr pb 227 [a0,a1,a2,a3,a4,.int .u8 (label.toNat:Int),.int .i64 word]/\MH wr w.heap.size u10 way/\(some pb≠u10.ownBlock)/\OI wr w.heap.size A rest/\Below w.heap.size w wr
theorem Zb(l:List UInt64):(Ef l).kids.length<=16/\(Ef l).labels.length<=16:=by
 unfold Ef;split
 ·unfold x9 Hr
  dsimp only
  split<;>simp [digits_length]<;>omega
 ·unfold kL;have:=VU ((l.drop 4).take 16);simp at this;simp [MR];omega
theorem Ez{s:St}{name:UInt64}{nd:Nd}(h:Et s name=some nd):nd.pre.length<=15/\nd.kids.length<=16/\nd.labels.length<=16:=by
 unfold Et at h;split at h
 ·cases h
 ·split at h
  ·rename_i hd;injection h with h
   subst h;refine⟨?_,(Zb _).1,(Zb _).2⟩;unfold GY at hd;simp only [Bool.and_eq_true]at hd;exact((AY _).1 hd.2.1).1
  ·cases h
theorem DU{w:World}{g:Nat}{e:TypeId}{a b c d k l m:Value}(h:BH w g e [a,b,c,d,k,l,m]):w.cell? ⟨g,0,none⟩=some a/\w.cell? ⟨g,1,none⟩=some b/\w.cell? ⟨g,2,none⟩=some c/\w.cell? ⟨g,3,none⟩=some d/\w.cell? ⟨g,4,none⟩=some k/\w.cell? ⟨g,5,none⟩=some l/\w.cell? ⟨g,6,none⟩=some m:=
 ⟨h.cell 0,h.cell 1,h.cell 2,h.cell 3,h.cell 4,h.cell 5,h.cell 6⟩
theorem wrap64(a:Int)(h1: -9223372036854775808<=a)(h2:a<9223372036854775808):IntKind.i64.wrap a=a:=by
 simp only [IntKind.wrap,IntKind.bits,IntKind.signed,Bool.true_and,decide_eq_true_eq,show(2:Int)^(64-1)=9223372036854775808 from rfl,show(2:Int)^64=18446744073709551616 from rfl];split<;>omega
theorem PU{len:Nat->Nat}{w:World}{x d p L:Nat}{s:St}{F:Nat->Prop}(h:Qu len w x d p L s F){name:UInt64}{nd:Nd}(hr:Et s name=some nd):0<=AX name/\AX name<=65536:=by
 obtain⟨l0,l1,ok,EU⟩:=h.L0;unfold Et at hr;split at hr
 ·cases hr
 ·rename_i h0;obtain⟨i,a,hi,ho,hk,hf⟩:=Td h0;rw [ho];have:=ok.fits;rw [EU]at hi;rcases hk with k| k<;>rw [k]at hf⊢<;>omega
theorem uf{nd:Nd}{lab:UInt8}{kid:UInt64}{number:Nat}(h:Nq nd lab=some (kid,number)):Vq nd lab= .tuple #[.int .u64 (kid.toNat:Int),.int .i64 (number:Int),.bool true]:=by
 unfold Nq Jj at h;unfold Vq;split at h
 ·rename_i i hi;rw [hi];split at h
  ·rename_i hr;injection h with h
   injection h with h1 h2
   subst h1 h2;simp only [hr,if_true];split<;>rfl
  ·cases h
 ·cases h
theorem ug{nd:Nd}{lab:UInt8}(h:Nq nd lab=none):Vq nd lab= .tuple #[.int .u64 0,.int .i64 0,.bool false]:=by
 unfold Nq Jj at h;unfold Vq;split at h
 ·rename_i i hi;rw [hi];split at h
  ·cases h
  ·rename_i hr;simp only [hr];rfl
 ·rename_i hi;rw [hi]
theorem mG{nd:Nd}{lab:UInt8}{kid:UInt64}{number:Nat}(h:Nq nd lab=some (kid,number))(hk:nd.labels.length<=16):number<=300:=by
 unfold Nq Jj at h;have:=lab.toNat_lt;split at h
 ·rename_i i hi;have hil:=(List.findIdx?_eq_some_iff_getElem.1 hi).1;split at h
  ·injection h with h
   injection h with h1 h2
   subst h2;split<;>omega
  ·cases h
 ·cases h
theorem Aew{w:World}{base n1 c1 n2 c2 n3 c3:Nat}{A1 A2 A3:Option Addr}{x:Nd}(h:UM w base (.agg #[.slice A1 n1 c1,.int .u64 (x.val.toNat:Int),.slice A2 n2 c2,.slice A3 n3 c3]) x)(b1:n1<=1000000)(b2:n2<=1000000)(b3:n3<=1000000)(label:UInt8):
 Calls Tryz.prog 174 #[.agg #[.slice A1 n1 c1,.int .u64 (x.val.toNat:Int),.slice A2 n2 c2,.slice A3 n3 c3],.int .u8 (label.toNat:Int)] w fun e w'=>e= .returned (Vq x label)/\Below w.heap.size w w':=by
 obtain⟨_,_,_,_,_,_,e,p1,p2,p3⟩:=h;simp only [Value.agg.injEq]at e;simp at e;obtain⟨⟨rfl,rfl,rfl⟩,⟨rfl,rfl,rfl⟩,⟨rfl,rfl,rfl⟩⟩:=e;exact xJ _ _ _ _ _ _ _ _ _ x label w b1 b2 b3 (BK p1).2 (BK p2).2 (BK p3).2
section
variable{len:Nat->Nat}{w w':World}{x d p L:Nat}{s:St}{F:Nat->Prop}
theorem IJ (h : Qu len w x d p L s F) (key : ByteArray) (hk : key.size <= 1000) : Calls Tryz.prog 135 #[.pointer (some ⟨x, 0, none⟩), .string key] w (gW s key.data.toList w) := by
  have HX := Aa h
  have HOf := Aa (Aeg key w (by omega))
  have dD := Aa (fun (W : World) (hW : Below w.heap.size w W) => Xd (HX.out.below hW))
  have wU := Aa (fun (W : World) (hW : Below w.heap.size w W) => II (HX.out.below hW))
  have Aib := h.box.lt
  clear h
  go_enter Tryz.func135, Tryz.ntmps135
  go_wp2_with fail
  refine HOf.out.mono ?_
  rintro e w1 ⟨v, rfl, ho, hb1⟩
  obtain ⟨A, c, rfl, hc, hr⟩ := BU ho
  have HO1 := Aa ho
  clear HOf ho hr
  go_wp2_with fail
  refine (dD.out w1 hb1).mono ?_
  rintro e w2 ⟨rfl, hb2⟩
  have Qp := Aa (own_below HO1.out hb2)
  have hb2' := hb1.trans (hb2.mono hb1.size)
  clear HO1 hb1 hb2 dD
  go_wp2_with fail
  obtain ⟨W0, hW0⟩ : ∃ W0, W0 = w2.alloc (.cells #[.slice none 0 0, .int .u64 0, .slice none 0 0, .slice none 0 0, .int .i64 0, .int .u8 0, .int .i64 72] 227) := ⟨_, rfl⟩
  have al : Below w2.heap.size w2 W0 := by rw [hW0]; exact (Below.refl _ _).alloc (Ad _) _
  have BP : BH W0 w2.heap.size 227 [.slice none 0 0, .int .u64 0, .slice none 0 0, .slice none 0 0, .int .i64 0, .int .u8 0, .int .i64 72] := by rw [hW0]; exact heap_alloc_new _ _
  have hb0 : Below w.heap.size w W0 := hb2'.trans (al.mono hb2'.size)
  have hR0 := OI.KY (own_below Qp.out al) (by rw [Xf]; simp)
  rw [<- hW0]
  have hlen : (CQ key.data.toList).length = 2 * key.size := by rw [Xf]; simp
  have hpb := hb2'.size
  obtain ⟨pb, Aic⟩ : ∃ pb, w2.heap.size = pb := ⟨_, rfl⟩
  rw [Aic] at BP hpb ⊢
  have HAt : Hid (yH s L key.data.toList w pb (.slice A (2 * key.size) c) (.int .u64 ((s.ws 9).toNat : Int)) (.slice none 0 0) W0) :=
    Aa ⟨2 * key.size + 1, A, c, CQ key.data.toList, s.ws 9, 0, 72, [], _, _, _, _, _, by rw [hlen], rfl, by simp [Fj], by omega, by omega, by simp [hlen], BP, MH.nil _ _, by simp [Value.ownBlock], hR0, hb0⟩
  clear hW0 al BP hb0 hR0 Qp hlen hc hb2' Aic
  go_loopw [7, 8, 10] (fun u7 u8 u10 wr => yH s L key.data.toList w pb u7 u8 u10 wr) (fun u7 _ _ _ => lenOf u7)
  case atStart => exact HAt.out
  case round =>
    clear HAt
    obtain ⟨f, A, c, rest, name, label, word, way, a0, a1, a2, a3, a4, rfl, rfl, hgo, hf, hcap, hlen, hB, Iy, hne, hrs, hbw⟩ := hrel
    obtain ⟨f, rfl⟩ : ∃ f', f = f' + 1 := ⟨f - 1, by omega⟩
    have hpn := hB.lt
    have HB := Aa hB
    have Aex := Aa Iy
    have HNe := Aa hne
    have HRs := Aa hrs
    have mJ := Aa hgo
    have gq := Aa hbw
    have HLe := Aa (And.intro hf (And.intro hcap hlen))
    clear hB Iy hne hrs hgo hbw hf hcap hlen
    by_cases hz : name = 0
    · have HR : Hid (Fj s key.data.toList = some (way, rest)) := Aa (by rw [<- mJ.out, DD, if_pos hz])
      have t0 : (((name.toNat : Nat) : Int) == 0) = true := by subst hz; rfl
      clear mJ
      go_wp2_with fail
      refine bodyPost_ret (v := .tuple #[u10, .slice A rest.length c, .int .i64 0]) (by simp [results, Tryz.results135, go_sem]) rfl ?_
      refine ⟨gq.out, ?_⟩
      rw [HR.out]
      exact ⟨_, A, c, rfl, Aex.out, HRs.out, HLe.out.2.1⟩
    · have t0 : (((name.toNat : Nat) : Int) == 0) = false := by
        rw [beq_eq_false_iff_ne]; intro e; apply hz
        exact UInt64.toNat_inj.1 (by have : name.toNat = 0 := by omega
                                     rw [this]; rfl)
      have f4 := HB.out.frozen 4
      have z4 := HB.out.cell 4
      simp only [Ae, Ac] at z4
      have hwr : IntKind.i64.wrap (name.toNat : Int) = AX name := rfl
      go_wp2_with fail
      have B1 := HB.out.AV 4 (Value.int .i64 (AX name))
      have s1 := Cc.AV HB.out 4 (Value.int .i64 (AX name))
      have k1 := Kept.AV wr pb 4 (Value.int .i64 (AX name))
      have Aey := gq.out.setCell (p := ⟨pb, 4, none⟩) hpb (Value.int .i64 (AX name))
      have hsz1 : w.heap.size <= wr.heap.size := gq.out.size
      generalize wr.setCell ⟨pb, 4, none⟩ (Value.int .i64 (AX name)) = W1 at *
      have S1 := Aa s1
      replace B1 : BH W1 pb 227 [a0, a1, a2, a3, .int .i64 (AX name), .int .u8 (label.toNat : Int), .int .i64 word] := B1
      have hsz2 : w.heap.size <= W1.heap.size := AL hsz1 s1.1
      clear f4 z4 hwr s1
      refine (wU.out W1 Aey name).mono ?_
      rintro e w3 ⟨hb3, hpost⟩
      have S3 := Aa (S1.out.trans (Cc.of_below hb3))
      have K3 := Aa (k1.trans' (Kept.of_below hb3))
      clear k1
      have B3 := B1.below hb3 B1.lt
      have hbw3 := Aey.trans (hb3.mono hsz2)
      have hsz3 : w.heap.size <= w3.heap.size := AL hsz2 hb3.size
      clear B1 Aey hb3 S1
      cases hrd : Et s name with
      | none =>
        rw [hrd] at hpost
        dsimp only at hpost
        subst hpost
        have HR : Hid (Fj s key.data.toList = none) := Aa (by rw [<- mJ.out, DD, if_neg hz, hrd])
        have f0 := B3.frozen 0
        have f1 := B3.frozen 1
        have f2 := B3.frozen 2
        have f3 := B3.frozen 3
        have z0 := B3.cell 0
        have z1 := B3.cell 1
        have z2 := B3.cell 2
        have z3 := B3.cell 3
        simp only [Ae, Ac] at z0 z1 z2 z3
        clear hrd mJ
        go_wp2_with fail
        refine bodyPost_ret (v := .tuple #[.slice none 0 0, .slice none 0 0, .int .i64 5]) (by simp [results, Tryz.results135, go_sem]) rfl ?_
        refine ⟨(((hbw3.setCell (p := ⟨pb, 0, none⟩) hpb _).setCell (p := ⟨pb, 1, none⟩) hpb _).setCell (p := ⟨pb, 2, none⟩) hpb _).setCell (p := ⟨pb, 3, none⟩) hpb _, ?_⟩
        rw [HR.out]
      | some nd =>
        rw [hrd] at hpost
        dsimp only at hpost
        obtain ⟨v, rfl, A1, c1, A2, c2, A3, c3, rfl, o1, o2, o3⟩ := hpost
        have HNd := Aa (show UM w3 w.heap.size (.agg #[.slice A1 nd.pre.length c1, .int .u64 (nd.val.toNat : Int), .slice A2 nd.labels.length c2, .slice A3 nd.kids.length c3]) nd from UM.mono ⟨A1, c1, A2, c2, A3, c3, rfl, o1, o2, o3⟩ hsz2)
        have Aez := Aa hrd
        clear hrd o1 o2 o3
        have f0 := B3.frozen 0
        have f1 := B3.frozen 1
        have f2 := B3.frozen 2
        have f3 := B3.frozen 3
        have z0 := B3.cell 0
        have z1 := B3.cell 1
        have z2 := B3.cell 2
        have z3 := B3.cell 3
        have z4 := B3.cell 4
        have z5 := B3.cell 5
        have z6 := B3.cell 6
        simp only [Ae, Ac] at z0 z1 z2 z3 z4 z5 z6
        obtain ⟨vs, hvo, hvp⟩ := Aex.out
        have B5 := (((B3.AV 0 (Value.slice A1 nd.pre.length c1)).AV 1 (Value.int .u64 (nd.val.toNat : Int))).AV 2 (Value.slice A2 nd.labels.length c2)).AV 3 (Value.slice A3 nd.kids.length c3)
        have mM := (((hbw3.setCell (p := ⟨pb, 0, none⟩) hpb (Value.slice A1 nd.pre.length c1)).setCell (p := ⟨pb, 1, none⟩) hpb (Value.int .u64 (nd.val.toNat : Int))).setCell (p := ⟨pb, 2, none⟩) hpb (Value.slice A2 nd.labels.length c2)).setCell (p := ⟨pb, 3, none⟩) hpb (Value.slice A3 nd.kids.length c3)
        have S5 := S3.out.trans ((((Cc.AV B3 0 (Value.slice A1 nd.pre.length c1)).trans (Cc.AV (B3.AV 0 _) 1 (Value.int .u64 (nd.val.toNat : Int)))).trans (Cc.AV ((B3.AV 0 _).AV 1 _) 2 (Value.slice A2 nd.labels.length c2))).trans (Cc.AV (((B3.AV 0 _).AV 1 _).AV 2 _) 3 (Value.slice A3 nd.kids.length c3)))
        have K5 := K3.out.trans' ((((Kept.AV _ pb 0 (Value.slice A1 nd.pre.length c1)).trans' (Kept.AV _ pb 1 (Value.int .u64 (nd.val.toNat : Int)))).trans' (Kept.AV _ pb 2 (Value.slice A2 nd.labels.length c2))).trans' (Kept.AV _ pb 3 (Value.slice A3 nd.kids.length c3)))
        have HV5 := Aa (Ed hvo K5 (.inl HNe.out))
        have Ae0 := Aa (((((Cc.AV B3 0 (Value.slice A1 nd.pre.length c1)).trans (Cc.AV (B3.AV 0 _) 1 (Value.int .u64 (nd.val.toNat : Int)))).trans (Cc.AV ((B3.AV 0 _).AV 1 _) 2 (Value.slice A2 nd.labels.length c2))).trans (Cc.AV (((B3.AV 0 _).AV 1 _).AV 2 _) 3 (Value.slice A3 nd.kids.length c3))).nd HNd.out)
        have HS5 := Aa S5
        have MF := Aa B5
        have Aid := Aa mM
        have HP5 := Aa (HS5.out.pls vs way hvp)
        have hw5 := mM.size
        have hmm : way.length <= 1000000 := by have := HLe.out; simp at this; omega
        clear S5 K5 B5 mM hvo hvp
        go_wp2_with (at_builtin; refine DT rfl (.tmp 42) (.tmp 44) 221 rfl Tryz.yG ((((w3.setCell ⟨pb, 0, none⟩ (Value.slice A1 nd.pre.length c1)).setCell ⟨pb, 1, none⟩ (Value.int .u64 (nd.val.toNat : Int))).setCell ⟨pb, 2, none⟩ (Value.slice A2 nd.labels.length c2)).setCell ⟨pb, 3, none⟩ (Value.slice A3 nd.kids.length c3)) w.heap.size u10 way.length vs.flatten [Value.slice A1 nd.pre.length c1, Value.int .u64 (nd.val.toNat : Int), Value.slice A2 nd.labels.length c2, Value.slice A3 nd.kids.length c3, .int .i64 (AX name), .int .u8 (label.toNat : Int), .int .i64 word] rfl HV5.out rfl w3.heap.size 1 rfl (by simp [World.setCell, NC]) rfl (by decide) (by simp [Value.oneCell']) hmm (by decide) hw5 ?_; intro g6 c6 w6 WV TM hK6 dE; have B6 := (hK6.2 pb MF.out.lt HNe.out).trans MF.out; obtain ⟨y0, y1, y2, y3, y4, y5, y6⟩ := DU B6)
        have s6 := Cc.kept HV5.out hK6
        have Qs : Hid (BH w6 pb 227 [.slice A1 nd.pre.length c1, .int .u64 (nd.val.toNat : Int), .slice A2 nd.labels.length c2, .slice A3 nd.kids.length c3, .int .i64 (AX name), .int .u8 (label.toNat : Int), .int .i64 word]) := Aa B6
        have HW6 := Aa (MH.app HP5.out (p := ⟨nd, AX name, label, word⟩) ⟨_, _, _, _, rfl, Ae0.out⟩ s6 WV)
        have Ae1 := Aa ((HS5.out.trans s6).rs HRs.out)
        have Ae2 := Aa (s6.nd Ae0.out)
        have Ae3 := Aa (Aid.out.trans TM)
        have Aie : Hid (pb ≠ g6) := Aa (fun e => by
          rcases dE with h6 | h6
          · exact HNe.out (by rw [h6, e])
          · have := MF.out.lt; omega)
        clear s6 B6 WV TM hK6 dE HV5 HP5 Ae0 HS5 MF Aid Aex HRs HB HNe gq HNd S3 K3 B3 hbw3 f0 f1 f2 f3 z0 z1 z2 z3 z4 z5 z6 hw5
        obtain ⟨b1, b2, b3⟩ := Ez Aez.out
        obtain ⟨kk, hkk⟩ : ∃ kk, kk = common nd.pre rest := ⟨_, rfl⟩
        have hrl : rest.length <= 4294967296 := by have := HLe.out; simp at this; omega
        refine (JE A1 A nd.pre.length rest.length c1 c nd.pre rest w6 (by omega) hrl (by obtain ⟨_, _, _, _, _, _, e, p1, _, _⟩ := Ae2.out; simp only [Value.agg.injEq] at e; simp at e; obtain ⟨⟨rfl, rfl⟩, _⟩ := e; exact (BK p1).2) Ae1.out.1).mono ?_
        rintro e w7 ⟨rfl, hd7⟩
        rw [<- hkk]
        have yI := hd7.below w6.heap.size
        have s7 : Cc 227 w6 w7 := Cc.of_below yI
        have B7 := Qs.out.below yI Qs.out.lt
        have HW7 : Hid (MH w7 w.heap.size (.slice (some ⟨g6, 0, none⟩) (way.length + 1) c6) (way ++ [⟨nd, AX name, label, word⟩])) := Aa (by
          obtain ⟨vs', q1, q2⟩ := HW6.out
          exact ⟨vs', Ed q1 (Kept.of_below (r := none) yI) (.inl (by simp [Value.ownBlock])), s7.pls _ _ q2⟩)
        have Ab3 := Aa (s7.rs Ae1.out)
        have Akn := Aa (s7.nd Ae2.out)
        have yJ := Aa (Ae3.out.trans (yI.mono Ae3.out.size))
        have HB7 := Aa B7
        obtain ⟨y0, y1, y2, y3, y4, y5, y6⟩ := DU B7
        have uh : Hid ((if kk < nd.pre.length \/ kk = rest.length then some (way ++ [⟨nd, AX name, label, word⟩], rest) else
            match Nq nd (rest.getD kk 0) with
            | none => some (way ++ [⟨nd, AX name, label, word⟩], rest)
            | some (kid, number) => DD s f kid (rest.drop (kk + 1)) (rest.getD kk 0) (AX name + 8 * number) (way ++ [⟨nd, AX name, label, word⟩])) = Fj s key.data.toList) := Aa (by
          rw [<- mJ.out, DD, if_neg hz, Aez.out, hkk]
          rfl)
        have HKk := Aa hkk
        clear hd7 yI s7 B7 HW6 Ae1 Ae2 Ae3 Qs hkk mJ
        by_cases hs : kk < nd.pre.length \/ kk = rest.length
        · have HR : Hid (Fj s key.data.toList = some (way ++ [⟨nd, AX name, label, word⟩], rest)) := Aa (by rw [<- uh.out, if_pos hs])
          have fin : gW s key.data.toList w (.returned (.tuple #[.slice (some ⟨g6, 0, none⟩) (way.length + 1) c6, .slice A rest.length c, .int .i64 0])) w7 := by
            refine ⟨yJ.out, ?_⟩
            rw [HR.out]
            exact ⟨_, A, c, rfl, HW7.out, Ab3.out, HLe.out.2.1⟩
          have HFin := Aa fin
          clear fin HR uh
          by_cases hs1 : kk < nd.pre.length
          · have t1 : decide ((kk : Int) < (nd.pre.length : Int)) = true := decide_eq_true (by omega)
            have t1' : decide (kk < nd.pre.length) = true := decide_eq_true hs1
            clear hs hs1
            go_wp2_with fail
            refine bodyPost_ret (v := .tuple #[.slice (some ⟨g6, 0, none⟩) (way.length + 1) c6, .slice A rest.length c, .int .i64 0]) (by simp [results, Tryz.results135, go_sem]) rfl HFin.out
          · have t1 : decide ((kk : Int) < (nd.pre.length : Int)) = false := decide_eq_false (by omega)
            have t1' : decide (kk < nd.pre.length) = false := decide_eq_false hs1
            have t2 : ((kk : Int) == (rest.length : Int)) = true := by rw [beq_iff_eq]; omega
            have t2' : (kk == rest.length) = true := by rw [beq_iff_eq]; omega
            clear hs hs1
            go_wp2_with fail
            refine bodyPost_ret (v := .tuple #[.slice (some ⟨g6, 0, none⟩) (way.length + 1) c6, .slice A rest.length c, .int .i64 0]) (by simp [results, Tryz.results135, go_sem]) rfl HFin.out
        · have hs1 : ¬ kk < nd.pre.length := fun e => hs (.inl e)
          have hs2 : kk ≠ rest.length := fun e => hs (.inr e)
          have hkl : kk < rest.length := by have := Es nd.pre rest; rw [<- HKk.out] at this; omega
          have yK := Aa uh.out
          rw [if_neg hs] at yK
          have t1 : decide ((kk : Int) < (nd.pre.length : Int)) = false := decide_eq_false (by omega)
          have t1' : decide (kk < nd.pre.length) = false := decide_eq_false hs1
          have t2 : ((kk : Int) == (rest.length : Int)) = false := by rw [beq_eq_false_iff_ne]; omega
          have t2' : (kk == rest.length) = false := by rw [beq_eq_false_iff_ne]; exact hs2
          obtain ⟨b, off, rfl, hb, hcs⟩ := Ab3.out.1.2 (by omega)
          have hck : w7.cell? ⟨b, off + kk, none⟩ = some (.int .u8 ((rest.getD kk 0).toNat : Int)) := by
            rw [hcs kk hkl, List.getElem?_map, Af hkl, List.getD_eq_getElem?_getD, Af hkl]; rfl
          generalize rest.getD kk 0 = lab at *
          clear hcs uh hs hs1 hs2
          have Ab4 := Aa (fun (W : World) (hW : Below w7.heap.size w7 W) => Aew ((Cc.of_below hW).nd Akn.out) (by omega) (by omega) (by omega) lab)
          have hx1 : (decide ((0 : Int) <= (kk : Int))) = true := decide_eq_true (by omega)
          have hx2 : (decide ((kk : Int) < (rest.length : Int))) = true := decide_eq_true (by omega)
          cases hkd : Nq nd lab with
          | none =>
            have HV := Aa (ug hkd)
            rw [HV.out] at Ab4
            have HR : Hid (Fj s key.data.toList = some (way ++ [⟨nd, AX name, label, word⟩], rest)) := Aa (by rw [<- yK.out, hkd])
            clear hkd yK
            go_wp2_with fail
            go_region_with (go_at_call 174; go_loud (refine (Ab4.out _ ((Dr.drew _).below _)).mono ?_; rintro e w8 ⟨rfl, hb8⟩))
            all_goals (have Xg := ((Dr.drew w7).below w7.heap.size).trans hb8)
            all_goals (have s8 : Cc 227 w7 w8 := Cc.of_below Xg)
            all_goals (have HW8 : Hid (MH w8 w.heap.size (.slice (some ⟨g6, 0, none⟩) (way.length + 1) c6) (way ++ [⟨nd, AX name, label, word⟩])) := Aa (by
              obtain ⟨vs', q1, q2⟩ := HW7.out
              exact ⟨vs', Ed q1 (Kept.of_below (r := none) Xg) (.inl (by simp [Value.ownBlock])), s8.pls _ _ q2⟩))
            all_goals (have Ab5 := Aa (s8.rs Ab3.out))
            all_goals (have Ab6 := Aa (yJ.out.trans (Xg.mono yJ.out.size)))
            all_goals (clear Xg s8 hb8)
            all_goals (go_wp2_with fail)
            all_goals (refine bodyPost_ret (v := .tuple #[.slice (some ⟨g6, 0, none⟩) (way.length + 1) c6, .slice (some ⟨b, off, none⟩) rest.length c, .int .i64 0]) (by simp [results, Tryz.results135, go_sem]) rfl ?_)
            all_goals (refine ⟨Ab6.out, ?_⟩)
            all_goals (rw [HR.out])
            all_goals (exact ⟨_, _, c, rfl, HW8.out, Ab5.out, HLe.out.2.1⟩)
          | some kn =>
            obtain ⟨kid, number⟩ := kn
            have HV := Aa (uf hkd)
            rw [HV.out] at Ab4
            have hnum := mG hkd b3
            have Ako : Hid (DD s f kid (rest.drop (kk + 1)) lab (AX name + 8 * number) (way ++ [⟨nd, AX name, label, word⟩]) = Fj s key.data.toList) := Aa (by rw [<- yK.out, hkd])
            have hw1 : IntKind.i64.wrap (8 * (number : Int)) = 8 * (number : Int) := wrap64 _ (by omega) (by omega)
            have hro := PU HX.out Aez.out
            have hw2 : IntKind.i64.wrap (AX name + 8 * (number : Int)) = AX name + 8 * (number : Int) := wrap64 _ (by omega) (by omega)
            have hw3 : IntKind.i64.wrap ((kk : Int) + 1) = (kk : Int) + 1 := wrap64 _ (by omega) (by have := HLe.out; simp at this; omega)
            clear hro
            clear hkd yK
            go_wp2_with fail
            go_region_with (go_at_call 174; go_loud (refine (Ab4.out _ ((Dr.drew _).below _)).mono ?_; rintro e w8 ⟨rfl, hb8⟩))
            all_goals (have Xg := ((Dr.drew w7).below w7.heap.size).trans hb8)
            all_goals (have s8 : Cc 227 w7 w8 := Cc.of_below Xg)
            all_goals (have HW8 : Hid (MH w8 w.heap.size (.slice (some ⟨g6, 0, none⟩) (way.length + 1) c6) (way ++ [⟨nd, AX name, label, word⟩])) := Aa (by
              obtain ⟨vs', q1, q2⟩ := HW7.out
              exact ⟨vs', Ed q1 (Kept.of_below (r := none) Xg) (.inl (by simp [Value.ownBlock])), s8.pls _ _ q2⟩))
            all_goals (have Ab5 := Aa (s8.rs Ab3.out))
            all_goals (have Ab6 := Aa (yJ.out.trans (Xg.mono yJ.out.size)))
            all_goals (have JM := Aa (HB7.out.below Xg HB7.out.lt))
            all_goals (have Akp := (Xg.cell (p := ⟨b, off + kk, none⟩) hb).trans hck)
            all_goals (clear Xg s8 hb8)
            all_goals (clear hck y0 y1 y2 y3 y4 y5 y6)
            all_goals (obtain ⟨y0, y1, y2, y3, y4, y5, y6⟩ := DU JM.out)
            all_goals (have f5 := JM.out.frozen 5)
            all_goals (have f6 := JM.out.frozen 6)
            all_goals (go_wp2_with fail)
            all_goals (go_region)
            all_goals (have B9 := (JM.out.AV 5 (Value.int .u8 (lab.toNat : Int))).AV 6 (Value.int .i64 (AX name + 8 * (number : Int))))
            all_goals (have s9 := (Cc.AV JM.out 5 (Value.int .u8 (lab.toNat : Int))).trans (Cc.AV (JM.out.AV 5 (Value.int .u8 (lab.toNat : Int))) 6 (Value.int .i64 (AX name + 8 * (number : Int)))))
            all_goals (have k9 := (Kept.AV w8 pb 5 (Value.int .u8 (lab.toNat : Int))).trans' (Kept.AV _ pb 6 (Value.int .i64 (AX name + 8 * (number : Int)))))
            all_goals (have Aif := (Ab6.out.setCell (p := ⟨pb, 5, none⟩) hpb (Value.int .u8 (lab.toNat : Int))).setCell (p := ⟨pb, 6, none⟩) hpb (Value.int .i64 (AX name + 8 * (number : Int))))
            all_goals (have hd9 := (Dr.drew ((w8.setCell ⟨pb, 5, none⟩ (Value.int .u8 (lab.toNat : Int))).setCell ⟨pb, 6, none⟩ (Value.int .i64 (AX name + 8 * (number : Int))))).below w.heap.size)
            all_goals (obtain ⟨W9, TQ⟩ : ∃ W9, W9 = World.drew ((w8.setCell ⟨pb, 5, none⟩ (Value.int .u8 (lab.toNat : Int))).setCell ⟨pb, 6, none⟩ (Value.int .i64 (AX name + 8 * (number : Int)))) := ⟨_, rfl⟩)
            all_goals (have HW9 : Hid (MH W9 w.heap.size (.slice (some ⟨g6, 0, none⟩) (way.length + 1) c6) (way ++ [⟨nd, AX name, label, word⟩])) := Aa (by
              obtain ⟨vs', q1, q2⟩ := HW8.out
              rw [TQ]
              exact ⟨vs', Ed q1 k9 (.inl (by simp [Value.ownBlock, Aie.out])), (s9.trans (Cc.of_below ((Dr.drew _).below _))).pls _ _ q2⟩))
            all_goals (have Akq : Hid (OI W9 w.heap.size (some ⟨b, off, none⟩) rest) := Aa (by rw [TQ]; exact s9.rs Ab5.out))
            all_goals (have Aig : Hid (Below w.heap.size w W9) := Aa (by rw [TQ]; exact Aif.trans hd9))
            all_goals (have Vw : Hid (BH W9 pb 227 [.slice A1 nd.pre.length c1, .int .u64 (nd.val.toNat : Int), .slice A2 nd.labels.length c2, .slice A3 nd.kids.length c3, .int .i64 (AX name), .int .u8 (lab.toNat : Int), .int .i64 (AX name + 8 * (number : Int))]) := Aa (by rw [TQ]; exact B9))
            all_goals (rw [<- TQ])
            all_goals (clear B9 s9 k9 Aif hd9 TQ JM HW8 Ab5 Ab6 y0 y1 y2 y3 y4 y5 y6 f5 f6 Akp)
            all_goals (go_wp2_with fail)
            all_goals (go_quiet (fail))
            all_goals (have ⟨hLf, hLc, hLl⟩ := HLe.out)
            all_goals (go_roundw)
            all_goals first
              | (case measure => (simp [lenOf]; omega))
              | (case rel =>
                 refine ⟨_, _, _, _, _, _, _, _, _, _, _, _, _, _, _, _, _, _, _, _, _, _, _, _, _, _, _, _, _, _, _, _, _, _, _, _, _, _, _, _, _, _, _, _, _, _, _, _, _, _, _, _, _, _, _, _, _, _, _, _, _, _, _, _, _, _, _, _, _, _, _, _, _, _, _, _, ?_, rfl⟩
                 refine ⟨f, (if c = kk + 1 then some ⟨b, off, none⟩ else some ⟨b, off + (kk + 1), none⟩), c - (kk + 1), rest.drop (kk + 1), kid, lab, AX name + 8 * (number : Int), way ++ [⟨nd, AX name, label, word⟩], _, _, _, _, _, (by rw [Au]), rfl, Ako.out, (by rw [Au]; omega), (by rw [Au]; omega), (by rw [Az, Au]; simp only [List.length_singleton]; omega), Vw.out, ?_, (by simp [Value.ownBlock, Aie.out]), Akq.out.cut (kk + 1) (by omega) hLc, ?_⟩
                 · first
                   | (have hww := HW9.out; rw [Az]; exact hww)
                   | exact HW9.out
                   | (obtain ⟨vs', q1, q2⟩ := HW9.out; exact ⟨vs', q1, (Cc.of_below ((Dr.one W9 _).below _)).pls _ _ q2⟩)
                 · first
                   | exact Aig.out
                   | exact Aig.out.trans ((Dr.one _ _).below _))
end
structure ui(L:Nat)(pl:Pl):Prop where
 word:∃j:Nat,pl.word=((8*j:Nat):Int)/\j<8*L
 off:∃o:Nat,pl.off=((8*o:Nat):Int)/\o+8<=8*L
 right:BG pl.nd=true
 kids:pl.nd.kids.length<=16
 labels:pl.nd.labels.length<=16
theorem aU{L:Nat}{s:St}(ok:Yq L s.sh)(EU:s.tk.length=s.sh.BQ){name:UInt64}{nd:Nd}(h:Et s name=some nd):
 BG nd=true/\∃o:Nat,AX name=((8*o:Nat):Int)/\o+(if nd.kids.length<=4 then 8 else 32)<=8*L:=by
 unfold Et at h;split at h
 ·cases h
 ·rename_i h0;obtain⟨i,a,hi,ho,hk,hf⟩:=Td h0;split at h
  ·rename_i hd;injection h with h
   subst h;have hd':=hd;unfold GY at hd';simp only [Bool.and_eq_true,decide_eq_true_eq]at hd';have hl:=DY (Ef (wordsAt s.ws ((AX name).toNat/8) (8*AQ (Dc s (AX name)))));rw [hd'.2.2]at hl;have hwl:(wordsAt s.ws ((AX name).toNat/8) (8*AQ (Dc s (AX name)))).length=8*AQ (Dc s (AX name)):=by simp [wordsAt]
   rw [hwl]at hl;refine⟨hd'.2.1,(s.sh.data+1024*i+64*AQ (Dc s (AX name))*a)/8,?_⟩;rw [<-hl];have h1:=ok.fits;have h2:=ok.data;rw [EU]at hi;clear hl hwl hd' hd h0;generalize AQ (Dc s (AX name))=m at*;generalize AX name=off at*;subst ho;rcases hk with rfl| rfl<;>constructor<;>omega
  ·cases h
theorem Ae4{nd:Nd}{lab:UInt8}{kid:UInt64}{number:Nat}(h:Nq nd lab=some (kid,number)):number<(if nd.kids.length<=4 then 8 else 32):=by
 unfold Nq Jj at h;split at h
 ·rename_i i hi;obtain⟨hil,hq,_⟩:=List.findIdx?_eq_some_iff_getElem.1 hi;split at h
  ·rename_i hr;obtain⟨_,_,hlk,hn,_⟩:=(AY _).1 hr;have hlab:lab.toNat<16:=by
    have:=List.all_eq_true.1 hn _ (List.getElem_mem hil);simp only [beq_iff_eq]at hq;unfold Df at this;simp only [decide_eq_true_eq]at this;omega
   injection h with h
   injection h with h1 h2
   subst h2;split
   ·omega
   ·omega
  ·cases h
 ·cases h
theorem Zc{L:Nat}{s:St}(ok:Yq L s.sh)(EU:s.tk.length=s.sh.BQ):∀(f:Nat)(name:UInt64)(rest:List UInt8)(label:UInt8)(word:Int)(way Yw:List Pl)(rest':List UInt8),
 (∃j:Nat,word=((8*j:Nat):Int)/\j<8*L)->(∀pl∈way,ui L pl)->DD s f name rest label word way=some (Yw,rest')->(∀pl∈Yw,ui L pl)/\rest'.length<=rest.length
 | 0,name,rest,label,word,way,Yw,rest',hw,hp,h=>by
   rw [DD]at h;injection h with h
   injection h with h1 h2
   subst h1 h2;exact⟨hp,Ad _⟩
 | f+1,name,rest,label,word,way,Yw,rest',hw,hp,h=>by
   rw [DD]at h;split at h
   ·injection h with h
    injection h with h1 h2
    subst h1 h2;exact⟨hp,Ad _⟩
   ·split at h
    ·cases h
    ·rename_i nd hr;obtain⟨hR,o,ho,hfit⟩:=aU ok EU hr;obtain⟨b1,b2,b3⟩:=Ez hr;have hpl:∀pl∈way++[⟨nd,AX name,label,word⟩],ui L pl:=by
      intro pl hm;rcases List.mem_append.1 hm with hm| hm
      ·exact hp pl hm
      ·rw [BM]at hm;subst hm;exact⟨hw,⟨o,ho,by split at hfit<;>omega⟩,hR,b2,b3⟩
     split at h
     ·injection h with h
      injection h with h1 h2
      subst h1 h2;exact⟨hpl,Ad _⟩
     ·split at h
      ·injection h with h
       injection h with h1 h2
       subst h1 h2;exact⟨hpl,Ad _⟩
      ·rename_i kid number hkd;have hk:=Ae4 hkd;obtain⟨q1,q2⟩:=Zc ok EU f kid _ _ _ _ Yw rest' ⟨o+number,by rw [ho];omega,by omega⟩ hpl h;refine⟨q1,?_⟩;rw [Au]at q2;omega
theorem Qv{L:Nat}{s:St}(ok:Yq L s.sh)(l0:1<L)(EU:s.tk.length=s.sh.BQ){key:List UInt8}{way:List Pl}{rest:List UInt8}(h:Fj s key=some (way,rest)):(∀pl∈way,ui L pl)/\rest.length<=2*key.length:=by
 have:=Zc ok EU _ _ _ _ _ _ _ _ ⟨9,rfl,by omega⟩ (by intro pl h;cases h) h;rw [Xf]at this;exact this
theorem PV:∀(a b:List UInt8),common a b=a.length->common a b=b.length->a=b:=by
 intro a b h1 h2;induction a generalizing b with
 | nil=>cases b with
   | nil=>rfl
   | cons y t=>simp [common]at h2
 | cons x t ih=>cases b with
   | nil=>simp [common]at h1
   | cons y t'=>
     simp only [common]at h1 h2;split at h1
     ·rename_i e;rw [if_pos e]at h2;simp only [Bh]at h1 h2;rw [ih t' (by omega) (by omega)]
      simp_all
     ·simp at h1
def zv(k:Int):Value:= .int .i64 k
structure Nv(w:World)(base jb x d p L:Nat)(j:Jb)(F:Nat->Prop)(v:Value):Prop where
 ix:Ix w x d p L j.s F
 box:BH w jb 235 [.pointer (some ⟨x,0,none⟩),v]
 row:w.ownsRow base 3 1 v j.made.length (j.made.map zv)
 fj:¬F jb
 bj:base<=jb
 bx:x<base
 bt:0<base/\1<base
 mj:v.ownBlock≠some jb
 mF:∀b,v.ownBlock=some b->¬F b
 mb:∀o∈j.made, -9223372036854775808<=o/\o<=9223372036854775807
def EW(w:World)(base jb x d p L:Nat)(j:Jb)(G:Nat->Prop):Prop:=∃F v,Nv w base jb x d p L j F v/\∀b,G b<->(F b\/b=jb\/v.ownBlock=some b)
section
variable{w w':World}{base jb x d p L:Nat}{j:Jb}{F G:Nat->Prop}{v:Value}
theorem Nv.xj(h:Nv w base jb x d p L j F v):x≠jb:=by have:=h.bj;have:=h.bx;omega
theorem Nv.mlt(h:Nv w base jb x d p L j F v):∀b,v.ownBlock=some b->base<=b/\b<w.heap.size:=by
 intro b hb;rcases h.row.2 with⟨h1,_⟩| ⟨g,cap,cur,h1,h2,h3,_⟩
 ·subst h1;simp [Value.ownBlock]at hb
 ·subst h1;simp only [Value.ownBlock,Option.some.injEq]at hb;subst hb;exact⟨h2,(Array.getElem?_eq_some_iff.1 h3).1⟩
theorem Nv.mx(h:Nv w base jb x d p L j F v):v.ownBlock≠some x:=fun e=>by have:=(h.mlt x e).1;have:=h.bx;omega
theorem Nv.below(h:Nv w base jb x d p L j F v)(k:Below w.heap.size w w'):Nv w' base jb x d p L j F v:=
 ⟨h.ix.below k,h.box.below k h.box.lt,Ed h.row (Kept.of_below (r:=some jb) k) (.inl (fun e=>h.mj e.symm)),h.fj,h.bj,h.bx,h.bt,h.mj,h.mF,h.mb⟩
theorem EW.below(h:EW w base jb x d p L j G)(k:Below w.heap.size w w'):EW w' base jb x d p L j G:=by
 obtain⟨F,v,h,hG⟩:=h;exact⟨F,v,h.below k,hG⟩
theorem EW.lt(h:EW w base jb x d p L j G):∀b,G b->b<w.heap.size:=by
 obtain⟨F,v,h,hG⟩:=h;intro b hb;rcases(hG b).1 hb with h1| rfl| h1
 ·exact h.ix.sys.lt b h1
 ·exact h.box.lt
 ·exact(h.mlt b h1).2
theorem Nv.move(h:Nv w base jb x d p L j F v)(hG:∀b,G b<->(F b\/b=jb\/v.ownBlock=some b)){s':St}{F':Nat->Prop}(hs:Sys w' d p L s' F')(m:Aq F F' w w'):
 ∃G',Nv w' base jb x d p L {j with s:=s'} F' v/\(∀b,G' b<->(F' b\/b=jb\/v.ownBlock=some b))/\Aq G G' w w':=by
 have hjl:=h.box.lt;refine⟨fun b=>F' b\/b=jb\/v.ownBlock=some b,⟨h.ix.move hs m,h.box.touch m.touch h.fj,Gf h.row m.touch h.mF,fun h'=>(m.own _ h').elim h.fj (fun h''=>by omega),h.bj,h.bx,h.bt,h.mj,fun b hb h'=>(m.own _ h').elim (h.mF b hb) (fun h''=>by have:=(h.mlt b hb).2;omega),h.mb⟩,fun _=>Iff.rfl,m.touch.mono (fun b hb=>(hG b).2 (.inl hb)),fun b hb=> ?_⟩;rcases hb with h1| h1
 ·exact(m.own b h1).imp (fun h2=>(hG b).2 (.inl h2)) id
 ·exact .inl ((hG b).2 (.inr h1))
theorem Nv.app(h:Nv w base jb x d p L j F v)(hG:∀b,G b<->(F b\/b=jb\/v.ownBlock=some b)){o:Int}(ho: -9223372036854775808<=o/\o<=9223372036854775807){g c:Nat}{w1:World}
 (hown:w1.ownsRow base 3 1 (.slice (some ⟨g,0,none⟩) (j.made.length+1) c) (j.made.length+1) (j.made.map zv++[zv o]))(hb:Below base w w1)(hk:Kept w w1 v.ownBlock)(hg:v.ownBlock=some g\/w.heap.size<=g):
 ∃G',Nv (w1.setCell ⟨jb,1,none⟩ (.slice (some ⟨g,0,none⟩) (j.made.length+1) c)) base jb x d p L {j with made:=j.made++[o]} F (.slice (some ⟨g,0,none⟩) (j.made.length+1) c)/\
  (∀b,G' b<->(F b\/b=jb\/(Value.slice (some ⟨g,0,none⟩) (j.made.length+1) c).ownBlock=some b))/\Aq G G' w (w1.setCell ⟨jb,1,none⟩ (.slice (some ⟨g,0,none⟩) (j.made.length+1) c)):=by
 have hjl:=h.box.lt;have hxl:=h.ix.box.lt;have hgj:g≠jb:=by
  rintro rfl;rcases hg with e| e
  ·exact h.mj e
  ·omega
 have hgF:¬F g:=by
  intro hf;rcases hg with e| e
  ·exact h.mF g e hf
  ·have:=h.ix.sys.lt g hf;omega
 have t1:Touch (fun b=>v.ownBlock=some b) w w1:=⟨hb.os,hb.tape,hb.output,hk.1,fun b hb' hn=>hk.2 b hb' (fun e=>hn e.symm)⟩;have t2:Touch (fun b=>b=jb\/v.ownBlock=some b) w (w1.setCell ⟨jb,1,none⟩ (.slice (some ⟨g,0,none⟩) (j.made.length+1) c)):=(t1.mono (fun b=> .inr)).setCell (p:=⟨jb,1,none⟩) (.inl (.inl rfl)) _;have htb:∀{b:Nat},b<base->¬(b=jb\/v.ownBlock=some b):=by
  intro b hb' e;rcases e with rfl| e
  ·have:=h.bj;omega
  ·have:=(h.mlt b e).1;omega
 have hs:Sys (w1.setCell ⟨jb,1,none⟩ (.slice (some ⟨g,0,none⟩) (j.made.length+1) c)) d p L j.s F:=h.ix.sys.keep t2 (fun b hb' hn=>hn.elim (fun e=>h.fj (e▸hb')) (fun e=>h.mF b e hb')) (htb h.bt.1) (htb h.bt.2);have hB1:BH w1 jb 235 [.pointer (some ⟨x,0,none⟩),v]:=(hk.2 jb hjl (fun e=>h.mj e.symm)).trans h.box;refine⟨fun b=>F b\/b=jb\/(Value.slice (some ⟨g,0,none⟩) (j.made.length+1) c).ownBlock=some b,⟨⟨hs,h.ix.box.touch t2 (fun e=>e.elim h.xj h.mx),h.ix.out⟩,hB1.AV 1 _,?_,h.fj,h.bj,h.bx,h.bt,by simp [Value.ownBlock,hgj],?_,?_⟩,fun _=>Iff.rfl,?_⟩
 ·have:=Ed hown (Kept.AV w1 jb 1 (.slice (some ⟨g,0,none⟩) (j.made.length+1) c)) (.inl (by simp [Value.ownBlock,Ne.symm hgj]));simpa using this
 ·intro b hb';simp only [Value.ownBlock,Option.some.injEq]at hb';exact hb'▸hgF
 ·intro o' ho';rcases List.mem_append.1 ho' with h1| h1
  ·exact h.mb o' h1
  ·rw [BM]at h1;exact h1▸ho
 ·refine⟨t2.mono (fun b hb'=>(hG b).2 (.inr hb')),fun b hb'=> ?_⟩;rcases hb' with h1| h1| h1
  ·exact .inl ((hG b).2 (.inl h1))
  ·exact .inl ((hG b).2 (.inr (.inl h1)))
  ·simp only [Value.ownBlock,Option.some.injEq]at h1;rcases hg with e| e
   ·exact .inl ((hG b).2 (.inr (.inr (h1▸e))))
   ·exact .inr (h1▸e)
theorem Aq.out{G':Nat->Prop}(m:Aq G G' w w'){b:Nat}(hb:b<w.heap.size)(h:¬G b):¬G' b:=fun h'=>(m.own b h').elim h (fun h''=>by omega)
end
structure It where
 k:ByteArray
 v:UInt64
def yL(a b:It):Bool:=Op.bytesLess a.k.toList b.k.toList
theorem UN:∀(a b:List UInt8),Op.bytesLess a b=false->Op.bytesLess b a=true\/a=b
 | [],[],_=> .inr rfl
 | [],_::_,h=>by simp [Op.bytesLess]at h
 | _::_,[],_=> .inl rfl
 | x::a,y::b,h=>by
   simp only [Op.bytesLess,Bool.or_eq_false_iff,decide_eq_false_iff_not,Bool.and_eq_false_iff,beq_eq_false_iff_ne]at h;obtain⟨h1,h2⟩:=h;simp only [Op.bytesLess,Bool.or_eq_true,decide_eq_true_eq,Bool.and_eq_true,beq_iff_eq,List.cons.injEq];by_cases e:x=y
   ·subst e;have h3:=h2.resolve_left (fun h=>h rfl);rcases UN a b h3 with h4| h4
    ·exact .inl (.inr ⟨rfl,h4⟩)
    ·exact .inr ⟨rfl,h4⟩
   ·refine .inl (.inl ?_);rw [UInt8.lt_iff_toNat_lt]at h1⊢;have:x.toNat≠y.toNat:=fun h=>e (UInt8.toNat_inj.1 h)
    omega
theorem Fa:∀(a:List UInt8),Op.bytesLess a a=false
 | []=>rfl
 | x::a=>by simp [Op.bytesLess,Fa a]
theorem KI:∀(a b c:List UInt8),Op.bytesLess a b=true->Op.bytesLess b c=true->Op.bytesLess a c=true
 | _,[],_,h,_=>by simp [Op.bytesLess]at h
 | _,_::_,[],_,h=>by simp [Op.bytesLess]at h
 | [],_::_,_::_,_,_=>rfl
 | x::a,y::b,z::c,h,k=>by
   simp only [Op.bytesLess,Bool.or_eq_true,decide_eq_true_eq,Bool.and_eq_true,beq_iff_eq]at h k⊢;simp only [UInt8.lt_iff_toNat_lt]at h k⊢;rcases h with h| ⟨rfl,h⟩
   ·rcases k with k| ⟨rfl,k⟩
    ·exact .inl (by omega)
    ·exact .inl h
   ·rcases k with k| ⟨rfl,k⟩
    ·exact .inl k
    ·exact .inr ⟨rfl,KI a b c h k⟩
def Up(l:List It):Prop:=l.Pairwise fun a b=>yL a b=true
structure Wr where
 key:ByteArray
 text:ByteArray
 gone:Bool
def CX(x:Wr):Bool:=decide (x.key.size<=16)&&decide (x.text.size<=40)&&(!x.gone|| decide (x.text.size=0))
def ER(x:Wr)(key:ByteArray):Bool:=Op.bytesLess x.key.toList key.toList
def FI(s:List Wr)(key:ByteArray):Nat:=s.findIdx fun x=> !ER x key
def dF(s:List Wr)(key:ByteArray):Bool:=match s[FI s key]? with
 | some x=>x.key.toList==key.toList
 | none=>false
def Yx(s:List Wr):Prop:=s.Pairwise fun a b=>ER a b.key=true
def IK(s:List Wr)(x:Wr):List Wr×Int:=
 if CX x=false then(s,2)else if dF s x.key then(s.set (FI s x.key) x,0)else if 16<=s.length then(s,3)else
 (s.take (FI s x.key)++x::s.drop (FI s x.key),0)
theorem Xh(s:List Wr)(key:ByteArray):FI s key<=s.length:=List.findIdx_le_length
theorem gX{s:List Wr}{key:ByteArray}{i:Nat}(hi:i<s.length)(h1:ER s[i] key=false)(h2:∀j(h:j<s.length),j<i->ER s[j] key=true):FI s key=i/\dF s key=(s[i].key.toList==key.toList):=by
 have h:FI s key=i:=by
  unfold FI;rw [List.findIdx_eq hi];exact⟨by rw [h1];rfl,fun j hj=>by rw [h2 j (by omega) hj];rfl⟩
 refine⟨h,?_⟩;unfold dF;rw [h,Af hi]
theorem yM{s:List Wr}{key:ByteArray}(h2:∀j(h:j<s.length),ER s[j] key=true):FI s key=s.length/\dF s key=false:=by
 have h:FI s key=s.length:=by
  unfold FI;rw [List.findIdx_eq_length];intro x hx;obtain⟨j,hj,rfl⟩:=Ci hx;rw [h2 j hj];rfl
 refine⟨h,?_⟩;unfold dF;rw [h,List.getElem?_eq_none (Ad _)]
theorem yN{s:List Wr}{key:ByteArray}(h:dF s key=true):FI s key<s.length:=by
 unfold dF at h;cases hg:s[FI s key]? with
 | none=>rw [hg]at h;cases h
 | some x=>exact(List.getElem?_eq_some_iff.1 hg).1
theorem mO{s:List Wr}{key:ByteArray}(j:Nat)(h:j<s.length)(hj:j<FI s key):ER s[j] key=true:=by
 unfold FI at hj;have:=List.not_of_lt_findIdx hj;simpa using this
theorem uj{s:List Wr}{key:ByteArray}(h:FI s key<s.length):ER s[FI s key] key=false:=by
 have h1:(!ER s[FI s key] key)=true:=List.findIdx_getElem (xs:=s) (p:=fun x=> !ER x key) (w:=h);cases h2:ER s[FI s key] key with
 | false=>rfl
 | true=>rw [h2]at h1;cases h1
theorem Yx.lt{s:List Wr}(h:Yx s){i j:Nat}(hi:i<s.length)(hj:j<s.length)(hij:i<j):ER s[i] s[j].key=true:=by
 unfold Yx at h;exact List.pairwise_iff_getElem.1 h i j hi hj hij
theorem Yx.left{s:List Wr}(h:Yx s){key:ByteArray}{i:Nat}(hi:i<s.length)(h1:ER s[i] key=true):∀j(hj:j<s.length),j<i+1->ER s[j] key=true:=fun j hj hji=>by
 by_cases e:j=i
 ·subst e;exact h1
 ·exact KI _ _ _ (h.lt hj hi (by omega)) h1
theorem Yx.right{s:List Wr}(h:Yx s){key:ByteArray}{i:Nat}(hi:i<s.length)(h1:ER s[i] key=false):∀j(hj:j<s.length),i<=j->ER s[j] key=false:=fun j hj hij=>by
 by_cases e:j=i
 ·subst e;exact h1
 ·cases h2:ER s[j] key with
  | false=>rfl
  | true=>rw [show ER s[i] key=true from KI _ _ _ (h.lt hi hj (by omega)) h2]at h1;cases h1
theorem Ab7{s:List Wr}(h:Yx s)(x:Wr):Yx (IK s x).1:=by
 unfold IK;split
 ·exact h
 ·split
  ·rename_i h1;have hlt:=yN h1;have he:s[FI s x.key].key.toList=x.key.toList:=by
    unfold dF at h1;rw [Af hlt]at h1;exact eq_of_beq h1
   generalize FI s x.key=k at hlt he;unfold Yx;rw [List.pairwise_iff_getElem];intro i j hi hj hij;simp only [List.length_set]at hi hj;rw [Je,Je];have h0:=h.lt hi hj hij;split
   ·rename_i e1;subst e1;rw [if_neg (by omega)];unfold ER at h0⊢;rw [<-he];exact h0
   ·split
    ·rename_i e1 e2;subst e2;unfold ER at h0⊢;rw [<-he];exact h0
    ·exact h0
  ·split
   ·exact h
   ·rename_i h1 h2;have hi0:dF s x.key=false:=by simpa using h1
    obtain⟨k,hk⟩:∃k,FI s x.key=k:=⟨_,rfl⟩;have hle:=Xh s x.key;have hl:∀j(h:j<s.length),j<k->ER s[j] x.key=true:=fun j h hj=>mO j h (hk▸hj)
    have hr:∀j(h:j<s.length),k<=j->Op.bytesLess x.key.toList s[j].key.toList=true:=fun j hj hkj=>by
     have hlt:k<s.length:=by omega
     have h3:ER s[k] x.key=false:=by
      have:=uj (s:=s) (key:=x.key) (by omega);simpa only [hk]using this
     have h4:(s[k].key.toList==x.key.toList)=false:=by
      have h5:dF s x.key=_:=(gX hlt h3 hl).2;rw [<-h5];exact hi0
     have h5:Op.bytesLess x.key.toList s[k].key.toList=true:=(UN _ _ h3).resolve_right (by rw [beq_eq_false_iff_ne]at h4;exact h4);by_cases e:j=k
     ·subst e;exact h5
     ·exact KI _ _ _ h5 (h.lt hlt hj (by omega))
    rw [hk]at hle⊢;refine List.pairwise_append.2 ⟨List.Pairwise.sublist (List.take_sublist _ _) h,List.pairwise_cons.2 ⟨fun b hb=> ?_,List.Pairwise.sublist (List.drop_sublist _ _) h⟩,fun a ha b hb=> ?_⟩
    ·obtain⟨j,hj,rfl⟩:=Ci hb;simp only [Au]at hj;rw [Vj];exact hr _ (by omega) (by omega)
    ·obtain⟨i,hi,rfl⟩:=Ci ha;simp only [Dt]at hi;rw [List.getElem_take];rcases List.mem_cons.1 hb with rfl| hb
     ·exact hl i (by omega) (by omega)
     ·obtain⟨j,hj,rfl⟩:=Ci hb;simp only [Au]at hj;rw [Vj];exact h.lt (by omega) (by omega) (by omega)
theorem yO(s:List Wr)(x:Wr):(IK s x).1.length<=max s.length 16:=by
 unfold IK;split
 ·simp;omega
 ·split
  ·simp;omega
  ·split
   ·simp;omega
   ·have:=Xh s x.key;simp only [Az,Dt,Bh,Au];omega
theorem mQ{s:List Wr}(h:∀y∈s,CX y=true)(x:Wr):∀y∈(IK s x).1,CX y=true:=by
 unfold IK;split
 ·exact h
 ·rename_i h0;have hx:CX x=true:=by simpa using h0
  split
  ·intro y hy;rcases List.mem_or_eq_of_mem_set hy with h1| h1
   ·exact h y h1
   ·rw [h1];exact hx
  ·split
   ·exact h
   ·intro y hy;rcases List.mem_append.1 hy with h1| h1
    ·exact h y (List.mem_of_mem_take h1)
    ·rcases List.mem_cons.1 h1 with h1| h1
     ·rw [h1];exact hx
     ·exact h y (List.mem_of_mem_drop h1)
def gY(r:Rc):Value:= .agg #[.int .u64 (r.stamp.toNat:Int),.int .u64 (r.next.toNat:Int),.bool r.gone,.string r.text]
theorem Xi(s:ByteArray):(s.toList==[])=decide (s.size=0):=by
 rw [ByteArray.toList_eq];have h:s.size=s.data.toList.length:=rfl;cases hh:s.data.toList with
 | nil=>rw [h,hh];rfl
 | cons a l=>rw [h,hh];rfl
theorem yP(r:Rc)(w:World)(hs:r.text.size<=4294967296):Calls Tryz.prog 176 #[gY r] w fun e w'=>e= .returned (.bool (DK r))/\Below w.heap.size w w':=by
 obtain⟨st,nx,g,tx⟩:=r;simp only [gY];obtain⟨W,hW⟩:∃W,W=w.alloc (.cells #[.int .u64 (st.toNat:Int),.int .u64 (nx.toNat:Int),.bool g,.string tx] 89):=⟨_,rfl⟩;have B:BH W w.heap.size 89 [.int .u64 (st.toNat:Int),.int .u64 (nx.toNat:Int),.bool g,.string tx]:=hW▸heap_alloc_new _ _;have hb:Below w.heap.size w W:=hW▸(Below.refl _ _).alloc (Ad _) _;obtain⟨y0,y1,y2,y3,_,_,_,_⟩:=Cb B;have HB:=Aa hb;rw [hW]at y0 y1 y2 y3 HB;have e4:=Xi tx;have E4:=Aa e4;clear B hb hW e4;by_cases h1:st.toNat=0
 ·have t1:((st.toNat:Int)==0)=true:=by rw [h1];rfl
  have HV:Hid (DK ⟨st,nx,g,tx⟩=false):=Aa (by simp [DK,h1]);clear h1;go_enter Tryz.func176,Tryz.ntmps176
  go_wp2_with fail
  go_ret;exact⟨by rw [HV.out];rfl,HB.out⟩
 ·have t1:((st.toNat:Int)==0)=false:=by rw [beq_eq_false_iff_ne];omega
  have u1:(st.toNat==0)=false:=by rw [beq_eq_false_iff_ne];exact h1
  by_cases h2:40<tx.size
  ·have t2:decide ((40:Int)<(tx.size:Int))=true:=decide_eq_true (by omega);have HV:Hid (DK ⟨st,nx,g,tx⟩=false):=Aa (by simp [DK,u1];omega);clear h1 u1;go_enter Tryz.func176,Tryz.ntmps176
   go_wp2_with fail
   go_ret;exact⟨by rw [HV.out];rfl,HB.out⟩
  ·have t2:decide ((40:Int)<(tx.size:Int))=false:=decide_eq_false (by omega);cases g with
   | false=>
     have HV:Hid (DK ⟨st,nx,false,tx⟩=true):=Aa (by simp [DK,u1];omega);clear h1 u1;go_enter Tryz.func176,Tryz.ntmps176
     go_wp2_with fail
     go_ret;exact⟨by rw [HV.out];rfl,HB.out⟩
   | true=>
     have HV:Hid (DK ⟨st,nx,true,tx⟩=(tx.toList==[])):=Aa (by rw [E4.out];simp [DK,u1];omega);clear h1 u1;go_enter Tryz.func176,Tryz.ntmps176;cases t4:(tx.toList==[])
     all_goals(go_wp2_with fail)
     all_goals(go_ret)
     all_goals(exact⟨by rw [HV.out,t4];rfl,HB.out⟩)
def Ja(w:World)(G:Nat->Prop)(A:Option Addr)(n:Nat)(xs:List Value):Prop:=Rd w A n xs/\(0<n->∀a,A=some a->¬G a.block)
section
variable{w w':World}{G G':Nat->Prop}{A:Option Addr}{n:Nat}{xs:List Value}
theorem Ja.moved(h:Ja w G A n xs)(m:Aq G G' w w'):Ja w' G' A n xs:=by
 obtain⟨⟨h1,h2⟩,h3⟩:=h;refine⟨⟨h1,fun hn=> ?_⟩,fun hn a e=> ?_⟩
 ·obtain⟨b,off,e,hb,hc⟩:=h2 hn;exact⟨b,off,e,Bg hb m.touch.size,fun j hj=>(World.cell?_of_block (w:=w) (m.touch.block b hb (h3 hn _ e))).trans (hc j hj)⟩
 ·obtain⟨b,off,e',hb,hc⟩:=h2 hn;rw [e']at e;injection e with e
  subst e;exact m.out hb (h3 hn _ e')
theorem Ja.below(h:Ja w G A n xs)(k:Below w.heap.size w w'):Ja w' G A n xs:=h.moved (Aq.of_below k)
theorem Ja.mono{F:Nat->Prop}(h:Ja w G A n xs)(k:∀b,b<w.heap.size->F b->G b):Ja w F A n xs:=⟨h.1,fun hn a e hf=>by
 obtain⟨b,off,e',hb,hc⟩:=h.1.2 hn;rw [e']at e;injection e with e
 subst e;exact h.2 hn _ e' (k _ hb hf)⟩
theorem Ja.take(h:Ja w G A n xs)(k:Nat)(hk:k<=n):Ja w G A k (xs.take k):=by
 obtain⟨⟨h1,h2⟩,h3⟩:=h;refine⟨⟨by rw [Dt];omega,fun hn=> ?_⟩,fun hn=>h3 (by omega)⟩;obtain⟨b,off,e,hb,hc⟩:=h2 (by omega);exact⟨b,off,e,hb,fun j hj=>by rw [hc j (by omega),List.getElem?_take,if_pos hj]⟩
theorem Ja.cut{b off c:Nat}(h:Ja w G (some ⟨b,off,none⟩) n xs)(k:Nat)(hk:k<=n)(hc:n<=c):Ja w G (if c=k then some ⟨b,off,none⟩else some ⟨b,off+k,none⟩) (n-k) (xs.drop k):=by
 obtain⟨⟨h1,h2⟩,h3⟩:=h;by_cases hn:k=n
 ·refine⟨⟨by rw [Au];omega,fun hn'=>by omega⟩,fun hn'=>by omega⟩
 ·rw [if_neg (by omega)];refine⟨⟨by rw [Au];omega,fun hn'=> ?_⟩,fun hn' a e=> ?_⟩
  ·obtain⟨b',off',e,hb,hcc⟩:=h2 (by omega);injection e with e
   injection e with e1 e2
   subst e1 e2;exact⟨_,_,rfl,hb,fun j hj=>by rw [VM,hcc (k+j) (by omega),Cf]⟩
  ·injection e with e
   subst e;exact h3 (by omega) ⟨b,off,none⟩ rfl
theorem Ja.KY{base c:Nat}{e:TypeId}(h:w.ownsRow base e 1 (.slice A n c) n xs)(hG:∀b,base<=b->b<w.heap.size->¬G b):Ja w G A n xs:=by
 refine⟨(BK h).2,fun hn a ea=> ?_⟩;rcases h.2 with⟨h1,_⟩| ⟨g',cap,cur,h1,h2,h3,_⟩
 ·simp only [Value.slice.injEq]at h1;rw [h1.1]at ea;cases ea
 ·simp only [Value.slice.injEq]at h1;rw [h1.1]at ea;injection ea with ea
  subst ea;exact hG _ h2 (Array.getElem?_eq_some_iff.1 h3).1
theorem Ja.nil:Ja w G A 0 []:=⟨Rd.nil,fun h=>absurd h (by omega)⟩
end
def Xj(w:World)(G:Nat->Prop)(a b c d:Value)(nd:Nd):Prop:=
 ∃A1 c1 A2 c2 A3 c3,a= .slice A1 nd.pre.length c1/\b= .int .u64 (nd.val.toNat:Int)/\c= .slice A2 nd.labels.length c2/\d= .slice A3 nd.kids.length c3/\nd.pre.length<=c1/\
  Ja w G A1 nd.pre.length (nd.pre.map bv)/\Ja w G A2 nd.labels.length (nd.labels.map bv)/\Ja w G A3 nd.kids.length (nd.kids.map wv)
theorem Xj.moved{w w':World}{G G':Nat->Prop}{a b c d:Value}{nd:Nd}(h:Xj w G a b c d nd)(m:Aq G G' w w'):Xj w' G' a b c d nd:=by
 obtain⟨A1,c1,A2,c2,A3,c3,e1,e2,e3,e4,hc,h1,h2,h3⟩:=h;exact⟨A1,c1,A2,c2,A3,c3,e1,e2,e3,e4,hc,h1.moved m,h2.moved m,h3.moved m⟩
theorem Xj.Aih{w:World}{G:Nat->Prop}{base:Nat}{a b c d:Value}{nd:Nd}(h:UM w base (.agg #[a,b,c,d]) nd)(hG:∀b,base<=b->b<w.heap.size->¬G b):Xj w G a b c d nd:=by
 obtain⟨A1,c1,A2,c2,A3,c3,e,h1,h2,h3⟩:=h;simp only [Value.agg.injEq]at e;simp at e;obtain⟨rfl,rfl,rfl,rfl⟩:=e;exact⟨A1,c1,A2,c2,A3,c3,rfl,rfl,rfl,rfl,(BK h1).1,Ja.KY h1 hG,Ja.KY h2 hG,Ja.KY h3 hG⟩
theorem Xk{L:Nat}{s s1:St}{c off:Nat}(ok:Yq L s.sh)(EU:s.tk.length=s.sh.BQ)(hc:c=1\/c=2)(h:CJ s c=some (off,s1)):∃o,off=8*o/\o+8*AQ c<=8*L:=by
 unfold CJ at h;split at h
 ·cases h
 ·rename_i i hi;split at h
  ·cases h
  ·rename_i a ha;injection h with h
   injection h with h1 h2
   have hil:=(OG hi).1;have hal:a<Ba c:=by
    unfold Ji at ha;split at ha
    ·exact az ha
    ·cases ha
   unfold Ce at h1;have:=ok.data;have:=ok.fits;rw [EU]at hil;rcases hc with rfl| rfl
   ·refine⟨off/8,?_,?_⟩<;>simp only [AQ,Ba]at* <;>omega
   ·refine⟨off/8,?_,?_⟩<;>simp only [AQ,Ba]at* <;>omega
theorem Qw(x:Nd):CU x=1\/CU x=2:=by unfold CU;split<;>simp
theorem mV(x:Nd):(Du x).length=8*AQ (CU x):=by
 rw [DY];unfold CU;split<;>rfl
theorem Gm(j:Jb)(n:Nd):(D5 j n).1.made.length<=j.made.length+1:=by
 unfold D5;split
 ·simp
 ·split
  ·simp
  ·split;split<;>simp
theorem Na(j:Jb)(n:Nd)(label:UInt8)(kid:UInt64)(e:Int):(Ey j n label kid e).1.made.length<=j.made.length+1:=by
 unfold Ey;split
 ·simp
 ·split
  ·exact Gm _ _
  ·simp
theorem JO:∀(f:Nat)(j:Jb)(l:List UInt8)(value:UInt64),(Ii f j l value).1.made.length<=j.made.length+f
 | 0,j,l,value=>by simp [Ii]
 | f+1,j,l,value=>by
   unfold Ii;split
   ·have:=Gm j ⟨l,value,[],[]⟩;omega
   ·have h1:=JO f j (l.drop 16) value;split;rename_i j1 kid e he;rw [he]at h1;have:=Na j1 ⟨l.take 15,0,[],[]⟩ (l.getD 15 0) kid e;simp only at h1;omega
end Go.Proofs.YtjcppneoncpdbaaGreatDoor
