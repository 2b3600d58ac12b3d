import Derived.Outline
import Derived.Deep.RegionWith
import Derived.Test.YtjcppneoncpdbaaGreatDoorG04
set_option maxHeartbeats 32000000
set_option maxRecDepth 100000
open Nat renaming le_refl->Ae,le_trans->Bf,le_of_lt->Iy,le_of_not_lt->Ac9,zero_add->D6
open List renaming getElem?_eq_getElem->Ag,getElem?_set->GV,set_set_perm->yZ,getElem?_eq_none->Ff,getElem?_map->BO,map_set->Qj,getElem?_cons_zero->Ad,length_append->AQ,length_singleton->Lc
open Go.Lib renaming hid->Aa
open Option renaming map_some->Dw
open Go.Value renaming ownBlock->AX
namespace Go.Proofs.YtjcppneoncpdbaaGreatDoor
def RQ(f:Nat->Nat)(i j k:Nat):Nat:=if k=i then f j else if k=j then f i else f k
def J5(f:Nat->Nat)(n:Nat):Prop:=∀k,0<k->k<n->f ((k-1)/2)<=f k
def P7(f:Nat->Nat)(i n:Nat):Prop:=
 (∀k,0<k->k<n->(k-1)/2≠i->f ((k-1)/2)<=f k)/\(0<i->∀k,0<k->k<n->(k-1)/2=i->f ((i-1)/2)<=f k)
def UJ(f:Nat->Nat)(i n:Nat):Prop:=
 (∀k,0<k->k<n->k≠i->f ((k-1)/2)<=f k)/\(0<i->∀k,0<k->k<n->(k-1)/2=i->f ((i-1)/2)<=f k)
theorem pF{f:Nat->Nat}{n:Nat}(h:J5 f n):∀k,k<n->f 0<=f k:=by
 intro k;induction k using Nat.strongRecOn with
 | ind k ih=>
   intro hk;by_cases h0:k=0
   ·subst h0;exact Ae _
   ·exact Bf (ih ((k-1)/2) (by omega) (by omega)) (h k (by omega) hk)
theorem Zb{f:Nat->Nat}{n:Nat}(h:J5 f (n+1)):P7 (RQ f 0 n) 0 n:=by
 refine⟨fun k h0 hk hp=> ?_,fun h=>absurd h (by omega)⟩;have:=h k h0 (by omega);unfold RQ;rw [if_neg hp,if_neg (by omega),if_neg (by omega),if_neg (by omega)];exact this
theorem P8{f:Nat->Nat}{i j n:Nat}(h:P7 f i n)(hj0:0<j)(hjn:j<n)(hji:(j-1)/2=i)(hmin:∀k,0<k->k<n->(k-1)/2=i->f j<=f k)(hlt:f j<f i):P7 (RQ f i j) j n:=by
 obtain⟨ha,hb⟩:=h;have hij:i<j:=by omega
 refine⟨fun k h0 hk hp=> ?_,fun _ k h0 hk hp=> ?_⟩
 ·unfold RQ;by_cases c1:k=i
  ·subst c1;rw [if_neg (by omega),if_neg (by omega),if_pos rfl];exact hb h0 j hj0 hjn hji
  ·by_cases c2:k=j
   ·subst c2;rw [if_pos hji,if_neg (by omega),if_pos rfl];exact Iy hlt
   ·by_cases c3:(k-1)/2=i
    ·rw [if_pos c3,if_neg c1,if_neg c2];exact hmin k h0 hk c3
    ·rw [if_neg c3,if_neg hp,if_neg c1,if_neg c2];exact ha k h0 hk c3
 ·unfold RQ;rw [hji,if_pos rfl,if_neg (by omega),if_neg (by omega)];have:=ha k h0 hk (by omega);rw [hp]at this;exact this
theorem NS{f:Nat->Nat}{i n:Nat}(h:P7 f i n)(he:∀k,0<k->k<n->(k-1)/2=i->f i<=f k):J5 f n:=by
 intro k h0 hk;by_cases c:(k-1)/2=i
 ·rw [c];exact he k h0 hk c
 ·exact h.1 k h0 hk c
theorem jk{f:Nat->Nat}{i j n:Nat}(h:UJ f j n)(hj0:0<j)(hjn:j<n)(hji:(j-1)/2=i)(hlt:f j<f i):UJ (RQ f i j) i n:=by
 obtain⟨ha,hb⟩:=h;have hij:i<j:=by omega
 refine⟨fun k h0 hk hp=> ?_,fun hi k h0 hk hp=> ?_⟩
 ·unfold RQ;by_cases c2:k=j
  ·subst c2;rw [if_pos hji,if_neg (by omega),if_pos rfl];exact Iy hlt
  ·by_cases c3:(k-1)/2=i
   ·rw [if_pos c3,if_neg hp,if_neg c2];have:=ha k h0 hk c2;rw [c3]at this;omega
   ·by_cases c4:(k-1)/2=j
    ·rw [if_neg c3,if_pos c4,if_neg hp,if_neg c2];have:=hb hj0 k h0 hk c4;rw [hji]at this;exact this
    ·rw [if_neg c3,if_neg c4,if_neg hp,if_neg c2];exact ha k h0 hk c2
 ·unfold RQ;have hpi:=ha i hi (by omega) (by omega);by_cases c2:k=j
  ·subst c2;rw [if_neg (by omega),if_neg (by omega),if_neg (by omega),if_pos rfl];exact hpi
  ·rw [if_neg (by omega),if_neg (by omega),if_neg (by omega),if_neg c2];have:=ha k h0 hk c2;rw [hp]at this;exact Bf hpi this
theorem XL{f:Nat->Nat}{j n:Nat}(h:UJ f j n)(he:0<j->f ((j-1)/2)<=f j):J5 f n:=by
 intro k h0 hk;by_cases c:k=j
 ·subst c;exact he h0
 ·exact h.1 k h0 hk c
section
variable{α:Type}
def EM(key:α->Nat)(l:List α)(k:Nat):Nat:=(l[k]?.map key).getD 0
def JE(l:List α)(i j:Nat):List α:=match l[i]?,l[j]? with
 | some a,some b=>(l.set i b).set j a
 | _,_=>l
theorem Uk(l:List α)(i j:Nat)(hi:i<l.length)(hj:j<l.length):JE l i j=(l.set i l[j]).set j l[i]:=by
 simp [JE,Ag hi,Ag hj]
theorem P9(l:List α)(i j:Nat):(JE l i j).length=l.length:=by
 unfold JE;split<;>simp
theorem OA(l:List α)(i j:Nat)(hi:i<l.length)(hj:j<l.length)(k:Nat):(JE l i j)[k]? =if k=i then l[j]? else if k=j then l[i]? else l[k]? :=by
 rw [Uk l i j hi hj,GV,GV];simp only [List.length_set];by_cases c1:k=i
 ·subst c1;by_cases c2:j=k
  ·subst c2;simp [hj]
  ·rw [if_neg c2];simp [hi,hj]
 ·by_cases c2:k=j
  ·subst c2;simp [hi,hj,c1]
  ·rw [if_neg (fun e=>c2 e.symm),if_neg (fun e=>c1 e.symm),if_neg c1,if_neg c2]
theorem OB(key:α->Nat)(l:List α)(i j:Nat)(hi:i<l.length)(hj:j<l.length):EM key (JE l i j)=RQ (EM key l) i j:=by
 funext k;unfold EM RQ;rw [OA l i j hi hj];by_cases c1:k=i
 ·rw [if_pos c1,if_pos c1]
 ·rw [if_neg c1,if_neg c1];by_cases c2:k=j
  ·rw [if_pos c2,if_pos c2]
  ·rw [if_neg c2,if_neg c2]
theorem Nu(l:List α)(i j:Nat):(JE l i j).Perm l:=by
 by_cases hi:i<l.length
 ·by_cases hj:j<l.length
  ·rw [Uk l i j hi hj];rcases Nat.lt_trichotomy i j with h| h| h
   ·exact yZ hi hj
   ·subst h;simp
   ·exact yZ hi hj
  ·simp [JE,Ff (Ac9 hj)]
 ·simp [JE,Ff (Ac9 hi)]
end
open Go.RowKit
def iv(k:Nat):Value:= .int .i64 (k:Int)
theorem pG(A:Option Addr)(n c:Nat)(w:World)(_:n<=1000000):Calls Tryz.prog 124 #[.slice A n c] w fun e w'=>e= .returned (.int .i64 (n:Int))/\w=w':=by
 go_enter Tryz.func124,Tryz.ntmps124;go_wp2;go_ret;exact⟨rfl,rfl⟩
theorem uf(g n c i j:Nat)(l:List Nat)(w:World)(hi:i<n)(hj:j<n)(hn:n<=1000000)(h:Rd w (some ⟨g,0,none⟩) n (l.map iv)):
 Calls Tryz.prog 239 #[.slice (some ⟨g,0,none⟩) n c,.int .i64 (i:Int),.int .i64 (j:Int)] w fun e w'=>e= .returned (.bool (decide (EM id l i<EM id l j)))/\Dr w w':=by
 have hl:l.length=n:=by simpa using h.1
 obtain⟨b,off,e,hb,hc⟩:=h.2 (by omega);injection e with e
 injection e with e1 e2
 subst e1 e2;have c1:=hc i hi;have c2:=hc j hj;rw [D6,BO,Ag (show i<l.length by omega)]at c1;rw [D6,BO,Ag (show j<l.length by omega)]at c2;have HK:Hid (decide (EM id l i<EM id l j)=decide (l[i]<l[j])):=Aa (by
  simp only [EM,Ag (show i<l.length by omega),Ag (show j<l.length by omega),Dw,id,Option.getD_some])
 rw [HK.out];simp only [Dw,iv]at c1 c2;generalize l[i]=x at*;generalize l[j]=y at*;clear h hc HK;go_enter Tryz.func239,Tryz.ntmps239
 go_wp2_with fail
 go_quiet(fail)
 go_wp2_with fail
 go_ret;exact⟨rfl,_,rfl⟩
theorem dJ(g n c i j base:Nat)(l:List Nat)(w:World)(hi:i<n)(hj:j<n)(hn:n<=1000000)(h:w.ownsRow base 3 1 (.slice (some ⟨g,0,none⟩) n c) n (l.map iv)):
 Calls Tryz.prog 242 #[.slice (some ⟨g,0,none⟩) n c,.int .i64 (i:Int),.int .i64 (j:Int)] w fun e w'=>e= .returned (.tuple #[])/\
  w'.ownsRow base 3 1 (.slice (some ⟨g,0,none⟩) n c) n ((JE l i j).map iv)/\Touch (fun b=>b=g) w w':=by
 have hl:l.length=n:=by simpa using h.1
 obtain⟨_,hr⟩:=Cj h;obtain⟨b,off,e,hb,hc⟩:=hr.2 (by omega);injection e with e
 injection e with e1 e2
 subst e1 e2;have c1:=hc i hi;have c2:=hc j hj;rw [D6,BO,Ag (show i<l.length by omega)]at c1;rw [D6,BO,Ag (show j<l.length by omega)]at c2;simp only [Dw,iv]at c1 c2;have f1:=(QX h hi).2;have f2:=(QX h hj).2;have HO:=Aa h;have HS:Hid (∀W,Dr w W->((W.setCell ⟨g,i,none⟩ (iv l[j])).setCell ⟨g,j,none⟩ (iv l[i])).ownsRow base 3 1 (.slice (some ⟨g,0,none⟩) n c) n ((JE l i j).map iv)/\Touch (fun b=>b=g) w ((W.setCell ⟨g,i,none⟩ (iv l[j])).setCell ⟨g,j,none⟩ (iv l[i]))):=Aa (fun W k=>by
  refine⟨?_,(((Touch.of_below (F:=fun b=>b=g) (k.below _)).setCell (p:=⟨g,i,none⟩) (.inl rfl) _).setCell (p:=⟨g,j,none⟩) (.inl rfl) _)⟩;rw [Uk l i j (by omega) (by omega),Qj,Qj];exact NQ (NQ (own_below h (k.below _)) hi) hj)
 have HS2:Hid (∀W,Dr w W->((W.setCell ⟨g,j,none⟩ (iv l[i])).setCell ⟨g,i,none⟩ (iv l[j])).ownsRow base 3 1 (.slice (some ⟨g,0,none⟩) n c) n ((JE l i j).map iv)/\Touch (fun b=>b=g) w ((W.setCell ⟨g,j,none⟩ (iv l[i])).setCell ⟨g,i,none⟩ (iv l[j]))):=Aa (fun W k=>by
  refine⟨?_,(((Touch.of_below (F:=fun b=>b=g) (k.below _)).setCell (p:=⟨g,j,none⟩) (.inl rfl) _).setCell (p:=⟨g,i,none⟩) (.inl rfl) _)⟩;have e:(l.set i l[j]).set j l[i]=(l.set j l[i]).set i l[j]:=by
   by_cases e:i=j
   ·subst e;rfl
   ·exact List.set_comm _ _ e
  rw [Uk l i j (by omega) (by omega),e,Qj,Qj];exact NQ (NQ (own_below h (k.below _)) hj) hi)
 obtain⟨⟨v1,k1⟩,q1⟩:=QX (NQ (u:=iv l[j]) h hi) hj;obtain⟨⟨v2,k2⟩,q2⟩:=QX (NQ (u:=iv l[i]) h hj) hi;simp only [iv]at HS HS2 k1 k2 q1 q2;generalize l[i]=x at*;generalize l[j]=y at*;clear h hc hr;go_enter Tryz.func242,Tryz.ntmps242
 go_wp2_with fail
 go_region
 all_goals trace_state
 all_goals(go_wp2_with fail)
 all_goals(go_end0)
 all_goals(first
  | exact⟨rfl,HS.out _ (show Dr w w.drew from⟨1,rfl⟩)⟩
  | exact⟨rfl,HS2.out _ (show Dr w w.drew from⟨1,rfl⟩)⟩)
theorem Tryz.Aj8:J4 Tryz.prog 212 3 (.int .i64 0) 1 8:=⟨Tryz.underlying212,by kernel_rfl,rfl⟩
structure Ej(w:World)(B o g c:Nat)(l:List Nat):Prop where
 box:BI w o 212 [.slice (some ⟨g,0,none⟩) l.length c]
 row:w.ownsRow B 3 1 (.slice (some ⟨g,0,none⟩) l.length c) l.length (l.map iv)
 ne:o≠g
 hB:B<=o
 len:l.length<=1000
theorem Ej.mQ{w:World}{B o g c:Nat}{l:List Nat}(h:Ej w B o g c l):B<=g/\g<w.heap.size:=by
 rcases h.row.2 with⟨h',_⟩| ⟨g',cap,cur,hv,hB,hg,_⟩
 ·cases h'
 ·simp only [Value.slice.injEq,Option.some.injEq,Addr.mk.injEq,and_true,true_and]at hv;obtain⟨rfl,rfl⟩:=hv;exact⟨hB,(Array.getElem?_eq_some_iff.1 hg).1⟩
theorem Ej.touch{w w':World}{B o g c:Nat}{l:List Nat}{G:Nat->Prop}(h:Ej w B o g c l)(t:Touch G w w')(h1:¬G o)(h2:¬G g):Ej w' B o g c l:=by
 refine⟨h.box.touch t h1,GY h.row t (fun b hb=> ?_),h.ne,h.hB,h.len⟩;have:g=b:=by simpa [AX]using hb
 subst this;exact h2
theorem Ej.below{w w':World}{B o g c:Nat}{l:List Nat}(h:Ej w B o g c l)(t:Below w.heap.size w w'):Ej w' B o g c l:=
 h.touch (Touch.of_below (F:=fun _=>False) t) id id
theorem assert_int(x:Int)(w:World):(Instr.typeAssert (.iface 3 (.int .i64 x)) 20 3 true).run Tryz.prog w= .ok (.tuple #[.int .i64 x,.bool true]) w:=by kernel_rfl
theorem Ad7{w:World}{B o g c:Nat}{l:List Nat}(s:Nat)(h:Ej w B o g c l)(hl:l.length<1000):
 Calls Tryz.prog 241 #[.pointer (some ⟨o,0,none⟩),.iface 3 (.int .i64 (s:Int))] w fun e w'=>e= .returned (.tuple #[])/\
  ∃g' c',Ej w' B o g' c' (l++[s])/\(g'=g\/w.heap.size<=g')/\Touch (fun b=>b=o\/b=g) w w':=by
 have y0:=h.box.cell 0;have f0:=h.box.frozen 0;have hlt:=h.box.lt;have hrow:=h.row;have hg:=h.mQ;have hBo:=h.hB;have hBs:B<=w.heap.size:=by omega
 have HH:=Aa h;simp only [Ad]at y0;obtain⟨n,hn⟩:∃n,l.length=n:=⟨_,rfl⟩;rw [hn]at hrow y0 hl;clear h;have ta:=assert_int (s:Int);go_enter Tryz.func241,Tryz.ntmps241
 go_wp2_with(at_builtin;go_loud(refine DZ rfl (.tmp 15) (.tmp 17) 212 rfl Tryz.Aj8 w B (.slice (some ⟨g,0,none⟩) n c) n (l.map iv) [iv s] rfl hrow rfl w.heap.size 1 rfl rfl rfl (by decide) (by intro u hu;simp at hu;subst hu;rfl) (by omega) (by decide) hBs ?_;intro g2 c2 w2 hO2 hB2 hK2 hg2;have y2:=(World.cell?_of_block (w:=w) (a:=⟨o,0,none⟩) (hK2.2 o hlt (fun e=>HH.out.ne (by simpa [AX]using e)))).trans y0;have f2:=(World.frozen?_of_block (w:=w) (a:=⟨o,0,none⟩) (hK2.2 o hlt (fun e=>HH.out.ne (by simpa [AX]using e)))).trans f0))
 go_end0;have hon:¬o=g2:=fun e=>by
  rcases hg2 with h| h
  ·exact HH.out.ne (by rw [e];simpa [AX]using h.symm)
  ·omega
 have hT:Touch (fun b=>b=o\/b=g) w (w2.setCell ⟨o,0,none⟩ (.slice (some ⟨g2,0,none⟩) (n+1) c2)):=by
  refine Touch.setCell (w:=w) (w':=w2) ⟨hB2.os,hB2.tape,hB2.output,hK2.1,fun k hk hn=>hK2.2 k hk (fun e=>hn (.inr (by simpa [AX]using e)))⟩ (p:=⟨o,0,none⟩) (.inl (.inl rfl)) _
 have hbx:BI w2 o 212 [.slice (some ⟨g,0,none⟩) l.length c]:=(hK2.2 o hlt (fun e=>HH.out.ne (by simpa [AX]using e))).trans HH.out.box;refine⟨rfl,g2,c2,⟨?_,?_,hon,hBo,by simp;omega⟩,?_,hT⟩
 ·have:=hbx.AU 0 (.slice (some ⟨g2,0,none⟩) (n+1) c2);rw [AQ,hn];exact this
 ·have h1:=hO2;rw [show l.map iv++[iv s]=(l++[s]).map iv by simp]at h1;rw [AQ,hn];refine GY h1 ((Touch.refl (fun b=>b=o) w2).setCell (p:=⟨o,0,none⟩) (.inl rfl) _) (fun b hb e=> ?_);have:g2=b:=by simpa [AX]using hb
  exact hon (by rw [this,e])
 ·rcases hg2 with h| h
  ·left;have:g=g2:=by simpa [AX]using h
   exact this.symm
  ·exact .inr h
theorem Agz{w:World}{B o g c:Nat}{l:List Nat}(s:Nat)(h:Ej w B o g c (l++[s])):
 Calls Tryz.prog 240 #[.pointer (some ⟨o,0,none⟩)] w fun e w'=>e= .returned (.iface 3 (.int .i64 (s:Int)))/\Ej w' B o g c l/\Touch (fun b=>b=o\/b=g) w w':=by
 have hlen:=h.len;rw [AQ,Lc]at hlen;have y0:=h.box.cell 0;have f0:=h.box.frozen 0;have hrow:=h.row;have c1:=(Cj hrow).2.2 (by simp);have hcap:=(Cj hrow).1;rw [AQ,Lc]at hcap;obtain⟨b,off,e,hb,hc⟩:=c1;injection e with e
 injection e with e1 e2
 subst e1 e2;have c2:=hc l.length (by simp);rw [D6,BO,List.getElem?_append_right (Ae _),Nat.sub_self]at c2;simp only [Ad,Dw,iv]at c2;simp only [Ad,AQ,Lc]at y0;obtain⟨n,hn⟩:∃n,l.length=n:=⟨_,rfl⟩;rw [hn]at y0 c2 hcap;have HH:=Aa h;have HN:=Aa hn;rw [hn]at hlen;have hlt:o<w.heap.size:=h.box.lt;clear h hc hrow hn;go_enter Tryz.func240,Tryz.ntmps240;go_wp2;go_ret;refine⟨rfl,⟨?_,?_,HH.out.ne,HH.out.hB,by rw [HN.out];omega⟩,((Touch.refl (fun b=>b=o\/b=g) w).setCell (p:=⟨o,0,none⟩) (.inl (.inl rfl)) _)⟩
 ·have:=HH.out.box.AU 0 (.slice (some ⟨g,0,none⟩) n c);rw [HN.out];exact this
 ·have h1:=HH.out.row;have h2:w.ownsRow B 3 1 (.slice (some ⟨g,0,none⟩) l.length c) l.length (l.map iv):=by
   refine⟨by simp,?_⟩;rcases h1.2 with⟨h',_⟩| ⟨g',cap,cur,hv,hB,hg,hnc,hcm,hcs,ht⟩
   ·cases h'
   ·simp only [AQ,Lc]at hv hnc ht;simp only [Value.slice.injEq,Option.some.injEq,Addr.mk.injEq,and_true,true_and]at hv;obtain⟨rfl,rfl⟩:=hv;refine .inr ⟨g,c,cur,rfl,hB,hg,by omega,hcm,hcs,?_⟩;have:=congrArg (List.take l.length) ht;rw [List.take_take,Nat.min_eq_left (by omega)]at this;simpa using this
  rw [HN.out]at h2⊢;refine GY h2 ((Touch.refl (fun b=>b=o) w).setCell (p:=⟨o,0,none⟩) (.inl rfl) _) (fun b hb e=> ?_);have:g=b:=by simpa [AX]using hb
  exact HH.out.ne (by rw [this,e])
theorem wS(f:Nat)(a:Addr)(w:World):(method (f+1) 169 (.pointer (some a)) "Push").run Tryz.prog w= .ok (241,.pointer (some a)) w:=by kernel_rfl
theorem Aaw(f:Nat)(a:Addr)(w:World):(method (f+1) 169 (.pointer (some a)) "Pop").run Tryz.prog w= .ok (240,.pointer (some a)) w:=by kernel_rfl
theorem pI{P:Program}(t:TypeId)(a:Addr)(x y:String)(w:World):(Builtin.ssaWrapNilChk_ #[t] t #[.pointer (some a),strVal x,strVal y]).run P w= .ok (.pointer (some a)) w:=rfl
theorem XM{P:Program}{t e:TypeId}{name:String}{F:FuncId}{d:TypeDesc}(hu:P.underlying t=some (.pointer e))(_hd:P.underlying e=some d)
 (hm:(P.info? t).map (fun i=>(i.methods.find? (·.name==name)).map (fun m=>(m.path,m.func)))=some (some (#[],some (F,false))))(f:Nat)(a:Addr)(w:World)(v:Value)(hl:(loadVar e a).run P w= .ok v w):
 (method (f+1) t (.pointer (some a)) name).run P w= .ok (F,v) w:=by
 cases hi:P.info? t with
 | none=>simp [hi]at hm
 | some i=>
   rw [hi]at hm;simp only [Dw,Option.some.injEq]at hm;cases hf:i.methods.find? (·.name==name)with
   | none=>simp [hf]at hm
   | some m=>
     rw [hf]at hm;simp only [Dw,Option.some.injEq,Prod.mk.injEq]at hm;obtain⟨h1,h2⟩:=hm;have hr:=run_underlying (P:=P) hu;simp [method,typeInfo,hi,hf,h1,h2,follow,receiverAt,hr,Place.get,pI,asAddr,Sem.run_bind,hl]
theorem XN(o:Nat)(v:Value)(w:World)(h:w.cell? ⟨o,0,none⟩=some v):(loadVar 212 ⟨o,0,none⟩).run Tryz.prog w= .ok v w:=by
 have hu:=run_underlying (P:=Tryz.prog) Tryz.underlying212;simp [loadVar,isAgg,hu,Sem.run_bind,h]
theorem ZR(f o:Nat)(v:Value)(w:World)(h:w.cell? ⟨o,0,none⟩=some v):(method (f+1) 169 (.pointer (some ⟨o,0,none⟩)) "Less").run Tryz.prog w= .ok (239,v) w:=
 XM Tryz.underlying169 Tryz.underlying212 (by kernel_rfl) f _ w v (XN o v w h)
theorem Aax(f o:Nat)(v:Value)(w:World)(h:w.cell? ⟨o,0,none⟩=some v):(method (f+1) 169 (.pointer (some ⟨o,0,none⟩)) "Len").run Tryz.prog w= .ok (124,v) w:=
 XM Tryz.underlying169 Tryz.underlying212 (by kernel_rfl) f _ w v (XN o v w h)
theorem ZT(f o:Nat)(v:Value)(w:World)(h:w.cell? ⟨o,0,none⟩=some v):(method (f+1) 169 (.pointer (some ⟨o,0,none⟩)) "Swap").run Tryz.prog w= .ok (242,v) w:=
 XM Tryz.underlying169 Tryz.underlying212 (by kernel_rfl) f _ w v (XN o v w h)
theorem Ej.swapped{w w':World}{B o g c n i j:Nat}{l:List Nat}(h:Ej w B o g c l)(hl:l.length=n)(hr:w'.ownsRow B 3 1 (.slice (some ⟨g,0,none⟩) n c) n ((JE l i j).map iv))(t:Touch (fun b=>b=g) w w'):Ej w' B o g c (JE l i j):=by
 have hs:=P9 l i j;have hb:=h.box.touch t h.ne;refine⟨by rw [hs];exact hb,by rw [hs,hl];exact hr,h.ne,h.hB,by rw [hs];exact h.len⟩
theorem Ag0{w:World}{B o g c:Nat}{l:List Nat}(j:Nat)(h:Ej w B o g c l)(hj:j<l.length)(hH:UJ (EM id l) j l.length):
 Calls Tryz.prog 168 #[.iface 169 (.pointer (some ⟨o,0,none⟩)),.int .i64 (j:Int)] w fun e w'=>e= .returned (.tuple #[])/\
  ∃l',l'.Perm l/\J5 (EM id l') l.length/\Ej w' B o g c l'/\Touch (fun b=>b=o\/b=g) w w':=by
 obtain⟨n,hn⟩:∃n,l.length=n:=⟨_,rfl⟩;have hn1:=h.len;rw [hn]at hj hH hn1⊢;go_enter Tryz.func168,Tryz.ntmps168
 go_wp2_with fail
 go_loopw [1](fun i wr=>∃k l',k<n/\i= .int .i64 (k:Nat)/\l'.Perm l/\UJ (EM id l') k n/\Ej wr B o g c l'/\Touch (fun b=>b=o\/b=g) w wr)(fun i _=>(intOf i).toNat)
 case atStart=>exact⟨j,l,hj,rfl,List.Perm.refl _,hH,h,Touch.refl _ _⟩
 case round=>
  obtain⟨k,l',hk,rfl,hp,hHk,ho,ht⟩:=hrel;clear h hj hH;have hln:l'.length=n:=by rw [hp.length_eq];exact hn
  by_cases h0:k=0
  ·subst h0
   go_wp2_with fail
   go_end0;exact⟨rfl,l',hp,XL hHk (fun h=>absurd h (by omega)),ho,ht⟩
  ·have zt:=Aa hHk;have HO:=Aa ho;have ZU:=Aa hp;have HT:=Aa ht;have HL:=Aa hln;clear hHk ho hp ht hln hn;obtain⟨i,hi⟩:∃i,(k-1)/2=i:=⟨_,rfl⟩;have hik:i<k:=by omega
   have e1:((k:Int) -1)/2=(i:Int):=by omega
   have t1:((i:Int)==(k:Int))=false:=by rw [beq_eq_false_iff_ne];omega
   have y0:=HO.out.box.cell 0;simp only [Ad,HL.out]at y0;have hrd:=(Cj HO.out.row).2;rw [HL.out]at hrd;have jl:=Aa (uf g n c k i l' wr hk (by omega) (by omega) hrd);have mL:=fun f=>ZR f o _ wr y0
   have hrow:=HO.out.row;rw [HL.out]at hrow;have dH:=Aa hrow;clear hrd hrow;by_cases hlt:EM id l' k<EM id l' i
   ·rw [decide_eq_true hlt]at jl;have HS:=Aa (dJ g n c i k B l' · (by omega) hk (by omega) ·);have H1:=Aa hlt;clear hlt
    go_wp2_with fail
    refine jl.out.mono ?_;rintro e w2⟨rfl,hd⟩;have ho2:=HO.out.below (hd.below _);have z0:=ho2.box.cell 0;simp only [Ad,HL.out]at z0;have mS:=fun f=>ZT f o _ w2 z0
    have hrow2:=ho2.row;rw [HL.out]at hrow2;have HSw:=Aa (dJ g n c i k B l' w2 (by omega) hk (by omega) hrow2);have QW:=Aa ho2;clear mL y0 ho2 hrow2 HS jl
    go_wp2_with fail
    refine HSw.out.mono ?_;rintro e w3⟨rfl,hO3,hT3⟩;have dK:=Aa (QW.out.swapped HL.out hO3 hT3);have HT3:=Aa ((HT.out.trans (Touch.of_below (F:=fun b=>b=o\/b=g) (hd.below _)) (fun b h=> .inl h)).trans (hT3.mono (fun b h=> .inr h)) (fun b h=> .inl h));clear mS z0 hO3 hT3
    go_wp2_with fail
    go_roundw
    case rel=>
     refine⟨i,JE l' i k,by omega,rfl,(Nu _ _ _).trans ZU.out,?_,dK.out,HT3.out⟩;rw [OB id l' i k (by rw [HL.out];omega) (by rw [HL.out];exact hk)];exact jk zt.out (by omega) hk hi H1.out
    case measure=>simp [intOf];omega
   ·rw [decide_eq_false hlt]at jl;have H1:=Aa hlt;clear hlt
    go_wp2_with fail
    refine jl.out.mono ?_;rintro e w2⟨rfl,hd⟩
    go_wp2_with fail
    go_end0;exact⟨rfl,l',ZU.out,XL zt.out (fun _=>by have:=H1.out;rw [<-hi]at this;omega),HO.out.below (hd.below _),HT.out.trans (Touch.of_below (F:=fun b=>b=o\/b=g) (hd.below _)) (fun b h=> .inl h)⟩
section
variable{w:World}{B o g c N:Nat}{l:List Nat}
theorem Ej.jo(h:Ej w B o g c l)(hl:l.length=N):∀f,(method (f+1) 169 (.pointer (some ⟨o,0,none⟩)) "Less").run Tryz.prog w= .ok (239,.slice (some ⟨g,0,none⟩) N c) w:=fun f=>
 ZR f o _ w (by have:=h.box.cell 0;simpa only [Ad,hl]using this)
theorem Ej.Aj9(h:Ej w B o g c l)(hl:l.length=N):∀f,(method (f+1) 169 (.pointer (some ⟨o,0,none⟩)) "Len").run Tryz.prog w= .ok (124,.slice (some ⟨g,0,none⟩) N c) w:=fun f=>
 Aax f o _ w (by have:=h.box.cell 0;simpa only [Ad,hl]using this)
theorem Ej.ug(h:Ej w B o g c l)(hl:l.length=N):∀f,(method (f+1) 169 (.pointer (some ⟨o,0,none⟩)) "Swap").run Tryz.prog w= .ok (242,.slice (some ⟨g,0,none⟩) N c) w:=fun f=>
 ZT f o _ w (by have:=h.box.cell 0;simpa only [Ad,hl]using this)
theorem Ej.less(h:Ej w B o g c l)(hl:l.length=N)(i j:Nat)(hi:i<N)(hj:j<N)(b:Bool)(hb:decide (EM id l i<EM id l j)=b):
 Calls Tryz.prog 239 #[.slice (some ⟨g,0,none⟩) N c,.int .i64 (i:Int),.int .i64 (j:Int)] w fun e w'=>e= .returned (.bool b)/\Dr w w':=by
 subst hl hb;have:=h.len;exact uf g l.length c i j l w hi hj (by omega) (Cj h.row).2
theorem Ej.swap(h:Ej w B o g c l)(hl:l.length=N)(i j:Nat)(hi:i<N)(hj:j<N):
 Calls Tryz.prog 242 #[.slice (some ⟨g,0,none⟩) N c,.int .i64 (i:Int),.int .i64 (j:Int)] w fun e w'=>e= .returned (.tuple #[])/\Ej w' B o g c (JE l i j)/\Touch (fun b=>b=o\/b=g) w w':=by
 subst hl;have:=h.len;refine(dJ g l.length c i j B l w hi hj (by omega) h.row).mono ?_;rintro e w'⟨rfl,h1,h2⟩;exact⟨rfl,h.swapped rfl h1 h2,h2.mono (fun b h=> .inr h)⟩
theorem Aay(n:Nat)(h:Ej w B o g c l)(hl:l.length=N)(hn:n<N)(hH:P7 (EM id l) 0 n):
 Calls Tryz.prog 169 #[.iface 169 (.pointer (some ⟨o,0,none⟩)),.int .i64 0,.int .i64 (n:Int)] w fun e w'=>(∃b,e= .returned (.bool b))/\
  ∃l',l'.Perm l/\J5 (EM id l') n/\(∀k,n<=k->l'[k]? =l[k]?)/\Ej w' B o g c l'/\Touch (fun b=>b=o\/b=g) w w':=by
 have hn1:=h.len;rw [hl]at hn1;go_enter Tryz.func169,Tryz.ntmps169
 go_wp2_with fail
 go_loopw [7](fun i wr=>∃k l',(k=0\/k<n)/\i= .int .i64 (k:Nat)/\l'.Perm l/\P7 (EM id l') k n/\(∀k,n<=k->l'[k]? =l[k]?)/\Ej wr B o g c l'/\Touch (fun b=>b=o\/b=g) w wr)(fun i _=>n- (intOf i).toNat)
 case atStart=>exact⟨0,l,.inl rfl,rfl,List.Perm.refl _,hH,fun _ _=>rfl,h,Touch.refl _ _⟩
 case round=>
  obtain⟨i,l',hi,rfl,hp,hHk,hk,ho,ht⟩:=hrel;have hL:l'.length=N:=by rw [hp.length_eq];exact hl
  have zt:=Aa hHk;have HO:=Aa ho;have ZU:=Aa hp;have HT:=Aa ht;have HK:=Aa hk;have HL:=Aa hL;have iB:i<=n:=by omega
  clear h hH hHk ho hp ht hk hL hl;have t3:decide (2*(i:Int)+1<0)=false:=decide_eq_false (by omega);by_cases h1:n<=2*i+1
  ·have t1:decide ((n:Int)<=2*(i:Int)+1)=true:=decide_eq_true (by omega)
   go_wp2_with fail
   go_ret;exact⟨⟨_,rfl⟩,l',ZU.out,NS zt.out (fun k h0 hk hp=>by omega),HK.out,HO.out,HT.out⟩
  ·have t1:decide ((n:Int)<=2*(i:Int)+1)=false:=decide_eq_false (by omega);obtain⟨j1,hj1⟩:∃j1,2*i+1=j1:=⟨_,rfl⟩;obtain⟨j2,hj2⟩:∃j2,j1+1=j2:=⟨_,rfl⟩;have e1:2*(i:Int)+1=(j1:Int):=by omega
   have e2:(j1:Int)+1=(j2:Int):=by omega
   have t4:decide ((n:Int)<=(j1:Int))=false:=decide_eq_false (by omega);have t5:decide ((j1:Int)<0)=false:=decide_eq_false (by omega);have J1:Hid (2*i+1=j1):=Aa hj1;have J2:Hid (2*i+2=j2):=Aa (by omega);have j1n:j1<n:=by omega
   clear t1 t3 hj1 hj2;by_cases h2:j2<n
   ·have t2:decide ((j2:Int)<(n:Int))=true:=decide_eq_true (by omega);by_cases h4:EM id l' j2<EM id l' j1
    ·have H2:=Aa h4;clear h4;have mL:=HO.out.jo HL.out
     go_wp2_with fail
     refine(HO.out.less HL.out j2 j1 (by omega) (by omega) true (decide_eq_true H2.out)).mono ?_;rintro e w2⟨rfl,hd⟩;have ho2:=HO.out.below (hd.below _);have ht2:=HT.out.trans (Touch.of_below (F:=fun b=>b=o\/b=g) (hd.below _)) (fun b h=> .inl h);have QW:=Aa ho2;have HT2:=Aa ht2;clear ho2 ht2;have mL2:=QW.out.jo HL.out;have hj1:j2<n:=by omega
     have hj2:(j2-1)/2=i:=by have:=J1.out;have:=J2.out;omega
     have HM:Hid (∀k,0<k->k<n->(k-1)/2=i->EM id l' j2<=EM id l' k):=Aa (fun k h0 hk hp=>by
      have hk2:k=j1\/k=j2:=by have:=J1.out;have:=J2.out;omega
      rcases hk2 with rfl| rfl
      ·have:=H2.out;omega
      ·exact Ae _)
     by_cases h3:EM id l' j2<EM id l' i
     ·have H3:=Aa h3;clear h3;clear mL
      go_wp2_with fail
      refine(QW.out.less HL.out j2 i (by omega) (by omega) true (decide_eq_true H3.out)).mono ?_;rintro e w3⟨rfl,hd3⟩;have ho3:=QW.out.below (hd3.below _);have ht3:=HT2.out.trans (Touch.of_below (F:=fun b=>b=o\/b=g) (hd3.below _)) (fun b h=> .inl h);have mS:=ho3.ug HL.out;have dK:=Aa ho3;have HT3:=Aa ht3;clear mL2 ho3 ht3
      go_wp2_with fail
      refine(dK.out.swap HL.out i j2 (by omega) (by omega)).mono ?_;rintro e w4⟨rfl,Z5,ht4⟩;have YT:=Aa Z5;have HT4:=Aa (HT3.out.trans ht4 (fun b h=> .inl h));clear mS Z5 ht4
      go_wp2_with fail
      go_roundw
      case rel=>
       refine⟨j2,JE l' i j2,.inr hj1,rfl,(Nu _ _ _).trans ZU.out,?_,fun k hk=> ?_,YT.out,HT4.out⟩
       ·rw [OB id l' i j2 (by rw [HL.out];omega) (by rw [HL.out];omega)];exact P8 zt.out (by omega) hj1 hj2 HM.out H3.out
       ·rw [OA l' i j2 (by rw [HL.out];omega) (by rw [HL.out];omega),if_neg (by omega),if_neg (by omega)];exact HK.out k hk
      case measure=>simp [intOf];omega
     ·have H3:=Aa h3;clear h3;clear mL
      go_wp2_with fail
      refine(QW.out.less HL.out j2 i (by omega) (by omega) false (decide_eq_false H3.out)).mono ?_;rintro e w3⟨rfl,hd3⟩;have ho3:=QW.out.below (hd3.below _);have ht3:=HT2.out.trans (Touch.of_below (F:=fun b=>b=o\/b=g) (hd3.below _)) (fun b h=> .inl h);clear mL2
      go_wp2_with fail
      go_ret;exact⟨⟨_,rfl⟩,l',ZU.out,NS zt.out (fun k h0 hk hp=>by have:=HM.out k h0 hk hp;have:=H3.out;omega),HK.out,ho3,ht3⟩
    ·have H2:=Aa h4;clear h4;have mL:=HO.out.jo HL.out
     go_wp2_with fail
     refine(HO.out.less HL.out j2 j1 (by omega) (by omega) false (decide_eq_false H2.out)).mono ?_;rintro e w2⟨rfl,hd⟩;have ho2:=HO.out.below (hd.below _);have ht2:=HT.out.trans (Touch.of_below (F:=fun b=>b=o\/b=g) (hd.below _)) (fun b h=> .inl h);have QW:=Aa ho2;have HT2:=Aa ht2;clear ho2 ht2;have mL2:=QW.out.jo HL.out;have hj1:j1<n:=by omega
     have hj2:(j1-1)/2=i:=by have:=J1.out;have:=J2.out;omega
     have HM:Hid (∀k,0<k->k<n->(k-1)/2=i->EM id l' j1<=EM id l' k):=Aa (fun k h0 hk hp=>by
      have hk2:k=j1\/k=j2:=by have:=J1.out;have:=J2.out;omega
      rcases hk2 with rfl| rfl
      ·exact Ae _
      ·have:=H2.out;omega)
     by_cases h3:EM id l' j1<EM id l' i
     ·have H3:=Aa h3;clear h3;clear mL
      go_wp2_with fail
      refine(QW.out.less HL.out j1 i (by omega) (by omega) true (decide_eq_true H3.out)).mono ?_;rintro e w3⟨rfl,hd3⟩;have ho3:=QW.out.below (hd3.below _);have ht3:=HT2.out.trans (Touch.of_below (F:=fun b=>b=o\/b=g) (hd3.below _)) (fun b h=> .inl h);have mS:=ho3.ug HL.out;have dK:=Aa ho3;have HT3:=Aa ht3;clear mL2 ho3 ht3
      go_wp2_with fail
      refine(dK.out.swap HL.out i j1 (by omega) (by omega)).mono ?_;rintro e w4⟨rfl,Z5,ht4⟩;have YT:=Aa Z5;have HT4:=Aa (HT3.out.trans ht4 (fun b h=> .inl h));clear mS Z5 ht4
      go_wp2_with fail
      go_roundw
      case rel=>
       refine⟨j1,JE l' i j1,.inr hj1,rfl,(Nu _ _ _).trans ZU.out,?_,fun k hk=> ?_,YT.out,HT4.out⟩
       ·rw [OB id l' i j1 (by rw [HL.out];omega) (by rw [HL.out];omega)];exact P8 zt.out (by omega) hj1 hj2 HM.out H3.out
       ·rw [OA l' i j1 (by rw [HL.out];omega) (by rw [HL.out];omega),if_neg (by omega),if_neg (by omega)];exact HK.out k hk
      case measure=>simp [intOf];omega
     ·have H3:=Aa h3;clear h3;clear mL
      go_wp2_with fail
      refine(QW.out.less HL.out j1 i (by omega) (by omega) false (decide_eq_false H3.out)).mono ?_;rintro e w3⟨rfl,hd3⟩;have ho3:=QW.out.below (hd3.below _);have ht3:=HT2.out.trans (Touch.of_below (F:=fun b=>b=o\/b=g) (hd3.below _)) (fun b h=> .inl h);clear mL2
      go_wp2_with fail
      go_ret;exact⟨⟨_,rfl⟩,l',ZU.out,NS zt.out (fun k h0 hk hp=>by have:=HM.out k h0 hk hp;have:=H3.out;omega),HK.out,ho3,ht3⟩
   ·have t2:decide ((j2:Int)<(n:Int))=false:=decide_eq_false (by omega);have ho2:=HO.out;have ht2:=HT.out;have QW:=Aa ho2;have HT2:=Aa ht2;clear ho2 ht2;have mL2:=QW.out.jo HL.out;have hj1:j1<n:=by omega
    have hj2:(j1-1)/2=i:=by have:=J1.out;have:=J2.out;omega
    have HM:Hid (∀k,0<k->k<n->(k-1)/2=i->EM id l' j1<=EM id l' k):=Aa (fun k h0 hk hp=>by
     have hk2:k=j1\/k=j2:=by have:=J1.out;have:=J2.out;omega
     rcases hk2 with rfl| rfl
     ·exact Ae _
     ·omega)
    by_cases h3:EM id l' j1<EM id l' i
    ·have H3:=Aa h3;clear h3
     go_wp2_with fail
     refine(QW.out.less HL.out j1 i (by omega) (by omega) true (decide_eq_true H3.out)).mono ?_;rintro e w3⟨rfl,hd3⟩;have ho3:=QW.out.below (hd3.below _);have ht3:=HT2.out.trans (Touch.of_below (F:=fun b=>b=o\/b=g) (hd3.below _)) (fun b h=> .inl h);have mS:=ho3.ug HL.out;have dK:=Aa ho3;have HT3:=Aa ht3;clear mL2 ho3 ht3
     go_wp2_with fail
     refine(dK.out.swap HL.out i j1 (by omega) (by omega)).mono ?_;rintro e w4⟨rfl,Z5,ht4⟩;have YT:=Aa Z5;have HT4:=Aa (HT3.out.trans ht4 (fun b h=> .inl h));clear mS Z5 ht4
     go_wp2_with fail
     go_roundw
     case rel=>
      refine⟨j1,JE l' i j1,.inr hj1,rfl,(Nu _ _ _).trans ZU.out,?_,fun k hk=> ?_,YT.out,HT4.out⟩
      ·rw [OB id l' i j1 (by rw [HL.out];omega) (by rw [HL.out];omega)];exact P8 zt.out (by omega) hj1 hj2 HM.out H3.out
      ·rw [OA l' i j1 (by rw [HL.out];omega) (by rw [HL.out];omega),if_neg (by omega),if_neg (by omega)];exact HK.out k hk
     case measure=>simp [intOf];omega
    ·have H3:=Aa h3;clear h3
     go_wp2_with fail
     refine(QW.out.less HL.out j1 i (by omega) (by omega) false (decide_eq_false H3.out)).mono ?_;rintro e w3⟨rfl,hd3⟩;have ho3:=QW.out.below (hd3.below _);have ht3:=HT2.out.trans (Touch.of_below (F:=fun b=>b=o\/b=g) (hd3.below _)) (fun b h=> .inl h);clear mL2
     go_wp2_with fail
     go_ret;exact⟨⟨_,rfl⟩,l',ZU.out,NS zt.out (fun k h0 hk hp=>by have:=HM.out k h0 hk hp;have:=H3.out;omega),HK.out,ho3,ht3⟩
end
theorem jq(l:List Nat)(s:Nat)(h:J5 (EM id l) l.length):UJ (EM id (l++[s])) l.length (l.length+1):=by
 have key:∀k,k<l.length->EM id (l++[s]) k=EM id l k:=fun k hk=>by simp only [EM,List.getElem?_append_left hk]
 refine⟨fun k h0 hk hne=> ?_,fun h0 k hk0 hk hp=>by omega⟩;rw [key k (by omega),key _ (by omega)];exact h k h0 (by omega)
theorem Aaz{w:World}{B o g c:Nat}{l:List Nat}(s:Nat)(h:Ej w B o g c l)(hl:l.length<1000)(hH:J5 (EM id l) l.length):
 Calls Tryz.prog 123 #[.iface 169 (.pointer (some ⟨o,0,none⟩)),.iface 3 (.int .i64 (s:Int))] w fun e w'=>e= .returned (.tuple #[])/\
  ∃g' c' l',l'.Perm (l++[s])/\J5 (EM id l') l'.length/\Ej w' B o g' c' l'/\(g'=g\/w.heap.size<=g')/\Touch (fun b=>b=o\/b=g) w w':=by
 have mP:=fun f=>wS f ⟨o,0,none⟩ w
 have HS:=Aa (Ad7 s h hl);have HU:=Aa (jq l s hH);have hg:=h.mQ;clear h hH;go_enter Tryz.func123,Tryz.ntmps123
 go_wp2_with fail
 refine HS.out.mono ?_;rintro e w1⟨rfl,g1,c1,ho1,hg1,ht1⟩;have hL:(l++[s]).length=l.length+1:=by simp
 have mL:=ho1.Aj9 hL;have HN:=Aa (pG (some ⟨g1,0,none⟩) (l.length+1) c1 w1 (by omega));have HUp:=Aa (Ag0 l.length ho1 (by omega) (by rw [hL];exact HU.out));have wU:=Aa ho1;have HT1:=Aa ht1;have HG1:=Aa hg1;clear ho1 ht1 hg1 mP HS hL;generalize l.length=n at*
 go_wp2_with fail
 refine HN.out.mono ?_;rintro e w'⟨rfl,rfl⟩
 go_wp2_with fail
 refine HUp.out.mono ?_;rintro e w2⟨rfl,l',hp,hh,ho2,ht2⟩
 go_wp2_with fail
 go_end0;refine⟨rfl,g1,c1,l',hp,by rw [hp.length_eq];exact hh,ho2,HG1.out,HT1.out.trans ht2 (fun b hb=> ?_)⟩;rcases hb with rfl| rfl
 ·exact .inl (.inl rfl)
 ·rcases HG1.out with e| e
  ·exact .inl (.inr e)
  ·exact .inr e
theorem heapPop{w:World}{B o g c n:Nat}{l:List Nat}(h:Ej w B o g c l)(hl:l.length=n+1)(hH:J5 (EM id l) (n+1)):
 Calls Tryz.prog 125 #[.iface 169 (.pointer (some ⟨o,0,none⟩))] w fun e w'=>∃(m:Nat)(l':List Nat),e= .returned (.iface 3 (.int .i64 (m:Int)))/\
  (m::l').Perm l/\(∀x∈l,m<=x)/\J5 (EM id l') n/\Ej w' B o g c l'/\Touch (fun b=>b=o\/b=g) w w':=by
 have hn1:=h.len;have mL:=h.Aj9 hl;have mS:=h.ug hl;have HN:=Aa (pG (some ⟨g,0,none⟩) (n+1) c w (by omega));have HS:=Aa (h.swap hl 0 n (by omega) (by omega));have Ag1:Hid (∀x∈l,EM id l 0<=x):=Aa (fun x hx=>by
  obtain⟨k,hk,rfl⟩:=List.getElem_of_mem hx;have:=pF hH k (by omega);rw [EM,EM,Ag hk]at this;exact this)
 have hk1:P7 (EM id (JE l 0 n)) 0 n:=by
  rw [OB id l 0 n (by omega) (by omega)];exact Zb hH
 have zq:=Aa hk1;have HL:=Aa hl;rw [hl]at hn1;clear h hH hk1 hl;go_enter Tryz.func125,Tryz.ntmps125
 go_wp2_with fail
 refine HN.out.mono ?_;rintro e w'⟨rfl,rfl⟩
 go_wp2_with fail
 refine HS.out.mono ?_;rintro e w1⟨rfl,ho1,ht1⟩;have HD:=Aa (Aay (N:=n+1) n ho1 (by rw [P9];exact HL.out) (by omega) zq.out);have HT1:=Aa ht1;clear mL mS HN HS ho1 ht1
 go_wp2_with fail
 refine HD.out.mono ?_;rintro e w2⟨⟨b,rfl⟩,l2,hp2,hh2,hk2,ho2,ht2⟩;have hl2:l2.length=n+1:=by rw [hp2.length_eq,P9];exact HL.out
 have h0:l2[n]? =some (EM id l 0):=by
  have hll:=HL.out;have hl0:0<l.length:=by omega
  rw [hk2 n (Ae _),OA l 0 n hl0 (by omega)];have hx:l[0]? =some (EM id l 0):=by rw [EM,Ag hl0];rfl
  by_cases e:n=0
  ·subst e;rw [if_pos rfl];exact hx
  ·rw [if_neg e,if_pos rfl];exact hx
 have hsp:l2=l2.take n++[EM id l 0]:=by
  have:=List.take_append_drop n l2;rw [List.drop_eq_getElem_cons (by omega),List.drop_eq_nil_of_le (by omega)]at this;rw [Ag (by omega)]at h0;injection h0 with h0
  rw [h0]at this;exact this.symm
 have wW:=Agz (w:=w2) (B:=B) (o:=o) (g:=g) (c:=c) (l:=l2.take n) (EM id l 0) (hsp▸ho2);have wW:=Aa wW;have mP:=fun f=>Aaw f ⟨o,0,none⟩ w2
 have HSp:=Aa hsp;have HH2:=Aa hh2;have HP2:=Aa hp2;have HL2:=Aa hl2;have HT2:=Aa (HT1.out.trans ht2 (fun b h=> .inl h));clear ho2 ht2 hk2 h0 hsp hh2 hp2 hl2 HD;generalize hm:EM id l 0=m at*
 go_wp2_with fail
 refine wW.out.mono ?_;rintro e w3⟨rfl,ho3,ht3⟩
 go_wp2_with fail
 go_ret;refine⟨m,l2.take n,rfl,?_,Ag1.out,?_,ho3,HT2.out.trans ht3 (fun b h=> .inl h)⟩
 ·have h1:(m::l2.take n).Perm (l2.take n++[m]):=(List.perm_append_singleton m (l2.take n)).symm;rw [<-HSp.out]at h1;exact h1.trans (HP2.out.trans (Nu _ _ _))
 ·intro k h0 hk;have:=HH2.out k h0 hk;have e:∀t,t<n->EM id (l2.take n) t=EM id l2 t:=fun t ht=>by simp only [EM,List.getElem?_take,if_pos ht]
  rw [e _ (by omega),e _ hk];exact this
end Go.Proofs.YtjcppneoncpdbaaGreatDoor
