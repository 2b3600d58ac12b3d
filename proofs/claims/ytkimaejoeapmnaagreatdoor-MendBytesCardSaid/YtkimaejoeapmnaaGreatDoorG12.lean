import Derived.Test.YtkimaejoeapmnaaGreatDoorG06
set_option maxHeartbeats 32000000
set_option maxRecDepth 100000
open Nat renaming le_refl->Ad,le_trans->Bg,le_of_lt->IC,le_of_not_lt->Ahn,zero_add->Dw
open List renaming getElem?_eq_getElem->Af,getElem?_set->Hy,set_set_perm->Adp,getElem?_eq_none->EP,getElem?_map->BZ,map_set->QI,getElem?_cons_zero->Aj,length_append->AQ,length_singleton->Lp
open Go.Lib renaming hid->Aa
open Option renaming map_some->DK
open Go.Value renaming ownBlock->Ba
namespace Go.Proofs.YtkimaejoeapmnaaGreatDoor
def Tn(f:Nat->Nat)(i j k:Nat):Nat:=if k=i then f j else if k=j then f i else f k
def JK(f:Nat->Nat)(n:Nat):Prop:=∀k,0<k->k<n->f ((k-1)/2)<=f k
def PV(f:Nat->Nat)(i n:Nat):Prop:=
 (∀k,0<k->k<n->(k-1)/2≠i->f ((k-1)/2)<=f k)/\(0<i->∀k,0<k->k<n->(k-1)/2=i->f ((i-1)/2)<=f k)
def VE(f:Nat->Nat)(i n:Nat):Prop:=
 (∀k,0<k->k<n->k≠i->f ((k-1)/2)<=f k)/\(0<i->∀k,0<k->k<n->(k-1)/2=i->f ((i-1)/2)<=f k)
theorem uY{f:Nat->Nat}{n:Nat}(h:JK f n):∀k,k<n->f 0<=f k:=by
 intro k;induction k using Nat.strongRecOn with
 | ind k ih=>
   intro hk;by_cases h0:k=0
   ·subst h0;exact Ad _
   ·exact Bg (ih ((k-1)/2) (by omega) (by omega)) (h k (by omega) hk)
theorem aZ{f:Nat->Nat}{n:Nat}(h:JK f (n+1)):PV (Tn f 0 n) 0 n:=by
 refine⟨fun k h0 hk hp=> ?_,fun h=>absurd h (by omega)⟩;have:=h k h0 (by omega);unfold Tn;rw [if_neg hp,if_neg (by omega),if_neg (by omega),if_neg (by omega)];exact this
theorem PW{f:Nat->Nat}{i j n:Nat}(h:PV f i n)(hj0:0<j)(hjn:j<n)(hji:(j-1)/2=i)(hmin:∀k,0<k->k<n->(k-1)/2=i->f j<=f k)(hlt:f j<f i):PV (Tn f i j) j n:=by
 obtain⟨ha,hb⟩:=h;have hij:i<j:=by omega
 refine⟨fun k h0 hk hp=> ?_,fun _ k h0 hk hp=> ?_⟩
 ·unfold Tn;by_cases c1:k=i
  ·subst c1;rw [if_neg (by omega),if_neg (by omega),if_pos rfl];exact hb h0 j hj0 hjn hji
  ·by_cases c2:k=j
   ·subst c2;rw [if_pos hji,if_neg (by omega),if_pos rfl];exact IC hlt
   ·by_cases c3:(k-1)/2=i
    ·rw [if_pos c3,if_neg c1,if_neg c2];exact hmin k h0 hk c3
    ·rw [if_neg c3,if_neg hp,if_neg c1,if_neg c2];exact ha k h0 hk c3
 ·unfold Tn;rw [hji,if_pos rfl,if_neg (by omega),if_neg (by omega)];have:=ha k h0 hk (by omega);rw [hp]at this;exact this
theorem Oe{f:Nat->Nat}{i n:Nat}(h:PV f i n)(he:∀k,0<k->k<n->(k-1)/2=i->f i<=f k):JK f n:=by
 intro k h0 hk;by_cases c:(k-1)/2=i
 ·rw [c];exact he k h0 hk c
 ·exact h.1 k h0 hk c
theorem nH{f:Nat->Nat}{i j n:Nat}(h:VE f j n)(hj0:0<j)(hjn:j<n)(hji:(j-1)/2=i)(hlt:f j<f i):VE (Tn f i j) i n:=by
 obtain⟨ha,hb⟩:=h;have hij:i<j:=by omega
 refine⟨fun k h0 hk hp=> ?_,fun hi k h0 hk hp=> ?_⟩
 ·unfold Tn;by_cases c2:k=j
  ·subst c2;rw [if_pos hji,if_neg (by omega),if_pos rfl];exact IC hlt
  ·by_cases c3:(k-1)/2=i
   ·rw [if_pos c3,if_neg hp,if_neg c2];have:=ha k h0 hk c2;rw [c3]at this;omega
   ·by_cases c4:(k-1)/2=j
    ·rw [if_neg c3,if_pos c4,if_neg hp,if_neg c2];have:=hb hj0 k h0 hk c4;rw [hji]at this;exact this
    ·rw [if_neg c3,if_neg c4,if_neg hp,if_neg c2];exact ha k h0 hk c2
 ·unfold Tn;have hpi:=ha i hi (by omega) (by omega);by_cases c2:k=j
  ·subst c2;rw [if_neg (by omega),if_neg (by omega),if_neg (by omega),if_pos rfl];exact hpi
  ·rw [if_neg (by omega),if_neg (by omega),if_neg (by omega),if_neg c2];have:=ha k h0 hk c2;rw [hp]at this;exact Bg hpi this
theorem Zk{f:Nat->Nat}{j n:Nat}(h:VE f j n)(he:0<j->f ((j-1)/2)<=f j):JK f n:=by
 intro k h0 hk;by_cases c:k=j
 ·subst c;exact he h0
 ·exact h.1 k h0 hk c
section
variable{α:Type}
def Fg(key:α->Nat)(l:List α)(k:Nat):Nat:=(l[k]?.map key).getD 0
def JU(l:List α)(i j:Nat):List α:=match l[i]?,l[j]? with
 | some a,some b=>(l.set i b).set j a
 | _,_=>l
theorem UR(l:List α)(i j:Nat)(hi:i<l.length)(hj:j<l.length):JU l i j=(l.set i l[j]).set j l[i]:=by
 simp [JU,Af hi,Af hj]
theorem PX(l:List α)(i j:Nat):(JU l i j).length=l.length:=by
 unfold JU;split<;>simp
theorem OU(l:List α)(i j:Nat)(hi:i<l.length)(hj:j<l.length)(k:Nat):(JU l i j)[k]? =if k=i then l[j]? else if k=j then l[i]? else l[k]? :=by
 rw [UR l i j hi hj,Hy,Hy];simp only [List.length_set];by_cases c1:k=i
 ·subst c1;by_cases c2:j=k
  ·subst c2;simp [hj]
  ·rw [if_neg c2];simp [hi,hj]
 ·by_cases c2:k=j
  ·subst c2;simp [hi,hj,c1]
  ·rw [if_neg (fun e=>c2 e.symm),if_neg (fun e=>c1 e.symm),if_neg c1,if_neg c2]
theorem OV(key:α->Nat)(l:List α)(i j:Nat)(hi:i<l.length)(hj:j<l.length):Fg key (JU l i j)=Tn (Fg key l) i j:=by
 funext k;unfold Fg Tn;rw [OU l i j hi hj];by_cases c1:k=i
 ·rw [if_pos c1,if_pos c1]
 ·rw [if_neg c1,if_neg c1];by_cases c2:k=j
  ·rw [if_pos c2,if_pos c2]
  ·rw [if_neg c2,if_neg c2]
theorem NG(l:List α)(i j:Nat):(JU l i j).Perm l:=by
 by_cases hi:i<l.length
 ·by_cases hj:j<l.length
  ·rw [UR l i j hi hj];rcases Nat.lt_trichotomy i j with h| h| h
   ·exact Adp hi hj
   ·subst h;simp
   ·exact Adp hi hj
  ·simp [JU,EP (Ahn hj)]
 ·simp [JU,EP (Ahn hi)]
end
open Go.RowKit
def iv(k:Nat):Value:= .int .i64 (k:Int)
theorem uZ(A:Option Addr)(n c:Nat)(w:World)(_:n<=1000000):Calls Tryz.prog 99 #[.slice A n c] w fun e w'=>e= .returned (.int .i64 (n:Int))/\w=w':=by
 go_enter Tryz.func99,Tryz.ntmps99;go_wp2;go_ret;exact⟨rfl,rfl⟩
theorem yL(g n c i j:Nat)(l:List Nat)(w:World)(hi:i<n)(hj:j<n)(hn:n<=1000000)(h:Rd w (some ⟨g,0,none⟩) n (l.map iv)):
 Calls Tryz.prog 231 #[.slice (some ⟨g,0,none⟩) n c,.int .i64 (i:Int),.int .i64 (j:Int)] w fun e w'=>e= .returned (.bool (decide (Fg id l i<Fg id l j)))/\Dr w w':=by
 have hl:l.length=n:=by simpa using h.1
 obtain⟨b,off,e,hb,hc⟩:=h.2 (by omega);injection e with e
 injection e with e1 e2
 subst e1 e2;have c1:=hc i hi;have c2:=hc j hj;rw [Dw,BZ,Af (show i<l.length by omega)]at c1;rw [Dw,BZ,Af (show j<l.length by omega)]at c2;have HK:Hid (decide (Fg id l i<Fg id l j)=decide (l[i]<l[j])):=Aa (by
  simp only [Fg,Af (show i<l.length by omega),Af (show j<l.length by omega),DK,id,Option.getD_some])
 rw [HK.out];simp only [DK,iv]at c1 c2;generalize l[i]=x at*;generalize l[j]=y at*;clear h hc HK;go_enter Tryz.func231,Tryz.ntmps231
 go_wp2_with fail
 go_quiet(fail)
 go_wp2_with fail
 go_ret;exact⟨rfl,_,rfl⟩
theorem iY(g n c i j base:Nat)(l:List Nat)(w:World)(hi:i<n)(hj:j<n)(hn:n<=1000000)(h:w.ownsRow base 3 1 (.slice (some ⟨g,0,none⟩) n c) n (l.map iv)):
 Calls Tryz.prog 234 #[.slice (some ⟨g,0,none⟩) n c,.int .i64 (i:Int),.int .i64 (j:Int)] w fun e w'=>e= .returned (.tuple #[])/\
  w'.ownsRow base 3 1 (.slice (some ⟨g,0,none⟩) n c) n ((JU l i j).map iv)/\Touch (fun b=>b=g) w w':=by
 have hl:l.length=n:=by simpa using h.1
 obtain⟨_,hr⟩:=CB h;obtain⟨b,off,e,hb,hc⟩:=hr.2 (by omega);injection e with e
 injection e with e1 e2
 subst e1 e2;have c1:=hc i hi;have c2:=hc j hj;rw [Dw,BZ,Af (show i<l.length by omega)]at c1;rw [Dw,BZ,Af (show j<l.length by omega)]at c2;simp only [DK,iv]at c1 c2;have f1:=(Sv h hi).2;have f2:=(Sv h hj).2;have HO:=Aa h;have HS:Hid (∀W,Dr w W->((W.setCell ⟨g,i,none⟩ (iv l[j])).setCell ⟨g,j,none⟩ (iv l[i])).ownsRow base 3 1 (.slice (some ⟨g,0,none⟩) n c) n ((JU l i j).map iv)/\Touch (fun b=>b=g) w ((W.setCell ⟨g,i,none⟩ (iv l[j])).setCell ⟨g,j,none⟩ (iv l[i]))):=Aa (fun W k=>by
  refine⟨?_,(((Touch.of_below (F:=fun b=>b=g) (k.below _)).setCell (p:=⟨g,i,none⟩) (.inl rfl) _).setCell (p:=⟨g,j,none⟩) (.inl rfl) _)⟩;rw [UR l i j (by omega) (by omega),QI,QI];exact NZ (NZ (own_below h (k.below _)) hi) hj)
 have HS2:Hid (∀W,Dr w W->((W.setCell ⟨g,j,none⟩ (iv l[i])).setCell ⟨g,i,none⟩ (iv l[j])).ownsRow base 3 1 (.slice (some ⟨g,0,none⟩) n c) n ((JU l i j).map iv)/\Touch (fun b=>b=g) w ((W.setCell ⟨g,j,none⟩ (iv l[i])).setCell ⟨g,i,none⟩ (iv l[j]))):=Aa (fun W k=>by
  refine⟨?_,(((Touch.of_below (F:=fun b=>b=g) (k.below _)).setCell (p:=⟨g,j,none⟩) (.inl rfl) _).setCell (p:=⟨g,i,none⟩) (.inl rfl) _)⟩;have e:(l.set i l[j]).set j l[i]=(l.set j l[i]).set i l[j]:=by
   by_cases e:i=j
   ·subst e;rfl
   ·exact List.set_comm _ _ e
  rw [UR l i j (by omega) (by omega),e,QI,QI];exact NZ (NZ (own_below h (k.below _)) hj) hi)
 obtain⟨⟨v1,k1⟩,q1⟩:=Sv (NZ (u:=iv l[j]) h hi) hj;obtain⟨⟨v2,k2⟩,q2⟩:=Sv (NZ (u:=iv l[i]) h hj) hi;simp only [iv]at HS HS2 k1 k2 q1 q2;generalize l[i]=x at*;generalize l[j]=y at*;clear h hc hr;go_enter Tryz.func234,Tryz.ntmps234
 go_wp2_with fail
 go_region
 all_goals trace_state
 all_goals(go_wp2_with fail)
 all_goals(go_end0)
 all_goals(first
  | exact⟨rfl,HS.out _ (show Dr w w.drew from⟨1,rfl⟩)⟩
  | exact⟨rfl,HS2.out _ (show Dr w w.drew from⟨1,rfl⟩)⟩)
theorem Tryz.Ap6:Jt Tryz.prog 194 3 (.int .i64 0) 1 8:=⟨Tryz.underlying194,by kernel_rfl,rfl⟩
structure E5(w:World)(B o g c:Nat)(l:List Nat):Prop where
 box:CG w o 194 [.slice (some ⟨g,0,none⟩) l.length c]
 row:w.ownsRow B 3 1 (.slice (some ⟨g,0,none⟩) l.length c) l.length (l.map iv)
 ne:o≠g
 hB:B<=o
 len:l.length<=1000
theorem E5.mi{w:World}{B o g c:Nat}{l:List Nat}(h:E5 w B o g c l):B<=g/\g<w.heap.size:=by
 rcases h.row.2 with⟨h',_⟩| ⟨g',cap,cur,hv,hB,hg,_⟩
 ·cases h'
 ·simp only [Value.slice.injEq,Option.some.injEq,Addr.mk.injEq,and_true,true_and]at hv;obtain⟨rfl,rfl⟩:=hv;exact⟨hB,(Array.getElem?_eq_some_iff.1 hg).1⟩
theorem E5.touch{w w':World}{B o g c:Nat}{l:List Nat}{G:Nat->Prop}(h:E5 w B o g c l)(t:Touch G w w')(h1:¬G o)(h2:¬G g):E5 w' B o g c l:=by
 refine⟨h.box.touch t h1,H6 h.row t (fun b hb=> ?_),h.ne,h.hB,h.len⟩;have:g=b:=by simpa [Ba]using hb
 subst this;exact h2
theorem E5.below{w w':World}{B o g c:Nat}{l:List Nat}(h:E5 w B o g c l)(t:Below w.heap.size w w'):E5 w' B o g c l:=
 h.touch (Touch.of_below (F:=fun _=>False) t) id id
theorem assert_int(x:Int)(w:World):(Instr.typeAssert (.iface 3 (.int .i64 x)) 20 3 true).run Tryz.prog w= .ok (.tuple #[.int .i64 x,.bool true]) w:=by kernel_rfl
theorem Aiq{w:World}{B o g c:Nat}{l:List Nat}(s:Nat)(h:E5 w B o g c l)(hl:l.length<1000):
 Calls Tryz.prog 233 #[Aw o,.iface 3 (.int .i64 (s:Int))] w fun e w'=>e= .returned (.tuple #[])/\
  ∃g' c',E5 w' B o g' c' (l++[s])/\(g'=g\/w.heap.size<=g')/\Touch (fun b=>b=o\/b=g) w w':=by
 have y0:=h.box.cell 0;have f0:=h.box.frozen 0;have hlt:=h.box.lt;have hrow:=h.row;have hg:=h.mi;have hBo:=h.hB;have hBs:B<=w.heap.size:=by omega
 have HH:=Aa h;simp only [Aj]at y0;obtain⟨n,hn⟩:∃n,l.length=n:=⟨_,rfl⟩;rw [hn]at hrow y0 hl;clear h;have ta:=assert_int (s:Int);go_enter Tryz.func233,Tryz.ntmps233
 go_wp2_with(at_builtin;go_loud(refine Eh rfl (.tmp 15) (.tmp 17) 194 rfl Tryz.Ap6 w B (.slice (some ⟨g,0,none⟩) n c) n (l.map iv) [iv s] rfl hrow rfl w.heap.size 1 rfl rfl rfl (by decide) (by intro u hu;simp at hu;subst hu;rfl) (by omega) (by decide) hBs ?_;intro g2 c2 w2 hO2 hB2 hK2 hg2;have y2:=(World.cell?_of_block (w:=w) (a:=⟨o,0,none⟩) (hK2.2 o hlt (fun e=>HH.out.ne (by simpa [Ba]using e)))).trans y0;have f2:=(World.frozen?_of_block (w:=w) (a:=⟨o,0,none⟩) (hK2.2 o hlt (fun e=>HH.out.ne (by simpa [Ba]using e)))).trans f0))
 go_end0;have hon:¬o=g2:=fun e=>by
  rcases hg2 with h| h
  ·exact HH.out.ne (by rw [e];simpa [Ba]using h.symm)
  ·omega
 have hT:Touch (fun b=>b=o\/b=g) w (w2.setCell ⟨o,0,none⟩ (.slice (some ⟨g2,0,none⟩) (n+1) c2)):=by
  refine Touch.setCell (w:=w) (w':=w2) ⟨hB2.os,hB2.tape,hB2.output,hK2.1,fun k hk hn=>hK2.2 k hk (fun e=>hn (.inr (by simpa [Ba]using e)))⟩ (p:=⟨o,0,none⟩) (.inl (.inl rfl)) _
 have hbx:CG w2 o 194 [.slice (some ⟨g,0,none⟩) l.length c]:=(hK2.2 o hlt (fun e=>HH.out.ne (by simpa [Ba]using e))).trans HH.out.box;refine⟨rfl,g2,c2,⟨?_,?_,hon,hBo,by simp;omega⟩,?_,hT⟩
 ·have:=hbx.AZ 0 (.slice (some ⟨g2,0,none⟩) (n+1) c2);rw [AQ,hn];exact this
 ·have h1:=hO2;rw [show l.map iv++[iv s]=(l++[s]).map iv by simp]at h1;rw [AQ,hn];refine H6 h1 ((Touch.refl (fun b=>b=o) w2).setCell (p:=⟨o,0,none⟩) (.inl rfl) _) (fun b hb e=> ?_);have:g2=b:=by simpa [Ba]using hb
  exact hon (by rw [this,e])
 ·rcases hg2 with h| h
  ·left;have:g=g2:=by simpa [Ba]using h
   exact this.symm
  ·exact .inr h
theorem Al1{w:World}{B o g c:Nat}{l:List Nat}(s:Nat)(h:E5 w B o g c (l++[s])):
 Calls Tryz.prog 232 #[Aw o] w fun e w'=>e= .returned (.iface 3 (.int .i64 (s:Int)))/\E5 w' B o g c l/\Touch (fun b=>b=o\/b=g) w w':=by
 have hlen:=h.len;rw [AQ,Lp]at hlen;have y0:=h.box.cell 0;have f0:=h.box.frozen 0;have hrow:=h.row;have c1:=(CB hrow).2.2 (by simp);have hcap:=(CB hrow).1;rw [AQ,Lp]at hcap;obtain⟨b,off,e,hb,hc⟩:=c1;injection e with e
 injection e with e1 e2
 subst e1 e2;have c2:=hc l.length (by simp);rw [Dw,BZ,List.getElem?_append_right (Ad _),Nat.sub_self]at c2;simp only [Aj,DK,iv]at c2;simp only [Aj,AQ,Lp]at y0;obtain⟨n,hn⟩:∃n,l.length=n:=⟨_,rfl⟩;rw [hn]at y0 c2 hcap;have HH:=Aa h;have HN:=Aa hn;rw [hn]at hlen;have hlt:o<w.heap.size:=h.box.lt;clear h hc hrow hn;go_enter Tryz.func232,Tryz.ntmps232;go_wp2;go_ret;refine⟨rfl,⟨?_,?_,HH.out.ne,HH.out.hB,by rw [HN.out];omega⟩,((Touch.refl (fun b=>b=o\/b=g) w).setCell (p:=⟨o,0,none⟩) (.inl (.inl rfl)) _)⟩
 ·have:=HH.out.box.AZ 0 (.slice (some ⟨g,0,none⟩) n c);rw [HN.out];exact this
 ·have h1:=HH.out.row;have h2:w.ownsRow B 3 1 (.slice (some ⟨g,0,none⟩) l.length c) l.length (l.map iv):=by
   refine⟨by simp,?_⟩;rcases h1.2 with⟨h',_⟩| ⟨g',cap,cur,hv,hB,hg,hnc,hcm,hcs,ht⟩
   ·cases h'
   ·simp only [AQ,Lp]at hv hnc ht;simp only [Value.slice.injEq,Option.some.injEq,Addr.mk.injEq,and_true,true_and]at hv;obtain⟨rfl,rfl⟩:=hv;refine .inr ⟨g,c,cur,rfl,hB,hg,by omega,hcm,hcs,?_⟩;have:=congrArg (List.take l.length) ht;rw [List.take_take,Nat.min_eq_left (by omega)]at this;simpa using this
  rw [HN.out]at h2⊢;refine H6 h2 ((Touch.refl (fun b=>b=o) w).setCell (p:=⟨o,0,none⟩) (.inl rfl) _) (fun b hb e=> ?_);have:g=b:=by simpa [Ba]using hb
  exact HH.out.ne (by rw [this,e])
theorem Abf(f:Nat)(a:Addr)(w:World):(method (f+1) 139 (.pointer (some a)) "Push").run Tryz.prog w= .ok (233,.pointer (some a)) w:=by kernel_rfl
theorem Ae5(f:Nat)(a:Addr)(w:World):(method (f+1) 139 (.pointer (some a)) "Pop").run Tryz.prog w= .ok (232,.pointer (some a)) w:=by kernel_rfl
theorem ve{P:Program}(t:TypeId)(a:Addr)(x y:String)(w:World):(Builtin.ssaWrapNilChk_ #[t] t #[.pointer (some a),strVal x,strVal y]).run P w= .ok (.pointer (some a)) w:=rfl
theorem Zl{P:Program}{t e:TypeId}{name:String}{F:FuncId}{d:TypeDesc}(hu:P.underlying t=some (.pointer e))(_hd:P.underlying e=some d)
 (hm:(P.info? t).map (fun i=>(i.methods.find? (·.name==name)).map (fun m=>(m.path,m.func)))=some (some (#[],some (F,false))))(f:Nat)(a:Addr)(w:World)(v:Value)(hl:(loadVar e a).run P w= .ok v w):
 (method (f+1) t (.pointer (some a)) name).run P w= .ok (F,v) w:=by
 cases hi:P.info? t with
 | none=>simp [hi]at hm
 | some i=>
   rw [hi]at hm;simp only [DK,Option.some.injEq]at hm;cases hf:i.methods.find? (·.name==name)with
   | none=>simp [hf]at hm
   | some m=>
     rw [hf]at hm;simp only [DK,Option.some.injEq,Prod.mk.injEq]at hm;obtain⟨h1,h2⟩:=hm;have hr:=run_underlying (P:=P) hu;simp [method,typeInfo,hi,hf,h1,h2,follow,receiverAt,hr,Place.get,ve,asAddr,Sem.run_bind,hl]
theorem Zm(o:Nat)(v:Value)(w:World)(h:w.cell? ⟨o,0,none⟩=some v):(loadVar 194 ⟨o,0,none⟩).run Tryz.prog w= .ok v w:=by
 have hu:=run_underlying (P:=Tryz.prog) Tryz.underlying194;simp [loadVar,isAgg,hu,Sem.run_bind,h]
theorem dM(f o:Nat)(v:Value)(w:World)(h:w.cell? ⟨o,0,none⟩=some v):(method (f+1) 139 (Aw o) "Less").run Tryz.prog w= .ok (231,v) w:=
 Zl Tryz.underlying139 Tryz.underlying194 (by kernel_rfl) f _ w v (Zm o v w h)
theorem Ae6(f o:Nat)(v:Value)(w:World)(h:w.cell? ⟨o,0,none⟩=some v):(method (f+1) 139 (Aw o) "Len").run Tryz.prog w= .ok (99,v) w:=
 Zl Tryz.underlying139 Tryz.underlying194 (by kernel_rfl) f _ w v (Zm o v w h)
theorem dN(f o:Nat)(v:Value)(w:World)(h:w.cell? ⟨o,0,none⟩=some v):(method (f+1) 139 (Aw o) "Swap").run Tryz.prog w= .ok (234,v) w:=
 Zl Tryz.underlying139 Tryz.underlying194 (by kernel_rfl) f _ w v (Zm o v w h)
theorem E5.swapped{w w':World}{B o g c n i j:Nat}{l:List Nat}(h:E5 w B o g c l)(hl:l.length=n)(hr:w'.ownsRow B 3 1 (.slice (some ⟨g,0,none⟩) n c) n ((JU l i j).map iv))(t:Touch (fun b=>b=g) w w'):E5 w' B o g c (JU l i j):=by
 have hs:=PX l i j;have hb:=h.box.touch t h.ne;refine⟨by rw [hs];exact hb,by rw [hs,hl];exact hr,h.ne,h.hB,by rw [hs];exact h.len⟩
theorem Al2{w:World}{B o g c:Nat}{l:List Nat}(j:Nat)(h:E5 w B o g c l)(hj:j<l.length)(hH:VE (Fg id l) j l.length):
 Calls Tryz.prog 148 #[.iface 139 (Aw o),.int .i64 (j:Int)] w fun e w'=>e= .returned (.tuple #[])/\
  ∃l',l'.Perm l/\JK (Fg id l') l.length/\E5 w' B o g c l'/\Touch (fun b=>b=o\/b=g) w w':=by
 obtain⟨n,hn⟩:∃n,l.length=n:=⟨_,rfl⟩;have hn1:=h.len;rw [hn]at hj hH hn1⊢;go_enter Tryz.func148,Tryz.ntmps148
 go_wp2_with fail
 go_loopw [1](fun i wr=>∃k l',k<n/\i= .int .i64 (k:Nat)/\l'.Perm l/\VE (Fg id l') k n/\E5 wr B o g c l'/\Touch (fun b=>b=o\/b=g) w wr)(fun i _=>(intOf i).toNat)
 case atStart=>exact⟨j,l,hj,rfl,List.Perm.refl _,hH,h,Touch.refl _ _⟩
 case round=>
  obtain⟨k,l',hk,rfl,hp,hHk,ho,ht⟩:=hrel;clear h hj hH;have hln:l'.length=n:=by rw [hp.length_eq];exact hn
  by_cases h0:k=0
  ·subst h0
   go_wp2_with fail
   go_end0;exact⟨rfl,l',hp,Zk hHk (fun h=>absurd h (by omega)),ho,ht⟩
  ·have HHk:=Aa hHk;have HO:=Aa ho;have dO:=Aa hp;have HT:=Aa ht;have HL:=Aa hln;clear hHk ho hp ht hln hn;obtain⟨i,hi⟩:∃i,(k-1)/2=i:=⟨_,rfl⟩;have hik:i<k:=by omega
   have e1:((k:Int) -1)/2=(i:Int):=by omega
   have t1:((i:Int)==(k:Int))=false:=by rw [beq_eq_false_iff_ne];omega
   have y0:=HO.out.box.cell 0;simp only [Aj,HL.out]at y0;have hrd:=(CB HO.out.row).2;rw [HL.out]at hrd;have nJ:=Aa (yL g n c k i l' wr hk (by omega) (by omega) hrd);have mL:=fun f=>dM f o _ wr y0
   have hrow:=HO.out.row;rw [HL.out]at hrow;have iV:=Aa hrow;clear hrd hrow;by_cases hlt:Fg id l' k<Fg id l' i
   ·rw [decide_eq_true hlt]at nJ;have HS:=Aa (iY g n c i k B l' · (by omega) hk (by omega) ·);have H1:=Aa hlt;clear hlt
    go_wp2_with fail
    refine nJ.out.mono ?_;rintro e w2⟨rfl,hd⟩;have ho2:=HO.out.below (hd.below _);have z0:=ho2.box.cell 0;simp only [Aj,HL.out]at z0;have mS:=fun f=>dN f o _ w2 z0
    have hrow2:=ho2.row;rw [HL.out]at hrow2;have HSw:=Aa (iY g n c i k B l' w2 (by omega) hk (by omega) hrow2);have QB:=Aa ho2;clear mL y0 ho2 hrow2 HS nJ
    go_wp2_with fail
    refine HSw.out.mono ?_;rintro e w3⟨rfl,hO3,hT3⟩;have iZ:=Aa (QB.out.swapped HL.out hO3 hT3);have HT3:=Aa ((HT.out.trans (Touch.of_below (F:=fun b=>b=o\/b=g) (hd.below _)) (fun b h=> .inl h)).trans (hT3.mono (fun b h=> .inr h)) (fun b h=> .inl h));clear mS z0 hO3 hT3
    go_wp2_with fail
    go_roundw
    case rel=>
     refine⟨i,JU l' i k,by omega,rfl,(NG _ _ _).trans dO.out,?_,iZ.out,HT3.out⟩;rw [OV id l' i k (by rw [HL.out];omega) (by rw [HL.out];exact hk)];exact nH HHk.out (by omega) hk hi H1.out
    case measure=>simp [intOf];omega
   ·rw [decide_eq_false hlt]at nJ;have H1:=Aa hlt;clear hlt
    go_wp2_with fail
    refine nJ.out.mono ?_;rintro e w2⟨rfl,hd⟩
    go_wp2_with fail
    go_end0;exact⟨rfl,l',dO.out,Zk HHk.out (fun _=>by have:=H1.out;rw [<-hi]at this;omega),HO.out.below (hd.below _),HT.out.trans (Touch.of_below (F:=fun b=>b=o\/b=g) (hd.below _)) (fun b h=> .inl h)⟩
section
variable{w:World}{B o g c N:Nat}{l:List Nat}
theorem E5.nM(h:E5 w B o g c l)(hl:l.length=N):∀f,(method (f+1) 139 (Aw o) "Less").run Tryz.prog w= .ok (231,.slice (some ⟨g,0,none⟩) N c) w:=fun f=>
 dM f o _ w (by have:=h.box.cell 0;simpa only [Aj,hl]using this)
theorem E5.Ap7(h:E5 w B o g c l)(hl:l.length=N):∀f,(method (f+1) 139 (Aw o) "Len").run Tryz.prog w= .ok (99,.slice (some ⟨g,0,none⟩) N c) w:=fun f=>
 Ae6 f o _ w (by have:=h.box.cell 0;simpa only [Aj,hl]using this)
theorem E5.yM(h:E5 w B o g c l)(hl:l.length=N):∀f,(method (f+1) 139 (Aw o) "Swap").run Tryz.prog w= .ok (234,.slice (some ⟨g,0,none⟩) N c) w:=fun f=>
 dN f o _ w (by have:=h.box.cell 0;simpa only [Aj,hl]using this)
theorem E5.less(h:E5 w B o g c l)(hl:l.length=N)(i j:Nat)(hi:i<N)(hj:j<N)(b:Bool)(hb:decide (Fg id l i<Fg id l j)=b):
 Calls Tryz.prog 231 #[.slice (some ⟨g,0,none⟩) N c,.int .i64 (i:Int),.int .i64 (j:Int)] w fun e w'=>e= .returned (.bool b)/\Dr w w':=by
 subst hl hb;have:=h.len;exact yL g l.length c i j l w hi hj (by omega) (CB h.row).2
theorem E5.swap(h:E5 w B o g c l)(hl:l.length=N)(i j:Nat)(hi:i<N)(hj:j<N):
 Calls Tryz.prog 234 #[.slice (some ⟨g,0,none⟩) N c,.int .i64 (i:Int),.int .i64 (j:Int)] w fun e w'=>e= .returned (.tuple #[])/\E5 w' B o g c (JU l i j)/\Touch (fun b=>b=o\/b=g) w w':=by
 subst hl;have:=h.len;refine(iY g l.length c i j B l w hi hj (by omega) h.row).mono ?_;rintro e w'⟨rfl,h1,h2⟩;exact⟨rfl,h.swapped rfl h1 h2,h2.mono (fun b h=> .inr h)⟩
theorem Ae7(n:Nat)(h:E5 w B o g c l)(hl:l.length=N)(hn:n<N)(hH:PV (Fg id l) 0 n):
 Calls Tryz.prog 149 #[.iface 139 (Aw o),.int .i64 0,.int .i64 (n:Int)] w fun e w'=>(∃b,e= .returned (.bool b))/\
  ∃l',l'.Perm l/\JK (Fg id l') n/\(∀k,n<=k->l'[k]? =l[k]?)/\E5 w' B o g c l'/\Touch (fun b=>b=o\/b=g) w w':=by
 have hn1:=h.len;rw [hl]at hn1;go_enter Tryz.func149,Tryz.ntmps149
 go_wp2_with fail
 go_loopw [7](fun i wr=>∃k l',(k=0\/k<n)/\i= .int .i64 (k:Nat)/\l'.Perm l/\PV (Fg id l') k n/\(∀k,n<=k->l'[k]? =l[k]?)/\E5 wr B o g c l'/\Touch (fun b=>b=o\/b=g) w wr)(fun i _=>n- (intOf i).toNat)
 case atStart=>exact⟨0,l,.inl rfl,rfl,List.Perm.refl _,hH,fun _ _=>rfl,h,Touch.refl _ _⟩
 case round=>
  obtain⟨i,l',hi,rfl,hp,hHk,hk,ho,ht⟩:=hrel;have hL:l'.length=N:=by rw [hp.length_eq];exact hl
  have HHk:=Aa hHk;have HO:=Aa ho;have dO:=Aa hp;have HT:=Aa ht;have HK:=Aa hk;have HL:=Aa hL;have iB:i<=n:=by omega
  clear h hH hHk ho hp ht hk hL hl;have t3:decide (2*(i:Int)+1<0)=false:=decide_eq_false (by omega);by_cases h1:n<=2*i+1
  ·have t1:decide ((n:Int)<=2*(i:Int)+1)=true:=decide_eq_true (by omega)
   go_wp2_with fail
   go_ret;exact⟨⟨_,rfl⟩,l',dO.out,Oe HHk.out (fun k h0 hk hp=>by omega),HK.out,HO.out,HT.out⟩
  ·have t1:decide ((n:Int)<=2*(i:Int)+1)=false:=decide_eq_false (by omega);obtain⟨j1,hj1⟩:∃j1,2*i+1=j1:=⟨_,rfl⟩;obtain⟨j2,hj2⟩:∃j2,j1+1=j2:=⟨_,rfl⟩;have e1:2*(i:Int)+1=(j1:Int):=by omega
   have e2:(j1:Int)+1=(j2:Int):=by omega
   have t4:decide ((n:Int)<=(j1:Int))=false:=decide_eq_false (by omega);have t5:decide ((j1:Int)<0)=false:=decide_eq_false (by omega);have J1:Hid (2*i+1=j1):=Aa hj1;have J2:Hid (2*i+2=j2):=Aa (by omega);have j1n:j1<n:=by omega
   clear t1 t3 hj1 hj2;by_cases h2:j2<n
   ·have t2:decide ((j2:Int)<(n:Int))=true:=decide_eq_true (by omega);by_cases h4:Fg id l' j2<Fg id l' j1
    ·have H2:=Aa h4;clear h4;have mL:=HO.out.nM HL.out
     go_wp2_with fail
     refine(HO.out.less HL.out j2 j1 (by omega) (by omega) true (decide_eq_true H2.out)).mono ?_;rintro e w2⟨rfl,hd⟩;have ho2:=HO.out.below (hd.below _);have ht2:=HT.out.trans (Touch.of_below (F:=fun b=>b=o\/b=g) (hd.below _)) (fun b h=> .inl h);have QB:=Aa ho2;have HT2:=Aa ht2;clear ho2 ht2;have mL2:=QB.out.nM HL.out;have hj1:j2<n:=by omega
     have hj2:(j2-1)/2=i:=by have:=J1.out;have:=J2.out;omega
     have HM:Hid (∀k,0<k->k<n->(k-1)/2=i->Fg id l' j2<=Fg id l' k):=Aa (fun k h0 hk hp=>by
      have hk2:k=j1\/k=j2:=by have:=J1.out;have:=J2.out;omega
      rcases hk2 with rfl| rfl
      ·have:=H2.out;omega
      ·exact Ad _)
     by_cases h3:Fg id l' j2<Fg id l' i
     ·have H3:=Aa h3;clear h3;clear mL
      go_wp2_with fail
      refine(QB.out.less HL.out j2 i (by omega) (by omega) true (decide_eq_true H3.out)).mono ?_;rintro e w3⟨rfl,hd3⟩;have ho3:=QB.out.below (hd3.below _);have ht3:=HT2.out.trans (Touch.of_below (F:=fun b=>b=o\/b=g) (hd3.below _)) (fun b h=> .inl h);have mS:=ho3.yM HL.out;have iZ:=Aa ho3;have HT3:=Aa ht3;clear mL2 ho3 ht3
      go_wp2_with fail
      refine(iZ.out.swap HL.out i j2 (by omega) (by omega)).mono ?_;rintro e w4⟨rfl,aQ,ht4⟩;have ak:=Aa aQ;have HT4:=Aa (HT3.out.trans ht4 (fun b h=> .inl h));clear mS aQ ht4
      go_wp2_with fail
      go_roundw
      case rel=>
       refine⟨j2,JU l' i j2,.inr hj1,rfl,(NG _ _ _).trans dO.out,?_,fun k hk=> ?_,ak.out,HT4.out⟩
       ·rw [OV id l' i j2 (by rw [HL.out];omega) (by rw [HL.out];omega)];exact PW HHk.out (by omega) hj1 hj2 HM.out H3.out
       ·rw [OU l' i j2 (by rw [HL.out];omega) (by rw [HL.out];omega),if_neg (by omega),if_neg (by omega)];exact HK.out k hk
      case measure=>simp [intOf];omega
     ·have H3:=Aa h3;clear h3;clear mL
      go_wp2_with fail
      refine(QB.out.less HL.out j2 i (by omega) (by omega) false (decide_eq_false H3.out)).mono ?_;rintro e w3⟨rfl,hd3⟩;have ho3:=QB.out.below (hd3.below _);have ht3:=HT2.out.trans (Touch.of_below (F:=fun b=>b=o\/b=g) (hd3.below _)) (fun b h=> .inl h);clear mL2
      go_wp2_with fail
      go_ret;exact⟨⟨_,rfl⟩,l',dO.out,Oe HHk.out (fun k h0 hk hp=>by have:=HM.out k h0 hk hp;have:=H3.out;omega),HK.out,ho3,ht3⟩
    ·have H2:=Aa h4;clear h4;have mL:=HO.out.nM HL.out
     go_wp2_with fail
     refine(HO.out.less HL.out j2 j1 (by omega) (by omega) false (decide_eq_false H2.out)).mono ?_;rintro e w2⟨rfl,hd⟩;have ho2:=HO.out.below (hd.below _);have ht2:=HT.out.trans (Touch.of_below (F:=fun b=>b=o\/b=g) (hd.below _)) (fun b h=> .inl h);have QB:=Aa ho2;have HT2:=Aa ht2;clear ho2 ht2;have mL2:=QB.out.nM HL.out;have hj1:j1<n:=by omega
     have hj2:(j1-1)/2=i:=by have:=J1.out;have:=J2.out;omega
     have HM:Hid (∀k,0<k->k<n->(k-1)/2=i->Fg id l' j1<=Fg id l' k):=Aa (fun k h0 hk hp=>by
      have hk2:k=j1\/k=j2:=by have:=J1.out;have:=J2.out;omega
      rcases hk2 with rfl| rfl
      ·exact Ad _
      ·have:=H2.out;omega)
     by_cases h3:Fg id l' j1<Fg id l' i
     ·have H3:=Aa h3;clear h3;clear mL
      go_wp2_with fail
      refine(QB.out.less HL.out j1 i (by omega) (by omega) true (decide_eq_true H3.out)).mono ?_;rintro e w3⟨rfl,hd3⟩;have ho3:=QB.out.below (hd3.below _);have ht3:=HT2.out.trans (Touch.of_below (F:=fun b=>b=o\/b=g) (hd3.below _)) (fun b h=> .inl h);have mS:=ho3.yM HL.out;have iZ:=Aa ho3;have HT3:=Aa ht3;clear mL2 ho3 ht3
      go_wp2_with fail
      refine(iZ.out.swap HL.out i j1 (by omega) (by omega)).mono ?_;rintro e w4⟨rfl,aQ,ht4⟩;have ak:=Aa aQ;have HT4:=Aa (HT3.out.trans ht4 (fun b h=> .inl h));clear mS aQ ht4
      go_wp2_with fail
      go_roundw
      case rel=>
       refine⟨j1,JU l' i j1,.inr hj1,rfl,(NG _ _ _).trans dO.out,?_,fun k hk=> ?_,ak.out,HT4.out⟩
       ·rw [OV id l' i j1 (by rw [HL.out];omega) (by rw [HL.out];omega)];exact PW HHk.out (by omega) hj1 hj2 HM.out H3.out
       ·rw [OU l' i j1 (by rw [HL.out];omega) (by rw [HL.out];omega),if_neg (by omega),if_neg (by omega)];exact HK.out k hk
      case measure=>simp [intOf];omega
     ·have H3:=Aa h3;clear h3;clear mL
      go_wp2_with fail
      refine(QB.out.less HL.out j1 i (by omega) (by omega) false (decide_eq_false H3.out)).mono ?_;rintro e w3⟨rfl,hd3⟩;have ho3:=QB.out.below (hd3.below _);have ht3:=HT2.out.trans (Touch.of_below (F:=fun b=>b=o\/b=g) (hd3.below _)) (fun b h=> .inl h);clear mL2
      go_wp2_with fail
      go_ret;exact⟨⟨_,rfl⟩,l',dO.out,Oe HHk.out (fun k h0 hk hp=>by have:=HM.out k h0 hk hp;have:=H3.out;omega),HK.out,ho3,ht3⟩
   ·have t2:decide ((j2:Int)<(n:Int))=false:=decide_eq_false (by omega);have ho2:=HO.out;have ht2:=HT.out;have QB:=Aa ho2;have HT2:=Aa ht2;clear ho2 ht2;have mL2:=QB.out.nM HL.out;have hj1:j1<n:=by omega
    have hj2:(j1-1)/2=i:=by have:=J1.out;have:=J2.out;omega
    have HM:Hid (∀k,0<k->k<n->(k-1)/2=i->Fg id l' j1<=Fg id l' k):=Aa (fun k h0 hk hp=>by
     have hk2:k=j1\/k=j2:=by have:=J1.out;have:=J2.out;omega
     rcases hk2 with rfl| rfl
     ·exact Ad _
     ·omega)
    by_cases h3:Fg id l' j1<Fg id l' i
    ·have H3:=Aa h3;clear h3
     go_wp2_with fail
     refine(QB.out.less HL.out j1 i (by omega) (by omega) true (decide_eq_true H3.out)).mono ?_;rintro e w3⟨rfl,hd3⟩;have ho3:=QB.out.below (hd3.below _);have ht3:=HT2.out.trans (Touch.of_below (F:=fun b=>b=o\/b=g) (hd3.below _)) (fun b h=> .inl h);have mS:=ho3.yM HL.out;have iZ:=Aa ho3;have HT3:=Aa ht3;clear mL2 ho3 ht3
     go_wp2_with fail
     refine(iZ.out.swap HL.out i j1 (by omega) (by omega)).mono ?_;rintro e w4⟨rfl,aQ,ht4⟩;have ak:=Aa aQ;have HT4:=Aa (HT3.out.trans ht4 (fun b h=> .inl h));clear mS aQ ht4
     go_wp2_with fail
     go_roundw
     case rel=>
      refine⟨j1,JU l' i j1,.inr hj1,rfl,(NG _ _ _).trans dO.out,?_,fun k hk=> ?_,ak.out,HT4.out⟩
      ·rw [OV id l' i j1 (by rw [HL.out];omega) (by rw [HL.out];omega)];exact PW HHk.out (by omega) hj1 hj2 HM.out H3.out
      ·rw [OU l' i j1 (by rw [HL.out];omega) (by rw [HL.out];omega),if_neg (by omega),if_neg (by omega)];exact HK.out k hk
     case measure=>simp [intOf];omega
    ·have H3:=Aa h3;clear h3
     go_wp2_with fail
     refine(QB.out.less HL.out j1 i (by omega) (by omega) false (decide_eq_false H3.out)).mono ?_;rintro e w3⟨rfl,hd3⟩;have ho3:=QB.out.below (hd3.below _);have ht3:=HT2.out.trans (Touch.of_below (F:=fun b=>b=o\/b=g) (hd3.below _)) (fun b h=> .inl h);clear mL2
     go_wp2_with fail
     go_ret;exact⟨⟨_,rfl⟩,l',dO.out,Oe HHk.out (fun k h0 hk hp=>by have:=HM.out k h0 hk hp;have:=H3.out;omega),HK.out,ho3,ht3⟩
end
theorem nN(l:List Nat)(s:Nat)(h:JK (Fg id l) l.length):VE (Fg id (l++[s])) l.length (l.length+1):=by
 have key:∀k,k<l.length->Fg id (l++[s]) k=Fg id l k:=fun k hk=>by simp only [Fg,List.getElem?_append_left hk]
 refine⟨fun k h0 hk hne=> ?_,fun h0 k hk0 hk hp=>by omega⟩;rw [key k (by omega),key _ (by omega)];exact h k h0 (by omega)
theorem Ae8{w:World}{B o g c:Nat}{l:List Nat}(s:Nat)(h:E5 w B o g c l)(hl:l.length<1000)(hH:JK (Fg id l) l.length):
 Calls Tryz.prog 98 #[.iface 139 (Aw o),.iface 3 (.int .i64 (s:Int))] w fun e w'=>e= .returned (.tuple #[])/\
  ∃g' c' l',l'.Perm (l++[s])/\JK (Fg id l') l'.length/\E5 w' B o g' c' l'/\(g'=g\/w.heap.size<=g')/\Touch (fun b=>b=o\/b=g) w w':=by
 have mP:=fun f=>Abf f ⟨o,0,none⟩ w
 have HS:=Aa (Aiq s h hl);have HU:=Aa (nN l s hH);have hg:=h.mi;clear h hH;go_enter Tryz.func98,Tryz.ntmps98
 go_wp2_with fail
 refine HS.out.mono ?_;rintro e w1⟨rfl,g1,c1,ho1,hg1,ht1⟩;have hL:(l++[s]).length=l.length+1:=by simp
 have mL:=ho1.Ap7 hL;have HN:=Aa (uZ (some ⟨g1,0,none⟩) (l.length+1) c1 w1 (by omega));have HUp:=Aa (Al2 l.length ho1 (by omega) (by rw [hL];exact HU.out));have HO1:=Aa ho1;have HT1:=Aa ht1;have HG1:=Aa hg1;clear ho1 ht1 hg1 mP HS hL;generalize l.length=n at*
 go_wp2_with fail
 refine HN.out.mono ?_;rintro e w'⟨rfl,rfl⟩
 go_wp2_with fail
 refine HUp.out.mono ?_;rintro e w2⟨rfl,l',hp,hh,ho2,ht2⟩
 go_wp2_with fail
 go_end0;refine⟨rfl,g1,c1,l',hp,by rw [hp.length_eq];exact hh,ho2,HG1.out,HT1.out.trans ht2 (fun b hb=> ?_)⟩;rcases hb with rfl| rfl
 ·exact .inl (.inl rfl)
 ·rcases HG1.out with e| e
  ·exact .inl (.inr e)
  ·exact .inr e
theorem heapPop{w:World}{B o g c n:Nat}{l:List Nat}(h:E5 w B o g c l)(hl:l.length=n+1)(hH:JK (Fg id l) (n+1)):
 Calls Tryz.prog 100 #[.iface 139 (Aw o)] w fun e w'=>∃(m:Nat)(l':List Nat),e= .returned (.iface 3 (.int .i64 (m:Int)))/\
  (m::l').Perm l/\(∀x∈l,m<=x)/\JK (Fg id l') n/\E5 w' B o g c l'/\Touch (fun b=>b=o\/b=g) w w':=by
 have hn1:=h.len;have mL:=h.Ap7 hl;have mS:=h.yM hl;have HN:=Aa (uZ (some ⟨g,0,none⟩) (n+1) c w (by omega));have HS:=Aa (h.swap hl 0 n (by omega) (by omega));have Al3:Hid (∀x∈l,Fg id l 0<=x):=Aa (fun x hx=>by
  obtain⟨k,hk,rfl⟩:=List.getElem_of_mem hx;have:=uY hH k (by omega);rw [Fg,Fg,Af hk]at this;exact this)
 have hk1:PV (Fg id (JU l 0 n)) 0 n:=by
  rw [OV id l 0 n (by omega) (by omega)];exact aZ hH
 have uX:=Aa hk1;have HL:=Aa hl;rw [hl]at hn1;clear h hH hk1 hl;go_enter Tryz.func100,Tryz.ntmps100
 go_wp2_with fail
 refine HN.out.mono ?_;rintro e w'⟨rfl,rfl⟩
 go_wp2_with fail
 refine HS.out.mono ?_;rintro e w1⟨rfl,ho1,ht1⟩;have HD:=Aa (Ae7 (N:=n+1) n ho1 (by rw [PX];exact HL.out) (by omega) uX.out);have HT1:=Aa ht1;clear mL mS HN HS ho1 ht1
 go_wp2_with fail
 refine HD.out.mono ?_;rintro e w2⟨⟨b,rfl⟩,l2,hp2,hh2,hk2,ho2,ht2⟩;have hl2:l2.length=n+1:=by rw [hp2.length_eq,PX];exact HL.out
 have h0:l2[n]? =some (Fg id l 0):=by
  have hll:=HL.out;have hl0:0<l.length:=by omega
  rw [hk2 n (Ad _),OU l 0 n hl0 (by omega)];have hx:l[0]? =some (Fg id l 0):=by rw [Fg,Af hl0];rfl
  by_cases e:n=0
  ·subst e;rw [if_pos rfl];exact hx
  ·rw [if_neg e,if_pos rfl];exact hx
 have hsp:l2=l2.take n++[Fg id l 0]:=by
  have:=List.take_append_drop n l2;rw [List.drop_eq_getElem_cons (by omega),List.drop_eq_nil_of_le (by omega)]at this;rw [Af (by omega)]at h0;injection h0 with h0
  rw [h0]at this;exact this.symm
 have Abg:=Al1 (w:=w2) (B:=B) (o:=o) (g:=g) (c:=c) (l:=l2.take n) (Fg id l 0) (hsp▸ho2);have Abg:=Aa Abg;have mP:=fun f=>Ae5 f ⟨o,0,none⟩ w2
 have HSp:=Aa hsp;have HH2:=Aa hh2;have HP2:=Aa hp2;have HL2:=Aa hl2;have HT2:=Aa (HT1.out.trans ht2 (fun b h=> .inl h));clear ho2 ht2 hk2 h0 hsp hh2 hp2 hl2 HD;generalize hm:Fg id l 0=m at*
 go_wp2_with fail
 refine Abg.out.mono ?_;rintro e w3⟨rfl,ho3,ht3⟩
 go_wp2_with fail
 go_ret;refine⟨m,l2.take n,rfl,?_,Al3.out,?_,ho3,HT2.out.trans ht3 (fun b h=> .inl h)⟩
 ·have h1:(m::l2.take n).Perm (l2.take n++[m]):=(List.perm_append_singleton m (l2.take n)).symm;rw [<-HSp.out]at h1;exact h1.trans (HP2.out.trans (NG _ _ _))
 ·intro k h0 hk;have:=HH2.out k h0 hk;have e:∀t,t<n->Fg id (l2.take n) t=Fg id l2 t:=fun t ht=>by simp only [Fg,List.getElem?_take,if_pos ht]
  rw [e _ (by omega),e _ hk];exact this
