import Derived.Test.YtkimaejoeapmnaaGreatDoorH06
set_option linter.defProp false
set_option maxHeartbeats 32000000
set_option maxRecDepth 100000
open Nat renaming le_refl->Ad,le_trans->Bc,le_of_lt->IW,le_of_not_lt->Ai2,zero_add->DR
open List renaming getElem?_eq_getElem->Af,getElem?_set->H9,set_set_perm->Ae0,getElem?_eq_none->EW,getElem?_map->BZ,map_set->Rh,getElem?_cons_zero->Am,length_append->AQ,length_singleton->LQ
open Go.Lib renaming hid->Aa
open Option renaming map_some->DT
open Go.Value renaming ownBlock->Bd
namespace Go.Proofs.YtkimaejoeapmnaaGreatDoor
open Go.Proofs.Tryz
def TT(f:Nat->Nat)(i j k:Nat):Nat:=if k=i then f j else if k=j then f i else f k
def JW(f:Nat->Nat)(n:Nat):Prop:=∀k,0<k->k<n->f ((k-1)/2)<=f k
def Qm(f:Nat->Nat)(i n:Nat):Prop:=
 (∀k,0<k->k<n->(k-1)/2≠i->f ((k-1)/2)<=f k)/\(0<i->∀k,0<k->k<n->(k-1)/2=i->f ((i-1)/2)<=f k)
def WA(f:Nat->Nat)(i n:Nat):Prop:=
 (∀k,0<k->k<n->k≠i->f ((k-1)/2)<=f k)/\(0<i->∀k,0<k->k<n->(k-1)/2=i->f ((i-1)/2)<=f k)
def wZ{f:Nat->Nat}{n:Nat}(h:JW f n):∀k,k<n->f 0<=f k:=by
 intro k;induction k using Nat.strongRecOn with
 | ind k ih=>
   intro hk;by_cases h0:k=0
   ·subst h0;exact Ad _
   ·exact Bc (ih ((k-1)/2) O O) (h k O hk)
def dL{f:Nat->Nat}{n:Nat}(h:JW f (n+1)):Qm (TT f 0 n) 0 n:=by
 refine⟨λk h0 hk hp=> ?_,λh=>absurd h O⟩;have:=h k h0 O;unfold TT;rw [if_neg hp,if_neg O,if_neg O,if_neg O];exact this
def Qn{f:Nat->Nat}{i j n:Nat}(h:Qm f i n)(hj0:0<j)(hjn:j<n)(hji:(j-1)/2=i)(hmin:∀k,0<k->k<n->(k-1)/2=i->f j<=f k)(hlt:f j<f i):Qm (TT f i j) j n:=by
 obtain⟨ha,hb⟩:=h;have hij:i<j:=O
 refine⟨λk h0 hk hp=> ?_,λ_ k h0 hk hp=> ?_⟩
 ·unfold TT;by_cases c1:k=i
  ·subst c1;rw [if_neg O,if_neg O,if_pos rfl];exact hb h0 j hj0 hjn hji
  ·by_cases c2:k=j
   ·subst c2;rw [if_pos hji,if_neg O,if_pos rfl];exact IW hlt
   ·by_cases c3:(k-1)/2=i
    ·rw [if_pos c3,if_neg c1,if_neg c2];exact hmin k h0 hk c3
    ·rw [if_neg c3,if_neg hp,if_neg c1,if_neg c2];exact ha k h0 hk c3
 ·unfold TT;rw [hji,if_pos rfl,if_neg O,if_neg O];have:=ha k h0 hk O;rw [hp]at this;exact this
def O9{f:Nat->Nat}{i n:Nat}(h:Qm f i n)(he:∀k,0<k->k<n->(k-1)/2=i->f i<=f k):JW f n:=by
 intro k h0 hk;by_cases c:(k-1)/2=i
 ·rw [c];exact he k h0 hk c
 ·exact h.1 k h0 hk c
def pV{f:Nat->Nat}{i j n:Nat}(h:WA f j n)(hj0:0<j)(hjn:j<n)(hji:(j-1)/2=i)(hlt:f j<f i):WA (TT f i j) i n:=by
 obtain⟨ha,hb⟩:=h;have hij:i<j:=O
 refine⟨λk h0 hk hp=> ?_,λhi k h0 hk hp=> ?_⟩
 ·unfold TT;by_cases c2:k=j
  ·subst c2;rw [if_pos hji,if_neg O,if_pos rfl];exact IW hlt
  ·by_cases c3:(k-1)/2=i
   ·rw [if_pos c3,if_neg hp,if_neg c2];have:=ha k h0 hk c2;rw [c3]at this;omega
   ·by_cases c4:(k-1)/2=j
    ·rw [if_neg c3,if_pos c4,if_neg hp,if_neg c2];have:=hb hj0 k h0 hk c4;rw [hji]at this;exact this
    ·rw [if_neg c3,if_neg c4,if_neg hp,if_neg c2];exact ha k h0 hk c2
 ·unfold TT;have hpi:=ha i hi O O;by_cases c2:k=j
  ·subst c2;rw [if_neg O,if_neg O,if_neg O,if_pos rfl];exact hpi
  ·rw [if_neg O,if_neg O,if_neg O,if_neg c2];have:=ha k h0 hk c2;rw [hp]at this;exact Bc hpi this
def ZP{f:Nat->Nat}{j n:Nat}(h:WA f j n)(he:0<j->f ((j-1)/2)<=f j):JW f n:=by
 intro k h0 hk;by_cases c:k=j
 ·subst c;exact he h0
 ·exact h.1 k h0 hk c
section
variable{α:Type}
def Fh(key:α->Nat)(l:List α)(k:Nat):Nat:=(l[k]?.map key).getD 0
def Kz(l:List α)(i j:Nat):List α:=match l[i]?,l[j]? with
 | some a,some b=>(l.set i b).set j a
 | _,_=>l
def V7(l:List α)(i j:Nat)(hi:i<l.length)(hj:j<l.length):Kz l i j=(l.set i l[j]).set j l[i]:=by
 simp [Kz,Af hi,Af hj]
def Qo(l:List α)(i j:Nat):(Kz l i j).length=l.length:=by
 unfold Kz;split<;>simp
def P7(l:List α)(i j:Nat)(hi:i<l.length)(hj:j<l.length)(k:Nat):(Kz l i j)[k]? =if k=i then l[j]? else if k=j then l[i]? else l[k]? :=by
 rw [V7 l i j hi hj,H9,H9];simp only [List.length_set];by_cases c1:k=i
 ·subst c1;by_cases c2:j=k
  ·subst c2;simp [hj]
  ·rw [if_neg c2];simp [hi,hj]
 ·by_cases c2:k=j
  ·subst c2;simp [hi,hj,c1]
  ·rw [if_neg (λe=>c2 e.symm),if_neg (λe=>c1 e.symm),if_neg c1,if_neg c2]
def P8(key:α->Nat)(l:List α)(i j:Nat)(hi:i<l.length)(hj:j<l.length):Fh key (Kz l i j)=TT (Fh key l) i j:=by
 funext k;unfold Fh TT;rw [P7 l i j hi hj];by_cases c1:k=i
 ·rw [if_pos c1,if_pos c1]
 ·rw [if_neg c1,if_neg c1];by_cases c2:k=j
  ·rw [if_pos c2,if_pos c2]
  ·rw [if_neg c2,if_neg c2]
def Oc(l:List α)(i j:Nat):(Kz l i j).Perm l:=by
 by_cases hi:i<l.length
 ·by_cases hj:j<l.length
  ·rw [V7 l i j hi hj];rcases Nat.lt_trichotomy i j with h| h| h
   ·exact Ae0 hi hj
   ·subst h;simp
   ·exact Ae0 hi hj
  ·simp [Kz,EW (Ai2 hj)]
 ·simp [Kz,EW (Ai2 hi)]
end
open Go.RowKit
def iv(k:Nat):Value:= .int .i64 (k:Int)
def xe(A:Option Addr)(n c:Nat)(w:World)(_:n<=1000000):Calls prog 99 #[.slice A n c] w λe w'=>e= .returned (.int .i64 (n:Int))/\w=w':=by
 go_enter func99,ntmps99;go_wp2;go_ret;exact⟨rfl,rfl⟩
def Aab(g n c i j:Nat)(l:List Nat)(w:World)(hi:i<n)(hj:j<n)(hn:n<=1000000)(h:Rd w (some (Φ g)) n (l.map iv)):
 Calls prog 231 #[.slice (some (Φ g)) n c,.int .i64 (i:Int),.int .i64 (j:Int)] w λe w'=>e= .returned (.bool (decide (Fh id l i<Fh id l j)))/\Dr w w':=by
 have hl:l.length=n:=by simpa using h.1
 obtain⟨b,off,e,hb,hc⟩:=h.2 O;injection e with e
 injection e with e1 e2
 subst e1 e2;have c1:=hc i hi;have c2:=hc j hj;rw [DR,BZ,Af (show i<l.length by omega)]at c1;rw [DR,BZ,Af (show j<l.length by omega)]at c2;have HK:Hid (decide (Fh id l i<Fh id l j)=decide (l[i]<l[j])):=Aa (by
  simp only [Fh,Af (show i<l.length by omega),Af (show j<l.length by omega),DT,id,Option.getD_some])
 rw [HK.out];simp only [DT,iv]at c1 c2;generalize l[i]=x at*;generalize l[j]=y at*;clear h hc HK;go_enter func231,ntmps231
 go_wp2_with fail
 go_quiet(fail)
 go_wp2_with fail
 go_ret;exact⟨rfl,_,rfl⟩
def kE(g n c i j base:Nat)(l:List Nat)(w:World)(hi:i<n)(hj:j<n)(hn:n<=1000000)(h:w.ownsRow base 3 1 (.slice (some (Φ g)) n c) n (l.map iv)):
 Calls prog 234 #[.slice (some (Φ g)) n c,.int .i64 (i:Int),.int .i64 (j:Int)] w λe w'=>e= .returned (.tuple #[])/\
  w'.ownsRow base 3 1 (.slice (some (Φ g)) n c) n ((Kz l i j).map iv)/\Touch (λb=>b=g) w w':=by
 have hl:l.length=n:=by simpa using h.1
 obtain⟨_,hr⟩:=CP h;obtain⟨b,off,e,hb,hc⟩:=hr.2 O;injection e with e
 injection e with e1 e2
 subst e1 e2;have c1:=hc i hi;have c2:=hc j hj;rw [DR,BZ,Af (show i<l.length by omega)]at c1;rw [DR,BZ,Af (show j<l.length by omega)]at c2;simp only [DT,iv]at c1 c2;have f1:=(Tc h hi).2;have f2:=(Tc h hj).2;have HO:=Aa h;have HS:Hid (∀W,Dr w W->((W.setCell (Δ g i) (iv l[j])).setCell (Δ g j) (iv l[i])).ownsRow base 3 1 (.slice (some (Φ g)) n c) n ((Kz l i j).map iv)/\Touch (λb=>b=g) w ((W.setCell (Δ g i) (iv l[j])).setCell (Δ g j) (iv l[i]))):=Aa (λW k=>by
  refine⟨?_,(((Touch.of_below (F:=λb=>b=g) (k.below _)).setCell (p:=Δ g i) (.inl rfl) _).setCell (p:=Δ g j) (.inl rfl) _)⟩;rw [V7 l i j O O,Rh,Rh];exact O6 (O6 (own_below h (k.below _)) hi) hj)
 have HS2:Hid (∀W,Dr w W->((W.setCell (Δ g j) (iv l[i])).setCell (Δ g i) (iv l[j])).ownsRow base 3 1 (.slice (some (Φ g)) n c) n ((Kz l i j).map iv)/\Touch (λb=>b=g) w ((W.setCell (Δ g j) (iv l[i])).setCell (Δ g i) (iv l[j]))):=Aa (λW k=>by
  refine⟨?_,(((Touch.of_below (F:=λb=>b=g) (k.below _)).setCell (p:=Δ g j) (.inl rfl) _).setCell (p:=Δ g i) (.inl rfl) _)⟩;have e:(l.set i l[j]).set j l[i]=(l.set j l[i]).set i l[j]:=by
   by_cases e:i=j
   ·subst e;rfl
   ·exact List.set_comm _ _ e
  rw [V7 l i j O O,e,Rh,Rh];exact O6 (O6 (own_below h (k.below _)) hj) hi)
 obtain⟨⟨v1,k1⟩,q1⟩:=Tc (O6 (u:=iv l[j]) h hi) hj;obtain⟨⟨v2,k2⟩,q2⟩:=Tc (O6 (u:=iv l[i]) h hj) hi;simp only [iv]at HS HS2 k1 k2 q1 q2;generalize l[i]=x at*;generalize l[j]=y at*;clear h hc hr;go_enter func234,ntmps234
 go_wp2_with fail
 go_region
 all_goals trace_state
 all_goals(go_wp2_with fail)
 all_goals(go_end0)
 all_goals(first
  | exact⟨rfl,HS.out _ (show Dr w w.drew from⟨1,rfl⟩)⟩
  | exact⟨rfl,HS2.out _ (show Dr w w.drew from⟨1,rfl⟩)⟩)
def Tryz.Arr:JS prog 194 3 (.int .i64 0) 1 8:=⟨underlying194,by kernel_rfl,rfl⟩
structure EF(w:World)(B o g c:Nat)(l:List Nat):Prop where
 box:CS w o 194 [.slice (some (Φ g)) l.length c]
 row:w.ownsRow B 3 1 (.slice (some (Φ g)) l.length c) l.length (l.map iv)
 ne:o≠g
 hB:B<=o
 len:l.length<=1000
def EF.oQ{w:World}{B o g c:Nat}{l:List Nat}(h:EF w B o g c l):B<=g/\g<w.heap.size:=by
 rcases h.row.2 with⟨h',_⟩| ⟨g',cap,cur,hv,hB,hg,_⟩
 ·cases h'
 ·simp only [Value.slice.injEq,Option.some.injEq,Addr.mk.injEq,and_true,true_and]at hv;obtain⟨rfl,rfl⟩:=hv;exact⟨hB,(Array.getElem?_eq_some_iff.1 hg).1⟩
def EF.touch{w w':World}{B o g c:Nat}{l:List Nat}{G:Nat->Prop}(h:EF w B o g c l)(t:Touch G w w')(h1:¬G o)(h2:¬G g):EF w' B o g c l:=by
 refine⟨h.box.touch t h1,Ie h.row t (λb hb=> ?_),h.ne,h.hB,h.len⟩;have:g=b:=by simpa [Bd]using hb
 subst this;exact h2
def EF.below{w w':World}{B o g c:Nat}{l:List Nat}(h:EF w B o g c l)(t:η w w'):EF w' B o g c l:=
 h.touch (Touch.of_below (F:=λ_=>False) t) id id
def assert_int(x:Int)(w:World):(Instr.typeAssert (.iface 3 (.int .i64 x)) 20 3 true).run prog w= .ok (.tuple #[.int .i64 x,.bool true]) w:=by kernel_rfl
def Aj2{w:World}{B o g c:Nat}{l:List Nat}(s:Nat)(h:EF w B o g c l)(hl:l.length<1000):
 Calls prog 233 #[Az o,.iface 3 (.int .i64 (s:Int))] w λe w'=>e= .returned (.tuple #[])/\
  ∃g' c',EF w' B o g' c' (l++[s])/\(g'=g\/w.heap.size<=g')/\Touch (λb=>b=o\/b=g) w w':=by
 have y0:=h.box.cell 0;have f0:=h.box.frozen 0;have hlt:=h.box.lt;have hrow:=h.row;have hg:=h.oQ;have hBo:=h.hB;have hBs:B<=w.heap.size:=O
 have HH:=Aa h;simp only [Am]at y0;obtain⟨n,hn⟩:∃n,l.length=n:=⟨_,rfl⟩;rw [hn]at hrow y0 hl;clear h;have ta:=assert_int (s:Int);go_enter func233,ntmps233
 go_wp2_with(at_builtin;go_loud(refine Ep rfl (.tmp 15) (.tmp 17) 194 rfl Tryz.Arr w B (.slice (some (Φ g)) n c) n (l.map iv) [iv s] rfl hrow rfl w.heap.size 1 rfl rfl rfl U (by intro u hu;simp at hu;subst hu;rfl) O U hBs ?_;intro g2 c2 w2 hO2 hB2 hK2 hg2;have y2:=(World.cell?_of_block (w:=w) (a:=Φ o) (hK2.2 o hlt (λe=>HH.out.ne (by simpa [Bd]using e)))).trans y0;have f2:=(World.frozen?_of_block (w:=w) (a:=Φ o) (hK2.2 o hlt (λe=>HH.out.ne (by simpa [Bd]using e)))).trans f0))
 go_end0;have hon:¬o=g2:=λe=>by
  rcases hg2 with h| h
  ·exact HH.out.ne (by rw [e];simpa [Bd]using h.symm)
  ·omega
 have hT:Touch (λb=>b=o\/b=g) w (w2.setCell (Φ o) (.slice (some (Φ g2)) (n+1) c2)):=by
  refine Touch.setCell (w:=w) (w':=w2) ⟨hB2.os,hB2.tape,hB2.output,hK2.1,λk hk hn=>hK2.2 k hk (λe=>hn (.inr (by simpa [Bd]using e)))⟩ (p:=Φ o) (.inl (.inl rfl)) _
 have hbx:CS w2 o 194 [.slice (some (Φ g)) l.length c]:=(hK2.2 o hlt (λe=>HH.out.ne (by simpa [Bd]using e))).trans HH.out.box;refine⟨rfl,g2,c2,⟨?_,?_,hon,hBo,by simp;omega⟩,?_,hT⟩
 ·have:=hbx.AZ 0 (.slice (some (Φ g2)) (n+1) c2);rw [AQ,hn];exact this
 ·have h1:=hO2;rw [show l.map iv++[iv s]=(l++[s]).map iv by simp]at h1;rw [AQ,hn];refine Ie h1 ((Touch.refl (λb=>b=o) w2).setCell (p:=Φ o) (.inl rfl) _) (λb hb e=> ?_);have:g2=b:=by simpa [Bd]using hb
  exact hon (by rw [this,e])
 ·rcases hg2 with h| h
  ·left;have:g=g2:=by simpa [Bd]using h
   exact this.symm
  ·exact .inr h
def Anj{w:World}{B o g c:Nat}{l:List Nat}(s:Nat)(h:EF w B o g c (l++[s])):
 Calls prog 232 #[Az o] w λe w'=>e= .returned (.iface 3 (.int .i64 (s:Int)))/\EF w' B o g c l/\Touch (λb=>b=o\/b=g) w w':=by
 have hlen:=h.len;rw [AQ,LQ]at hlen;have y0:=h.box.cell 0;have f0:=h.box.frozen 0;have hrow:=h.row;have c1:=(CP hrow).2.2 Θ;have hcap:=(CP hrow).1;rw [AQ,LQ]at hcap;obtain⟨b,off,e,hb,hc⟩:=c1;injection e with e
 injection e with e1 e2
 subst e1 e2;have c2:=hc l.length Θ;rw [DR,BZ,List.getElem?_append_right (Ad _),Nat.sub_self]at c2;simp only [Am,DT,iv]at c2;simp only [Am,AQ,LQ]at y0;obtain⟨n,hn⟩:∃n,l.length=n:=⟨_,rfl⟩;rw [hn]at y0 c2 hcap;have HH:=Aa h;have HN:=Aa hn;rw [hn]at hlen;have hlt:o<w.heap.size:=h.box.lt;clear h hc hrow hn;go_enter func232,ntmps232;go_wp2;go_ret;refine⟨rfl,⟨?_,?_,HH.out.ne,HH.out.hB,by rw [HN.out];omega⟩,((Touch.refl (λb=>b=o\/b=g) w).setCell (p:=Φ o) (.inl (.inl rfl)) _)⟩
 ·have:=HH.out.box.AZ 0 (.slice (some (Φ g)) n c);rw [HN.out];exact this
 ·have h1:=HH.out.row;have h2:w.ownsRow B 3 1 (.slice (some (Φ g)) l.length c) l.length (l.map iv):=by
   refine⟨by simp,?_⟩;rcases h1.2 with⟨h',_⟩| ⟨g',cap,cur,hv,hB,hg,hnc,hcm,hcs,ht⟩
   ·cases h'
   ·simp only [AQ,LQ]at hv hnc ht;simp only [Value.slice.injEq,Option.some.injEq,Addr.mk.injEq,and_true,true_and]at hv;obtain⟨rfl,rfl⟩:=hv;refine .inr ⟨g,c,cur,rfl,hB,hg,O,hcm,hcs,?_⟩;have:=congrArg (List.take l.length) ht;rw [List.take_take,Nat.min_eq_left O]at this;simpa using this
  rw [HN.out]at h2⊢;refine Ie h2 ((Touch.refl (λb=>b=o) w).setCell (p:=Φ o) (.inl rfl) _) (λb hb e=> ?_);have:g=b:=by simpa [Bd]using hb
  exact HH.out.ne (by rw [this,e])
def Acl(f:Nat)(a:Addr)(w:World):(method (f+1) 139 (.pointer (some a)) "Push").run prog w= .ok (233,.pointer (some a)) w:=by kernel_rfl
def Agf(f:Nat)(a:Addr)(w:World):(method (f+1) 139 (.pointer (some a)) "Pop").run prog w= .ok (232,.pointer (some a)) w:=by kernel_rfl
def xg{P:Program}(t:TypeId)(a:Addr)(x y:String)(w:World):(Builtin.ssaWrapNilChk_ #[t] t #[.pointer (some a),strVal x,strVal y]).run P w= .ok (.pointer (some a)) w:=rfl
def ZQ{P:Program}{t e:TypeId}{name:String}{F:FuncId}{d:TypeDesc}(hu:P.underlying t=some (.pointer e))(_hd:P.underlying e=some d)
 (hm:(P.info? t).map (λi=>(i.methods.find? (·.name==name)).map (λm=>(m.path,m.func)))=some (some (#[],some (F,false))))(f:Nat)(a:Addr)(w:World)(v:Value)(hl:(loadVar e a).run P w= .ok v w):
 (method (f+1) t (.pointer (some a)) name).run P w= .ok (F,v) w:=by
 cases hi:P.info? t with
 | none=>simp [hi]at hm
 | some i=>
   rw [hi]at hm;simp only [DT,Option.some.injEq]at hm;cases hf:i.methods.find? (·.name==name)with
   | none=>simp [hf]at hm
   | some m=>
     rw [hf]at hm;simp only [DT,Option.some.injEq,Prod.mk.injEq]at hm;obtain⟨h1,h2⟩:=hm;have hr:=run_underlying (P:=P) hu;simp [method,typeInfo,hi,hf,h1,h2,follow,receiverAt,hr,Place.get,xg,asAddr,Sem.run_bind,hl]
def ZR(o:Nat)(v:Value)(w:World)(h:w.cell? (Φ o)=some v):(loadVar 194 (Φ o)).run prog w= .ok v w:=by
 have hu:=run_underlying (P:=prog) underlying194;simp [loadVar,isAgg,hu,Sem.run_bind,h]
def gz(f o:Nat)(v:Value)(w:World)(h:w.cell? (Φ o)=some v):(method (f+1) 139 (Az o) "Less").run prog w= .ok (231,v) w:=
 ZQ underlying139 underlying194 Γ f _ w v (ZR o v w h)
def Agg(f o:Nat)(v:Value)(w:World)(h:w.cell? (Φ o)=some v):(method (f+1) 139 (Az o) "Len").run prog w= .ok (99,v) w:=
 ZQ underlying139 underlying194 Γ f _ w v (ZR o v w h)
def gG(f o:Nat)(v:Value)(w:World)(h:w.cell? (Φ o)=some v):(method (f+1) 139 (Az o) "Swap").run prog w= .ok (234,v) w:=
 ZQ underlying139 underlying194 Γ f _ w v (ZR o v w h)
def EF.swapped{w w':World}{B o g c n i j:Nat}{l:List Nat}(h:EF w B o g c l)(hl:l.length=n)(hr:w'.ownsRow B 3 1 (.slice (some (Φ g)) n c) n ((Kz l i j).map iv))(t:Touch (λb=>b=g) w w'):EF w' B o g c (Kz l i j):=by
 have hs:=Qo l i j;have hb:=h.box.touch t h.ne;refine⟨by rw [hs];exact hb,by rw [hs,hl];exact hr,h.ne,h.hB,by rw [hs];exact h.len⟩
def Ank{w:World}{B o g c:Nat}{l:List Nat}(j:Nat)(h:EF w B o g c l)(hj:j<l.length)(hH:WA (Fh id l) j l.length):
 Calls prog 148 #[.iface 139 (Az o),.int .i64 (j:Int)] w λe w'=>e= .returned (.tuple #[])/\
  ∃l',l'.Perm l/\JW (Fh id l') l.length/\EF w' B o g c l'/\Touch (λb=>b=o\/b=g) w w':=by
 obtain⟨n,hn⟩:∃n,l.length=n:=⟨_,rfl⟩;have hn1:=h.len;rw [hn]at hj hH hn1⊢;go_enter func148,ntmps148
 go_wp2_with fail
 go_loopw [1](λi wr=>∃k l',k<n/\i= .int .i64 (k:Nat)/\l'.Perm l/\WA (Fh id l') k n/\EF wr B o g c l'/\Touch (λb=>b=o\/b=g) w wr)(λi _=>(intOf i).toNat)
 case atStart=>exact⟨j,l,hj,rfl,List.Perm.refl _,hH,h,Touch.refl _ _⟩
 case round=>
  obtain⟨k,l',hk,rfl,hp,hHk,ho,ht⟩:=hrel;clear h hj hH;have hln:l'.length=n:=by rw [hp.length_eq];exact hn
  by_cases h0:k=0
  ·subst h0
   go_wp2_with fail
   go_end0;exact⟨rfl,l',hp,ZP hHk (λh=>absurd h O),ho,ht⟩
  ·have HHk:=Aa hHk;have HO:=Aa ho;have gI:=Aa hp;have HT:=Aa ht;have HL:=Aa hln;clear hHk ho hp ht hln hn;obtain⟨i,hi⟩:∃i,(k-1)/2=i:=⟨_,rfl⟩;have hik:i<k:=O
   have e1:((k:Int) -1)/2=(i:Int):=O
   have t1:((i:Int)==(k:Int))=false:=by rw [beq_eq_false_iff_ne];omega
   have y0:=HO.out.box.cell 0;simp only [Am,HL.out]at y0;have hrd:=(CP HO.out.row).2;rw [HL.out]at hrd;have pW:=Aa (Aab g n c k i l' wr hk O O hrd);have mL:=λf=>gz f o _ wr y0
   have hrow:=HO.out.row;rw [HL.out]at hrow;have kz:=Aa hrow;clear hrd hrow;by_cases hlt:Fh id l' k<Fh id l' i
   ·rw [decide_eq_true hlt]at pW;have HS:=Aa (kE g n c i k B l' · O hk O ·);have H1:=Aa hlt;clear hlt
    go_wp2_with fail
    refine pW.out.mono ?_;rintro e w2⟨rfl,hd⟩;have ho2:=HO.out.below (hd.below _);have z0:=ho2.box.cell 0;simp only [Am,HL.out]at z0;have mS:=λf=>gG f o _ w2 z0
    have hrow2:=ho2.row;rw [HL.out]at hrow2;have HSw:=Aa (kE g n c i k B l' w2 O hk O hrow2);have SY:=Aa ho2;clear mL y0 ho2 hrow2 HS pW
    go_wp2_with fail
    refine HSw.out.mono ?_;rintro e w3⟨rfl,hO3,hT3⟩;have kF:=Aa (SY.out.swapped HL.out hO3 hT3);have HT3:=Aa ((HT.out.trans (Touch.of_below (F:=λb=>b=o\/b=g) (hd.below _)) (λb h=> .inl h)).trans (hT3.mono (λb h=> .inr h)) (λb h=> .inl h));clear mS z0 hO3 hT3
    go_wp2_with fail
    go_roundw
    case rel=>
     refine⟨i,Kz l' i k,O,rfl,(Oc _ _ _).trans gI.out,?_,kF.out,HT3.out⟩;rw [P8 id l' i k (by rw [HL.out];omega) (by rw [HL.out];exact hk)];exact pV HHk.out O hk hi H1.out
    case measure=>simp [intOf];omega
   ·rw [decide_eq_false hlt]at pW;have H1:=Aa hlt;clear hlt
    go_wp2_with fail
    refine pW.out.mono ?_;rintro e w2⟨rfl,hd⟩
    go_wp2_with fail
    go_end0;exact⟨rfl,l',gI.out,ZP HHk.out (λ_=>by have:=H1.out;rw [<-hi]at this;omega),HO.out.below (hd.below _),HT.out.trans (Touch.of_below (F:=λb=>b=o\/b=g) (hd.below _)) (λb h=> .inl h)⟩
section
variable{w:World}{B o g c N:Nat}{l:List Nat}
def EF.pX(h:EF w B o g c l)(hl:l.length=N):∀f,(method (f+1) 139 (Az o) "Less").run prog w= .ok (231,.slice (some (Φ g)) N c) w:=λf=>
 gz f o _ w (by have:=h.box.cell 0;simpa only [Am,hl]using this)
def EF.Ars(h:EF w B o g c l)(hl:l.length=N):∀f,(method (f+1) 139 (Az o) "Len").run prog w= .ok (99,.slice (some (Φ g)) N c) w:=λf=>
 Agg f o _ w (by have:=h.box.cell 0;simpa only [Am,hl]using this)
def EF.Aac(h:EF w B o g c l)(hl:l.length=N):∀f,(method (f+1) 139 (Az o) "Swap").run prog w= .ok (234,.slice (some (Φ g)) N c) w:=λf=>
 gG f o _ w (by have:=h.box.cell 0;simpa only [Am,hl]using this)
def EF.less(h:EF w B o g c l)(hl:l.length=N)(i j:Nat)(hi:i<N)(hj:j<N)(b:Bool)(hb:decide (Fh id l i<Fh id l j)=b):
 Calls prog 231 #[.slice (some (Φ g)) N c,.int .i64 (i:Int),.int .i64 (j:Int)] w λe w'=>e= .returned (.bool b)/\Dr w w':=by
 subst hl hb;have:=h.len;exact Aab g l.length c i j l w hi hj O (CP h.row).2
def EF.swap(h:EF w B o g c l)(hl:l.length=N)(i j:Nat)(hi:i<N)(hj:j<N):
 Calls prog 234 #[.slice (some (Φ g)) N c,.int .i64 (i:Int),.int .i64 (j:Int)] w λe w'=>e= .returned (.tuple #[])/\EF w' B o g c (Kz l i j)/\Touch (λb=>b=o\/b=g) w w':=by
 subst hl;have:=h.len;refine(kE g l.length c i j B l w hi hj O h.row).mono ?_;rintro e w'⟨rfl,h1,h2⟩;exact⟨rfl,h.swapped rfl h1 h2,h2.mono (λb h=> .inr h)⟩
def Agh(n:Nat)(h:EF w B o g c l)(hl:l.length=N)(hn:n<N)(hH:Qm (Fh id l) 0 n):
 Calls prog 149 #[.iface 139 (Az o),.int .i64 0,.int .i64 (n:Int)] w λe w'=>(∃b,e= .returned (.bool b))/\
  ∃l',l'.Perm l/\JW (Fh id l') n/\(∀k,n<=k->l'[k]? =l[k]?)/\EF w' B o g c l'/\Touch (λb=>b=o\/b=g) w w':=by
 have hn1:=h.len;rw [hl]at hn1;go_enter func149,ntmps149
 go_wp2_with fail
 go_loopw [7](λi wr=>∃k l',(k=0\/k<n)/\i= .int .i64 (k:Nat)/\l'.Perm l/\Qm (Fh id l') k n/\(∀k,n<=k->l'[k]? =l[k]?)/\EF wr B o g c l'/\Touch (λb=>b=o\/b=g) w wr)(λi _=>n- (intOf i).toNat)
 case atStart=>exact⟨0,l,.inl rfl,rfl,List.Perm.refl _,hH,λ_ _=>rfl,h,Touch.refl _ _⟩
 case round=>
  obtain⟨i,l',hi,rfl,hp,hHk,hk,ho,ht⟩:=hrel;have hL:l'.length=N:=by rw [hp.length_eq];exact hl
  have HHk:=Aa hHk;have HO:=Aa ho;have gI:=Aa hp;have HT:=Aa ht;have HK:=Aa hk;have HL:=Aa hL;have iB:i<=n:=O
  clear h hH hHk ho hp ht hk hL hl;have t3:decide (2*(i:Int)+1<0)=false:=decide_eq_false O;by_cases h1:n<=2*i+1
  ·have t1:decide ((n:Int)<=2*(i:Int)+1)=true:=decide_eq_true O
   go_wp2_with fail
   go_ret;exact⟨⟨_,rfl⟩,l',gI.out,O9 HHk.out (λk h0 hk hp=>O),HK.out,HO.out,HT.out⟩
  ·have t1:decide ((n:Int)<=2*(i:Int)+1)=false:=decide_eq_false O;obtain⟨j1,hj1⟩:∃j1,2*i+1=j1:=⟨_,rfl⟩;obtain⟨j2,hj2⟩:∃j2,j1+1=j2:=⟨_,rfl⟩;have e1:2*(i:Int)+1=(j1:Int):=O
   have e2:(j1:Int)+1=(j2:Int):=O
   have t4:decide ((n:Int)<=(j1:Int))=false:=decide_eq_false O;have t5:decide ((j1:Int)<0)=false:=decide_eq_false O;have J1:Hid (2*i+1=j1):=Aa hj1;have J2:Hid (2*i+2=j2):=Aa O;have j1n:j1<n:=O
   clear t1 t3 hj1 hj2;by_cases h2:j2<n
   ·have t2:decide ((j2:Int)<(n:Int))=true:=decide_eq_true O;by_cases h4:Fh id l' j2<Fh id l' j1
    ·have H2:=Aa h4;clear h4;have mL:=HO.out.pX HL.out
     go_wp2_with fail
     refine(HO.out.less HL.out j2 j1 O O true (decide_eq_true H2.out)).mono ?_;rintro e w2⟨rfl,hd⟩;have ho2:=HO.out.below (hd.below _);have ht2:=HT.out.trans (Touch.of_below (F:=λb=>b=o\/b=g) (hd.below _)) (λb h=> .inl h);have SY:=Aa ho2;have HT2:=Aa ht2;clear ho2 ht2;have mL2:=SY.out.pX HL.out;have hj1:j2<n:=O
     have hj2:(j2-1)/2=i:=Ψ J1.out J2.out
     have HM:Hid (∀k,0<k->k<n->(k-1)/2=i->Fh id l' j2<=Fh id l' k):=Aa (λk h0 hk hp=>by
      have hk2:k=j1\/k=j2:=Ψ J1.out J2.out
      rcases hk2 with rfl| rfl
      ·have:=H2.out;omega
      ·exact Ad _)
     by_cases h3:Fh id l' j2<Fh id l' i
     ·have H3:=Aa h3;clear h3;clear mL
      go_wp2_with fail
      refine(SY.out.less HL.out j2 i O O true (decide_eq_true H3.out)).mono ?_;rintro e w3⟨rfl,hd3⟩;have ho3:=SY.out.below (hd3.below _);have ht3:=HT2.out.trans (Touch.of_below (F:=λb=>b=o\/b=g) (hd3.below _)) (λb h=> .inl h);have mS:=ho3.Aac HL.out;have kF:=Aa ho3;have HT3:=Aa ht3;clear mL2 ho3 ht3
      go_wp2_with fail
      refine(kF.out.swap HL.out i j2 O O).mono ?_;rintro e w4⟨rfl,Yl,ht4⟩;have bY:=Aa Yl;have HT4:=Aa (HT3.out.trans ht4 (λb h=> .inl h));clear mS Yl ht4
      go_wp2_with fail
      go_roundw
      case rel=>
       refine⟨j2,Kz l' i j2,.inr hj1,rfl,(Oc _ _ _).trans gI.out,?_,λk hk=> ?_,bY.out,HT4.out⟩
       ·rw [P8 id l' i j2 (by rw [HL.out];omega) (by rw [HL.out];omega)];exact Qn HHk.out O hj1 hj2 HM.out H3.out
       ·rw [P7 l' i j2 (by rw [HL.out];omega) (by rw [HL.out];omega),if_neg O,if_neg O];exact HK.out k hk
      case measure=>simp [intOf];omega
     ·have H3:=Aa h3;clear h3;clear mL
      go_wp2_with fail
      refine(SY.out.less HL.out j2 i O O false (decide_eq_false H3.out)).mono ?_;rintro e w3⟨rfl,hd3⟩;have ho3:=SY.out.below (hd3.below _);have ht3:=HT2.out.trans (Touch.of_below (F:=λb=>b=o\/b=g) (hd3.below _)) (λb h=> .inl h);clear mL2
      go_wp2_with fail
      go_ret;exact⟨⟨_,rfl⟩,l',gI.out,O9 HHk.out (λk h0 hk hp=>Ψ (HM.out k h0 hk hp) H3.out),HK.out,ho3,ht3⟩
    ·have H2:=Aa h4;clear h4;have mL:=HO.out.pX HL.out
     go_wp2_with fail
     refine(HO.out.less HL.out j2 j1 O O false (decide_eq_false H2.out)).mono ?_;rintro e w2⟨rfl,hd⟩;have ho2:=HO.out.below (hd.below _);have ht2:=HT.out.trans (Touch.of_below (F:=λb=>b=o\/b=g) (hd.below _)) (λb h=> .inl h);have SY:=Aa ho2;have HT2:=Aa ht2;clear ho2 ht2;have mL2:=SY.out.pX HL.out;have hj1:j1<n:=O
     have hj2:(j1-1)/2=i:=Ψ J1.out J2.out
     have HM:Hid (∀k,0<k->k<n->(k-1)/2=i->Fh id l' j1<=Fh id l' k):=Aa (λk h0 hk hp=>by
      have hk2:k=j1\/k=j2:=Ψ J1.out J2.out
      rcases hk2 with rfl| rfl
      ·exact Ad _
      ·have:=H2.out;omega)
     by_cases h3:Fh id l' j1<Fh id l' i
     ·have H3:=Aa h3;clear h3;clear mL
      go_wp2_with fail
      refine(SY.out.less HL.out j1 i O O true (decide_eq_true H3.out)).mono ?_;rintro e w3⟨rfl,hd3⟩;have ho3:=SY.out.below (hd3.below _);have ht3:=HT2.out.trans (Touch.of_below (F:=λb=>b=o\/b=g) (hd3.below _)) (λb h=> .inl h);have mS:=ho3.Aac HL.out;have kF:=Aa ho3;have HT3:=Aa ht3;clear mL2 ho3 ht3
      go_wp2_with fail
      refine(kF.out.swap HL.out i j1 O O).mono ?_;rintro e w4⟨rfl,Yl,ht4⟩;have bY:=Aa Yl;have HT4:=Aa (HT3.out.trans ht4 (λb h=> .inl h));clear mS Yl ht4
      go_wp2_with fail
      go_roundw
      case rel=>
       refine⟨j1,Kz l' i j1,.inr hj1,rfl,(Oc _ _ _).trans gI.out,?_,λk hk=> ?_,bY.out,HT4.out⟩
       ·rw [P8 id l' i j1 (by rw [HL.out];omega) (by rw [HL.out];omega)];exact Qn HHk.out O hj1 hj2 HM.out H3.out
       ·rw [P7 l' i j1 (by rw [HL.out];omega) (by rw [HL.out];omega),if_neg O,if_neg O];exact HK.out k hk
      case measure=>simp [intOf];omega
     ·have H3:=Aa h3;clear h3;clear mL
      go_wp2_with fail
      refine(SY.out.less HL.out j1 i O O false (decide_eq_false H3.out)).mono ?_;rintro e w3⟨rfl,hd3⟩;have ho3:=SY.out.below (hd3.below _);have ht3:=HT2.out.trans (Touch.of_below (F:=λb=>b=o\/b=g) (hd3.below _)) (λb h=> .inl h);clear mL2
      go_wp2_with fail
      go_ret;exact⟨⟨_,rfl⟩,l',gI.out,O9 HHk.out (λk h0 hk hp=>Ψ (HM.out k h0 hk hp) H3.out),HK.out,ho3,ht3⟩
   ·have t2:decide ((j2:Int)<(n:Int))=false:=decide_eq_false O;have ho2:=HO.out;have ht2:=HT.out;have SY:=Aa ho2;have HT2:=Aa ht2;clear ho2 ht2;have mL2:=SY.out.pX HL.out;have hj1:j1<n:=O
    have hj2:(j1-1)/2=i:=Ψ J1.out J2.out
    have HM:Hid (∀k,0<k->k<n->(k-1)/2=i->Fh id l' j1<=Fh id l' k):=Aa (λk h0 hk hp=>by
     have hk2:k=j1\/k=j2:=Ψ J1.out J2.out
     rcases hk2 with rfl| rfl
     ·exact Ad _
     ·omega)
    by_cases h3:Fh id l' j1<Fh id l' i
    ·have H3:=Aa h3;clear h3
     go_wp2_with fail
     refine(SY.out.less HL.out j1 i O O true (decide_eq_true H3.out)).mono ?_;rintro e w3⟨rfl,hd3⟩;have ho3:=SY.out.below (hd3.below _);have ht3:=HT2.out.trans (Touch.of_below (F:=λb=>b=o\/b=g) (hd3.below _)) (λb h=> .inl h);have mS:=ho3.Aac HL.out;have kF:=Aa ho3;have HT3:=Aa ht3;clear mL2 ho3 ht3
     go_wp2_with fail
     refine(kF.out.swap HL.out i j1 O O).mono ?_;rintro e w4⟨rfl,Yl,ht4⟩;have bY:=Aa Yl;have HT4:=Aa (HT3.out.trans ht4 (λb h=> .inl h));clear mS Yl ht4
     go_wp2_with fail
     go_roundw
     case rel=>
      refine⟨j1,Kz l' i j1,.inr hj1,rfl,(Oc _ _ _).trans gI.out,?_,λk hk=> ?_,bY.out,HT4.out⟩
      ·rw [P8 id l' i j1 (by rw [HL.out];omega) (by rw [HL.out];omega)];exact Qn HHk.out O hj1 hj2 HM.out H3.out
      ·rw [P7 l' i j1 (by rw [HL.out];omega) (by rw [HL.out];omega),if_neg O,if_neg O];exact HK.out k hk
     case measure=>simp [intOf];omega
    ·have H3:=Aa h3;clear h3
     go_wp2_with fail
     refine(SY.out.less HL.out j1 i O O false (decide_eq_false H3.out)).mono ?_;rintro e w3⟨rfl,hd3⟩;have ho3:=SY.out.below (hd3.below _);have ht3:=HT2.out.trans (Touch.of_below (F:=λb=>b=o\/b=g) (hd3.below _)) (λb h=> .inl h);clear mL2
     go_wp2_with fail
     go_ret;exact⟨⟨_,rfl⟩,l',gI.out,O9 HHk.out (λk h0 hk hp=>Ψ (HM.out k h0 hk hp) H3.out),HK.out,ho3,ht3⟩
end
def pY(l:List Nat)(s:Nat)(h:JW (Fh id l) l.length):WA (Fh id (l++[s])) l.length (l.length+1):=by
 have key:∀k,k<l.length->Fh id (l++[s]) k=Fh id l k:=λk hk=>by simp only [Fh,List.getElem?_append_left hk]
 refine⟨λk h0 hk hne=> ?_,λh0 k hk0 hk hp=>O⟩;rw [key k O,key _ O];exact h k h0 O
def Agi{w:World}{B o g c:Nat}{l:List Nat}(s:Nat)(h:EF w B o g c l)(hl:l.length<1000)(hH:JW (Fh id l) l.length):
 Calls prog 98 #[.iface 139 (Az o),.iface 3 (.int .i64 (s:Int))] w λe w'=>e= .returned (.tuple #[])/\
  ∃g' c' l',l'.Perm (l++[s])/\JW (Fh id l') l'.length/\EF w' B o g' c' l'/\(g'=g\/w.heap.size<=g')/\Touch (λb=>b=o\/b=g) w w':=by
 have mP:=λf=>Acl f (Φ o) w
 have HS:=Aa (Aj2 s h hl);have HU:=Aa (pY l s hH);have hg:=h.oQ;clear h hH;go_enter func98,ntmps98
 go_wp2_with fail
 refine HS.out.mono ?_;rintro e w1⟨rfl,g1,c1,ho1,hg1,ht1⟩;have hL:(l++[s]).length=l.length+1:=by simp
 have mL:=ho1.Ars hL;have HN:=Aa (xe (some (Φ g1)) (l.length+1) c1 w1 O);have HUp:=Aa (Ank l.length ho1 O (by rw [hL];exact HU.out));have HO1:=Aa ho1;have HT1:=Aa ht1;have HG1:=Aa hg1;clear ho1 ht1 hg1 mP HS hL;generalize l.length=n at*
 go_wp2_with fail
 refine HN.out.mono ?_;rintro e w'⟨rfl,rfl⟩
 go_wp2_with fail
 refine HUp.out.mono ?_;rintro e w2⟨rfl,l',hp,hh,ho2,ht2⟩
 go_wp2_with fail
 go_end0;refine⟨rfl,g1,c1,l',hp,by rw [hp.length_eq];exact hh,ho2,HG1.out,HT1.out.trans ht2 (λb hb=> ?_)⟩;rcases hb with rfl| rfl
 ·exact .inl (.inl rfl)
 ·rcases HG1.out with e| e
  ·exact .inl (.inr e)
  ·exact .inr e
def heapPop{w:World}{B o g c n:Nat}{l:List Nat}(h:EF w B o g c l)(hl:l.length=n+1)(hH:JW (Fh id l) (n+1)):
 Calls prog 100 #[.iface 139 (Az o)] w λe w'=>∃(m:Nat)(l':List Nat),e= .returned (.iface 3 (.int .i64 (m:Int)))/\
  (m::l').Perm l/\(∀x∈l,m<=x)/\JW (Fh id l') n/\EF w' B o g c l'/\Touch (λb=>b=o\/b=g) w w':=by
 have hn1:=h.len;have mL:=h.Ars hl;have mS:=h.Aac hl;have HN:=Aa (xe (some (Φ g)) (n+1) c w O);have HS:=Aa (h.swap hl 0 n O O);have Anl:Hid (∀x∈l,Fh id l 0<=x):=Aa (λx hx=>by
  obtain⟨k,hk,rfl⟩:=List.getElem_of_mem hx;have:=wZ hH k O;rw [Fh,Fh,Af hk]at this;exact this)
 have hk1:Qm (Fh id (Kz l 0 n)) 0 n:=by
  rw [P8 id l 0 n O O];exact dL hH
 have wY:=Aa hk1;have HL:=Aa hl;rw [hl]at hn1;clear h hH hk1 hl;go_enter func100,ntmps100
 go_wp2_with fail
 refine HN.out.mono ?_;rintro e w'⟨rfl,rfl⟩
 go_wp2_with fail
 refine HS.out.mono ?_;rintro e w1⟨rfl,ho1,ht1⟩;have HD:=Aa (Agh (N:=n+1) n ho1 (by rw [Qo];exact HL.out) O wY.out);have HT1:=Aa ht1;clear mL mS HN HS ho1 ht1
 go_wp2_with fail
 refine HD.out.mono ?_;rintro e w2⟨⟨b,rfl⟩,l2,hp2,hh2,hk2,ho2,ht2⟩;have hl2:l2.length=n+1:=by rw [hp2.length_eq,Qo];exact HL.out
 have h0:l2[n]? =some (Fh id l 0):=by
  have hll:=HL.out;have hl0:0<l.length:=O
  rw [hk2 n (Ad _),P7 l 0 n hl0 O];have hx:l[0]? =some (Fh id l 0):=by rw [Fh,Af hl0];rfl
  by_cases e:n=0
  ·subst e;rw [if_pos rfl];exact hx
  ·rw [if_neg e,if_pos rfl];exact hx
 have hsp:l2=l2.take n++[Fh id l 0]:=by
  have:=List.take_append_drop n l2;rw [List.drop_eq_getElem_cons O,List.drop_eq_nil_of_le O]at this;rw [Af O]at h0;injection h0 with h0
  rw [h0]at this;exact this.symm
 have Acm:=Anj (w:=w2) (B:=B) (o:=o) (g:=g) (c:=c) (l:=l2.take n) (Fh id l 0) (hsp▸ho2);have Acm:=Aa Acm;have mP:=λf=>Agf f (Φ o) w2
 have HSp:=Aa hsp;have HH2:=Aa hh2;have HP2:=Aa hp2;have HL2:=Aa hl2;have HT2:=Aa (HT1.out.trans ht2 (λb h=> .inl h));clear ho2 ht2 hk2 h0 hsp hh2 hp2 hl2 HD;generalize hm:Fh id l 0=m at*
 go_wp2_with fail
 refine Acm.out.mono ?_;rintro e w3⟨rfl,ho3,ht3⟩
 go_wp2_with fail
 go_ret;refine⟨m,l2.take n,rfl,?_,Anl.out,?_,ho3,HT2.out.trans ht3 (λb h=> .inl h)⟩
 ·have h1:(m::l2.take n).Perm (l2.take n++[m]):=(List.perm_append_singleton m (l2.take n)).symm;rw [<-HSp.out]at h1;exact h1.trans (HP2.out.trans (Oc _ _ _))
 ·intro k h0 hk;have:=HH2.out k h0 hk;have e:∀t,t<n->Fh id (l2.take n) t=Fh id l2 t:=λt ht=>by simp only [Fh,List.getElem?_take,if_pos ht]
  rw [e _ O,e _ hk];exact this
