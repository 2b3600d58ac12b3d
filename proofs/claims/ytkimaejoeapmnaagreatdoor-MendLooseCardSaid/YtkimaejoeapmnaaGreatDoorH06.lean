import Derived.Test.YtkimaejoeapmnaaGreatDoorH05
set_option linter.defProp false
set_option maxHeartbeats 32000000
set_option maxRecDepth 100000
open List renaming length_nil->Du,length_cons->BB,getElem?_append_left->DI,getElem?_take->CW,getElem?_append_right->DZ,length_take->Dw,getElem?_drop->Dl,ext_getElem?->Jk,getElem?_eq_none->EW,eq_nil_of_length_eq_zero->Ci,getElem?_eq_some_iff->Cc,ext_getElem->Eu,map_toArray->MZ,map_cons->Cb,map_nil->Gv
open Go.World renaming setCell->D8,setCells->Oo
open Array renaming getElem?_modify->Ri,getElem?_setIfInBounds->Be,getElem?_eq_some_iff->AB,getElem?_push->FH
open Nat renaming min_eq_left->Ny,zero_add->DR,le_refl->Ad,eq_zero_or_pos->Hu,mul_le_mul->IA,le_trans->Bc,lt_of_lt_of_le->BQ,pow_le_pow_right->Fj,mod_lt->TE,pow_pos->TM,lt_of_le_of_lt->Hw,and_le_right->Ai1,and_le_left->Ai7,xor_comm->Aqa
open Int renaming natCast_pow->IV,natCast_mul->Gw,natCast_ediv->Ai0
open Go.Lib renaming hid->Aa
namespace Go.Proofs.YtkimaejoeapmnaaGreatDoor
open Go.RowKit
open Go.Proofs.Tryz
def Ed(g:Nat)(e:TypeId)(fz:Nat×Nat):∀(vs:List Value)(o:Nat)(w:World)(cur:Array Value),w.heap[g]? =some (.cells cur e fz)->o+vs.length<=cur.size->
 ∃cur':Array Value,(w.setCells g o vs).heap[g]? =some (.cells cur' e fz)/\cur'.size=cur.size/\∀j:Nat,cur'[j]? =if o<=j/\j<o+vs.length then vs[j-o]? else cur[j]?
 | [],o,w,cur,h,_=>⟨cur,h,rfl,λj=>by rw [if_neg (by simp only [Du];omega)]⟩
 | v::r,o,w,cur,h,hs=>by
   have h1:(w.setCell (Δ g o) v).heap[g]? =some (.cells (cur.setIfInBounds o v) e fz):=by
    simp [D8,Ri,h]
   obtain⟨cur',h2,h3,h4⟩:=Ed g e fz r (o+1) (w.setCell (Δ g o) v) (cur.setIfInBounds o v) h1 (by simp at hs⊢;omega);refine⟨cur',h2,by rw [h3];simp,λj=> ?_⟩;rw [h4 j];simp only [BB]at hs⊢;by_cases hj:j=o
   ·subst hj;rw [if_neg O,if_pos O,Be,if_pos rfl,if_pos O];simp
   ·by_cases hin:o+1<=j/\j<o+1+r.length
    ·rw [if_pos hin,if_pos O];rw [show j-o=(j- (o+1))+1 by omega];simp
    ·rw [if_neg hin,if_neg O,Be,if_neg O]
def setCells_size(w:World)(g o:Nat)(vs:List Value):(w.setCells g o vs).heap.size=w.heap.size:=by
 induction vs generalizing w o with
 | nil=>rfl
 | cons v r ih=>rw [Oo,ih];simp [D8]
def Ee(w:World)(g o:Nat)(vs:List Value):(w.setCells g o vs).tape=w.tape:=by
 induction vs generalizing w o with
 | nil=>rfl
 | cons v r ih=>rw [Oo,ih];rfl
def ET(w:World)(g o:Nat)(vs:List Value):(w.setCells g o vs).os=w.os:=by
 induction vs generalizing w o with
 | nil=>rfl
 | cons v r ih=>rw [Oo,ih];rfl
def DD(w:World)(g o:Nat)(vs:List Value):(w.setCells g o vs).output=w.output:=by
 induction vs generalizing w o with
 | nil=>rfl
 | cons v r ih=>rw [Oo,ih];rfl
def Jg(w:World)(g o:Nat)(vs:List Value){k:Nat}(hk:k≠g):(w.setCells g o vs).heap[k]? =w.heap[k]? :=by
 induction vs generalizing w o with
 | nil=>rfl
 | cons v r ih=>rw [Oo,ih];exact Below.heap_setCell w (Δ g o) v k (λh=>hk h)
def Vl(xs:List Value)(i:Nat)(u:Value):List Value:=xs.take i++u::xs.drop i
def oI(xs:List Value)(i:Nat)(u:Value)(hi:i<=xs.length)(j:Nat):(Vl xs i u)[j]? =if j<i then xs[j]? else if j=i then some u else xs[j-1]? :=by
 unfold Vl;by_cases h1:j<i
 ·rw [if_pos h1,DI (by simp;omega),CW,if_pos h1]
 ·rw [if_neg h1,DZ (by simp;omega)];simp only [Dw,Ny hi];by_cases h2:j=i
  ·subst h2;simp
  ·rw [if_neg h2,show j-i=(j-1-i)+1 by omega,List.getElem?_cons_succ,Dl];congr 1;omega
def X8(xs:List Value)(i:Nat)(u:Value)(hi:i<=xs.length):(Vl xs i u).length=xs.length+1:=by
 unfold Vl;simp;omega
def fF{w:World}{base g n c i:Nat}{e:TypeId}{xs:List Value}{u:Value}(h:w.ownsRow base e 1 (.slice (some (Φ g)) n c) n xs)(hi:i<=n)(hc:n+1<=c):
 ((w.setCells g (i+1) (xs.drop i)).setCells g i [u]).ownsRow base e 1 (.slice (some (Φ g)) (n+1) c) (n+1) (Vl xs i u):=by
 obtain⟨h1,h2⟩:=h;have hlen:xs.length=n:=by simpa using h1
 rcases h2 with⟨h2,_⟩| ⟨g',cap,cur,hv,hB,hg,hnc,hcm,hcs,ht⟩
 ·cases h2
 simp only [Value.slice.injEq,Option.some.injEq,Addr.mk.injEq,and_true,true_and]at hv;obtain⟨rfl,rfl⟩:=hv;obtain⟨vT,a1,a2,a3⟩:=Ed g e (0,0) (xs.drop i) (i+1) w cur hg (by simp;omega);obtain⟨Yk,b1,b2,b3⟩:=Ed g e (0,0) [u] i _ vT a1 (by simp;omega);refine⟨by rw [X8 xs i u O];omega,.inr ⟨g,c,Yk,rfl,hB,b1,hc,hcm,O,?_⟩⟩;apply Jk;intro j;rw [oI xs i u O j,CW];have Anc:∀j,j<n->cur[j]? =xs[j]? :=λj hj=>by rw [<-ht,CW,if_pos O];simp
 by_cases hj:j<(n+1)*1
 ·rw [if_pos hj];have e2:Yk.toList[j]? =Yk[j]? :=by simp
  rw [e2,b3 j];simp only [BB,Du,DR];by_cases hji:j=i
  ·subst hji;rw [if_pos O,if_neg O,if_pos rfl];simp
  ·rw [if_neg O,a3 j];by_cases hlt:j<i
   ·rw [if_neg O,if_pos hlt,Anc j O]
   ·rw [if_pos (by simp;omega),if_neg hlt,if_neg hji,Dl];congr 1;omega
 ·rw [if_neg hj,if_neg O,if_neg O,EW O]
def fG{w:World}{base G:Nat}{e:TypeId}{xs zs:List Value}{i:Nat}{u:Value}(ROW:Array Value)(hb:base<=w.heap.size)(hi:i<=xs.length)(hG:xs.length+1<=G)(hGm:G<=maxLen)(hR:ROW.size=G)(hz:∀j,j<i->ROW[j]? =xs[j]?)(hzs:zs=xs.drop i):
 ((((w.alloc (.cells ROW e)).drew.setCells w.heap.size i [u]).drew).setCells w.heap.size (i+1) zs).ownsRow base e 1 (.slice (some (Φ w.heap.size)) (xs.length+1) G) (xs.length+1) (Vl xs i u):=by
 subst hzs;have hg:((w.alloc (.cells ROW e)).drew).heap[w.heap.size]? =some (.cells ROW e (0,0)):=by
  show(w.heap.push _)[w.heap.size]? =_;simp
 obtain⟨vT,a1,a2,a3⟩:=Ed w.heap.size e (0,0) [u] i _ ROW hg (by simp;omega);have a1':(((w.alloc (.cells ROW e)).drew.setCells w.heap.size i [u]).drew).heap[w.heap.size]? =some (.cells vT e (0,0)):=a1;obtain⟨Yk,b1,b2,b3⟩:=Ed w.heap.size e (0,0) (xs.drop i) (i+1) _ vT a1' (by simp;omega);refine⟨by rw [X8 xs i u hi];omega,.inr ⟨w.heap.size,G,Yk,rfl,hb,b1,hG,hGm,O,?_⟩⟩;apply Jk;intro j;rw [oI xs i u hi j,CW];by_cases hj:j<(xs.length+1)*1
 ·rw [if_pos hj];have e2:Yk.toList[j]? =Yk[j]? :=by simp
  rw [e2,b3 j,a3 j];simp only [BB,Du,DR,List.length_drop];by_cases hji:j=i
  ·subst hji;rw [if_neg O,if_pos O,if_neg O,if_pos rfl];simp
  ·by_cases hlt:j<i
   ·rw [if_neg O,if_neg O,if_pos hlt,hz j hlt]
   ·rw [if_pos O,if_neg hlt,if_neg hji,Dl];congr 1;omega
 ·rw [if_neg hj,if_neg O,if_neg O,EW O]
def jG(xs:List Value)(i:Nat):List Value:=xs.take i++xs.drop (i+1)
def Afn(xs:List Value)(i:Nat)(hi:i<xs.length)(j:Nat):(jG xs i)[j]? =if j<i then xs[j]? else xs[j+1]? :=by
 unfold jG;by_cases h1:j<i
 ·rw [if_pos h1,DI (by simp;omega),CW,if_pos h1]
 ·rw [if_neg h1,DZ (by simp;omega)];simp only [Dw,Ny (Nat.le_of_lt hi)];rw [Dl];congr 1;omega
def oJ(xs:List Value)(i:Nat)(hi:i<xs.length):(jG xs i).length=xs.length-1:=by
 unfold jG;simp;omega
def X9{w:World}{base g n c i:Nat}{e:TypeId}{xs zs:List Value}(h:w.ownsRow base e 1 (.slice (some (Φ g)) n c) n xs)(hi:i<n)(hz:zs.length=1):
 ((w.setCells g i (xs.drop (i+1))).setCells g (n-1) zs).ownsRow base e 1 (.slice (some (Φ g)) (n-1) c) (n-1) (jG xs i):=by
 obtain⟨h1,h2⟩:=h;have hlen:xs.length=n:=by simpa using h1
 rcases h2 with⟨h2,_⟩| ⟨g',cap,cur,hv,hB,hg,hnc,hcm,hcs,ht⟩
 ·cases h2
 simp only [Value.slice.injEq,Option.some.injEq,Addr.mk.injEq,and_true,true_and]at hv;obtain⟨rfl,rfl⟩:=hv;obtain⟨vT,a1,a2,a3⟩:=Ed g e (0,0) (xs.drop (i+1)) i w cur hg (by simp;omega);obtain⟨Yk,b1,b2,b3⟩:=Ed g e (0,0) zs (n-1) _ vT a1 O;refine⟨by rw [oJ xs i O];omega,.inr ⟨g,c,Yk,rfl,hB,b1,O,hcm,O,?_⟩⟩;apply Jk;intro j;rw [Afn xs i O j,CW];have Anc:∀j,j<n->cur[j]? =xs[j]? :=λj hj=>by rw [<-ht,CW,if_pos O];simp
 by_cases hj:j<(n-1)*1
 ·rw [if_pos hj];have e2:Yk.toList[j]? =Yk[j]? :=by simp
  rw [e2,b3 j,if_neg O,a3 j];by_cases hlt:j<i
  ·rw [if_neg O,if_pos hlt,Anc j O]
  ·rw [if_pos (by simp;omega),if_neg hlt,Dl];congr 1;omega
 ·rw [if_neg hj,if_neg O,EW O]
def Kept.refl(w:World)(row:Option Nat):Kept w w row:=⟨Ad _,λ_ _ _=>rfl⟩
def Kept.setCells{w w':World}{g:Nat}(h:Kept w w' (some g))(o:Nat)(vs:List Value):Kept w (w'.setCells g o vs) (some g):=
 ⟨by rw [setCells_size];exact h.1,λk hk hne=>by rw [Jg _ _ _ _ (λe=>hne (by rw [e]))];exact h.2 k hk hne⟩
def Kept.drew{w w':World}{row:Option Nat}(h:Kept w w' row):Kept w w'.drew row:=h
def Kept.below{w w':World}{row:Option Nat}{B:Nat}(h:Kept w w' row)(hB:B<=w.heap.size)(ho:w'.os=w.os)(ht:w'.tape=w.tape)(hp:w'.output=w.output)(hr:∀g,row=some g->B<=g):Below B w w':=
 ⟨ho,ht,hp,h.1,λk hk=>h.2 k O (λe=>Ω (hr k e.symm))⟩
def Un {P : Program} {t e : TypeId} {z : Value} {bytes : Nat} (T : MH P t e z bytes) (ty : TypeId) {w : World} {base : Nat} {v : Value} {n : Nat} {xs news : List Value}
    (hown : w.ownsRow base e 1 v n xs) {A : Option Addr} {m : Nat} (hr : Rd w A m news)
    (h1 : ∀ u ∈ news, u.oneCell' = true) (hm : n + m <= 1000000000) (hby : bytes <= 64) (hbase : base <= w.heap.size) (c : Nat) :
    ∃ v' w', (Builtin.append_ #[t, t] ty #[v, .slice A m c]).run P w = .ok v' w' /\ w'.ownsRow base e 1 v' (n + m) (xs ++ news) /\ Below base w w' /\ Kept w w' v.ownBlock := by
  obtain ⟨i, hi, hz0, hz1, hz2⟩ := info_parts T.hi
  rcases A with _ | ad
  · have h0 : m = 0 := by
      rcases Hu m with h0 | h0
      · exact h0
      · obtain ⟨_, _, e, _⟩ := hr.2 h0; cases e
    subst h0
    have hn : news = [] := Ci hr.1
    subst hn
    refine ⟨v, w, ?_, by simpa using hown, Below.refl _ _, Kept.refl _ _⟩
    rcases hown.2 with ⟨rfl, rfl⟩ | ⟨g, cap, cur, rfl, _, _, hnc, _⟩
    · simp [Builtin.append_, run_underlying T.ht, sizeOf, typeInfo, hi, Builtin.lenOf, Builtin.firstCells]
    · simp [Builtin.append_, run_underlying T.ht, sizeOf, typeInfo, hi, Builtin.lenOf, Builtin.firstCells, hnc, storeCells]
  · have hcells : ∀ j u, news[j]? = some u -> w.cell? (ad.add j) = some u := by
      intro j u hu
      have hj : j < m := by
        have := (Cc.1 hu).1
        have := hr.1
        omega
      obtain ⟨b, off, e, _, hc⟩ := hr.2 O
      injection e with e
      subst e
      rw [Addr.add_lit, hc j hj, hu]
    have hmul : (n + m) * bytes <= 1000000000 * 64 := IA hm hby
    obtain ⟨v', w', hrun, h2, h3, _⟩ := run_append_own (P := P) w base t ty e i z 1 bytes T.ht hi hz0 hz1 hz2 T.hz U v n xs hown ad m c news (by simp [hr.1]) hcells h1
      (by unfold maxLen; omega) O hbase
    exact ⟨v', w', hrun, h2, (Below.refl _ _).grown h3 hbase (λk hk => (hown.lt k hk).1), h3.size, λk hk hne => h3.block k hk (λh => hne h)⟩
structure Touch(F:Nat->Prop)(w w':World):Prop where
 os:w'.os=w.os
 tape:w'.tape=w.tape
 output:w'.output=w.output
 size:w.heap.size<=w'.heap.size
 block:∀k,k<w.heap.size->¬F k->w'.heap[k]? =w.heap[k]?
def Touch.refl(F:Nat->Prop)(w:World):Touch F w w:=⟨rfl,rfl,rfl,Ad _,λ_ _ _=>rfl⟩
def Touch.mono{F G:Nat->Prop}{w w':World}(h:Touch F w w')(hg:∀k,F k->G k):Touch G w w':=
 ⟨h.os,h.tape,h.output,h.size,λk hk hn=>h.block k hk (λhf=>hn (hg k hf))⟩
def Touch.of_below{F:Nat->Prop}{w w':World}(h:η w w'):Touch F w w':=
 ⟨h.os,h.tape,h.output,h.size,λk hk _=>h.block k hk⟩
def Touch.below{F:Nat->Prop}{w w':World}(h:Touch F w w'){B:Nat}(hB:B<=w.heap.size)(hF:∀k,F k->B<=k):Below B w w':=
 ⟨h.os,h.tape,h.output,h.size,λk hk=>h.block k O (λhf=>Ω (hF k hf))⟩
def Touch.trans{F G:Nat->Prop}{w w' w'':World}(h:Touch F w w')(k:Touch G w' w'')(hg:∀b,G b->F b\/w.heap.size<=b):Touch F w w'':=
 ⟨k.os.trans h.os,k.tape.trans h.tape,k.output.trans h.output,Bc h.size k.size,λb hb hn=>by
  rw [k.block b (BQ hb h.size) (λhgb=>(hg b hgb).elim hn (λhle=>O))];exact h.block b hb hn⟩
def Touch.setCell{F:Nat->Prop}{w w':World}(h:Touch F w w'){p:Addr}(hp:F p.block\/w.heap.size<=p.block)(u:Value):Touch F w (w'.setCell p u):=
 ⟨h.os,h.tape,h.output,by simpa [D8]using h.size,λb hb hn=>by
  rw [Below.heap_setCell w' p u b (λe=>hp.elim (λhf=>hn (e▸hf)) (λhle=>O))];exact h.block b hb hn⟩
def CS.touch{w w':World}{F:Nat->Prop}{g:Nat}{e:TypeId}{xs:List Value}(h:CS w g e xs)(t:Touch F w w')(hg:¬F g):CS w' g e xs:=(t.block g h.lt hg).trans h
def Rd.touch{w w':World}{F:Nat->Prop}{A:Option Addr}{n:Nat}{xs:List Value}(h:Rd w A n xs)(t:Touch F w w')(hF:∀a,A=some a->¬F a.block):Rd w' A n xs:=
 ⟨h.1,λhn=>by
   obtain⟨b,off,e,hb,hc⟩:=h.2 hn;exact⟨b,off,e,BQ hb t.size,λj hj=>(World.cell?_of_block (w:=w) (t.block b hb (hF _ e))).trans (hc j hj)⟩⟩
def Ie{w w':World}{F:Nat->Prop}{base:Nat}{e:TypeId}{v:Value}{n:Nat}{xs:List Value}{size:Nat}(h:w.ownsRow base e size v n xs)(t:Touch F w w')(hF:∀g,v.ownBlock=some g->¬F g):w'.ownsRow base e size v n xs:=by
 refine⟨h.1,?_⟩;rcases h.2 with h| ⟨g,cap,cur,h1,h2,h3,h4⟩
 ·exact .inl h
 ·exact .inr ⟨g,cap,cur,h1,h2,(t.block g (AB.1 h3).1 (hF g (by rw [h1];rfl))).trans h3,h4⟩
def O6{w:World}{base g n c i:Nat}{e:TypeId}{xs:List Value}{u:Value}(h:w.ownsRow base e 1 (.slice (some (Φ g)) n c) n xs)(_:i<n):
 (w.setCell (Δ g i) u).ownsRow base e 1 (.slice (some (Φ g)) n c) n (xs.set i u):=by
 obtain⟨h1,h2⟩:=h;have hlen:xs.length=n:=by simpa using h1
 rcases h2 with⟨h2,_⟩| ⟨g',cap,cur,hv,hB,hg,hnc,hcm,hcs,ht⟩
 ·cases h2
 simp only [Value.slice.injEq,Option.some.injEq,Addr.mk.injEq,and_true,true_and]at hv;obtain⟨rfl,rfl⟩:=hv;have a1:(w.setCell (Δ g i) u).heap[g]? =some (.cells (cur.setIfInBounds i u) e (0,0)):=by
  simp [D8,Ri,hg]
 refine⟨by simpa using h1,.inr ⟨g,c,_,rfl,hB,a1,hnc,hcm,by simpa using hcs,?_⟩⟩;rw [Array.toList_setIfInBounds,List.take_set,ht]
def Tc{w:World}{base g n c i:Nat}{e:TypeId}{xs:List Value}(h:w.ownsRow base e 1 (.slice (some (Φ g)) n c) n xs)(hi:i<n):
 (∃v,w.cell? (Δ g i)=some v)/\w.frozen? (Δ g i)=false:=by
 refine⟨YU h hi,?_⟩;rcases h.2 with⟨h2,_⟩| ⟨g',cap,cur,hv,hB,hg,_⟩
 ·cases h2
 ·simp only [Value.slice.injEq,Option.some.injEq,Addr.mk.injEq,and_true,true_and]at hv;obtain⟨rfl,rfl⟩:=hv;simp [World.frozen?,hg]
def KL{w:World}{base n c:Nat}{A:Option Addr}{e:TypeId}{xs:List Value}(h:w.ownsRow base e 1 (.slice A n c) n xs)(hn:0<n):∃g,A=some (Φ g)/\base<=g/\g<w.heap.size:=by
 rcases h.2 with⟨h2,h0⟩| ⟨g',cap,cur,hv,hB,hg,_⟩
 ·omega
 ·simp only [Value.slice.injEq]at hv;exact⟨g',hv.1,hB,(AB.1 hg).1⟩
def zN(A:Option Addr)(n c k:Nat)(w:World)(hn:n<=1000000000)(h8:k%8=0)(hk:k+8<=n):
 Calls prog 108 #[.slice A n c,.int .i64 (k:Int)] w λe w'=>e= .returned (.bool true)/\w=w':=by
 have t1:decide ((0:Int)<=(k:Int))=true:=by simp
 have t2:((k:Int)%8==0)=true:=by rw [beq_iff_eq];omega
 have t3:decide ((k:Int)<=(n:Int) -8)=true:=decide_eq_true O;go_enter func108,ntmps108;go_wp2;go_ret;exact⟨rfl,rfl⟩
def jH(j:Nat):2^(8*j)=256^j:=by rw [Nat.pow_mul]
def Ab1(j:Nat)(hj:j<8):256^j<=72057594037927936:=by
 have:256^j<=256^7:=Fj U O;exact Bc this U
def zO(X b j:Nat)(hb:b<256)(hj:j<8):bits .or .u64 ((X:Int)%256^j) (IntKind.u64.wrap (IntKind.u64.wrap (b:Int)*2^(8*j)))=((X%256^j+b*256^j:Nat):Int):=by
 have h1:X%256^j<256^j:=TE _ (TM U);have h2:=Ab1 j hj;have h3:b*256^j<=255*72057594037927936:=IA O h2;have e1:((X:Int)%256^j)=((X%256^j:Nat):Int):=by rw [Int.natCast_emod,IV];rfl
 have e2:IntKind.u64.wrap (b:Int)=(b:Int):=by rw [IntKind.wrap_u64];omega
 have e3:(b:Int)*2^(8*j)=((b*256^j:Nat):Int):=by rw [<-jH,Gw,IV];rfl
 have e4:IntKind.u64.wrap ((b*256^j:Nat):Int)=((b*256^j:Nat):Int):=by rw [IntKind.wrap_u64];omega
 rw [e1,e2,e3,e4,u64_or_nat _ _ O O,Nat.or_comm,nat_join (8*j) _ _ (by rw [jH];exact Nat.mul_mod_left _ _) (by rw [jH];exact h1)];congr 1;omega
def oK(A:Option Addr)(n c k:Nat)(l:List UInt64)(w:World)(hn:n<=1000000)(h:Bs w A n (leBytes l))(hk:k<l.length):
 Calls prog 69 #[.slice A n c,.int .i64 ((8*k:Nat):Int)] w λe w'=>e= .returned (.tuple #[.int .u64 (l[k].toNat:Int),.bool true])/\w=w':=by
 have hlen:=h.len;rw [leBytes_length]at hlen;have hh:=zN A n c (8*k) w O O O;have HH:=Aa hh;have HLE:=Aa (Ip l k · hk ·);clear hh;go_enter func69,ntmps69
 go_wp2_with fail
 refine HH.out.mono ?_;rintro e w'⟨rfl,rfl⟩;clear HH
 go_wp2_with fail
 go_loop [6,12](λs i=>∃j:Nat,j<=8/\i= .int .i64 j/\s= .int .u64 ((l[k].toNat%256^j:Nat):Int))(λ_ i=>8- (intOf i).toNat)
 case atStart=>exact⟨0,O,rfl,by simp⟩
 case round=>
  obtain⟨j,hj,rfl,rfl⟩:=hrel;by_cases hlt:j<8
  ·obtain⟨hq,p,off,rfl,hp,hc⟩:=h.at (show 8*k+j<n by omega);have hb:=HLE.out j hlt;rw [List.getElem?_eq_getElem hq]at hb;injection hb with hb
   rw [hb]at hc;have HS:Hid (bits .or .u64 ((l[k].toNat:Int)%256^j) (IntKind.u64.wrap (IntKind.u64.wrap ((leB l[k] j).toNat:Int)*2^(8*j)))=((l[k].toNat%256^(j+1):Nat):Int)):=Aa (by
    rw [zO _ _ _ (leB l[k] j).toNat_lt hlt,le_step])
   go_wp2
   go_round
   case rel=>exact⟨j+1,O,by go_num,by rw [HS.out]⟩
   case measure=>simp [intOf];omega
  ·have hj8:j=8:=O
   subst hj8;rw [Am8];go_wp2;go_ret2;exact⟨rfl,rfl⟩
def oL(x:UInt64)(j:Nat):(x.toNat:Int)/2^(8*j)%256=((leB x j).toNat:Int):=by
 have e:(x.toNat:Int)/2^(8*j)=((x.toNat/256^j:Nat):Int):=by
  rw [Ai0,<-jH,IV];rfl
 rw [SQ,e];rfl
def XA(A:Option Addr)(n c k:Nat)(l:List UInt64)(x:UInt64)(w:World)(hn:n<=1000000)(h:Bs w A n (leBytes l))(hk:k<l.length):
 Calls prog 77 #[.slice A n c,.int .i64 ((8*k:Nat):Int),.int .u64 (x.toNat:Int)] w λe w'=>∃g c',e= .returned (.tuple #[.slice (some (Φ g)) n c',.bool true])/\w'.ownsRow w.heap.size 5 1 (.slice (some (Φ g)) n c') n ((leBytes (l.set k x)).map bv)/\η w w':=by
 have hlen:=h.len;rw [leBytes_length]at hlen;have HM:=Aa (Abs l k x · hk ·);have HZ:=Aa (Abr l k x);have HE:=Aa (nZ l k x hk);go_enter func77,ntmps77
 go_wp2_with fail
 refine(Uk A n c (leBytes l) w hn h).mono ?_;rintro e w1⟨v1,rfl,o1,hb1⟩;obtain⟨A1,c1,rfl,hc1,_⟩:=CU o1;obtain⟨g,rfl,hg1,hg2⟩:=KL o1 O;have HH:=Aa (zN A n c (8*k) w1 O O O);rw [<-HZ.out]at o1;clear HZ
 go_wp2_with fail
 refine HH.out.mono ?_;rintro e w'⟨rfl,rfl⟩;clear HH
 go_wp2_with fail
 go_loopw [17](λi wr=>∃j:Nat,j<=8/\i= .int .i64 j/\wr.ownsRow w.heap.size 5 1 (.slice (some (Φ g)) n c1) n ((Yj l k x j).map bv)/\η w wr)(λi _=>8- (intOf i).toNat)
 case atStart=>exact⟨0,O,rfl,o1,hb1⟩
 case round=>
  obtain⟨j,hj,rfl,oj,hbj⟩:=hrel;by_cases hlt:j<8
  ·obtain⟨⟨v,hv⟩,hfz⟩:=Tc oj (show 8*k+j<n by omega);have HO:Hid ((wr.setCell (Δ g (8*k+j)) (.int .u8 ((leB x j).toNat:Int))).ownsRow w.heap.size 5 1 (.slice (some (Φ g)) n c1) n ((Yj l k x (j+1)).map bv)):=Aa (by
    rw [<-HM.out j hlt,List.map_set];exact O6 oj O)
   have HB:=Aa (hbj.setCell (p:=Δ g (8*k+j)) hg1 (.int .u8 ((leB x j).toNat:Int)));have HW:=Aa (oL x j);clear oj;go_wp2;rw [HW.out];go_roundw
   case rel=>exact⟨j+1,O,by go_num,HO.out,HB.out⟩
   case measure=>simp [intOf];omega
  ·have hj8:j=8:=O
   subst hj8;rw [HE.out]at oj;go_wp2;go_ret2;exact⟨g,c1,rfl,oj,hbj⟩
def EN(ws:Nat->UInt64)(i:Nat):List UInt64:=(List.range 8).map λt=>ws (8*i+t)
def GZ(ws:Nat->UInt64)(i:Nat):(EN ws i).length=8:=by simp [EN]
def Jr(ws:Nat->UInt64)(i k:Nat)(hk:k<(EN ws i).length):(EN ws i)[k]=ws (8*i+k):=by simp [EN]
def Ab2(ws:Nat->UInt64)(i k:Nat)(x:UInt64)(_:k<8):(EN ws i).set k x=EN (λj=>if j=8*i+k then x else ws j) i:=by
 apply Eu
 ·simp [EN]
 ·intro t h1 h2;rw [List.getElem_set,Jr,Jr];by_cases ht:k=t
  ·rw [if_pos ht,if_pos O]
  ·rw [if_neg ht,if_neg O]
def oM(ws:Nat->UInt64)(i i' k:Nat)(x:UInt64)(hk:k<8)(hne:i'≠i):EN (λj=>if j=8*i+k then x else ws j) i'=EN ws i':=by
 apply Eu
 ·simp [EN]
 ·intro t h1 h2;have:t<8:=by simpa [EN]using h1
  rw [Jr,Jr,if_neg O]
structure Mode where
 Nk:Nat->List (Nat×UInt64)
 lf:Int
def Mode.len(m:Mode)(i:Nat):Nat:=(m.Nk i).length
instance:CoeFun Mode (λ_=>Nat->Nat):=⟨Mode.len⟩
abbrev MU(lf:Int):Mode:=⟨λ_=>[],lf⟩
abbrev M0:Mode:=MU (-1)
def Mode.tick(m:Mode):Mode:=⟨m.Nk,if 0<m.lf then m.lf-1 else m.lf⟩
def Mode.note(m:Mode)(i:Nat)(c:Nat×UInt64):Mode:=⟨λk=>if k=i then m.Nk i++[c]else m.Nk k,m.lf⟩
def Mode.wipe(m:Mode)(i:Nat):Mode:=⟨λk=>if k=i then []else m.Nk k,m.lf⟩
def Mode.Rx(m:Mode)(i:Nat)(c:Nat×UInt64)(k:Nat):(m.note i c).len k=if k=i then m.len i+1 else m.len k:=by
 unfold Mode.note Mode.len;simp only;split
 ·simp
 ·rfl
def Mode.Zo(m:Mode)(i k:Nat):(m.wipe i).len k=if k=i then 0 else m.len k:=by
 unfold Mode.wipe Mode.len;simp only;split<;>rfl
def chV:List (Nat×UInt64)->List Value
 | []=>[]
 | c::l=> .int .i64 (c.1:Nat):: .int .u64 (c.2.toNat:Nat)::chV l
def Jh(i:Nat):List (Nat×UInt64)->(Nat->UInt64)->Nat->UInt64
 | [],ws=>ws
 | c::l,ws=>λq=>if q=8*i+c.1/8 then c.2 else Jh i l ws q
def O7(m:Mode)(pick:Nat->Nat)(ws:Nat->UInt64)(q:Nat):UInt64:=Jh (q/8) ((m.Nk (q/8)).drop (pick (q/8))) ws q
def zQ:∀(a b:List (Nat×UInt64)),chV (a++b)=chV a++chV b
 | [],_=>rfl
 | c::a,b=>by simp only [List.cons_append,chV,zQ a b]
def Zp(w:World)(A:Option Addr)(cs:List (Nat×UInt64))(c:Nat)(hb:Option Nat):Prop:=
 (hb=none/\cs=[]/\c=0)\/∃h,hb=some h/\A=some (Φ h)/\w.ownsRow 0 204 2 (.slice A cs.length c) cs.length (chV cs)
structure BK(w:World)(d L:Nat)(ws:Nat->UInt64)(len:Mode)(mark:Nat->Nat)(g:Nat)(hb:Nat->Option Nat):Prop where
 box:∃st:Int,CS w d 78 [.slice (some (Φ g)) L L,.bool (decide (len.lf=0)),.int .i64 len.lf,.int .i64 st]
 lfr: -1<=len.lf/\len.lf<=1000000000
 gd:g≠d
 blk:∃cur:Array Value,w.heap[g]? =some (.cells cur 82 (0,0))/\cur.size=66*L/\
  (∀i,i<L->∀k,k<64->cur[66*i+k]? =(leBytes (EN ws i))[k]?.map bv)/\
  ∀i,i<L->∃A c,cur[66*i+64]? =some (.slice A (len i) c)/\cur[66*i+65]? =some (.int .i64 (mark i:Int))/\Zp w A (len.Nk i) c (hb i)
 bd:∀i,i<L->∀h,hb i=some h->h≠g/\h≠d
 inj:∀i j,i<L->j<L->i≠j->∀h,hb i=some h->hb j≠some h
 mrk:∀i,i<L->mark i<=len i+1
def Dh(d L g:Nat)(hb:Nat->Option Nat)(b:Nat):Prop:=b=d\/b=g\/∃i,i<L/\hb i=some b
def Dev(w:World)(d L:Nat)(ws:Nat->UInt64)(len:Mode)(mark:Nat->Nat)(own:Nat->Prop):Prop:=
 ∃g hb,BK w d L ws len mark g hb/\∀b,own b<->Dh d L g hb b
def Zp.keep{w w':World}{A:Option Addr}{cs:List (Nat×UInt64)}{c:Nat}{hb:Option Nat}(h:Zp w A cs c hb)(hk:∀b,hb=some b->b<w.heap.size->w'.heap[b]? =w.heap[b]?):Zp w' A cs c hb:=by
 rcases h with h| ⟨h0,e1,e2,⟨h1,h2⟩⟩
 ·exact .inl h
 ·refine .inr ⟨h0,e1,e2,⟨h1,?_⟩⟩;rcases h2 with h2| ⟨g,cap,cur,a1,a2,a3,a4⟩
  ·exact .inl h2
  ·refine .inr ⟨g,cap,cur,a1,a2,?_,a4⟩;have:g=h0:=by
    simp only [Value.slice.injEq]at a1;have:=a1.1.symm.trans e2;simpa using this
   subst this;rw [hk g e1 (AB.1 a3).1];exact a3
def Zp.lt {w : World} {A : Option Addr} {cs : List (Nat × UInt64)} {c : Nat} {hb : Option Nat} (h : Zp w A cs c hb) : ∀ b, hb = some b -> b < w.heap.size := by
  intro b hbb
  rcases h with ⟨h, _⟩ | ⟨h0, e1, e2, ⟨h1, h2⟩⟩
  · rw [h] at hbb; cases hbb
  · rcases h2 with ⟨h2, _⟩ | ⟨g, cap, cur, a1, a2, a3, a4⟩
    · simp only [Value.slice.injEq] at h2
      rw [e2] at h2; cases h2.1
    · have e3 : g = h0 := by
        simp only [Value.slice.injEq] at a1
        have := a1.1.symm.trans e2
        simpa using this
      rw [e1] at hbb
      injection hbb with hbb
      subst e3 hbb
      exact (AB.1 a3).1
def BK.keep{w w':World}{d L:Nat}{ws:Nat->UInt64}{len:Mode}{mark:Nat->Nat}{g:Nat}{hb:Nat->Option Nat}(h:BK w d L ws len mark g hb)
 (hk:∀b,Dh d L g hb b->b<w.heap.size->w'.heap[b]? =w.heap[b]?):BK w' d L ws len mark g hb:=by
 obtain⟨st,hbx⟩:=h.box;obtain⟨cur,hg,hs,h1,h2⟩:=h.blk;refine⟨⟨st,(hk d (.inl rfl) hbx.lt).trans hbx⟩,h.lfr,h.gd,⟨cur,(hk g (.inr (.inl rfl)) (AB.1 hg).1).trans hg,hs,h1,λi hi=> ?_⟩,h.bd,h.inj,h.mrk⟩;obtain⟨A,c,e1,e2,hc⟩:=h2 i hi;exact⟨A,c,e1,e2,hc.keep (λb hb' hlt=>hk b (.inr (.inr ⟨i,hi,hb'⟩)) hlt)⟩
def Dev.touch{w w':World}{d L:Nat}{ws:Nat->UInt64}{len:Mode}{mark:Nat->Nat}{own F:Nat->Prop}(h:Dev w d L ws len mark own)(t:Touch F w w')(hF:∀b,own b->¬F b):Dev w' d L ws len mark own:=by
 obtain⟨g,hb,hr,ho⟩:=h;exact⟨g,hb,hr.keep (λb jI hlt=>t.block b hlt (hF b ((ho b).2 jI))),ho⟩
def Dev.below{w w':World}{d L:Nat}{ws:Nat->UInt64}{len:Mode}{mark:Nat->Nat}{own:Nat->Prop}(h:Dev w d L ws len mark own)(hb:η w w'):Dev w' d L ws len mark own:=by
 obtain⟨g,hb',hr,ho⟩:=h;exact⟨g,hb',hr.keep (λb _ hlt=>hb.block b hlt),ho⟩
def BK.lt{w:World}{d L:Nat}{ws:Nat->UInt64}{len:Mode}{mark:Nat->Nat}{g:Nat}{hb:Nat->Option Nat}(h:BK w d L ws len mark g hb):∀b,Dh d L g hb b->b<w.heap.size:=by
 intro b hb';obtain⟨st,hbx⟩:=h.box;obtain⟨cur,hg,hs,h1,h2⟩:=h.blk;rcases hb' with rfl| rfl| ⟨i,hi,hh⟩
 ·exact hbx.lt
 ·exact(AB.1 hg).1
 ·obtain⟨A,c,_,_,hc⟩:=h2 i hi;exact hc.lt b hh
def Dev.lt{w:World}{d L:Nat}{ws:Nat->UInt64}{len:Mode}{mark:Nat->Nat}{own:Nat->Prop}(h:Dev w d L ws len mark own):∀b,own b->b<w.heap.size:=by
 obtain⟨g,hb,hr,ho⟩:=h;exact λb hb'=>hr.lt b ((ho b).1 hb')
def BK.line{w:World}{d L:Nat}{ws:Nat->UInt64}{len:Mode}{mark:Nat->Nat}{g:Nat}{hb:Nat->Option Nat}(h:BK w d L ws len mark g hb)(i:Nat)(hi:i<L):Bs w (some (Δ g (66*i))) 64 (leBytes (EN ws i)):=by
 obtain⟨cur,hg,hs,h1,h2⟩:=h.blk;refine⟨by rw [List.length_map,leBytes_length,GZ],λ_=>⟨g,66*i,rfl,(AB.1 hg).1,λj hj=> ?_⟩⟩;rw [cell_of_row w g _ cur _ (0,0) hg,h1 i hi j hj,List.getElem?_map]
def Ry{P:Program}(w:World)(b off:Nat)(ty:TypeId)(vs:List Value)(d:TypeDesc)(hu:P.underlying ty=some d)(hd:(match d with| .struct _| .array _ _=>true| _=>false)=true)
 (hi:(P.info? ty).map (·.size)=some vs.length)(h:∀j v,vs[j]? =some v->w.cell? (Δ b (off+j))=some v):(loadVar ty (Δ b off)).run P w= .ok (.agg vs.toArray) w:=by
 have hl:(loadCells (Δ b off) vs.length).run P w= .ok vs.toArray w:=
  run_loadCells_list (P:=P) w (Δ b off) vs (λj v hv=>by rw [Addr.add_lit];exact h j v hv)
 cases hq:P.info? ty with
 | none=>simp [hq]at hi
 | some i=>
   have hs:i.size=vs.length:=by simpa [hq]using hi
   have hagg:(isAgg ty).run P w= .ok true w:=by
    unfold isAgg;rw [Sem.run_bind,run_underlying hu w];cases d<;>simp_all
   simp [loadVar,Sem.run_bind,hagg,sizeOf,typeInfo,hq,hs,hl]
def Zq{P:Program}{ops:Array Oper}{rest:List Oper}{o:Oper}{a:Act}{w:World}{Q:Exit->Act->World->Prop}(hgd:o.guard=none)(ty:TypeId)(x:Operand)(ho:o.op= .load ty x)
 (b off:Nat)(hx:a.eval x= .pointer (some (Δ b off)))(vs:List Value)(d:TypeDesc)(hu:P.underlying ty=some d)(hd:(match d with| .struct _| .array _ _=>true| _=>false)=true)
 (hi:(P.info? ty).map (·.size)=some vs.length)(hc:∀j v,vs[j]? =some v->w.cell? (Δ b (off+j))=some v)
 (h:wpList P ops Q rest (a.put o.dst (.agg vs.toArray)) w):wpList P ops Q (o::rest) a w:=by
 refine wpList_plain hgd λK hK=> ?_
 unfold Oper.wp execOp;simp only [ho,hx,Instr.loadAt,Instr.sureAddr,Sem.run_bind,Sem.run_pure,Result.andThen_ok,Ry w b off ty vs d hu hd hi hc];exact hK _ _ h
def Yn{P:Program}(w:World)(b off:Nat)(ty:TypeId)(vs:List Value)(hi:(P.info? ty).map (·.size)=some vs.length)(hc:∀j,j<vs.length->(w.cell? (Δ b (off+j))).isSome=true)
 (hf:∀j,j<vs.length->w.frozen? (Δ b (off+j))=false)(h1:∀v∈vs,v.oneCell'=true):(storeVar ty (Δ b off) (.agg vs.toArray)).run P w= .ok () (w.setCells b off vs):=by
 have hs:=run_storeCells_cells (P:=P) b off vs 0 w (by simpa using hc) (by simpa using hf) h1;cases hq:P.info? ty with
 | none=>simp [hq]at hi
 | some i=>
   have hz:i.size=vs.length:=by simpa [hq]using hi
   simp only [Nat.add_zero]at hs;simp [storeVar,Sem.run_bind,sizeOf,typeInfo,hq,hz,Value.cells,hs]
def QL{P:Program}{ops:Array Oper}{rest:List Oper}{o:Oper}{a:Act}{w:World}{Q:Exit->Act->World->Prop}(hgd:o.guard=none)(ty:TypeId)(x y:Operand)(ho:o.op= .store ty x y)
 (b off:Nat)(hx:a.eval x= .pointer (some (Δ b off)))(vs:List Value)(hy:a.eval y= .agg vs.toArray)(hi:(P.info? ty).map (·.size)=some vs.length)(hc:∀j,j<vs.length->(w.cell? (Δ b (off+j))).isSome=true)
 (hf:∀j,j<vs.length->w.frozen? (Δ b (off+j))=false)(h1:∀v∈vs,v.oneCell'=true)
 (h:wpList P ops Q rest (a.put o.dst undef) (w.setCells b off vs)):wpList P ops Q (o::rest) a w:=by
 refine wpList_plain hgd λK hK=> ?_
 unfold Oper.wp execOp;simp only [ho,hx,hy,Instr.storeAt,Instr.sureAddr,Sem.run_bind,Sem.run_pure,Result.andThen_ok,Yn w b off ty vs hi hc hf h1];exact hK _ _ h
def jJ(size:Nat)(h:size<=32):2^size-1<4294967296:=by
 have:2^size<=2^32:=Fj U h;omega
def vW(low:Nat)(h:low<=31):2^low<=2147483648:=Fj U h
def Afo(x low size:Nat)(hx:x<18446744073709551616)(hs:size<=32):bits .and .u64 ((x:Int)/2^low) ((2^size-1:Nat):Int)=(fieldN x low size:Nat):=by
 have e1:(x:Int)/2^low=((x/2^low:Nat):Int):=by rw [Ai0,IV];rfl
 have:=jJ size hs;rw [e1,u64_and_nat _ _ (Hw (Nat.div_le_self _ _) hx) O,Nat.and_two_pow_sub_one_eq_mod];rfl
def Ajo(x low size v:Nat)(hx:x<18446744073709551616)(hv:v<18446744073709551616)(hs:size<=32)(hl:low<=31):
 bits .or .u64 (bits .andNot .u64 (x:Int) (IntKind.u64.wrap (((2^size-1:Nat):Int)*2^low))) (IntKind.u64.wrap (bits .and .u64 (v:Int) ((2^size-1:Nat):Int)*2^low))=(EC x low size v:Nat):=by
 have h1:=jJ size hs;have h2:=vW low hl;have h3:(2^size-1)*2^low<=4294967295*2147483648:=IA O h2;have h4:v&&&(2^size-1)<=2^size-1:=Ai1;have h5:(v&&&(2^size-1))*2^low<=4294967295*2147483648:=IA O h2;have e1:((2^size-1:Nat):Int)*2^low=(((2^size-1)*2^low:Nat):Int):=by rw [Gw,IV];rfl
 have e2:IntKind.u64.wrap (((2^size-1)*2^low:Nat):Int)=(((2^size-1)*2^low:Nat):Int):=by rw [IntKind.wrap_u64];omega
 have e3:((v&&&(2^size-1):Nat):Int)*2^low=(((v&&&(2^size-1))*2^low:Nat):Int):=by rw [Gw,IV];rfl
 have e4:IntKind.u64.wrap (((v&&&(2^size-1))*2^low:Nat):Int)=(((v&&&(2^size-1))*2^low:Nat):Int):=by rw [IntKind.wrap_u64];omega
 have h6:x&&&(18446744073709551615- (2^size-1)*2^low)<=x:=Ai7;rw [e1,e2,u64_andNot_nat _ _ hx O,u64_and_nat _ _ hv O,e3,e4,u64_or_nat _ _ O O];rfl
def oN(low size:Nat)(w:World)(hl:low+size<=64)(hs:size<=32):
 Calls prog 151 #[.int .i64 (low:Int),.int .i64 (size:Int)] w λe w'=>e= .returned (.tuple #[.int .i64 (low:Int),.int .u64 ((2^size-1:Nat):Int)])/\Dr w w':=by
 have h1:=jJ size hs;have hp:0<2^size:=TM U;have hq:((2^size:Nat):Int)=(2:Int)^size:=by rw [IV];rfl
 have e2:IntKind.u64.wrap (IntKind.u64.wrap ((2:Int)^size) -1)=((2^size-1:Nat):Int):=by
  rw [IntKind.wrap_u64,IntKind.wrap_u64,<-hq];omega
 go_enter func151,ntmps151
 go_wp2_with fail
 go_quiet(fail)
 go_wp2_with fail
 go_ret2;exact⟨by simp;omega,_,rfl⟩
def Td(x low size:Nat)(w:World)(hx:x<18446744073709551616)(hl:low+size<=64)(hs:size<=32):
 Calls prog 105 #[.int .u64 (x:Int),.int .i64 (low:Int),.int .i64 (size:Int)] w λe w'=>e= .returned (.int .u64 (fieldN x low size:Nat))/\Dr w w':=by
 have HE:=Aa (Afo x low size hx hs);go_enter func105,ntmps105
 go_wp2_with fail
 refine(oN low size w hl hs).mono ?_;rintro e w'⟨rfl,q,rfl⟩
 go_wp2_with fail
 rw [HE.out];go_ret;exact⟨rfl,_,rfl⟩
def Rz(x low size v:Nat)(w:World)(hx:x<18446744073709551616)(hv:v<18446744073709551616)(hl:low+size<=31):
 Calls prog 104 #[.int .u64 (x:Int),.int .i64 (low:Int),.int .i64 (size:Int),.int .u64 (v:Int)] w λe w'=>e= .returned (.int .u64 (EC x low size v:Nat))/\Dr w w':=by
 have HE:=Aa (Ajo x low size v hx hv O O);go_enter func104,ntmps104
 go_wp2_with fail
 refine(oN low size w O O).mono ?_;rintro e w'⟨rfl,q,rfl⟩
 go_wp2_with fail
 go_quiet(fail)
 go_wp2_with fail
 rw [HE.out];go_ret;exact⟨rfl,Dr.two _ _ _⟩
def fH(x low size:Nat):fieldN x low size<2^size:=TE _ (TM U)
def Vm(x:Nat):DX x<4:=fH x 16 2
def Ab3(x:Nat):JP x<65536:=fH x 0 16
def Gi(c:Nat):Bv c<=16:=by unfold Bv;split<;>omega
def fJ(c:Nat):Bf c<=4:=by unfold Bf;split<;>omega
def Px(x low size v:Nat)(hx:x<18446744073709551616)(hs:low+size<=64):EC x low size v<18446744073709551616:=by
 unfold EC;have h1:x&&&(jy- (2^size-1)*2^low)<2^64:=Hw Ai7 hx;have h2:(v&&&(2^size-1))*2^low<2^64:=by
  have a:v&&&(2^size-1)<=2^size-1:=Ai1;have b:0<2^size:=TM U;have c:(v&&&(2^size-1))*2^low<2^size*2^low:=Nat.mul_lt_mul_of_pos_right O (TM U);rw [<-Nat.pow_add]at c;exact BQ c (Fj U O)
 exact Nat.or_lt_two_pow h1 h2
def GG(c:Nat)(w:World)(hc:c<1000000):Calls prog 52 #[.int .i64 (c:Int)] w λe w'=>e= .returned (.int .i64 (Bv c:Nat))/\w=w':=by
 by_cases h1:c=1
 ·subst h1;go_enter func52,ntmps52;go_wp2;go_ret;exact⟨rfl,rfl⟩
 ·by_cases h2:c=2
  ·subst h2;go_enter func52,ntmps52;go_wp2;go_ret;exact⟨rfl,rfl⟩
  ·have t1:((c:Int)==1)=false:=by rw [beq_eq_false_iff_ne];omega
   have t2:((c:Int)==2)=false:=by rw [beq_eq_false_iff_ne];omega
   have e:Bv c=0:=by unfold Bv;split<;>first| omega| rfl
   rw [e];go_enter func52,ntmps52;go_wp2;go_ret;exact⟨rfl,rfl⟩
def OQ(c:Nat)(w:World)(hc:c<1000000):Calls prog 96 #[.int .i64 (c:Int)] w λe w'=>e= .returned (.int .i64 (Bf c:Nat))/\w=w':=by
 by_cases h1:c=1
 ·subst h1;go_enter func96,ntmps96;go_wp2;go_ret;exact⟨rfl,rfl⟩
 ·by_cases h2:c=2
  ·subst h2;go_enter func96,ntmps96;go_wp2;go_ret;exact⟨rfl,rfl⟩
  ·have t1:((c:Int)==1)=false:=by rw [beq_eq_false_iff_ne];omega
   have t2:((c:Int)==2)=false:=by rw [beq_eq_false_iff_ne];omega
   have e:Bf c=0:=by unfold Bf;split<;>first| omega| rfl
   rw [e];go_enter func96,ntmps96;go_wp2;go_ret;exact⟨rfl,rfl⟩
def Vo(x:Nat)(w:World)(hx:x<18446744073709551616):Calls prog 97 #[.int .u64 (x:Int)] w λe w'=>e= .returned (.int .i64 (DX x:Nat))/\Dr w w':=by
 have hd:=Dr.refl w;have hk:=Vm x;have e1:IntKind.i64.wrap (DX x:Int)=(DX x:Int):=by rw [IntKind.wrap_i64];omega
 go_enter func97,ntmps97
 go_wp2_with fail
 refine(Td x 16 2 _ hx U U).mono ?_;rintro e w'⟨rfl,hd'⟩;replace hd:=hd.trans hd';rw [show fieldN x 16 2=DX x from rfl]
 go_wp2_with fail
 go_ret;exact⟨rfl,hd⟩
def fK(x:Nat)(w:World)(hx:x<18446744073709551616):Calls prog 103 #[.int .u64 (x:Int)] w λe w'=>e= .returned (.int .u64 (JP x:Nat))/\Dr w w':=by
 have hd:=Dr.refl w;go_enter func103,ntmps103
 go_wp2_with fail
 refine(Td x 0 16 _ hx U U).mono ?_;rintro e w'⟨rfl,hd'⟩;replace hd:=hd.trans hd';rw [show fieldN x 0 16=JP x from rfl]
 go_wp2_with fail
 go_ret;exact⟨rfl,hd⟩
def Uo(x:Nat)(w:World)(hx:x<18446744073709551616):Calls prog 67 #[.int .u64 (x:Int)] w λe w'=>e= .returned (.bool (EX x))/\Dr w w':=by
 have hd:=Dr.refl w;have hk:=Vm x;have hb:=Gi (DX x);by_cases h0:x=0
 ·subst h0;rw [show EX 0=true from rfl];go_enter func67,ntmps67;go_wp2;go_ret;exact⟨rfl,hd⟩
 ·have t0:((x:Int)==0)=false:=by rw [beq_eq_false_iff_ne];omega
  have HF:=Aa (λW=>Td x 0 (Bv (DX x)) W hx O O);have w1:=Px x 0 (Bv (DX x)) 0 hx O;have HW1:=Aa (λW=>Rz x 0 (Bv (DX x)) 0 W hx U O);have HW2:=Aa (λW=>Rz (EC x 0 (Bv (DX x)) 0) 16 2 0 W w1 U U);by_cases h1:fieldN x 0 (Bv (DX x))=0
  ·have HR:Hid (EX x=false):=Aa (by simp [EX,h0,h1]);have t1:(((fieldN x 0 (Bv (DX x)):Nat):Int)!=0)=false:=by rw [h1];rfl
   generalize fieldN x 0 (Bv (DX x))=fl at HF t1;clear h1;go_enter func67,ntmps67
   go_wp2_with fail
   refine(Vo x _ hx).mono ?_;rintro e w'⟨rfl,hd'⟩;replace hd:=hd.trans hd'
   go_wp2_with fail
   refine(GG (DX x) _ O).mono ?_;rintro e w'⟨rfl,rfl⟩
   go_wp2_with fail
   refine(HF.out _).mono ?_;rintro e w'⟨rfl,hd'⟩;replace hd:=hd.trans hd'
   go_wp2_with fail
   rw [HR.out];go_ret;exact⟨rfl,hd⟩
  ·have HR:Hid (EX x=(EC (EC x 0 (Bv (DX x)) 0) 16 2 0==0)):=Aa (by
   have e0:(x==0)=false:=by rw [beq_eq_false_iff_ne];exact h0
   have e1:(fieldN x 0 (Bv (DX x))!=0)=true:=by rw [bne_iff_ne];exact h1
   rw [EX,e0,e1];rfl)
   have t1:(((fieldN x 0 (Bv (DX x)):Nat):Int)!=0)=true:=by rw [bne_iff_ne];omega
   have HT:Hid ((((EC (EC x 0 (Bv (DX x)) 0) 16 2 0:Nat):Int)==0)=(EC (EC x 0 (Bv (DX x)) 0) 16 2 0==0)):=Aa (by
    rw [Bool.eq_iff_iff,beq_iff_eq,beq_iff_eq];omega)
   generalize fieldN x 0 (Bv (DX x))=fl at HF t1;clear h1;go_enter func67,ntmps67
   go_wp2_with fail
   refine(Vo x _ hx).mono ?_;rintro e w'⟨rfl,hd'⟩;replace hd:=hd.trans hd'
   go_wp2_with fail
   refine(GG (DX x) _ O).mono ?_;rintro e w'⟨rfl,rfl⟩
   go_wp2_with fail
   refine(HF.out _).mono ?_;rintro e w'⟨rfl,hd'⟩;replace hd:=hd.trans hd'
   go_wp2_with fail
   refine(HW1.out _).mono ?_;rintro e w'⟨rfl,hd'⟩;replace hd:=hd.trans hd'
   go_wp2_with fail
   refine(HW2.out _).mono ?_;rintro e w'⟨rfl,hd'⟩;replace hd:=hd.trans hd'
   go_wp2_with fail
   rw [HR.out,HT.out];go_ret;exact⟨rfl,hd⟩
def NK(x:Nat):Bg x<4:=by unfold Bg;split;exact Vm x;decide
def Hq(x:Nat)(w:World)(hx:x<18446744073709551616):Calls prog 51 #[.int .u64 (x:Int)] w λe w'=>e= .returned (.int .i64 (Bg x:Nat))/\Dr w w':=by
 have hd:=Dr.refl w;have HR:=Aa (λW=>Uo x W hx);cases hr:EX x
 ·rw [show Bg x=0 by simp [Bg,hr]];rw [hr]at HR;clear hr;go_enter func51,ntmps51
  go_wp2_with fail
  refine(HR.out _).mono ?_;rintro e w'⟨rfl,hd'⟩;replace hd:=hd.trans hd'
  go_wp2_with fail
  go_ret;exact⟨rfl,hd⟩
 ·rw [show Bg x=DX x by simp [Bg,hr]];rw [hr]at HR;clear hr;go_enter func51,ntmps51
  go_wp2_with fail
  refine(HR.out _).mono ?_;rintro e w'⟨rfl,hd'⟩;replace hd:=hd.trans hd'
  go_wp2_with fail
  refine(Vo x _ hx).mono ?_;rintro e w'⟨rfl,hd'⟩;replace hd:=hd.trans hd'
  go_wp2_with fail
  go_ret;exact⟨rfl,hd⟩
def RD(x a:Nat)(w:World)(hx:x<18446744073709551616)(ha:a<1000000):Calls prog 60 #[.int .u64 (x:Int),.int .i64 (a:Int)] w λe w'=>e= .returned (.bool (EP x a))/\Dr w w':=by
 have hd:=Dr.refl w;have hc:=NK x;have hb:=Gi (Bg x);have t0:decide ((0:Int)<=(a:Int))=true:=by simp
 by_cases h1:a<Bv (Bg x)
 ·have HF:=Aa (λW=>Td x a 1 W hx O O);have t1:decide ((a:Int)<((Bv (Bg x):Nat):Int))=true:=decide_eq_true O;have HT:Hid ((((fieldN x a 1:Nat):Int)==1)=EP x a):=Aa (by
   rw [Bool.eq_iff_iff,beq_iff_eq];simp [EP,h1];omega)
  go_enter func60,ntmps60
  go_wp2_with fail
  refine(Hq x _ hx).mono ?_;rintro e w'⟨rfl,hd'⟩;replace hd:=hd.trans hd'
  go_wp2_with fail
  refine(GG (Bg x) _ O).mono ?_;rintro e w'⟨rfl,rfl⟩
  go_wp2_with fail
  refine(HF.out _).mono ?_;rintro e w'⟨rfl,hd'⟩;replace hd:=hd.trans hd'
  go_wp2_with fail
  rw [HT.out];go_ret;exact⟨rfl,hd⟩
 ·have t1:decide ((a:Int)<((Bv (Bg x):Nat):Int))=false:=decide_eq_false O;rw [show EP x a=false by simp [EP,h1]];go_enter func60,ntmps60
  go_wp2_with fail
  refine(Hq x _ hx).mono ?_;rintro e w'⟨rfl,hd'⟩;replace hd:=hd.trans hd'
  go_wp2_with fail
  refine(GG (Bg x) _ O).mono ?_;rintro e w'⟨rfl,rfl⟩
  go_wp2_with fail
  go_ret;exact⟨rfl,hd⟩
structure JS(P:Program)(t e:TypeId)(z:Value)(k bytes:Nat):Prop where
 ht:P.underlying t=some (.slice e)
 hi:(P.info? e).map (λi=>(i.zero,i.size,i.bytes))=some (some z,k,bytes)
 hz:z.cells.size=k
def Zr{P:Program}{t e:TypeId}{z:Value}{k bytes:Nat}(T:JS P t e z k bytes)(ty:TypeId){w:World}{base:Nat}{v:Value}{n:Nat}{xs news:List Value}
 (hown:w.ownsRow base e k v n xs)(b:Nat)(hb:CS w b e news)(hk:news.length=k)(hk0:0<k)(h1:∀u∈news,u.oneCell'=true)(hm:n<=1000000)(hby:bytes<=1000)(hbase:base<=w.heap.size)(c:Nat):
 ∃g cap w',(Builtin.append_ #[t,t] ty #[v,.slice (some (Φ b)) 1 c]).run P w= .ok (.slice (some (Φ g)) (n+1) cap) w'/\w'.ownsRow base e k (.slice (some (Φ g)) (n+1) cap) (n+1) (xs++news)/\Below base w w'/\Kept w w' v.ownBlock/\(v.ownBlock=some g\/g=w.heap.size):=by
 obtain⟨i,hi,hz0,hz1,hz2⟩:=info_parts T.hi;have hnews:∀j u,news[j]? =some u->w.cell? (((Φ b):Addr).add j)=some u:=λj u hu=>by
  rw [Addr.add_lit,DR,hb.cell,hu]
 have hmul:(n+1)*bytes<=1000001*1000:=IA O hby;obtain⟨g,cap,w',a1,a2,a3,a4,a5⟩:=run_append_lies (P:=P) w t ty base e i z k bytes T.ht hi hz0 hz1 hz2 T.hz hk0 v n xs hown (Φ b) 1 c news (by rw [hk,Nat.one_mul]) hnews h1 U (by unfold maxLen;omega) O hbase _ rfl;exact⟨g,cap,w',a1,a2,(Below.refl _ _).grown a3 hbase (λk hk=>(hown.lt k hk).1),⟨a3.size,λj hj hr=>a3.block j hj hr⟩,a4⟩
def Ep{P:Program}{ops:Array Oper}{rest:List Oper}{o:Oper}{a:Act}{w:World}{Q:Exit->Act->World->Prop}(hgd:o.guard=none)(s x:Operand)(t:TypeId)
 (ho:o.op= .call {callee:= .builtin .append,args:= #[s,x],argTypes:= #[t,t]}){e:TypeId}{z:Value}{k bytes:Nat}(T:JS P t e z k bytes)
 (wr:World)(base:Nat)(v:Value)(n:Nat)(xs news:List Value)(hs:a.eval s=v)(hown:wr.ownsRow base e k v n xs)(hw:w=wr.alloc (.cells news.toArray e))(b c:Nat)(hx:a.eval x= .slice (some (Φ b)) 1 c)(hb:b=wr.heap.size)
 (hk:news.length=k)(hk0:0<k)(h1:∀u∈news,u.oneCell'=true)(hm:n<=1000000)(hby:bytes<=1000)(hbase:base<=wr.heap.size)
 (h:∀g cap w',w'.ownsRow base e k (.slice (some (Φ g)) (n+1) cap) (n+1) (xs++news)->Below base wr w'->Kept wr w' v.ownBlock->(v.ownBlock=some g\/wr.heap.size<=g)->wpList P ops Q rest (a.put o.dst (.slice (some (Φ g)) (n+1) cap)) w'):wpList P ops Q (o::rest) a w:=by
 refine wpList_plain hgd λK hK=> ?_
 subst hw hb;have hbl:η wr (wr.alloc (.cells news.toArray e)):=(Below.refl _ _).alloc (Ad _) _;have hown':(wr.alloc (.cells news.toArray e)).ownsRow base e k v n xs:=by
  refine⟨hown.1,?_⟩;rcases hown.2 with h| ⟨g,cap,cur,h1,h2,h3,h4⟩
  ·exact .inl h
  ·exact .inr ⟨g,cap,cur,h1,h2,by rw [hbl.block g (AB.1 h3).1];exact h3,h4⟩
 obtain⟨g,cap,w',hrun,h2,h3,h4,h5⟩:=Zr T o.type hown' wr.heap.size (heap_alloc_new wr _) hk hk0 h1 hm hby (by simp;omega) c;unfold Oper.wp execOp;simp only [ho,resolve,invoke,builtin,Sem.run_bind,Sem.run_pure,Result.andThen_ok,MZ,Cb,Gv,hs,hx,hrun];refine hK _ _ (h g cap w' h2 ((hbl.mono hbase).trans h3) ⟨Bc hbl.size h4.1,λj hj hr=>(h4.2 j (BQ hj hbl.size) hr).trans (hbl.block j hj)⟩ (h5.imp id (λe=>by rw [e];simp)))
def Ef(W:World)(r:Nat)(es:Array MapEntry)(c:Nat):World:={W with heap:=W.heap.setIfInBounds r (.map es c)}
def XB(W:World)(r:Nat)(es:Array MapEntry)(c:Nat):(Ef W r es c).heap.size=W.heap.size:=by simp [Ef]
def L9(W:World)(r:Nat)(es:Array MapEntry)(c:Nat)(h:r<W.heap.size):(Ef W r es c).heap[r]? =some (.map es c):=by simp [Ef,h]
def Iy(W:World)(r:Nat)(es:Array MapEntry)(c:Nat):Touch (λb=>b=r) W (Ef W r es c):=
 ⟨rfl,rfl,rfl,by simp [Ef],λk hk hn=>by
  simp only [Ef];rw [Be,if_neg (λe=>hn e.symm)]⟩
def LC{P:Program}{w:World}{r:Nat}{es:Array MapEntry}{c:Nat}(hb:w.heap[r]? =some (.map es c)):(getObj r).run P w= .ok (.map es c) w:=by simp [getObj,Sem.run,hb]
def Ur{P:Program}{w:World}{r:Nat}{es:Array MapEntry}{c:Nat}(o:Obj)(hb:w.heap[r]? =some (.map es c)):(setObj r o).run P w= .ok () {w with heap:=w.heap.setIfInBounds r o}:=by simp [setObj,Sem.run,hb]
def run_makeMap{P:Program}(t:TypeId)(w:World):(Instr.makeMap t none).run P w= .ok (.map (some w.heap.size)) (w.alloc (.map #[] 0)):=by
 simp [Instr.makeMap,Result.andThen]
def Js{P:Program}{kt:TypeId}{d:IntKind}(hk:P.underlying kt=some (.int d))(b:Bool)(n:Nat)(q:IntKind)(k:Int)(w:World):(Instr.checkKey b (n+1) kt (.int q k)).run P w= .ok () w:=by
 simp [Instr.checkKey,run_underlying hk,Result.andThen]
def Y4{P:Program}{t kt et:TypeId}{d:IntKind}(ht:P.underlying t=some (.map kt et))(hk:P.underlying kt=some (.int d))(W:World)(r:Nat)(es:Array MapEntry)(c:Nat)(k:Int)(v:Value)
 (h:W.heap[r]? =some (.map es c))(hf:Instr.findNow (.int d) (.int d k) es.toList 0=some none):
 (Instr.mapUpdate t (.map (some r)) (.int d k) v).run P W= .ok () (Ef W r (es.push {key:= .int d k,val:=v,born:=c}) (c+1)):=by
 have h1:=run_underlying (P:=P) ht;have h2:=run_underlying (P:=P) hk;have h3:=λw=>Js (P:=P) hk false 9999 d k w
 have h4:=LC (P:=P) h;have h5:=λo=>Ur (P:=P) o h
 simp [Instr.mapUpdate,h1,h2,h3,h4,h5,Instr.findKey,hf,Ef,Result.andThen]
def NV{P:Program}{t kt et:TypeId}{d:IntKind}(ht:P.underlying t=some (.map kt et))(hk:P.underlying kt=some (.int d))(W:World)(r:Nat)(es:Array MapEntry)(c:Nat)(k:Int)(i:Nat)(v:Value)
 (h:W.heap[r]? =some (.map es c))(hf:Instr.findNow (.int d) (.int d k) es.toList 0=some (some (i,v))):
 (Instr.lookup t (.map (some r)) (.int d k) false).run P W= .ok v W:=by
 have h1:=run_underlying (P:=P) ht;have h2:=run_underlying (P:=P) hk;have h3:=λb w=>Js (P:=P) hk b 9999 d k w
 have h4:=LC (P:=P) h;simp [Instr.lookup,h1,h2,h3,h4,Instr.findKey,hf,Result.andThen]
def Ajp(w:World):Prop:=∀j,j<16->w.cell? (Δ 0 j)=some (.int .u32 (Lm.getD j 0:Nat))
def Afp(j:Nat):Lm.getD j 0<4294967296:=by
 rcases Nat.lt_or_ge j 16 with h| h
 ·have key:∀k:Fin 16,Lm.getD k.val 0<4294967296:=by decide
  exact key ⟨j,h⟩
 ·rw [List.getD_eq_getElem?_getD,EW (by simpa [Lm]using h)];decide
def zS(y:Nat)(hy:y<4294967296):bits .and .u32 (y:Int) 15=((y%16:Nat):Int):=by
 rw [show(15:Int)=((15:Nat):Int)from rfl,u32_and_nat _ _ hy U,nat_mask4]
def zT(y:Nat)(hy:y<4294967296):bits .xor .u32 ((y:Int)/16) ((Lm.getD (y%16) 0:Nat):Int)=(PZ y:Nat):=by
 rw [show(y:Int)/16=((y/16:Nat):Int)by omega,u32_xor_nat _ _ O (Afp _)];rfl
def oO(sum:Nat)(A:Option Addr)(n c:Nat)(l:List UInt8)(w:World)(hs:sum<4294967296)(hn:n<=1000000)(h:Bs w A n l)(hT:Ajp w):
 Calls prog 120 #[.int .u32 (sum:Int),.slice A n c] w λe w'=>e= .returned (.int .u32 (LX sum l:Nat))/\w=w':=by
 have hlen:=h.len;have e0:bits .xor .u32 IntKind.u32.max (sum:Int)=((Pq sum l 0:Nat):Int):=by
  rw [show IntKind.u32.max=((4294967295:Nat):Int)from rfl,u32_xor_nat _ _ U hs,Zd,Aqa]
 have HH:=Aa h;clear h;go_enter func120,ntmps120
 go_wp2_with fail
 go_loop [5,12](λx i=>∃k:Nat,k<=n/\i= .int .i64 k/\x= .int .u32 ((Pq sum l k:Nat):Int))(λ_ i=>n- (intOf i).toNat)
 case atStart=>exact⟨0,Nat.zero_le _,rfl,rfl⟩
 case round=>
  obtain⟨k,hk,rfl,rfl⟩:=hrel;have hlt:=Zf sum l hs k O;by_cases hkn:k<n
  ·obtain⟨hkl,b,off,rfl,hb,hc⟩:=HH.out.at hkn;have hcb:l[k].toNat<256:=UInt8.toNat_lt _;have HS:=Aa (Ze sum l k hkl);generalize Pq sum l k=x at*;generalize l[k].toNat=b at*;have hy:x^^^b<4294967296:=Nat.xor_lt_two_pow (n:=32) hlt O;have a1:bits .xor .u32 (x:Int) (b:Int)=((x^^^b:Nat):Int):=u32_xor_nat _ _ hlt O;have a2:=zS _ hy;have a3:=zT _ hy;have c1:=hT ((x^^^b)%16) (TE _ U);have HB:Hid (SS x b=PZ (PZ (x^^^b))):=Aa rfl;generalize x^^^b=y at*;have hz:=Uh y hy;generalize PZ y=z at*;have b2:=zS _ hz;have b3:=zT _ hz;have c2:=hT (z%16) (TE _ U);generalize Lm.getD (y%16) 0=f1 at*;generalize Lm.getD (z%16) 0=f2 at*;go_wp2
   trace_state
   go_round
   case rel=>exact⟨k+1,O,by go_num,by rw [HS.out,HB.out]⟩
   case measure=>simp [intOf];omega
  ·have hkn:k=n:=O
   subst hkn;have e1:bits .xor .u32 IntKind.u32.max ((Pq sum l k:Nat):Int)=(LX sum l:Nat):=by
    rw [show IntKind.u32.max=((4294967295:Nat):Int)from rfl,u32_xor_nat _ _ U hlt,Aqa,<-hlen,Abt]
   go_wp2;go_ret;exact⟨rfl,rfl⟩
def vX(A:Option Addr)(n c:Nat)(l:List UInt8)(w:World)(hn:n<=1000000)(h:Bs w A n l)(hT:Ajp w):
 Calls prog 78 #[.slice A n c] w λe w'=>e= .returned (.int .u32 (LX 0 l:Nat))/\w=w':=by
 have HN:=Aa (oO 0 A n c l w U hn h hT);go_enter func78,ntmps78
 go_wp2_with fail
 refine HN.out.mono ?_;rintro e w'⟨rfl,rfl⟩
 go_wp2_with fail
 go_ret;exact⟨rfl,rfl⟩
def N9{P:Program}{ops:Array Oper}{o:Oper}{a:Act}{w:World}{K:Act->World->Prop}{Q:Exit->Act->World->Prop}{E:Prop}(hgd:o.guard=none)(s x:Operand)(t:TypeId)
 (ho:o.op= .call {callee:= .builtin .append,args:= #[s,x],argTypes:= #[t,t]}){e:TypeId}{z:Value}{k bytes:Nat}(T:JS P t e z k bytes)
 (wr:World)(base:Nat)(v:Value)(n:Nat)(xs news:List Value)(hs:a.eval s=v)(hown:wr.ownsRow base e k v n xs)(hw:w.heap=wr.heap.push (.cells news.toArray e))
 (hos:w.os=wr.os)(htape:w.tape=wr.tape)(hout:w.output=wr.output)(gx c:Nat)(hx:a.eval x= .slice (some (Φ gx)) 1 c)(hgx:wr.heap.size=gx)
 (hk:news.length=k)(hk0:0<k)(h1:∀u∈news,u.oneCell'=true)(hm:n<=1000000)(hby:bytes<=1000)(hbase:base<=wr.heap.size)
 (h:∀g cap w',w'.ownsRow base e k (.slice (some (Φ g)) (n+1) cap) (n+1) (xs++news)->Below base wr w'->Kept wr w' v.ownBlock->(v.ownBlock=some g\/wr.heap.size<=g)->K (a.put o.dst (.slice (some (Φ g)) (n+1) cap)) w'):
 if Region.wanted o (yielded ops a.tmps)=true then Oper.wp P o a w K Q else E:=by
 have hwt:Region.wanted o (yielded ops a.tmps)=true:=by simp [Region.wanted,hgd]
 rw [if_pos hwt];subst hgx;have hbl:η wr w:=⟨hos,htape,hout,by rw [hw];simp,λk hk=>by rw [hw,FH,if_neg O]⟩;have hown':w.ownsRow base e k v n xs:=by
  refine⟨hown.1,?_⟩;rcases hown.2 with h| ⟨g,cap,cur,h1,h2,h3,h4⟩
  ·exact .inl h
  ·exact .inr ⟨g,cap,cur,h1,h2,by rw [hbl.block g (AB.1 h3).1];exact h3,h4⟩
 have hb:CS w wr.heap.size e news:=by unfold CS;rw [hw,FH,if_pos rfl]
 obtain⟨g,cap,w',hrun,h2,h3,h4,h5⟩:=Zr T o.type hown' wr.heap.size hb hk hk0 h1 hm hby (Bc hbase hbl.size) c;unfold Oper.wp execOp;simp only [ho,resolve,invoke,builtin,Sem.run_bind,Sem.run_pure,Result.andThen_ok,MZ,Cb,Gv,hs,hx,hrun];exact h g cap w' h2 ((hbl.mono hbase).trans h3) ⟨Bc hbl.size h4.1,λj hj hr=>(h4.2 j (BQ hj hbl.size) hr).trans (hbl.block j hj)⟩ (h5.imp id (λe=>by rw [e];exact hbl.size))
def zU(w w':World)(e:TypeId)(A A':Option Addr)(m:Nat):Prop:=(A'=A/\m=0)\/∃g cs,A'=some (Φ g)/\w.heap.size<=g/\w'.heap[g]? =some (.cells cs e (0,0))
def vY {P : Program} {t e : TypeId} {z : Value} {bytes : Nat} (T : MH P t e z bytes) (ty : TypeId) {w : World} {A : Option Addr} {n : Nat} {xs news : List Value} (hA : Rd w A n xs) (hA0 : ∀ a, A = some a -> ∃ g, a = ⟨g, 0, none⟩) (hn0 : A = none -> n = 0)
    {B : Option Addr} {m : Nat} (hr : Rd w B m news) (h1 : ∀ u ∈ news, u.oneCell' = true) (hm : n + m <= 1000000) (hby : bytes <= 64) (c : Nat) :
    ∃ A' C w', (Builtin.append_ #[t, t] ty #[.slice A n n, .slice B m c]).run P w = .ok (.slice A' (n + m) C) w' /\ n + m <= C /\ Rd w' A' (n + m) (xs ++ news) /\ η w w' /\ zU w w' e A A' m := by
  obtain ⟨i, hi, hz0, hz1, hz2⟩ := info_parts T.hi
  rcases B with _ | bd
  · have h0 : m = 0 := by
      rcases Hu m with h0 | h0
      · exact h0
      · obtain ⟨_, _, e, _⟩ := hr.2 h0; cases e
    subst h0
    have hn : news = [] := Ci hr.1
    subst hn
    refine ⟨A, n, w, ?_, Ad _, by simpa using hA, Below.refl _ _, .inl ⟨rfl, rfl⟩⟩
    rcases A with _ | a
    · have hn := hn0 rfl
      subst hn
      simp [Builtin.append_, run_underlying T.ht, sizeOf, typeInfo, hi, Builtin.lenOf, Builtin.firstCells]
    · simp [Builtin.append_, run_underlying T.ht, sizeOf, typeInfo, hi, Builtin.lenOf, Builtin.firstCells, storeCells]
  · have hcells : ∀ j u, news[j]? = some u -> w.cell? (bd.add j) = some u := by
      intro j u hu
      have hj : j < m := by
        have := (Cc.1 hu).1
        have := hr.1
        omega
      obtain ⟨b, off, e, _, hc⟩ := hr.2 O
      injection e with e
      subst e
      rw [Addr.add_lit, hc j hj, hu]
    rcases A with _ | a
    · have hn := hn0 rfl
      subst hn
      have hxs : xs = [] := Ci hA.1
      subst hxs
      obtain ⟨v', w', hrun, h2, h3, h4⟩ := Un T ty (World.ownsRow_nil w w.heap.size e 1) hr h1 O hby (Ad _) c
      obtain ⟨A', C, rfl, hc, hrd⟩ := CU h2
      refine ⟨A', C, w', hrun, hc, hrd, h3, ?_⟩
      rcases h2.2 with ⟨e1, e2⟩ | ⟨g, cap, cur, e1, e2, e3, _⟩
      · simp only [Value.slice.injEq] at e1
        exact .inl ⟨e1.1, O⟩
      · simp only [Value.slice.injEq] at e1
        exact .inr ⟨g, _, e1.1, e2, e3⟩
    · obtain ⟨g, rfl⟩ := hA0 a rfl
      rcases Hu m with h0 | h0
      · subst h0
        have hn : news = [] := Ci hr.1
        subst hn
        have hrun := run_append_room_cells (P := P) w t ty e i T.ht hi g 0 n n bd 0 c [] Θ Θ Θ O Θ Θ
        exact ⟨_, n, w, hrun, Ad _, by simpa using hA, Below.refl _ _, .inl ⟨rfl, rfl⟩⟩
      · have holds : ∀ j u, xs[j]? = some u -> w.cell? ((⟨g, 0, none⟩ : Addr).add j) = some u := by
          intro j u hu
          have hj : j < n := by
            have := (Cc.1 hu).1
            have := hA.1
            omega
          obtain ⟨b, off, e, _, hc⟩ := hA.2 O
          injection e with e
          injection e with e1 e2
          subst e1 e2
          rw [Addr.add_lit, hc j hj, hu]
        have hmul : (n + m) * bytes <= 1000000 * 64 := IA hm hby
        obtain ⟨v', w', hrun, h2, h3⟩ := run_append_arg_grows (P := P) w t ty e i z 1 bytes T.ht hi hz0 hz1 hz2 T.hz U ⟨g, 0, none⟩ n n xs (by have := hA.1; omega) holds bd m c news (by have := hr.1; omega) hcells O (by unfold maxLen; omega) O
        obtain ⟨A', C, rfl, hc, hrd⟩ := CU h2
        refine ⟨A', C, w', hrun, hc, hrd, (Below.refl _ _).grown h3 (Ad _) (λk hk => nomatch hk), ?_⟩
        rcases h2.2 with ⟨e1, e2⟩ | ⟨g', cap, cur, e1, e2, e3, _⟩
        · omega
        · simp only [Value.slice.injEq] at e1
          exact .inr ⟨g', _, e1.1, e2, e3⟩
def Jt{P:Program}{ops:Array Oper}{o:Oper}{a:Act}{w:World}{K:Act->World->Prop}{Q:Exit->Act->World->Prop}{E:Prop}(hgd:o.guard=none)(s x:Operand)(t:TypeId)
 (ho:o.op= .call {callee:= .builtin .append,args:= #[s,x],argTypes:= #[t,t]}){e:TypeId}{z:Value}{bytes:Nat}(T:MH P t e z bytes)
 (A:Option Addr)(n:Nat)(xs:List Value)(hs:a.eval s= .slice A n n)(hA:Rd w A n xs)(hA0:∀a,A=some a->∃g,a=Φ g)(hn0:A=none->n=0)
 (B:Option Addr)(m c:Nat)(news:List Value)(hx:a.eval x= .slice B m c)(hr:Rd w B m news)(h1:∀u∈news,u.oneCell'=true)(hm:n+m<=1000000)(hby:bytes<=64)
 (h:∀A' C w',n+m<=C->Rd w' A' (n+m) (xs++news)->η w w'->zU w w' e A A' m->K (a.put o.dst (.slice A' (n+m) C)) w'):
 if Region.wanted o (yielded ops a.tmps)=true then Oper.wp P o a w K Q else E:=by
 have hwt:Region.wanted o (yielded ops a.tmps)=true:=by simp [Region.wanted,hgd]
 rw [if_pos hwt];obtain⟨A',C,w',hrun,h2,h3,h4,h5⟩:=vY T o.type hA hA0 hn0 hr h1 hm hby c;unfold Oper.wp execOp;simp only [ho,resolve,invoke,builtin,Sem.run_bind,Sem.run_pure,Result.andThen_ok,MZ,Cb,Gv,hs,hx,hrun];exact h A' C w' h2 h3 h4 h5
def Mc{P:Program}{ops:Array Oper}{o:Oper}{a:Act}{w:World}{K:Act->World->Prop}{Q:Exit->Act->World->Prop}{E:Prop}(hgd:o.guard=none)(s x:Operand)(t:TypeId)
 (ho:o.op= .call {callee:= .builtin .append,args:= #[s,x],argTypes:= #[t,t]}){e:TypeId}{z:Value}{bytes:Nat}(T:MH P t e z bytes)
 (wr:World)(A:Option Addr)(n:Nat)(xs:List Value)(hs:a.eval s= .slice A n n)(hA:Rd wr A n xs)(hA0:∀a,A=some a->∃g,a=Φ g)(hn0:A=none->n=0)
 (u:Value)(hw:w.heap=wr.heap.push (.cells #[u] e))(hos:w.os=wr.os)(htape:w.tape=wr.tape)(hout:w.output=wr.output)(gx c:Nat)(hx:a.eval x= .slice (some (Φ gx)) 1 c)(hgx:wr.heap.size=gx)
 (h1:u.oneCell'=true)(hm:n+1<=1000000)(hby:bytes<=64)
 (h:∀A' C w',n+1<=C->Rd w' A' (n+1) (xs++[u])->η wr w'->zU wr w' e A A' 1->K (a.put o.dst (.slice A' (n+1) C)) w'):
 if Region.wanted o (yielded ops a.tmps)=true then Oper.wp P o a w K Q else E:=by
 subst hgx;have hbl:η wr w:=⟨hos,htape,hout,by rw [hw];simp,λk hk=>by rw [hw,FH,if_neg O]⟩;have hb:CS w wr.heap.size e [u]:=by unfold CS;rw [hw,FH,if_pos rfl]
 refine Jt hgd s x t ho T A n xs hs (Rd.below hA hbl) hA0 hn0 (some (Φ wr.heap.size)) 1 c [u] hx hb.rd (λv hv=>by rw [List.mem_singleton]at hv;exact hv▸h1) hm hby ?_;intro A' C w' q1 q2 q3 q4;refine h A' C w' q1 q2 (τ hbl q3) ?_;rcases q4 with h2| ⟨g,cs,h2,h3,h4⟩
 ·exact .inl h2
 ·exact .inr ⟨g,cs,h2,Bc hbl.size h3,h4⟩
def vZ {P : Program} {t e : TypeId} {z : Value} {k bytes : Nat} (T : JS P t e z k bytes) (hk0 : 0 < k) (ty : TypeId) {w : World} {base : Nat} {v : Value} {n : Nat} {xs news : List Value}
    (hown : w.ownsRow base e k v n xs) {A : Option Addr} {m : Nat} (hr : Rd w A (m * k) news)
    (h1 : ∀ u ∈ news, u.oneCell' = true) (hm : n + m <= 1000000) (hby : bytes <= 1000) (hbase : base <= w.heap.size) (c : Nat) :
    ∃ v' w', (Builtin.append_ #[t, t] ty #[v, .slice A m c]).run P w = .ok v' w' /\ w'.ownsRow base e k v' (n + m) (xs ++ news) /\ Below base w w' /\ Kept w w' v.ownBlock := by
  obtain ⟨i, hi, hz0, hz1, hz2⟩ := info_parts T.hi
  rcases A with _ | ad
  · have h0 : m = 0 := by
      rcases Hu m with h0 | h0
      · exact h0
      · obtain ⟨_, _, e, _⟩ := hr.2 (Nat.mul_pos h0 hk0); cases e
    subst h0
    have hn : news = [] := Ci (by have := hr.1; omega)
    subst hn
    refine ⟨v, w, ?_, by simpa using hown, Below.refl _ _, Kept.refl _ _⟩
    rcases hown.2 with ⟨rfl, rfl⟩ | ⟨g, cap, cur, rfl, _, _, hnc, _⟩
    · simp [Builtin.append_, run_underlying T.ht, sizeOf, typeInfo, hi, Builtin.lenOf, Builtin.firstCells]
    · simp [Builtin.append_, run_underlying T.ht, sizeOf, typeInfo, hi, Builtin.lenOf, Builtin.firstCells, hnc, storeCells]
  · have hcells : ∀ j u, news[j]? = some u -> w.cell? (ad.add j) = some u := by
      intro j u hu
      have hj : j < m * k := by
        have := (Cc.1 hu).1
        have := hr.1
        omega
      obtain ⟨b, off, e, _, hc⟩ := hr.2 O
      injection e with e
      subst e
      rw [Addr.add_lit, hc j hj, hu]
    have hmul : (n + m) * bytes <= 1000000 * 1000 := IA hm hby
    obtain ⟨v', w', hrun, h2, h3, _⟩ := run_append_own (P := P) w base t ty e i z k bytes T.ht hi hz0 hz1 hz2 T.hz hk0 v n xs hown ad m c news hr.1 hcells h1
      (by unfold maxLen; omega) O hbase
    exact ⟨v', w', hrun, h2, (Below.refl _ _).grown h3 hbase (λk hk => (hown.lt k hk).1), h3.size, λk hk hne => h3.block k hk (λh => hne h)⟩
def JM{P:Program}{ops:Array Oper}{rest:List Oper}{o:Oper}{a:Act}{w:World}{Q:Exit->Act->World->Prop}(hgd:o.guard=none)(s x:Operand)(t:TypeId)
 (ho:o.op= .call {callee:= .builtin .append,args:= #[s,x],argTypes:= #[t,t]}){e:TypeId}{z:Value}{k bytes:Nat}(T:JS P t e z k bytes)(hk0:0<k)
 (base:Nat)(v:Value)(n:Nat)(xs:List Value)(hs:a.eval s=v)(hown:w.ownsRow base e k v n xs)(A:Option Addr)(m c:Nat)(news:List Value)(hx:a.eval x= .slice A m c)(hr:Rd w A (m*k) news)
 (h1:∀u∈news,u.oneCell'=true)(hm:n+m<=1000000)(hby:bytes<=1000)(hbase:base<=w.heap.size)
 (h:∀v' w',w'.ownsRow base e k v' (n+m) (xs++news)->Below base w w'->Kept w w' v.ownBlock->wpList P ops Q rest (a.put o.dst v') w'):wpList P ops Q (o::rest) a w:=by
 refine wpList_plain hgd λK hK=> ?_
 obtain⟨v',w',hrun,h2,h3,h4⟩:=vZ T hk0 o.type hown hr h1 hm hby hbase c;unfold Oper.wp execOp;simp only [ho,resolve,invoke,builtin,Sem.run_bind,Sem.run_pure,Result.andThen_ok,MZ,Cb,Gv,hs,hx,hrun];exact hK _ _ (h v' w' h2 h3 h4)
