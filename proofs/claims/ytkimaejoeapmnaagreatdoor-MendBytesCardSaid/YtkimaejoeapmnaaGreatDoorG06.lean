import Derived.Test.YtkimaejoeapmnaaGreatDoorG05
set_option maxHeartbeats 32000000
set_option maxRecDepth 100000
open List renaming length_nil->Dt,length_cons->BJ,getElem?_append_left->DD,getElem?_take->CS,getElem?_append_right->Ew,length_take->DC,getElem?_drop->Dl,ext_getElem?->IY,getElem?_eq_none->EP,eq_nil_of_length_eq_zero->Ce,getElem?_eq_some_iff->Cb,ext_getElem->EH,map_toArray->MB,map_cons->BU,map_nil->Gq
open Go.World renaming setCell->D6,setCells->NQ
open Array renaming getElem?_modify->QJ,getElem?_setIfInBounds->Bc,getElem?_eq_some_iff->AB,getElem?_push->FD
open Nat renaming min_eq_left->MN,zero_add->Dw,le_refl->Ad,eq_zero_or_pos->Ho,mul_le_mul->Iu,le_trans->Bg,lt_of_lt_of_le->Cf,pow_le_pow_right->Fh,mod_lt->SQ,pow_pos->Tc,lt_of_le_of_lt->Hq,and_le_right->Ahm,and_le_left->Aht,xor_comm->Aon
open Int renaming natCast_pow->IB,natCast_mul->Gs,natCast_ediv->Ahl
open Go.Lib renaming hid->Aa
namespace Go.Proofs.YtkimaejoeapmnaaGreatDoor
open Go.RowKit
theorem DY(g:Nat)(e:TypeId)(fz:Nat×Nat):∀(vs:List Value)(o:Nat)(w:World)(cur:Array Value),w.heap[g]? =some (.cells cur e fz)->o+vs.length<=cur.size->
 ∃cur':Array Value,(w.setCells g o vs).heap[g]? =some (.cells cur' e fz)/\cur'.size=cur.size/\∀j:Nat,cur'[j]? =if o<=j/\j<o+vs.length then vs[j-o]? else cur[j]?
 | [],o,w,cur,h,_=>⟨cur,h,rfl,fun j=>by rw [if_neg (by simp only [Dt];omega)]⟩
 | v::r,o,w,cur,h,hs=>by
   have h1:(w.setCell ⟨g,o,none⟩ v).heap[g]? =some (.cells (cur.setIfInBounds o v) e fz):=by
    simp [D6,QJ,h]
   obtain⟨cur',h2,h3,h4⟩:=DY g e fz r (o+1) (w.setCell ⟨g,o,none⟩ v) (cur.setIfInBounds o v) h1 (by simp at hs⊢;omega);refine⟨cur',h2,by rw [h3];simp,fun j=> ?_⟩;rw [h4 j];simp only [BJ]at hs⊢;by_cases hj:j=o
   ·subst hj;rw [if_neg (by omega),if_pos (by omega),Bc,if_pos rfl,if_pos (by omega)];simp
   ·by_cases hin:o+1<=j/\j<o+1+r.length
    ·rw [if_pos hin,if_pos (by omega)];rw [show j-o=(j- (o+1))+1 by omega];simp
    ·rw [if_neg hin,if_neg (by omega),Bc,if_neg (by omega)]
theorem setCells_size(w:World)(g o:Nat)(vs:List Value):(w.setCells g o vs).heap.size=w.heap.size:=by
 induction vs generalizing w o with
 | nil=>rfl
 | cons v r ih=>rw [NQ,ih];simp [D6]
theorem DZ(w:World)(g o:Nat)(vs:List Value):(w.setCells g o vs).tape=w.tape:=by
 induction vs generalizing w o with
 | nil=>rfl
 | cons v r ih=>rw [NQ,ih];rfl
theorem EN(w:World)(g o:Nat)(vs:List Value):(w.setCells g o vs).os=w.os:=by
 induction vs generalizing w o with
 | nil=>rfl
 | cons v r ih=>rw [NQ,ih];rfl
theorem D8(w:World)(g o:Nat)(vs:List Value):(w.setCells g o vs).output=w.output:=by
 induction vs generalizing w o with
 | nil=>rfl
 | cons v r ih=>rw [NQ,ih];rfl
theorem IU(w:World)(g o:Nat)(vs:List Value){k:Nat}(hk:k≠g):(w.setCells g o vs).heap[k]? =w.heap[k]? :=by
 induction vs generalizing w o with
 | nil=>rfl
 | cons v r ih=>rw [NQ,ih];exact Below.heap_setCell w ⟨g,o,none⟩ v k (fun h=>hk h)
def UA(xs:List Value)(i:Nat)(u:Value):List Value:=xs.take i++u::xs.drop i
theorem lT(xs:List Value)(i:Nat)(u:Value)(hi:i<=xs.length)(j:Nat):(UA xs i u)[j]? =if j<i then xs[j]? else if j=i then some u else xs[j-1]? :=by
 unfold UA;by_cases h1:j<i
 ·rw [if_pos h1,DD (by simp;omega),CS,if_pos h1]
 ·rw [if_neg h1,Ew (by simp;omega)];simp only [DC,MN hi];by_cases h2:j=i
  ·subst h2;simp
  ·rw [if_neg h2,show j-i=(j-1-i)+1 by omega,List.getElem?_cons_succ,Dl];congr 1;omega
theorem WT(xs:List Value)(i:Nat)(u:Value)(hi:i<=xs.length):(UA xs i u).length=xs.length+1:=by
 unfold UA;simp;omega
theorem cZ{w:World}{base g n c i:Nat}{e:TypeId}{xs:List Value}{u:Value}(h:w.ownsRow base e 1 (.slice (some ⟨g,0,none⟩) n c) n xs)(hi:i<=n)(hc:n+1<=c):
 ((w.setCells g (i+1) (xs.drop i)).setCells g i [u]).ownsRow base e 1 (.slice (some ⟨g,0,none⟩) (n+1) c) (n+1) (UA xs i u):=by
 obtain⟨h1,h2⟩:=h;have hlen:xs.length=n:=by simpa using h1
 rcases h2 with⟨h2,_⟩| ⟨g',cap,cur,hv,hB,hg,hnc,hcm,hcs,ht⟩
 ·cases h2
 simp only [Value.slice.injEq,Option.some.injEq,Addr.mk.injEq,and_true,true_and]at hv;obtain⟨rfl,rfl⟩:=hv;obtain⟨uh,a1,a2,a3⟩:=DY g e (0,0) (xs.drop i) (i+1) w cur hg (by simp;omega);obtain⟨X5,b1,b2,b3⟩:=DY g e (0,0) [u] i _ uh a1 (by simp;omega);refine⟨by rw [WT xs i u (by omega)];omega,.inr ⟨g,c,X5,rfl,hB,b1,hc,hcm,by omega,?_⟩⟩;apply IY;intro j;rw [lT xs i u (by omega) j,CS];have Als:∀j,j<n->cur[j]? =xs[j]? :=fun j hj=>by rw [<-ht,CS,if_pos (by omega)];simp
 by_cases hj:j<(n+1)*1
 ·rw [if_pos hj];have e2:X5.toList[j]? =X5[j]? :=by simp
  rw [e2,b3 j];simp only [BJ,Dt,Dw];by_cases hji:j=i
  ·subst hji;rw [if_pos (by omega),if_neg (by omega),if_pos rfl];simp
  ·rw [if_neg (by omega),a3 j];by_cases hlt:j<i
   ·rw [if_neg (by omega),if_pos hlt,Als j (by omega)]
   ·rw [if_pos (by simp;omega),if_neg hlt,if_neg hji,Dl];congr 1;omega
 ·rw [if_neg hj,if_neg (by omega),if_neg (by omega),EP (by omega)]
theorem df{w:World}{base G:Nat}{e:TypeId}{xs zs:List Value}{i:Nat}{u:Value}(ROW:Array Value)(hb:base<=w.heap.size)(hi:i<=xs.length)(hG:xs.length+1<=G)(hGm:G<=maxLen)(hR:ROW.size=G)(hz:∀j,j<i->ROW[j]? =xs[j]?)(hzs:zs=xs.drop i):
 ((((w.alloc (.cells ROW e)).drew.setCells w.heap.size i [u]).drew).setCells w.heap.size (i+1) zs).ownsRow base e 1 (.slice (some ⟨w.heap.size,0,none⟩) (xs.length+1) G) (xs.length+1) (UA xs i u):=by
 subst hzs;have hg:((w.alloc (.cells ROW e)).drew).heap[w.heap.size]? =some (.cells ROW e (0,0)):=by
  show(w.heap.push _)[w.heap.size]? =_;simp
 obtain⟨uh,a1,a2,a3⟩:=DY w.heap.size e (0,0) [u] i _ ROW hg (by simp;omega);have a1':(((w.alloc (.cells ROW e)).drew.setCells w.heap.size i [u]).drew).heap[w.heap.size]? =some (.cells uh e (0,0)):=a1;obtain⟨X5,b1,b2,b3⟩:=DY w.heap.size e (0,0) (xs.drop i) (i+1) _ uh a1' (by simp;omega);refine⟨by rw [WT xs i u hi];omega,.inr ⟨w.heap.size,G,X5,rfl,hb,b1,hG,hGm,by omega,?_⟩⟩;apply IY;intro j;rw [lT xs i u hi j,CS];by_cases hj:j<(xs.length+1)*1
 ·rw [if_pos hj];have e2:X5.toList[j]? =X5[j]? :=by simp
  rw [e2,b3 j,a3 j];simp only [BJ,Dt,Dw,List.length_drop];by_cases hji:j=i
  ·subst hji;rw [if_neg (by omega),if_pos (by omega),if_neg (by omega),if_pos rfl];simp
  ·by_cases hlt:j<i
   ·rw [if_neg (by omega),if_neg (by omega),if_pos hlt,hz j hlt]
   ·rw [if_pos (by omega),if_neg hlt,if_neg hji,Dl];congr 1;omega
 ·rw [if_neg hj,if_neg (by omega),if_neg (by omega),EP (by omega)]
def iw(xs:List Value)(i:Nat):List Value:=xs.take i++xs.drop (i+1)
theorem Aed(xs:List Value)(i:Nat)(hi:i<xs.length)(j:Nat):(iw xs i)[j]? =if j<i then xs[j]? else xs[j+1]? :=by
 unfold iw;by_cases h1:j<i
 ·rw [if_pos h1,DD (by simp;omega),CS,if_pos h1]
 ·rw [if_neg h1,Ew (by simp;omega)];simp only [DC,MN (Nat.le_of_lt hi)];rw [Dl];congr 1;omega
theorem lU(xs:List Value)(i:Nat)(hi:i<xs.length):(iw xs i).length=xs.length-1:=by
 unfold iw;simp;omega
theorem WU{w:World}{base g n c i:Nat}{e:TypeId}{xs zs:List Value}(h:w.ownsRow base e 1 (.slice (some ⟨g,0,none⟩) n c) n xs)(hi:i<n)(hz:zs.length=1):
 ((w.setCells g i (xs.drop (i+1))).setCells g (n-1) zs).ownsRow base e 1 (.slice (some ⟨g,0,none⟩) (n-1) c) (n-1) (iw xs i):=by
 obtain⟨h1,h2⟩:=h;have hlen:xs.length=n:=by simpa using h1
 rcases h2 with⟨h2,_⟩| ⟨g',cap,cur,hv,hB,hg,hnc,hcm,hcs,ht⟩
 ·cases h2
 simp only [Value.slice.injEq,Option.some.injEq,Addr.mk.injEq,and_true,true_and]at hv;obtain⟨rfl,rfl⟩:=hv;obtain⟨uh,a1,a2,a3⟩:=DY g e (0,0) (xs.drop (i+1)) i w cur hg (by simp;omega);obtain⟨X5,b1,b2,b3⟩:=DY g e (0,0) zs (n-1) _ uh a1 (by omega);refine⟨by rw [lU xs i (by omega)];omega,.inr ⟨g,c,X5,rfl,hB,b1,by omega,hcm,by omega,?_⟩⟩;apply IY;intro j;rw [Aed xs i (by omega) j,CS];have Als:∀j,j<n->cur[j]? =xs[j]? :=fun j hj=>by rw [<-ht,CS,if_pos (by omega)];simp
 by_cases hj:j<(n-1)*1
 ·rw [if_pos hj];have e2:X5.toList[j]? =X5[j]? :=by simp
  rw [e2,b3 j,if_neg (by omega),a3 j];by_cases hlt:j<i
  ·rw [if_neg (by omega),if_pos hlt,Als j (by omega)]
  ·rw [if_pos (by simp;omega),if_neg hlt,Dl];congr 1;omega
 ·rw [if_neg hj,if_neg (by omega),EP (by omega)]
theorem Kept.refl(w:World)(row:Option Nat):Kept w w row:=⟨Ad _,fun _ _ _=>rfl⟩
theorem Kept.setCells{w w':World}{g:Nat}(h:Kept w w' (some g))(o:Nat)(vs:List Value):Kept w (w'.setCells g o vs) (some g):=
 ⟨by rw [setCells_size];exact h.1,fun k hk hne=>by rw [IU _ _ _ _ (fun e=>hne (by rw [e]))];exact h.2 k hk hne⟩
theorem Kept.drew{w w':World}{row:Option Nat}(h:Kept w w' row):Kept w w'.drew row:=h
theorem Kept.below{w w':World}{row:Option Nat}{B:Nat}(h:Kept w w' row)(hB:B<=w.heap.size)(ho:w'.os=w.os)(ht:w'.tape=w.tape)(hp:w'.output=w.output)(hr:∀g,row=some g->B<=g):Below B w w':=
 ⟨ho,ht,hp,h.1,fun k hk=>h.2 k (by omega) (fun e=>by have:=hr k e.symm;omega)⟩
theorem TM {P : Program} {t e : TypeId} {z : Value} {bytes : Nat} (T : LK P t e z bytes) (ty : TypeId) {w : World} {base : Nat} {v : Value} {n : Nat} {xs news : List Value}
    (hown : w.ownsRow base e 1 v n xs) {A : Option Addr} {m : Nat} (hr : Rd w A m news)
    (h1 : ∀ u ∈ news, u.oneCell' = true) (hm : n + m <= 1000000000) (hby : bytes <= 64) (hbase : base <= w.heap.size) (c : Nat) :
    ∃ v' w', (Builtin.append_ #[t, t] ty #[v, .slice A m c]).run P w = .ok v' w' /\ w'.ownsRow base e 1 v' (n + m) (xs ++ news) /\ Below base w w' /\ Kept w w' v.ownBlock := by
  obtain ⟨i, hi, hz0, hz1, hz2⟩ := info_parts T.hi
  rcases A with _ | ad
  · have h0 : m = 0 := by
      rcases Ho m with h0 | h0
      · exact h0
      · obtain ⟨_, _, e, _⟩ := hr.2 h0; cases e
    subst h0
    have hn : news = [] := Ce hr.1
    subst hn
    refine ⟨v, w, ?_, by simpa using hown, Below.refl _ _, Kept.refl _ _⟩
    rcases hown.2 with ⟨rfl, rfl⟩ | ⟨g, cap, cur, rfl, _, _, hnc, _⟩
    · simp [Builtin.append_, run_underlying T.ht, sizeOf, typeInfo, hi, Builtin.lenOf, Builtin.firstCells]
    · simp [Builtin.append_, run_underlying T.ht, sizeOf, typeInfo, hi, Builtin.lenOf, Builtin.firstCells, hnc, storeCells]
  · have hcells : ∀ j u, news[j]? = some u -> w.cell? (ad.add j) = some u := by
      intro j u hu
      have hj : j < m := by
        have := (Cb.1 hu).1
        have := hr.1
        omega
      obtain ⟨b, off, e, _, hc⟩ := hr.2 (by omega)
      injection e with e
      subst e
      rw [Addr.add_lit, hc j hj, hu]
    have hmul : (n + m) * bytes <= 1000000000 * 64 := Iu hm hby
    obtain ⟨v', w', hrun, h2, h3, _⟩ := run_append_own (P := P) w base t ty e i z 1 bytes T.ht hi hz0 hz1 hz2 T.hz (by decide) v n xs hown ad m c news (by simp [hr.1]) hcells h1
      (by unfold maxLen; omega) (by omega) hbase
    exact ⟨v', w', hrun, h2, (Below.refl _ _).grown h3 hbase (fun k hk => (hown.lt k hk).1), h3.size, fun k hk hne => h3.block k hk (fun h => hne h)⟩
structure Touch(F:Nat->Prop)(w w':World):Prop where
 os:w'.os=w.os
 tape:w'.tape=w.tape
 output:w'.output=w.output
 size:w.heap.size<=w'.heap.size
 block:∀k,k<w.heap.size->¬F k->w'.heap[k]? =w.heap[k]?
theorem Touch.refl(F:Nat->Prop)(w:World):Touch F w w:=⟨rfl,rfl,rfl,Ad _,fun _ _ _=>rfl⟩
theorem Touch.mono{F G:Nat->Prop}{w w':World}(h:Touch F w w')(hg:∀k,F k->G k):Touch G w w':=
 ⟨h.os,h.tape,h.output,h.size,fun k hk hn=>h.block k hk (fun hf=>hn (hg k hf))⟩
theorem Touch.of_below{F:Nat->Prop}{w w':World}(h:Below w.heap.size w w'):Touch F w w':=
 ⟨h.os,h.tape,h.output,h.size,fun k hk _=>h.block k hk⟩
theorem Touch.below{F:Nat->Prop}{w w':World}(h:Touch F w w'){B:Nat}(hB:B<=w.heap.size)(hF:∀k,F k->B<=k):Below B w w':=
 ⟨h.os,h.tape,h.output,h.size,fun k hk=>h.block k (by omega) (fun hf=>by have:=hF k hf;omega)⟩
theorem Touch.trans{F G:Nat->Prop}{w w' w'':World}(h:Touch F w w')(k:Touch G w' w'')(hg:∀b,G b->F b\/w.heap.size<=b):Touch F w w'':=
 ⟨k.os.trans h.os,k.tape.trans h.tape,k.output.trans h.output,Bg h.size k.size,fun b hb hn=>by
  rw [k.block b (Cf hb h.size) (fun hgb=>(hg b hgb).elim hn (fun hle=>by omega))];exact h.block b hb hn⟩
theorem Touch.setCell{F:Nat->Prop}{w w':World}(h:Touch F w w'){p:Addr}(hp:F p.block\/w.heap.size<=p.block)(u:Value):Touch F w (w'.setCell p u):=
 ⟨h.os,h.tape,h.output,by simpa [D6]using h.size,fun b hb hn=>by
  rw [Below.heap_setCell w' p u b (fun e=>hp.elim (fun hf=>hn (e▸hf)) (fun hle=>by omega))];exact h.block b hb hn⟩
theorem CG.touch{w w':World}{F:Nat->Prop}{g:Nat}{e:TypeId}{xs:List Value}(h:CG w g e xs)(t:Touch F w w')(hg:¬F g):CG w' g e xs:=(t.block g h.lt hg).trans h
theorem Rd.touch{w w':World}{F:Nat->Prop}{A:Option Addr}{n:Nat}{xs:List Value}(h:Rd w A n xs)(t:Touch F w w')(hF:∀a,A=some a->¬F a.block):Rd w' A n xs:=
 ⟨h.1,fun hn=>by
   obtain⟨b,off,e,hb,hc⟩:=h.2 hn;exact⟨b,off,e,Cf hb t.size,fun j hj=>(World.cell?_of_block (w:=w) (t.block b hb (hF _ e))).trans (hc j hj)⟩⟩
theorem H6{w w':World}{F:Nat->Prop}{base:Nat}{e:TypeId}{v:Value}{n:Nat}{xs:List Value}{size:Nat}(h:w.ownsRow base e size v n xs)(t:Touch F w w')(hF:∀g,v.ownBlock=some g->¬F g):w'.ownsRow base e size v n xs:=by
 refine⟨h.1,?_⟩;rcases h.2 with h| ⟨g,cap,cur,h1,h2,h3,h4⟩
 ·exact .inl h
 ·exact .inr ⟨g,cap,cur,h1,h2,(t.block g (AB.1 h3).1 (hF g (by rw [h1];rfl))).trans h3,h4⟩
theorem NZ{w:World}{base g n c i:Nat}{e:TypeId}{xs:List Value}{u:Value}(h:w.ownsRow base e 1 (.slice (some ⟨g,0,none⟩) n c) n xs)(_:i<n):
 (w.setCell ⟨g,i,none⟩ u).ownsRow base e 1 (.slice (some ⟨g,0,none⟩) n c) n (xs.set i u):=by
 obtain⟨h1,h2⟩:=h;have hlen:xs.length=n:=by simpa using h1
 rcases h2 with⟨h2,_⟩| ⟨g',cap,cur,hv,hB,hg,hnc,hcm,hcs,ht⟩
 ·cases h2
 simp only [Value.slice.injEq,Option.some.injEq,Addr.mk.injEq,and_true,true_and]at hv;obtain⟨rfl,rfl⟩:=hv;have a1:(w.setCell ⟨g,i,none⟩ u).heap[g]? =some (.cells (cur.setIfInBounds i u) e (0,0)):=by
  simp [D6,QJ,hg]
 refine⟨by simpa using h1,.inr ⟨g,c,_,rfl,hB,a1,hnc,hcm,by simpa using hcs,?_⟩⟩;rw [Array.toList_setIfInBounds,List.take_set,ht]
theorem Sv{w:World}{base g n c i:Nat}{e:TypeId}{xs:List Value}(h:w.ownsRow base e 1 (.slice (some ⟨g,0,none⟩) n c) n xs)(hi:i<n):
 (∃v,w.cell? ⟨g,i,none⟩=some v)/\w.frozen? ⟨g,i,none⟩=false:=by
 refine⟨Yt h hi,?_⟩;rcases h.2 with⟨h2,_⟩| ⟨g',cap,cur,hv,hB,hg,_⟩
 ·cases h2
 ·simp only [Value.slice.injEq,Option.some.injEq,Addr.mk.injEq,and_true,true_and]at hv;obtain⟨rfl,rfl⟩:=hv;simp [World.frozen?,hg]
theorem Kr{w:World}{base n c:Nat}{A:Option Addr}{e:TypeId}{xs:List Value}(h:w.ownsRow base e 1 (.slice A n c) n xs)(hn:0<n):∃g,A=some ⟨g,0,none⟩/\base<=g/\g<w.heap.size:=by
 rcases h.2 with⟨h2,h0⟩| ⟨g',cap,cur,hv,hB,hg,_⟩
 ·omega
 ·simp only [Value.slice.injEq]at hv;exact⟨g',hv.1,hB,(AB.1 hg).1⟩
theorem y9(A:Option Addr)(n c k:Nat)(w:World)(hn:n<=1000000000)(h8:k%8=0)(hk:k+8<=n):
 Calls Tryz.prog 108 #[.slice A n c,.int .i64 (k:Int)] w fun e w'=>e= .returned (.bool true)/\w=w':=by
 have t1:decide ((0:Int)<=(k:Int))=true:=by simp
 have t2:((k:Int)%8==0)=true:=by rw [beq_iff_eq];omega
 have t3:decide ((k:Int)<=(n:Int) -8)=true:=decide_eq_true (by omega);go_enter Tryz.func108,Tryz.ntmps108;go_wp2;go_ret;exact⟨rfl,rfl⟩
theorem iy(j:Nat):2^(8*j)=256^j:=by rw [Nat.pow_mul]
theorem Aaw(j:Nat)(hj:j<8):256^j<=72057594037927936:=by
 have:256^j<=256^7:=Fh (by decide) (by omega);exact Bg this (by decide)
theorem yA(X b j:Nat)(hb:b<256)(hj:j<8):bits .or .u64 ((X:Int)%256^j) (IntKind.u64.wrap (IntKind.u64.wrap (b:Int)*2^(8*j)))=((X%256^j+b*256^j:Nat):Int):=by
 have h1:X%256^j<256^j:=SQ _ (Tc (by decide));have h2:=Aaw j hj;have h3:b*256^j<=255*72057594037927936:=Iu (by omega) h2;have e1:((X:Int)%256^j)=((X%256^j:Nat):Int):=by rw [Int.natCast_emod,IB];rfl
 have e2:IntKind.u64.wrap (b:Int)=(b:Int):=by rw [IntKind.wrap_u64];omega
 have e3:(b:Int)*2^(8*j)=((b*256^j:Nat):Int):=by rw [<-iy,Gs,IB];rfl
 have e4:IntKind.u64.wrap ((b*256^j:Nat):Int)=((b*256^j:Nat):Int):=by rw [IntKind.wrap_u64];omega
 rw [e1,e2,e3,e4,u64_or_nat _ _ (by omega) (by omega),Nat.or_comm,nat_join (8*j) _ _ (by rw [iy];exact Nat.mul_mod_left _ _) (by rw [iy];exact h1)];congr 1;omega
theorem lV(A:Option Addr)(n c k:Nat)(l:List UInt64)(w:World)(hn:n<=1000000)(h:Bs w A n (leBytes l))(hk:k<l.length):
 Calls Tryz.prog 69 #[.slice A n c,.int .i64 ((8*k:Nat):Int)] w fun e w'=>e= .returned (.tuple #[.int .u64 (l[k].toNat:Int),.bool true])/\w=w':=by
 have hlen:=h.len;rw [leBytes_length]at hlen;have hh:=y9 A n c (8*k) w (by omega) (by omega) (by omega);have HH:=Aa hh;have HLE:=Aa (Ii l k · hk ·);clear hh;go_enter Tryz.func69,Tryz.ntmps69
 go_wp2_with fail
 refine HH.out.mono ?_;rintro e w'⟨rfl,rfl⟩;clear HH
 go_wp2_with fail
 go_loop [6,12](fun s i=>∃j:Nat,j<=8/\i= .int .i64 j/\s= .int .u64 ((l[k].toNat%256^j:Nat):Int))(fun _ i=>8- (intOf i).toNat)
 case atStart=>exact⟨0,by omega,rfl,by simp⟩
 case round=>
  obtain⟨j,hj,rfl,rfl⟩:=hrel;by_cases hlt:j<8
  ·obtain⟨hq,p,off,rfl,hp,hc⟩:=h.at (show 8*k+j<n by omega);have hb:=HLE.out j hlt;rw [List.getElem?_eq_getElem hq]at hb;injection hb with hb
   rw [hb]at hc;have HS:Hid (bits .or .u64 ((l[k].toNat:Int)%256^j) (IntKind.u64.wrap (IntKind.u64.wrap ((leB l[k] j).toNat:Int)*2^(8*j)))=((l[k].toNat%256^(j+1):Nat):Int)):=Aa (by
    rw [yA _ _ _ (leB l[k] j).toNat_lt hlt,le_step])
   go_wp2
   go_round
   case rel=>exact⟨j+1,by omega,by go_num,by rw [HS.out]⟩
   case measure=>simp [intOf];omega
  ·have hj8:j=8:=by omega
   subst hj8;rw [Alo];go_wp2;go_ret2;exact⟨rfl,rfl⟩
theorem lW(x:UInt64)(j:Nat):(x.toNat:Int)/2^(8*j)%256=((leB x j).toNat:Int):=by
 have e:(x.toNat:Int)/2^(8*j)=((x.toNat/256^j:Nat):Int):=by
  rw [Ahl,<-iy,IB];rfl
 rw [Sl,e];rfl
theorem WV(A:Option Addr)(n c k:Nat)(l:List UInt64)(x:UInt64)(w:World)(hn:n<=1000000)(h:Bs w A n (leBytes l))(hk:k<l.length):
 Calls Tryz.prog 77 #[.slice A n c,.int .i64 ((8*k:Nat):Int),.int .u64 (x.toNat:Int)] w fun e w'=>∃g c',e= .returned (.tuple #[.slice (some ⟨g,0,none⟩) n c',.bool true])/\w'.ownsRow w.heap.size 5 1 (.slice (some ⟨g,0,none⟩) n c') n ((leBytes (l.set k x)).map bv)/\Below w.heap.size w w':=by
 have hlen:=h.len;rw [leBytes_length]at hlen;have HM:=Aa (Aan l k x · hk ·);have HZ:=Aa (Aam l k x);have HE:=Aa (lF l k x hk);go_enter Tryz.func77,Tryz.ntmps77
 go_wp2_with fail
 refine(TJ A n c (leBytes l) w hn h).mono ?_;rintro e w1⟨v1,rfl,o1,hb1⟩;obtain⟨A1,c1,rfl,hc1,_⟩:=CO o1;obtain⟨g,rfl,hg1,hg2⟩:=Kr o1 (by omega);have HH:=Aa (y9 A n c (8*k) w1 (by omega) (by omega) (by omega));rw [<-HZ.out]at o1;clear HZ
 go_wp2_with fail
 refine HH.out.mono ?_;rintro e w'⟨rfl,rfl⟩;clear HH
 go_wp2_with fail
 go_loopw [17](fun i wr=>∃j:Nat,j<=8/\i= .int .i64 j/\wr.ownsRow w.heap.size 5 1 (.slice (some ⟨g,0,none⟩) n c1) n ((X4 l k x j).map bv)/\Below w.heap.size w wr)(fun i _=>8- (intOf i).toNat)
 case atStart=>exact⟨0,by omega,rfl,o1,hb1⟩
 case round=>
  obtain⟨j,hj,rfl,oj,hbj⟩:=hrel;by_cases hlt:j<8
  ·obtain⟨⟨v,hv⟩,hfz⟩:=Sv oj (show 8*k+j<n by omega);have HO:Hid ((wr.setCell ⟨g,8*k+j,none⟩ (.int .u8 ((leB x j).toNat:Int))).ownsRow w.heap.size 5 1 (.slice (some ⟨g,0,none⟩) n c1) n ((X4 l k x (j+1)).map bv)):=Aa (by
    rw [<-HM.out j hlt,List.map_set];exact NZ oj (by omega))
   have HB:=Aa (hbj.setCell (p:=⟨g,8*k+j,none⟩) hg1 (.int .u8 ((leB x j).toNat:Int)));have HW:=Aa (lW x j);clear oj;go_wp2;rw [HW.out];go_roundw
   case rel=>exact⟨j+1,by omega,by go_num,HO.out,HB.out⟩
   case measure=>simp [intOf];omega
  ·have hj8:j=8:=by omega
   subst hj8;rw [HE.out]at oj;go_wp2;go_ret2;exact⟨g,c1,rfl,oj,hbj⟩
def En(ws:Nat->UInt64)(i:Nat):List UInt64:=(List.range 8).map fun t=>ws (8*i+t)
theorem GV(ws:Nat->UInt64)(i:Nat):(En ws i).length=8:=by simp [En]
theorem Jg(ws:Nat->UInt64)(i k:Nat)(hk:k<(En ws i).length):(En ws i)[k]=ws (8*i+k):=by simp [En]
theorem Aax(ws:Nat->UInt64)(i k:Nat)(x:UInt64)(_:k<8):(En ws i).set k x=En (fun j=>if j=8*i+k then x else ws j) i:=by
 apply EH
 ·simp [En]
 ·intro t h1 h2;rw [List.getElem_set,Jg,Jg];by_cases ht:k=t
  ·rw [if_pos ht,if_pos (by omega)]
  ·rw [if_neg ht,if_neg (by omega)]
theorem lX(ws:Nat->UInt64)(i i' k:Nat)(x:UInt64)(hk:k<8)(hne:i'≠i):En (fun j=>if j=8*i+k then x else ws j) i'=En ws i':=by
 apply EH
 ·simp [En]
 ·intro t h1 h2;have:t<8:=by simpa [En]using h1
  rw [Jg,Jg,if_neg (by omega)]
structure Mode where
 MJ:Nat->List (Nat×UInt64)
 lf:Int
def Mode.len(m:Mode)(i:Nat):Nat:=(m.MJ i).length
instance:CoeFun Mode (fun _=>Nat->Nat):=⟨Mode.len⟩
abbrev MU(lf:Int):Mode:=⟨fun _=>[],lf⟩
abbrev M0:Mode:=MU (-1)
def Mode.tick(m:Mode):Mode:=⟨m.MJ,if 0<m.lf then m.lf-1 else m.lf⟩
def Mode.note(m:Mode)(i:Nat)(c:Nat×UInt64):Mode:=⟨fun k=>if k=i then m.MJ i++[c]else m.MJ k,m.lf⟩
def Mode.wipe(m:Mode)(i:Nat):Mode:=⟨fun k=>if k=i then []else m.MJ k,m.lf⟩
theorem Mode.QS(m:Mode)(i:Nat)(c:Nat×UInt64)(k:Nat):(m.note i c).len k=if k=i then m.len i+1 else m.len k:=by
 unfold Mode.note Mode.len;simp only;split
 ·simp
 ·rfl
theorem Mode.YF(m:Mode)(i k:Nat):(m.wipe i).len k=if k=i then 0 else m.len k:=by
 unfold Mode.wipe Mode.len;simp only;split<;>rfl
def chV:List (Nat×UInt64)->List Value
 | []=>[]
 | c::l=> .int .i64 (c.1:Nat):: .int .u64 (c.2.toNat:Nat)::chV l
def IV(i:Nat):List (Nat×UInt64)->(Nat->UInt64)->Nat->UInt64
 | [],ws=>ws
 | c::l,ws=>fun q=>if q=8*i+c.1/8 then c.2 else IV i l ws q
def Oa(m:Mode)(pick:Nat->Nat)(ws:Nat->UInt64)(q:Nat):UInt64:=IV (q/8) ((m.MJ (q/8)).drop (pick (q/8))) ws q
theorem yB:∀(a b:List (Nat×UInt64)),chV (a++b)=chV a++chV b
 | [],_=>rfl
 | c::a,b=>by simp only [List.cons_append,chV,yB a b]
def YG(w:World)(A:Option Addr)(cs:List (Nat×UInt64))(c:Nat)(hb:Option Nat):Prop:=
 (hb=none/\cs=[]/\c=0)\/∃h,hb=some h/\A=some ⟨h,0,none⟩/\w.ownsRow 0 204 2 (.slice A cs.length c) cs.length (chV cs)
structure BG(w:World)(d L:Nat)(ws:Nat->UInt64)(len:Mode)(mark:Nat->Nat)(g:Nat)(hb:Nat->Option Nat):Prop where
 box:∃st:Int,CG w d 78 [.slice (some ⟨g,0,none⟩) L L,.bool (decide (len.lf=0)),.int .i64 len.lf,.int .i64 st]
 lfr: -1<=len.lf/\len.lf<=1000000000
 gd:g≠d
 blk:∃cur:Array Value,w.heap[g]? =some (.cells cur 82 (0,0))/\cur.size=66*L/\
  (∀i,i<L->∀k,k<64->cur[66*i+k]? =(leBytes (En ws i))[k]?.map bv)/\
  ∀i,i<L->∃A c,cur[66*i+64]? =some (.slice A (len i) c)/\cur[66*i+65]? =some (.int .i64 (mark i:Int))/\YG w A (len.MJ i) c (hb i)
 bd:∀i,i<L->∀h,hb i=some h->h≠g/\h≠d
 inj:∀i j,i<L->j<L->i≠j->∀h,hb i=some h->hb j≠some h
 mrk:∀i,i<L->mark i<=len i+1
def Df(d L g:Nat)(hb:Nat->Option Nat)(b:Nat):Prop:=b=d\/b=g\/∃i,i<L/\hb i=some b
def Dev(w:World)(d L:Nat)(ws:Nat->UInt64)(len:Mode)(mark:Nat->Nat)(own:Nat->Prop):Prop:=
 ∃g hb,BG w d L ws len mark g hb/\∀b,own b<->Df d L g hb b
theorem YG.keep{w w':World}{A:Option Addr}{cs:List (Nat×UInt64)}{c:Nat}{hb:Option Nat}(h:YG w A cs c hb)(hk:∀b,hb=some b->b<w.heap.size->w'.heap[b]? =w.heap[b]?):YG w' A cs c hb:=by
 rcases h with h| ⟨h0,e1,e2,⟨h1,h2⟩⟩
 ·exact .inl h
 ·refine .inr ⟨h0,e1,e2,⟨h1,?_⟩⟩;rcases h2 with h2| ⟨g,cap,cur,a1,a2,a3,a4⟩
  ·exact .inl h2
  ·refine .inr ⟨g,cap,cur,a1,a2,?_,a4⟩;have:g=h0:=by
    simp only [Value.slice.injEq]at a1;have:=a1.1.symm.trans e2;simpa using this
   subst this;rw [hk g e1 (AB.1 a3).1];exact a3
theorem YG.lt {w : World} {A : Option Addr} {cs : List (Nat × UInt64)} {c : Nat} {hb : Option Nat} (h : YG w A cs c hb) : ∀ b, hb = some b -> b < w.heap.size := by
  intro b hbb
  rcases h with ⟨h, _⟩ | ⟨h0, e1, e2, ⟨h1, h2⟩⟩
  · rw [h] at hbb; cases hbb
  · rcases h2 with ⟨h2, _⟩ | ⟨g, cap, cur, a1, a2, a3, a4⟩
    · simp only [Value.slice.injEq] at h2
      rw [e2] at h2; cases h2.1
    · have e3 : g = h0 := by
        simp only [Value.slice.injEq] at a1
        have := a1.1.symm.trans e2
        simpa using this
      rw [e1] at hbb
      injection hbb with hbb
      subst e3 hbb
      exact (AB.1 a3).1
theorem BG.keep{w w':World}{d L:Nat}{ws:Nat->UInt64}{len:Mode}{mark:Nat->Nat}{g:Nat}{hb:Nat->Option Nat}(h:BG w d L ws len mark g hb)
 (hk:∀b,Df d L g hb b->b<w.heap.size->w'.heap[b]? =w.heap[b]?):BG w' d L ws len mark g hb:=by
 obtain⟨st,hbx⟩:=h.box;obtain⟨cur,hg,hs,h1,h2⟩:=h.blk;refine⟨⟨st,(hk d (.inl rfl) hbx.lt).trans hbx⟩,h.lfr,h.gd,⟨cur,(hk g (.inr (.inl rfl)) (AB.1 hg).1).trans hg,hs,h1,fun i hi=> ?_⟩,h.bd,h.inj,h.mrk⟩;obtain⟨A,c,e1,e2,hc⟩:=h2 i hi;exact⟨A,c,e1,e2,hc.keep (fun b hb' hlt=>hk b (.inr (.inr ⟨i,hi,hb'⟩)) hlt)⟩
theorem Dev.touch{w w':World}{d L:Nat}{ws:Nat->UInt64}{len:Mode}{mark:Nat->Nat}{own F:Nat->Prop}(h:Dev w d L ws len mark own)(t:Touch F w w')(hF:∀b,own b->¬F b):Dev w' d L ws len mark own:=by
 obtain⟨g,hb,hr,ho⟩:=h;exact⟨g,hb,hr.keep (fun b lY hlt=>t.block b hlt (hF b ((ho b).2 lY))),ho⟩
theorem Dev.below{w w':World}{d L:Nat}{ws:Nat->UInt64}{len:Mode}{mark:Nat->Nat}{own:Nat->Prop}(h:Dev w d L ws len mark own)(hb:Below w.heap.size w w'):Dev w' d L ws len mark own:=by
 obtain⟨g,hb',hr,ho⟩:=h;exact⟨g,hb',hr.keep (fun b _ hlt=>hb.block b hlt),ho⟩
theorem BG.lt{w:World}{d L:Nat}{ws:Nat->UInt64}{len:Mode}{mark:Nat->Nat}{g:Nat}{hb:Nat->Option Nat}(h:BG w d L ws len mark g hb):∀b,Df d L g hb b->b<w.heap.size:=by
 intro b hb';obtain⟨st,hbx⟩:=h.box;obtain⟨cur,hg,hs,h1,h2⟩:=h.blk;rcases hb' with rfl| rfl| ⟨i,hi,hh⟩
 ·exact hbx.lt
 ·exact(AB.1 hg).1
 ·obtain⟨A,c,_,_,hc⟩:=h2 i hi;exact hc.lt b hh
theorem Dev.lt{w:World}{d L:Nat}{ws:Nat->UInt64}{len:Mode}{mark:Nat->Nat}{own:Nat->Prop}(h:Dev w d L ws len mark own):∀b,own b->b<w.heap.size:=by
 obtain⟨g,hb,hr,ho⟩:=h;exact fun b hb'=>hr.lt b ((ho b).1 hb')
theorem BG.line{w:World}{d L:Nat}{ws:Nat->UInt64}{len:Mode}{mark:Nat->Nat}{g:Nat}{hb:Nat->Option Nat}(h:BG w d L ws len mark g hb)(i:Nat)(hi:i<L):Bs w (some ⟨g,66*i,none⟩) 64 (leBytes (En ws i)):=by
 obtain⟨cur,hg,hs,h1,h2⟩:=h.blk;refine⟨by rw [List.length_map,leBytes_length,GV],fun _=>⟨g,66*i,rfl,(AB.1 hg).1,fun j hj=> ?_⟩⟩;rw [cell_of_row w g _ cur _ (0,0) hg,h1 i hi j hj,List.getElem?_map]
theorem QT{P:Program}(w:World)(b off:Nat)(ty:TypeId)(vs:List Value)(d:TypeDesc)(hu:P.underlying ty=some d)(hd:(match d with| .struct _| .array _ _=>true| _=>false)=true)
 (hi:(P.info? ty).map (·.size)=some vs.length)(h:∀j v,vs[j]? =some v->w.cell? ⟨b,off+j,none⟩=some v):(loadVar ty ⟨b,off,none⟩).run P w= .ok (.agg vs.toArray) w:=by
 have hl:(loadCells ⟨b,off,none⟩ vs.length).run P w= .ok vs.toArray w:=
  run_loadCells_list (P:=P) w ⟨b,off,none⟩ vs (fun j v hv=>by rw [Addr.add_lit];exact h j v hv)
 cases hq:P.info? ty with
 | none=>simp [hq]at hi
 | some i=>
   have hs:i.size=vs.length:=by simpa [hq]using hi
   have hagg:(isAgg ty).run P w= .ok true w:=by
    unfold isAgg;rw [Sem.run_bind,run_underlying hu w];cases d<;>simp_all
   simp [loadVar,Sem.run_bind,hagg,sizeOf,typeInfo,hq,hs,hl]
theorem YH{P:Program}{ops:Array Oper}{rest:List Oper}{o:Oper}{a:Act}{w:World}{Q:Exit->Act->World->Prop}(hgd:o.guard=none)(ty:TypeId)(x:Operand)(ho:o.op= .load ty x)
 (b off:Nat)(hx:a.eval x= .pointer (some ⟨b,off,none⟩))(vs:List Value)(d:TypeDesc)(hu:P.underlying ty=some d)(hd:(match d with| .struct _| .array _ _=>true| _=>false)=true)
 (hi:(P.info? ty).map (·.size)=some vs.length)(hc:∀j v,vs[j]? =some v->w.cell? ⟨b,off+j,none⟩=some v)
 (h:wpList P ops Q rest (a.put o.dst (.agg vs.toArray)) w):wpList P ops Q (o::rest) a w:=by
 refine wpList_plain hgd fun K hK=> ?_
 unfold Oper.wp execOp;simp only [ho,hx,Instr.loadAt,Instr.sureAddr,Sem.run_bind,Sem.run_pure,Result.andThen_ok,QT w b off ty vs d hu hd hi hc];exact hK _ _ h
theorem X8{P:Program}(w:World)(b off:Nat)(ty:TypeId)(vs:List Value)(hi:(P.info? ty).map (·.size)=some vs.length)(hc:∀j,j<vs.length->(w.cell? ⟨b,off+j,none⟩).isSome=true)
 (hf:∀j,j<vs.length->w.frozen? ⟨b,off+j,none⟩=false)(h1:∀v∈vs,v.oneCell'=true):(storeVar ty ⟨b,off,none⟩ (.agg vs.toArray)).run P w= .ok () (w.setCells b off vs):=by
 have hs:=run_storeCells_cells (P:=P) b off vs 0 w (by simpa using hc) (by simpa using hf) h1;cases hq:P.info? ty with
 | none=>simp [hq]at hi
 | some i=>
   have hz:i.size=vs.length:=by simpa [hq]using hi
   simp only [Nat.add_zero]at hs;simp [storeVar,Sem.run_bind,sizeOf,typeInfo,hq,hz,Value.cells,hs]
theorem Qw{P:Program}{ops:Array Oper}{rest:List Oper}{o:Oper}{a:Act}{w:World}{Q:Exit->Act->World->Prop}(hgd:o.guard=none)(ty:TypeId)(x y:Operand)(ho:o.op= .store ty x y)
 (b off:Nat)(hx:a.eval x= .pointer (some ⟨b,off,none⟩))(vs:List Value)(hy:a.eval y= .agg vs.toArray)(hi:(P.info? ty).map (·.size)=some vs.length)(hc:∀j,j<vs.length->(w.cell? ⟨b,off+j,none⟩).isSome=true)
 (hf:∀j,j<vs.length->w.frozen? ⟨b,off+j,none⟩=false)(h1:∀v∈vs,v.oneCell'=true)
 (h:wpList P ops Q rest (a.put o.dst undef) (w.setCells b off vs)):wpList P ops Q (o::rest) a w:=by
 refine wpList_plain hgd fun K hK=> ?_
 unfold Oper.wp execOp;simp only [ho,hx,hy,Instr.storeAt,Instr.sureAddr,Sem.run_bind,Sem.run_pure,Result.andThen_ok,X8 w b off ty vs hi hc hf h1];exact hK _ _ h
theorem iC(size:Nat)(h:size<=32):2^size-1<4294967296:=by
 have:2^size<=2^32:=Fh (by decide) h;omega
theorem uo(low:Nat)(h:low<=31):2^low<=2147483648:=Fh (by decide) h
theorem Aee(x low size:Nat)(hx:x<18446744073709551616)(hs:size<=32):bits .and .u64 ((x:Int)/2^low) ((2^size-1:Nat):Int)=(fieldN x low size:Nat):=by
 have e1:(x:Int)/2^low=((x/2^low:Nat):Int):=by rw [Ahl,IB];rfl
 have:=iC size hs;rw [e1,u64_and_nat _ _ (Hq (Nat.div_le_self _ _) hx) (by omega),Nat.and_two_pow_sub_one_eq_mod];rfl
theorem Aib(x low size v:Nat)(hx:x<18446744073709551616)(hv:v<18446744073709551616)(hs:size<=32)(hl:low<=31):
 bits .or .u64 (bits .andNot .u64 (x:Int) (IntKind.u64.wrap (((2^size-1:Nat):Int)*2^low))) (IntKind.u64.wrap (bits .and .u64 (v:Int) ((2^size-1:Nat):Int)*2^low))=(Et x low size v:Nat):=by
 have h1:=iC size hs;have h2:=uo low hl;have h3:(2^size-1)*2^low<=4294967295*2147483648:=Iu (by omega) h2;have h4:v&&&(2^size-1)<=2^size-1:=Ahm;have h5:(v&&&(2^size-1))*2^low<=4294967295*2147483648:=Iu (by omega) h2;have e1:((2^size-1:Nat):Int)*2^low=(((2^size-1)*2^low:Nat):Int):=by rw [Gs,IB];rfl
 have e2:IntKind.u64.wrap (((2^size-1)*2^low:Nat):Int)=(((2^size-1)*2^low:Nat):Int):=by rw [IntKind.wrap_u64];omega
 have e3:((v&&&(2^size-1):Nat):Int)*2^low=(((v&&&(2^size-1))*2^low:Nat):Int):=by rw [Gs,IB];rfl
 have e4:IntKind.u64.wrap (((v&&&(2^size-1))*2^low:Nat):Int)=(((v&&&(2^size-1))*2^low:Nat):Int):=by rw [IntKind.wrap_u64];omega
 have h6:x&&&(18446744073709551615- (2^size-1)*2^low)<=x:=Aht;rw [e1,e2,u64_andNot_nat _ _ hx (by omega),u64_and_nat _ _ hv (by omega),e3,e4,u64_or_nat _ _ (by omega) (by omega)];rfl
theorem lZ(low size:Nat)(w:World)(hl:low+size<=64)(hs:size<=32):
 Calls Tryz.prog 151 #[.int .i64 (low:Int),.int .i64 (size:Int)] w fun e w'=>e= .returned (.tuple #[.int .i64 (low:Int),.int .u64 ((2^size-1:Nat):Int)])/\Dr w w':=by
 have h1:=iC size hs;have hp:0<2^size:=Tc (by decide);have hq:((2^size:Nat):Int)=(2:Int)^size:=by rw [IB];rfl
 have e2:IntKind.u64.wrap (IntKind.u64.wrap ((2:Int)^size) -1)=((2^size-1:Nat):Int):=by
  rw [IntKind.wrap_u64,IntKind.wrap_u64,<-hq];omega
 go_enter Tryz.func151,Tryz.ntmps151
 go_wp2_with fail
 go_quiet(fail)
 go_wp2_with fail
 go_ret2;exact⟨by simp;omega,_,rfl⟩
theorem Sz(x low size:Nat)(w:World)(hx:x<18446744073709551616)(hl:low+size<=64)(hs:size<=32):
 Calls Tryz.prog 105 #[.int .u64 (x:Int),.int .i64 (low:Int),.int .i64 (size:Int)] w fun e w'=>e= .returned (.int .u64 (fieldN x low size:Nat))/\Dr w w':=by
 have HE:=Aa (Aee x low size hx hs);go_enter Tryz.func105,Tryz.ntmps105
 go_wp2_with fail
 refine(lZ low size w hl hs).mono ?_;rintro e w'⟨rfl,q,rfl⟩
 go_wp2_with fail
 rw [HE.out];go_ret;exact⟨rfl,_,rfl⟩
theorem QU(x low size v:Nat)(w:World)(hx:x<18446744073709551616)(hv:v<18446744073709551616)(hl:low+size<=31):
 Calls Tryz.prog 104 #[.int .u64 (x:Int),.int .i64 (low:Int),.int .i64 (size:Int),.int .u64 (v:Int)] w fun e w'=>e= .returned (.int .u64 (Et x low size v:Nat))/\Dr w w':=by
 have HE:=Aa (Aib x low size v hx hv (by omega) (by omega));go_enter Tryz.func104,Tryz.ntmps104
 go_wp2_with fail
 refine(lZ low size w (by omega) (by omega)).mono ?_;rintro e w'⟨rfl,q,rfl⟩
 go_wp2_with fail
 go_quiet(fail)
 go_wp2_with fail
 rw [HE.out];go_ret;exact⟨rfl,Dr.two _ _ _⟩
theorem di(x low size:Nat):fieldN x low size<2^size:=SQ _ (Tc (by decide))
theorem UB(x:Nat):DV x<4:=di x 16 2
theorem Aay(x:Nat):JE x<65536:=di x 0 16
theorem FY(c:Nat):Bv c<=16:=by unfold Bv;split<;>omega
theorem dn(c:Nat):Be c<=4:=by unfold Be;split<;>omega
theorem OL(x low size v:Nat)(hx:x<18446744073709551616)(hs:low+size<=64):Et x low size v<18446744073709551616:=by
 unfold Et;have h1:x&&&(gW- (2^size-1)*2^low)<2^64:=Hq Aht hx;have h2:(v&&&(2^size-1))*2^low<2^64:=by
  have a:v&&&(2^size-1)<=2^size-1:=Ahm;have b:0<2^size:=Tc (by decide);have c:(v&&&(2^size-1))*2^low<2^size*2^low:=Nat.mul_lt_mul_of_pos_right (by omega) (Tc (by decide));rw [<-Nat.pow_add]at c;exact Cf c (Fh (by decide) (by omega))
 exact Nat.or_lt_two_pow h1 h2
theorem Gw(c:Nat)(w:World)(hc:c<1000000):Calls Tryz.prog 52 #[.int .i64 (c:Int)] w fun e w'=>e= .returned (.int .i64 (Bv c:Nat))/\w=w':=by
 by_cases h1:c=1
 ·subst h1;go_enter Tryz.func52,Tryz.ntmps52;go_wp2;go_ret;exact⟨rfl,rfl⟩
 ·by_cases h2:c=2
  ·subst h2;go_enter Tryz.func52,Tryz.ntmps52;go_wp2;go_ret;exact⟨rfl,rfl⟩
  ·have t1:((c:Int)==1)=false:=by rw [beq_eq_false_iff_ne];omega
   have t2:((c:Int)==2)=false:=by rw [beq_eq_false_iff_ne];omega
   have e:Bv c=0:=by unfold Bv;split<;>first| omega| rfl
   rw [e];go_enter Tryz.func52,Tryz.ntmps52;go_wp2;go_ret;exact⟨rfl,rfl⟩
theorem Oz(c:Nat)(w:World)(hc:c<1000000):Calls Tryz.prog 96 #[.int .i64 (c:Int)] w fun e w'=>e= .returned (.int .i64 (Be c:Nat))/\w=w':=by
 by_cases h1:c=1
 ·subst h1;go_enter Tryz.func96,Tryz.ntmps96;go_wp2;go_ret;exact⟨rfl,rfl⟩
 ·by_cases h2:c=2
  ·subst h2;go_enter Tryz.func96,Tryz.ntmps96;go_wp2;go_ret;exact⟨rfl,rfl⟩
  ·have t1:((c:Int)==1)=false:=by rw [beq_eq_false_iff_ne];omega
   have t2:((c:Int)==2)=false:=by rw [beq_eq_false_iff_ne];omega
   have e:Be c=0:=by unfold Be;split<;>first| omega| rfl
   rw [e];go_enter Tryz.func96,Tryz.ntmps96;go_wp2;go_ret;exact⟨rfl,rfl⟩
theorem UC(x:Nat)(w:World)(hx:x<18446744073709551616):Calls Tryz.prog 97 #[.int .u64 (x:Int)] w fun e w'=>e= .returned (.int .i64 (DV x:Nat))/\Dr w w':=by
 have hd:=Dr.refl w;have hk:=UB x;have e1:IntKind.i64.wrap (DV x:Int)=(DV x:Int):=by rw [IntKind.wrap_i64];omega
 go_enter Tryz.func97,Tryz.ntmps97
 go_wp2_with fail
 refine(Sz x 16 2 _ hx (by decide) (by decide)).mono ?_;rintro e w'⟨rfl,hd'⟩;replace hd:=hd.trans hd';rw [show fieldN x 16 2=DV x from rfl]
 go_wp2_with fail
 go_ret;exact⟨rfl,hd⟩
theorem dw(x:Nat)(w:World)(hx:x<18446744073709551616):Calls Tryz.prog 103 #[.int .u64 (x:Int)] w fun e w'=>e= .returned (.int .u64 (JE x:Nat))/\Dr w w':=by
 have hd:=Dr.refl w;go_enter Tryz.func103,Tryz.ntmps103
 go_wp2_with fail
 refine(Sz x 0 16 _ hx (by decide) (by decide)).mono ?_;rintro e w'⟨rfl,hd'⟩;replace hd:=hd.trans hd';rw [show fieldN x 0 16=JE x from rfl]
 go_wp2_with fail
 go_ret;exact⟨rfl,hd⟩
theorem TN(x:Nat)(w:World)(hx:x<18446744073709551616):Calls Tryz.prog 67 #[.int .u64 (x:Int)] w fun e w'=>e= .returned (.bool (ES x))/\Dr w w':=by
 have hd:=Dr.refl w;have hk:=UB x;have hb:=FY (DV x);by_cases h0:x=0
 ·subst h0;rw [show ES 0=true from rfl];go_enter Tryz.func67,Tryz.ntmps67;go_wp2;go_ret;exact⟨rfl,hd⟩
 ·have t0:((x:Int)==0)=false:=by rw [beq_eq_false_iff_ne];omega
  have HF:=Aa (fun W=>Sz x 0 (Bv (DV x)) W hx (by omega) (by omega));have w1:=OL x 0 (Bv (DV x)) 0 hx (by omega);have HW1:=Aa (fun W=>QU x 0 (Bv (DV x)) 0 W hx (by decide) (by omega));have HW2:=Aa (fun W=>QU (Et x 0 (Bv (DV x)) 0) 16 2 0 W w1 (by decide) (by decide));by_cases h1:fieldN x 0 (Bv (DV x))=0
  ·have HR:Hid (ES x=false):=Aa (by simp [ES,h0,h1]);have t1:(((fieldN x 0 (Bv (DV x)):Nat):Int)!=0)=false:=by rw [h1];rfl
   generalize fieldN x 0 (Bv (DV x))=fl at HF t1;clear h1;go_enter Tryz.func67,Tryz.ntmps67
   go_wp2_with fail
   refine(UC x _ hx).mono ?_;rintro e w'⟨rfl,hd'⟩;replace hd:=hd.trans hd'
   go_wp2_with fail
   refine(Gw (DV x) _ (by omega)).mono ?_;rintro e w'⟨rfl,rfl⟩
   go_wp2_with fail
   refine(HF.out _).mono ?_;rintro e w'⟨rfl,hd'⟩;replace hd:=hd.trans hd'
   go_wp2_with fail
   rw [HR.out];go_ret;exact⟨rfl,hd⟩
  ·have HR:Hid (ES x=(Et (Et x 0 (Bv (DV x)) 0) 16 2 0==0)):=Aa (by
   have e0:(x==0)=false:=by rw [beq_eq_false_iff_ne];exact h0
   have e1:(fieldN x 0 (Bv (DV x))!=0)=true:=by rw [bne_iff_ne];exact h1
   rw [ES,e0,e1];rfl)
   have t1:(((fieldN x 0 (Bv (DV x)):Nat):Int)!=0)=true:=by rw [bne_iff_ne];omega
   have HT:Hid ((((Et (Et x 0 (Bv (DV x)) 0) 16 2 0:Nat):Int)==0)=(Et (Et x 0 (Bv (DV x)) 0) 16 2 0==0)):=Aa (by
    rw [Bool.eq_iff_iff,beq_iff_eq,beq_iff_eq];omega)
   generalize fieldN x 0 (Bv (DV x))=fl at HF t1;clear h1;go_enter Tryz.func67,Tryz.ntmps67
   go_wp2_with fail
   refine(UC x _ hx).mono ?_;rintro e w'⟨rfl,hd'⟩;replace hd:=hd.trans hd'
   go_wp2_with fail
   refine(Gw (DV x) _ (by omega)).mono ?_;rintro e w'⟨rfl,rfl⟩
   go_wp2_with fail
   refine(HF.out _).mono ?_;rintro e w'⟨rfl,hd'⟩;replace hd:=hd.trans hd'
   go_wp2_with fail
   refine(HW1.out _).mono ?_;rintro e w'⟨rfl,hd'⟩;replace hd:=hd.trans hd'
   go_wp2_with fail
   refine(HW2.out _).mono ?_;rintro e w'⟨rfl,hd'⟩;replace hd:=hd.trans hd'
   go_wp2_with fail
   rw [HR.out,HT.out];go_ret;exact⟨rfl,hd⟩
theorem Nk(x:Nat):Bd x<4:=by unfold Bd;split;exact UB x;decide
theorem Hf(x:Nat)(w:World)(hx:x<18446744073709551616):Calls Tryz.prog 51 #[.int .u64 (x:Int)] w fun e w'=>e= .returned (.int .i64 (Bd x:Nat))/\Dr w w':=by
 have hd:=Dr.refl w;have HR:=Aa (fun W=>TN x W hx);cases hr:ES x
 ·rw [show Bd x=0 by simp [Bd,hr]];rw [hr]at HR;clear hr;go_enter Tryz.func51,Tryz.ntmps51
  go_wp2_with fail
  refine(HR.out _).mono ?_;rintro e w'⟨rfl,hd'⟩;replace hd:=hd.trans hd'
  go_wp2_with fail
  go_ret;exact⟨rfl,hd⟩
 ·rw [show Bd x=DV x by simp [Bd,hr]];rw [hr]at HR;clear hr;go_enter Tryz.func51,Tryz.ntmps51
  go_wp2_with fail
  refine(HR.out _).mono ?_;rintro e w'⟨rfl,hd'⟩;replace hd:=hd.trans hd'
  go_wp2_with fail
  refine(UC x _ hx).mono ?_;rintro e w'⟨rfl,hd'⟩;replace hd:=hd.trans hd'
  go_wp2_with fail
  go_ret;exact⟨rfl,hd⟩
theorem QV(x a:Nat)(w:World)(hx:x<18446744073709551616)(ha:a<1000000):Calls Tryz.prog 60 #[.int .u64 (x:Int),.int .i64 (a:Int)] w fun e w'=>e= .returned (.bool (EK x a))/\Dr w w':=by
 have hd:=Dr.refl w;have hc:=Nk x;have hb:=FY (Bd x);have t0:decide ((0:Int)<=(a:Int))=true:=by simp
 by_cases h1:a<Bv (Bd x)
 ·have HF:=Aa (fun W=>Sz x a 1 W hx (by omega) (by omega));have t1:decide ((a:Int)<((Bv (Bd x):Nat):Int))=true:=decide_eq_true (by omega);have HT:Hid ((((fieldN x a 1:Nat):Int)==1)=EK x a):=Aa (by
   rw [Bool.eq_iff_iff,beq_iff_eq];simp [EK,h1];omega)
  go_enter Tryz.func60,Tryz.ntmps60
  go_wp2_with fail
  refine(Hf x _ hx).mono ?_;rintro e w'⟨rfl,hd'⟩;replace hd:=hd.trans hd'
  go_wp2_with fail
  refine(Gw (Bd x) _ (by omega)).mono ?_;rintro e w'⟨rfl,rfl⟩
  go_wp2_with fail
  refine(HF.out _).mono ?_;rintro e w'⟨rfl,hd'⟩;replace hd:=hd.trans hd'
  go_wp2_with fail
  rw [HT.out];go_ret;exact⟨rfl,hd⟩
 ·have t1:decide ((a:Int)<((Bv (Bd x):Nat):Int))=false:=decide_eq_false (by omega);rw [show EK x a=false by simp [EK,h1]];go_enter Tryz.func60,Tryz.ntmps60
  go_wp2_with fail
  refine(Hf x _ hx).mono ?_;rintro e w'⟨rfl,hd'⟩;replace hd:=hd.trans hd'
  go_wp2_with fail
  refine(Gw (Bd x) _ (by omega)).mono ?_;rintro e w'⟨rfl,rfl⟩
  go_wp2_with fail
  go_ret;exact⟨rfl,hd⟩
structure Jt(P:Program)(t e:TypeId)(z:Value)(k bytes:Nat):Prop where
 ht:P.underlying t=some (.slice e)
 hi:(P.info? e).map (fun i=>(i.zero,i.size,i.bytes))=some (some z,k,bytes)
 hz:z.cells.size=k
theorem YI{P:Program}{t e:TypeId}{z:Value}{k bytes:Nat}(T:Jt P t e z k bytes)(ty:TypeId){w:World}{base:Nat}{v:Value}{n:Nat}{xs news:List Value}
 (hown:w.ownsRow base e k v n xs)(b:Nat)(hb:CG w b e news)(hk:news.length=k)(hk0:0<k)(h1:∀u∈news,u.oneCell'=true)(hm:n<=1000000)(hby:bytes<=1000)(hbase:base<=w.heap.size)(c:Nat):
 ∃g cap w',(Builtin.append_ #[t,t] ty #[v,.slice (some ⟨b,0,none⟩) 1 c]).run P w= .ok (.slice (some ⟨g,0,none⟩) (n+1) cap) w'/\w'.ownsRow base e k (.slice (some ⟨g,0,none⟩) (n+1) cap) (n+1) (xs++news)/\Below base w w'/\Kept w w' v.ownBlock/\(v.ownBlock=some g\/g=w.heap.size):=by
 obtain⟨i,hi,hz0,hz1,hz2⟩:=info_parts T.hi;have hnews:∀j u,news[j]? =some u->w.cell? ((⟨b,0,none⟩:Addr).add j)=some u:=fun j u hu=>by
  rw [Addr.add_lit,Dw,hb.cell,hu]
 have hmul:(n+1)*bytes<=1000001*1000:=Iu (by omega) hby;obtain⟨g,cap,w',a1,a2,a3,a4,a5⟩:=run_append_lies (P:=P) w t ty base e i z k bytes T.ht hi hz0 hz1 hz2 T.hz hk0 v n xs hown ⟨b,0,none⟩ 1 c news (by rw [hk,Nat.one_mul]) hnews h1 (by decide) (by unfold maxLen;omega) (by omega) hbase _ rfl;exact⟨g,cap,w',a1,a2,(Below.refl _ _).grown a3 hbase (fun k hk=>(hown.lt k hk).1),⟨a3.size,fun j hj hr=>a3.block j hj hr⟩,a4⟩
theorem Eh{P:Program}{ops:Array Oper}{rest:List Oper}{o:Oper}{a:Act}{w:World}{Q:Exit->Act->World->Prop}(hgd:o.guard=none)(s x:Operand)(t:TypeId)
 (ho:o.op= .call {callee:= .builtin .append,args:= #[s,x],argTypes:= #[t,t]}){e:TypeId}{z:Value}{k bytes:Nat}(T:Jt P t e z k bytes)
 (wr:World)(base:Nat)(v:Value)(n:Nat)(xs news:List Value)(hs:a.eval s=v)(hown:wr.ownsRow base e k v n xs)(hw:w=wr.alloc (.cells news.toArray e))(b c:Nat)(hx:a.eval x= .slice (some ⟨b,0,none⟩) 1 c)(hb:b=wr.heap.size)
 (hk:news.length=k)(hk0:0<k)(h1:∀u∈news,u.oneCell'=true)(hm:n<=1000000)(hby:bytes<=1000)(hbase:base<=wr.heap.size)
 (h:∀g cap w',w'.ownsRow base e k (.slice (some ⟨g,0,none⟩) (n+1) cap) (n+1) (xs++news)->Below base wr w'->Kept wr w' v.ownBlock->(v.ownBlock=some g\/wr.heap.size<=g)->wpList P ops Q rest (a.put o.dst (.slice (some ⟨g,0,none⟩) (n+1) cap)) w'):wpList P ops Q (o::rest) a w:=by
 refine wpList_plain hgd fun K hK=> ?_
 subst hw hb;have hbl:Below wr.heap.size wr (wr.alloc (.cells news.toArray e)):=(Below.refl _ _).alloc (Ad _) _;have hown':(wr.alloc (.cells news.toArray e)).ownsRow base e k v n xs:=by
  refine⟨hown.1,?_⟩;rcases hown.2 with h| ⟨g,cap,cur,h1,h2,h3,h4⟩
  ·exact .inl h
  ·exact .inr ⟨g,cap,cur,h1,h2,by rw [hbl.block g (AB.1 h3).1];exact h3,h4⟩
 obtain⟨g,cap,w',hrun,h2,h3,h4,h5⟩:=YI T o.type hown' wr.heap.size (heap_alloc_new wr _) hk hk0 h1 hm hby (by simp;omega) c;unfold Oper.wp execOp;simp only [ho,resolve,invoke,builtin,Sem.run_bind,Sem.run_pure,Result.andThen_ok,MB,BU,Gq,hs,hx,hrun];refine hK _ _ (h g cap w' h2 ((hbl.mono hbase).trans h3) ⟨Bg hbl.size h4.1,fun j hj hr=>(h4.2 j (Cf hj hbl.size) hr).trans (hbl.block j hj)⟩ (h5.imp id (fun e=>by rw [e];simp)))
def Ey(W:World)(r:Nat)(es:Array MapEntry)(c:Nat):World:={W with heap:=W.heap.setIfInBounds r (.map es c)}
theorem WW(W:World)(r:Nat)(es:Array MapEntry)(c:Nat):(Ey W r es c).heap.size=W.heap.size:=by simp [Ey]
theorem Nl(W:World)(r:Nat)(es:Array MapEntry)(c:Nat)(h:r<W.heap.size):(Ey W r es c).heap[r]? =some (.map es c):=by simp [Ey,h]
theorem Jh(W:World)(r:Nat)(es:Array MapEntry)(c:Nat):Touch (fun b=>b=r) W (Ey W r es c):=
 ⟨rfl,rfl,rfl,by simp [Ey],fun k hk hn=>by
  simp only [Ey];rw [Bc,if_neg (fun e=>hn e.symm)]⟩
theorem PN{P:Program}{w:World}{r:Nat}{es:Array MapEntry}{c:Nat}(hb:w.heap[r]? =some (.map es c)):(getObj r).run P w= .ok (.map es c) w:=by simp [getObj,Sem.run,hb]
theorem YJ{P:Program}{w:World}{r:Nat}{es:Array MapEntry}{c:Nat}(o:Obj)(hb:w.heap[r]? =some (.map es c)):(setObj r o).run P w= .ok () {w with heap:=w.heap.setIfInBounds r o}:=by simp [setObj,Sem.run,hb]
theorem run_makeMap{P:Program}(t:TypeId)(w:World):(Instr.makeMap t none).run P w= .ok (.map (some w.heap.size)) (w.alloc (.map #[] 0)):=by
 simp [Instr.makeMap,Result.andThen]
theorem Ji{P:Program}{kt:TypeId}{d:IntKind}(hk:P.underlying kt=some (.int d))(b:Bool)(n:Nat)(q:IntKind)(k:Int)(w:World):(Instr.checkKey b (n+1) kt (.int q k)).run P w= .ok () w:=by
 simp [Instr.checkKey,run_underlying hk,Result.andThen]
theorem XP{P:Program}{t kt et:TypeId}{d:IntKind}(ht:P.underlying t=some (.map kt et))(hk:P.underlying kt=some (.int d))(W:World)(r:Nat)(es:Array MapEntry)(c:Nat)(k:Int)(v:Value)
 (h:W.heap[r]? =some (.map es c))(hf:Instr.findNow (.int d) (.int d k) es.toList 0=some none):
 (Instr.mapUpdate t (.map (some r)) (.int d k) v).run P W= .ok () (Ey W r (es.push {key:= .int d k,val:=v,born:=c}) (c+1)):=by
 have h1:=run_underlying (P:=P) ht;have h2:=run_underlying (P:=P) hk;have h3:=fun w=>Ji (P:=P) hk false 9999 d k w
 have h4:=PN (P:=P) h;have h5:=fun o=>YJ (P:=P) o h
 simp [Instr.mapUpdate,h1,h2,h3,h4,h5,Instr.findKey,hf,Ey,Result.andThen]
theorem N7{P:Program}{t kt et:TypeId}{d:IntKind}(ht:P.underlying t=some (.map kt et))(hk:P.underlying kt=some (.int d))(W:World)(r:Nat)(es:Array MapEntry)(c:Nat)(k:Int)(i:Nat)(v:Value)
 (h:W.heap[r]? =some (.map es c))(hf:Instr.findNow (.int d) (.int d k) es.toList 0=some (some (i,v))):
 (Instr.lookup t (.map (some r)) (.int d k) false).run P W= .ok v W:=by
 have h1:=run_underlying (P:=P) ht;have h2:=run_underlying (P:=P) hk;have h3:=fun b w=>Ji (P:=P) hk b 9999 d k w
 have h4:=PN (P:=P) h;simp [Instr.lookup,h1,h2,h3,h4,Instr.findKey,hf,Result.andThen]
def Aic(w:World):Prop:=∀j,j<16->w.cell? ⟨0,j,none⟩=some (.int .u32 (KR.getD j 0:Nat))
theorem Aef(j:Nat):KR.getD j 0<4294967296:=by
 rcases Nat.lt_or_ge j 16 with h| h
 ·have key:∀k:Fin 16,KR.getD k.val 0<4294967296:=by decide
  exact key ⟨j,h⟩
 ·rw [List.getD_eq_getElem?_getD,EP (by simpa [KR]using h)];decide
theorem yC(y:Nat)(hy:y<4294967296):bits .and .u32 (y:Int) 15=((y%16:Nat):Int):=by
 rw [show(15:Int)=((15:Nat):Int)from rfl,u32_and_nat _ _ hy (by decide),nat_mask4]
theorem yD(y:Nat)(hy:y<4294967296):bits .xor .u32 ((y:Int)/16) ((KR.getD (y%16) 0:Nat):Int)=(PG y:Nat):=by
 rw [show(y:Int)/16=((y/16:Nat):Int)by omega,u32_xor_nat _ _ (by omega) (Aef _)];rfl
theorem mf(sum:Nat)(A:Option Addr)(n c:Nat)(l:List UInt8)(w:World)(hs:sum<4294967296)(hn:n<=1000000)(h:Bs w A n l)(hT:Aic w):
 Calls Tryz.prog 120 #[.int .u32 (sum:Int),.slice A n c] w fun e w'=>e= .returned (.int .u32 (L6 sum l:Nat))/\w=w':=by
 have hlen:=h.len;have e0:bits .xor .u32 IntKind.u32.max (sum:Int)=((OI sum l 0:Nat):Int):=by
  rw [show IntKind.u32.max=((4294967295:Nat):Int)from rfl,u32_xor_nat _ _ (by decide) hs,Y3,Aon]
 have HH:=Aa h;clear h;go_enter Tryz.func120,Tryz.ntmps120
 go_wp2_with fail
 go_loop [5,12](fun x i=>∃k:Nat,k<=n/\i= .int .i64 k/\x= .int .u32 ((OI sum l k:Nat):Int))(fun _ i=>n- (intOf i).toNat)
 case atStart=>exact⟨0,Nat.zero_le _,rfl,rfl⟩
 case round=>
  obtain⟨k,hk,rfl,rfl⟩:=hrel;have hlt:=Y5 sum l hs k (by omega);by_cases hkn:k<n
  ·obtain⟨hkl,b,off,rfl,hb,hc⟩:=HH.out.at hkn;have hcb:l[k].toNat<256:=UInt8.toNat_lt _;have HS:=Aa (Y4 sum l k hkl);generalize OI sum l k=x at*;generalize l[k].toNat=b at*;have hy:x^^^b<4294967296:=Nat.xor_lt_two_pow (n:=32) hlt (by omega);have a1:bits .xor .u32 (x:Int) (b:Int)=((x^^^b:Nat):Int):=u32_xor_nat _ _ hlt (by omega);have a2:=yC _ hy;have a3:=yD _ hy;have c1:=hT ((x^^^b)%16) (SQ _ (by decide));have HB:Hid (Sm x b=PG (PG (x^^^b))):=Aa rfl;generalize x^^^b=y at*;have hz:=TF y hy;generalize PG y=z at*;have b2:=yC _ hz;have b3:=yD _ hz;have c2:=hT (z%16) (SQ _ (by decide));generalize KR.getD (y%16) 0=f1 at*;generalize KR.getD (z%16) 0=f2 at*;go_wp2
   trace_state
   go_round
   case rel=>exact⟨k+1,by omega,by go_num,by rw [HS.out,HB.out]⟩
   case measure=>simp [intOf];omega
  ·have hkn:k=n:=by omega
   subst hkn;have e1:bits .xor .u32 IntKind.u32.max ((OI sum l k:Nat):Int)=(L6 sum l:Nat):=by
    rw [show IntKind.u32.max=((4294967295:Nat):Int)from rfl,u32_xor_nat _ _ (by decide) hlt,Aon,<-hlen,Aao]
   go_wp2;go_ret;exact⟨rfl,rfl⟩
theorem uq(A:Option Addr)(n c:Nat)(l:List UInt8)(w:World)(hn:n<=1000000)(h:Bs w A n l)(hT:Aic w):
 Calls Tryz.prog 78 #[.slice A n c] w fun e w'=>e= .returned (.int .u32 (L6 0 l:Nat))/\w=w':=by
 have HN:=Aa (mf 0 A n c l w (by decide) hn h hT);go_enter Tryz.func78,Tryz.ntmps78
 go_wp2_with fail
 refine HN.out.mono ?_;rintro e w'⟨rfl,rfl⟩
 go_wp2_with fail
 go_ret;exact⟨rfl,rfl⟩
theorem MV{P:Program}{ops:Array Oper}{o:Oper}{a:Act}{w:World}{K:Act->World->Prop}{Q:Exit->Act->World->Prop}{E:Prop}(hgd:o.guard=none)(s x:Operand)(t:TypeId)
 (ho:o.op= .call {callee:= .builtin .append,args:= #[s,x],argTypes:= #[t,t]}){e:TypeId}{z:Value}{k bytes:Nat}(T:Jt P t e z k bytes)
 (wr:World)(base:Nat)(v:Value)(n:Nat)(xs news:List Value)(hs:a.eval s=v)(hown:wr.ownsRow base e k v n xs)(hw:w.heap=wr.heap.push (.cells news.toArray e))
 (hos:w.os=wr.os)(htape:w.tape=wr.tape)(hout:w.output=wr.output)(gx c:Nat)(hx:a.eval x= .slice (some ⟨gx,0,none⟩) 1 c)(hgx:wr.heap.size=gx)
 (hk:news.length=k)(hk0:0<k)(h1:∀u∈news,u.oneCell'=true)(hm:n<=1000000)(hby:bytes<=1000)(hbase:base<=wr.heap.size)
 (h:∀g cap w',w'.ownsRow base e k (.slice (some ⟨g,0,none⟩) (n+1) cap) (n+1) (xs++news)->Below base wr w'->Kept wr w' v.ownBlock->(v.ownBlock=some g\/wr.heap.size<=g)->K (a.put o.dst (.slice (some ⟨g,0,none⟩) (n+1) cap)) w'):
 if Region.wanted o (yielded ops a.tmps)=true then Oper.wp P o a w K Q else E:=by
 have hwt:Region.wanted o (yielded ops a.tmps)=true:=by simp [Region.wanted,hgd]
 rw [if_pos hwt];subst hgx;have hbl:Below wr.heap.size wr w:=⟨hos,htape,hout,by rw [hw];simp,fun k hk=>by rw [hw,FD,if_neg (by omega)]⟩;have hown':w.ownsRow base e k v n xs:=by
  refine⟨hown.1,?_⟩;rcases hown.2 with h| ⟨g,cap,cur,h1,h2,h3,h4⟩
  ·exact .inl h
  ·exact .inr ⟨g,cap,cur,h1,h2,by rw [hbl.block g (AB.1 h3).1];exact h3,h4⟩
 have hb:CG w wr.heap.size e news:=by unfold CG;rw [hw,FD,if_pos rfl]
 obtain⟨g,cap,w',hrun,h2,h3,h4,h5⟩:=YI T o.type hown' wr.heap.size hb hk hk0 h1 hm hby (Bg hbase hbl.size) c;unfold Oper.wp execOp;simp only [ho,resolve,invoke,builtin,Sem.run_bind,Sem.run_pure,Result.andThen_ok,MB,BU,Gq,hs,hx,hrun];exact h g cap w' h2 ((hbl.mono hbase).trans h3) ⟨Bg hbl.size h4.1,fun j hj hr=>(h4.2 j (Cf hj hbl.size) hr).trans (hbl.block j hj)⟩ (h5.imp id (fun e=>by rw [e];exact hbl.size))
def yE(w w':World)(e:TypeId)(A A':Option Addr)(m:Nat):Prop:=(A'=A/\m=0)\/∃g cs,A'=some ⟨g,0,none⟩/\w.heap.size<=g/\w'.heap[g]? =some (.cells cs e (0,0))
theorem uu {P : Program} {t e : TypeId} {z : Value} {bytes : Nat} (T : LK P t e z bytes) (ty : TypeId) {w : World} {A : Option Addr} {n : Nat} {xs news : List Value} (hA : Rd w A n xs) (hA0 : ∀ a, A = some a -> ∃ g, a = ⟨g, 0, none⟩) (hn0 : A = none -> n = 0)
    {B : Option Addr} {m : Nat} (hr : Rd w B m news) (h1 : ∀ u ∈ news, u.oneCell' = true) (hm : n + m <= 1000000) (hby : bytes <= 64) (c : Nat) :
    ∃ A' C w', (Builtin.append_ #[t, t] ty #[.slice A n n, .slice B m c]).run P w = .ok (.slice A' (n + m) C) w' /\ n + m <= C /\ Rd w' A' (n + m) (xs ++ news) /\ Below w.heap.size w w' /\ yE w w' e A A' m := by
  obtain ⟨i, hi, hz0, hz1, hz2⟩ := info_parts T.hi
  rcases B with _ | bd
  · have h0 : m = 0 := by
      rcases Ho m with h0 | h0
      · exact h0
      · obtain ⟨_, _, e, _⟩ := hr.2 h0; cases e
    subst h0
    have hn : news = [] := Ce hr.1
    subst hn
    refine ⟨A, n, w, ?_, Ad _, by simpa using hA, Below.refl _ _, .inl ⟨rfl, rfl⟩⟩
    rcases A with _ | a
    · have hn := hn0 rfl
      subst hn
      simp [Builtin.append_, run_underlying T.ht, sizeOf, typeInfo, hi, Builtin.lenOf, Builtin.firstCells]
    · simp [Builtin.append_, run_underlying T.ht, sizeOf, typeInfo, hi, Builtin.lenOf, Builtin.firstCells, storeCells]
  · have hcells : ∀ j u, news[j]? = some u -> w.cell? (bd.add j) = some u := by
      intro j u hu
      have hj : j < m := by
        have := (Cb.1 hu).1
        have := hr.1
        omega
      obtain ⟨b, off, e, _, hc⟩ := hr.2 (by omega)
      injection e with e
      subst e
      rw [Addr.add_lit, hc j hj, hu]
    rcases A with _ | a
    · have hn := hn0 rfl
      subst hn
      have hxs : xs = [] := Ce hA.1
      subst hxs
      obtain ⟨v', w', hrun, h2, h3, h4⟩ := TM T ty (World.ownsRow_nil w w.heap.size e 1) hr h1 (by omega) hby (Ad _) c
      obtain ⟨A', C, rfl, hc, hrd⟩ := CO h2
      refine ⟨A', C, w', hrun, hc, hrd, h3, ?_⟩
      rcases h2.2 with ⟨e1, e2⟩ | ⟨g, cap, cur, e1, e2, e3, _⟩
      · simp only [Value.slice.injEq] at e1
        exact .inl ⟨e1.1, by omega⟩
      · simp only [Value.slice.injEq] at e1
        exact .inr ⟨g, _, e1.1, e2, e3⟩
    · obtain ⟨g, rfl⟩ := hA0 a rfl
      rcases Ho m with h0 | h0
      · subst h0
        have hn : news = [] := Ce hr.1
        subst hn
        have hrun := run_append_room_cells (P := P) w t ty e i T.ht hi g 0 n n bd 0 c [] (by simp) (by simp) (by simp) (by omega) (by simp) (by simp)
        exact ⟨_, n, w, hrun, Ad _, by simpa using hA, Below.refl _ _, .inl ⟨rfl, rfl⟩⟩
      · have holds : ∀ j u, xs[j]? = some u -> w.cell? ((⟨g, 0, none⟩ : Addr).add j) = some u := by
          intro j u hu
          have hj : j < n := by
            have := (Cb.1 hu).1
            have := hA.1
            omega
          obtain ⟨b, off, e, _, hc⟩ := hA.2 (by omega)
          injection e with e
          injection e with e1 e2
          subst e1 e2
          rw [Addr.add_lit, hc j hj, hu]
        have hmul : (n + m) * bytes <= 1000000 * 64 := Iu hm hby
        obtain ⟨v', w', hrun, h2, h3⟩ := run_append_arg_grows (P := P) w t ty e i z 1 bytes T.ht hi hz0 hz1 hz2 T.hz (by decide) ⟨g, 0, none⟩ n n xs (by have := hA.1; omega) holds bd m c news (by have := hr.1; omega) hcells (by omega) (by unfold maxLen; omega) (by omega)
        obtain ⟨A', C, rfl, hc, hrd⟩ := CO h2
        refine ⟨A', C, w', hrun, hc, hrd, (Below.refl _ _).grown h3 (Ad _) (fun k hk => nomatch hk), ?_⟩
        rcases h2.2 with ⟨e1, e2⟩ | ⟨g', cap, cur, e1, e2, e3, _⟩
        · omega
        · simp only [Value.slice.injEq] at e1
          exact .inr ⟨g', _, e1.1, e2, e3⟩
theorem Jj{P:Program}{ops:Array Oper}{o:Oper}{a:Act}{w:World}{K:Act->World->Prop}{Q:Exit->Act->World->Prop}{E:Prop}(hgd:o.guard=none)(s x:Operand)(t:TypeId)
 (ho:o.op= .call {callee:= .builtin .append,args:= #[s,x],argTypes:= #[t,t]}){e:TypeId}{z:Value}{bytes:Nat}(T:LK P t e z bytes)
 (A:Option Addr)(n:Nat)(xs:List Value)(hs:a.eval s= .slice A n n)(hA:Rd w A n xs)(hA0:∀a,A=some a->∃g,a=⟨g,0,none⟩)(hn0:A=none->n=0)
 (B:Option Addr)(m c:Nat)(news:List Value)(hx:a.eval x= .slice B m c)(hr:Rd w B m news)(h1:∀u∈news,u.oneCell'=true)(hm:n+m<=1000000)(hby:bytes<=64)
 (h:∀A' C w',n+m<=C->Rd w' A' (n+m) (xs++news)->Below w.heap.size w w'->yE w w' e A A' m->K (a.put o.dst (.slice A' (n+m) C)) w'):
 if Region.wanted o (yielded ops a.tmps)=true then Oper.wp P o a w K Q else E:=by
 have hwt:Region.wanted o (yielded ops a.tmps)=true:=by simp [Region.wanted,hgd]
 rw [if_pos hwt];obtain⟨A',C,w',hrun,h2,h3,h4,h5⟩:=uu T o.type hA hA0 hn0 hr h1 hm hby c;unfold Oper.wp execOp;simp only [ho,resolve,invoke,builtin,Sem.run_bind,Sem.run_pure,Result.andThen_ok,MB,BU,Gq,hs,hx,hrun];exact h A' C w' h2 h3 h4 h5
theorem L9{P:Program}{ops:Array Oper}{o:Oper}{a:Act}{w:World}{K:Act->World->Prop}{Q:Exit->Act->World->Prop}{E:Prop}(hgd:o.guard=none)(s x:Operand)(t:TypeId)
 (ho:o.op= .call {callee:= .builtin .append,args:= #[s,x],argTypes:= #[t,t]}){e:TypeId}{z:Value}{bytes:Nat}(T:LK P t e z bytes)
 (wr:World)(A:Option Addr)(n:Nat)(xs:List Value)(hs:a.eval s= .slice A n n)(hA:Rd wr A n xs)(hA0:∀a,A=some a->∃g,a=⟨g,0,none⟩)(hn0:A=none->n=0)
 (u:Value)(hw:w.heap=wr.heap.push (.cells #[u] e))(hos:w.os=wr.os)(htape:w.tape=wr.tape)(hout:w.output=wr.output)(gx c:Nat)(hx:a.eval x= .slice (some ⟨gx,0,none⟩) 1 c)(hgx:wr.heap.size=gx)
 (h1:u.oneCell'=true)(hm:n+1<=1000000)(hby:bytes<=64)
 (h:∀A' C w',n+1<=C->Rd w' A' (n+1) (xs++[u])->Below wr.heap.size wr w'->yE wr w' e A A' 1->K (a.put o.dst (.slice A' (n+1) C)) w'):
 if Region.wanted o (yielded ops a.tmps)=true then Oper.wp P o a w K Q else E:=by
 subst hgx;have hbl:Below wr.heap.size wr w:=⟨hos,htape,hout,by rw [hw];simp,fun k hk=>by rw [hw,FD,if_neg (by omega)]⟩;have hb:CG w wr.heap.size e [u]:=by unfold CG;rw [hw,FD,if_pos rfl]
 refine Jj hgd s x t ho T A n xs hs (Rd.below hA hbl) hA0 hn0 (some ⟨wr.heap.size,0,none⟩) 1 c [u] hx hb.rd (fun v hv=>by rw [List.mem_singleton]at hv;exact hv▸h1) hm hby ?_;intro A' C w' q1 q2 q3 q4;refine h A' C w' q1 q2 (hbl.trans (q3.mono hbl.size)) ?_;rcases q4 with h2| ⟨g,cs,h2,h3,h4⟩
 ·exact .inl h2
 ·exact .inr ⟨g,cs,h2,Bg hbl.size h3,h4⟩
theorem uw {P : Program} {t e : TypeId} {z : Value} {k bytes : Nat} (T : Jt P t e z k bytes) (hk0 : 0 < k) (ty : TypeId) {w : World} {base : Nat} {v : Value} {n : Nat} {xs news : List Value}
    (hown : w.ownsRow base e k v n xs) {A : Option Addr} {m : Nat} (hr : Rd w A (m * k) news)
    (h1 : ∀ u ∈ news, u.oneCell' = true) (hm : n + m <= 1000000) (hby : bytes <= 1000) (hbase : base <= w.heap.size) (c : Nat) :
    ∃ v' w', (Builtin.append_ #[t, t] ty #[v, .slice A m c]).run P w = .ok v' w' /\ w'.ownsRow base e k v' (n + m) (xs ++ news) /\ Below base w w' /\ Kept w w' v.ownBlock := by
  obtain ⟨i, hi, hz0, hz1, hz2⟩ := info_parts T.hi
  rcases A with _ | ad
  · have h0 : m = 0 := by
      rcases Ho m with h0 | h0
      · exact h0
      · obtain ⟨_, _, e, _⟩ := hr.2 (Nat.mul_pos h0 hk0); cases e
    subst h0
    have hn : news = [] := Ce (by have := hr.1; omega)
    subst hn
    refine ⟨v, w, ?_, by simpa using hown, Below.refl _ _, Kept.refl _ _⟩
    rcases hown.2 with ⟨rfl, rfl⟩ | ⟨g, cap, cur, rfl, _, _, hnc, _⟩
    · simp [Builtin.append_, run_underlying T.ht, sizeOf, typeInfo, hi, Builtin.lenOf, Builtin.firstCells]
    · simp [Builtin.append_, run_underlying T.ht, sizeOf, typeInfo, hi, Builtin.lenOf, Builtin.firstCells, hnc, storeCells]
  · have hcells : ∀ j u, news[j]? = some u -> w.cell? (ad.add j) = some u := by
      intro j u hu
      have hj : j < m * k := by
        have := (Cb.1 hu).1
        have := hr.1
        omega
      obtain ⟨b, off, e, _, hc⟩ := hr.2 (by omega)
      injection e with e
      subst e
      rw [Addr.add_lit, hc j hj, hu]
    have hmul : (n + m) * bytes <= 1000000 * 1000 := Iu hm hby
    obtain ⟨v', w', hrun, h2, h3, _⟩ := run_append_own (P := P) w base t ty e i z k bytes T.ht hi hz0 hz1 hz2 T.hz hk0 v n xs hown ad m c news hr.1 hcells h1
      (by unfold maxLen; omega) (by omega) hbase
    exact ⟨v', w', hrun, h2, (Below.refl _ _).grown h3 hbase (fun k hk => (hown.lt k hk).1), h3.size, fun k hk hne => h3.block k hk (fun h => hne h)⟩
theorem I4{P:Program}{ops:Array Oper}{rest:List Oper}{o:Oper}{a:Act}{w:World}{Q:Exit->Act->World->Prop}(hgd:o.guard=none)(s x:Operand)(t:TypeId)
 (ho:o.op= .call {callee:= .builtin .append,args:= #[s,x],argTypes:= #[t,t]}){e:TypeId}{z:Value}{k bytes:Nat}(T:Jt P t e z k bytes)(hk0:0<k)
 (base:Nat)(v:Value)(n:Nat)(xs:List Value)(hs:a.eval s=v)(hown:w.ownsRow base e k v n xs)(A:Option Addr)(m c:Nat)(news:List Value)(hx:a.eval x= .slice A m c)(hr:Rd w A (m*k) news)
 (h1:∀u∈news,u.oneCell'=true)(hm:n+m<=1000000)(hby:bytes<=1000)(hbase:base<=w.heap.size)
 (h:∀v' w',w'.ownsRow base e k v' (n+m) (xs++news)->Below base w w'->Kept w w' v.ownBlock->wpList P ops Q rest (a.put o.dst v') w'):wpList P ops Q (o::rest) a w:=by
 refine wpList_plain hgd fun K hK=> ?_
 obtain⟨v',w',hrun,h2,h3,h4⟩:=uw T hk0 o.type hown hr h1 hm hby hbase c;unfold Oper.wp execOp;simp only [ho,resolve,invoke,builtin,Sem.run_bind,Sem.run_pure,Result.andThen_ok,MB,BU,Gq,hs,hx,hrun];exact hK _ _ (h v' w' h2 h3 h4)
