import Derived.Laws.IdiomCopy
import Derived.Laws.Rows
import Derived.Deep.AppendSrc
import Derived.Deep.AppendLies
import Derived.Deep.Upon
import Derived.Lib.AppendZeros
import Derived.ArgAppend
import Derived.Test.YtjcppneoncpdbaaGreatDoorG01
import Derived.Test.YtjcppneoncpdbaaGreatDoorG02
import Derived.Test.YtjcppneoncpdbaaGreatDoorG03
set_option maxHeartbeats 32000000
set_option maxRecDepth 100000
open List renaming length_nil->D8,length_cons->Bh,getElem?_append_left->CE,getElem?_take->CG,getElem?_append_right->BX,length_take->Dt,getElem?_drop->Cf,ext_getElem?->Hy,getElem?_eq_none->EH,eq_nil_of_length_eq_zero->Bj,ext_getElem->DX,length_map->CO,getElem?_map->BC,length_set->BZ,map_toArray->KQ,map_cons->Bo,map_nil->Em,cons_append->BI,mem_cons_self->Be,mem_cons_of_mem->Bi
open Array renaming getElem?_modify->JW,getElem?_setIfInBounds->AB,size_setIfInBounds->FW,getElem?_push->Fb
open Nat renaming min_eq_left->Iq,zero_add->CS,le_refl->Ad,eq_zero_or_pos->FV,mul_le_mul->Gy,le_trans->AL,lt_of_lt_of_le->Bg,pow_le_pow_right->DF,mod_lt->Lj,pow_pos->QC,zero_le->BA,lt_of_le_of_lt->Ej,and_le_right->Aax,and_le_left->Aa3,xor_comm->Agl
open Int renaming natCast_emod->Aav,natCast_pow->GV,natCast_mul->Fe,natCast_ediv->Aaw
open Go.Lib renaming hid->Aa,wpList_append_run->EI,run_eql_slice_nil->H7
namespace Go.Proofs.YtjcppneoncpdbaaGreatDoor
open Go.RowKit
theorem Eb(g:Nat)(e:TypeId)(fz:Nat×Nat):∀(vs:List Value)(o:Nat)(w:World)(cur:Array Value),w.heap[g]? =some (.cells cur e fz)->o+vs.length<=cur.size->
 ∃cur':Array Value,(w.setCells g o vs).heap[g]? =some (.cells cur' e fz)/\cur'.size=cur.size/\∀j:Nat,cur'[j]? =if o<=j/\j<o+vs.length then vs[j-o]? else cur[j]?
 | [],o,w,cur,h,_=>⟨cur,h,rfl,fun j=>by rw [if_neg (by simp only [D8];omega)]⟩
 | v::r,o,w,cur,h,hs=>by
   have h1:(w.setCell ⟨g,o,none⟩ v).heap[g]? =some (.cells (cur.setIfInBounds o v) e fz):=by
    simp [World.setCell,JW,h]
   obtain⟨cur',h2,h3,h4⟩:=Eb g e fz r (o+1) (w.setCell ⟨g,o,none⟩ v) (cur.setIfInBounds o v) h1 (by simp at hs⊢;omega);refine⟨cur',h2,by rw [h3];simp,fun j=> ?_⟩;rw [h4 j];simp only [Bh]at hs⊢;by_cases hj:j=o
   ·subst hj;rw [if_neg (by omega),if_pos (by omega),AB,if_pos rfl,if_pos (by omega)];simp
   ·by_cases hin:o+1<=j/\j<o+1+r.length
    ·rw [if_pos hin,if_pos (by omega)];rw [show j-o=(j- (o+1))+1 by omega];simp
    ·rw [if_neg hin,if_neg (by omega),AB,if_neg (by omega)]
theorem setCells_size(w:World)(g o:Nat)(vs:List Value):(w.setCells g o vs).heap.size=w.heap.size:=by
 induction vs generalizing w o with
 | nil=>rfl
 | cons v r ih=>rw [World.setCells,ih];simp [World.setCell]
theorem Dy(w:World)(g o:Nat)(vs:List Value):(w.setCells g o vs).tape=w.tape:=by
 induction vs generalizing w o with
 | nil=>rfl
 | cons v r ih=>rw [World.setCells,ih];rfl
theorem Ec(w:World)(g o:Nat)(vs:List Value):(w.setCells g o vs).os=w.os:=by
 induction vs generalizing w o with
 | nil=>rfl
 | cons v r ih=>rw [World.setCells,ih];rfl
theorem CZ(w:World)(g o:Nat)(vs:List Value):(w.setCells g o vs).output=w.output:=by
 induction vs generalizing w o with
 | nil=>rfl
 | cons v r ih=>rw [World.setCells,ih];rfl
theorem Ht(w:World)(g o:Nat)(vs:List Value){k:Nat}(hk:k≠g):(w.setCells g o vs).heap[k]? =w.heap[k]? :=by
 induction vs generalizing w o with
 | nil=>rfl
 | cons v r ih=>rw [World.setCells,ih];exact Below.heap_setCell w ⟨g,o,none⟩ v k (fun h=>hk h)
def SG(xs:List Value)(i:Nat)(u:Value):List Value:=xs.take i++u::xs.drop i
theorem fC(xs:List Value)(i:Nat)(u:Value)(hi:i<=xs.length)(j:Nat):(SG xs i u)[j]? =if j<i then xs[j]? else if j=i then some u else xs[j-1]? :=by
 unfold SG;by_cases h1:j<i
 ·rw [if_pos h1,CE (by simp;omega),CG,if_pos h1]
 ·rw [if_neg h1,BX (by simp;omega)];simp only [Dt,Iq hi];by_cases h2:j=i
  ·subst h2;simp
  ·rw [if_neg h2,show j-i=(j-1-i)+1 by omega,List.getElem?_cons_succ,Cf];congr 1;omega
theorem UE(xs:List Value)(i:Nat)(u:Value)(hi:i<=xs.length):(SG xs i u).length=xs.length+1:=by
 unfold SG;simp;omega
theorem YL{w:World}{base g n c i:Nat}{e:TypeId}{xs:List Value}{u:Value}(h:w.ownsRow base e 1 (.slice (some ⟨g,0,none⟩) n c) n xs)(hi:i<=n)(hc:n+1<=c):
 ((w.setCells g (i+1) (xs.drop i)).setCells g i [u]).ownsRow base e 1 (.slice (some ⟨g,0,none⟩) (n+1) c) (n+1) (SG xs i u):=by
 obtain⟨h1,h2⟩:=h;have hlen:xs.length=n:=by simpa using h1
 rcases h2 with⟨h2,_⟩| ⟨g',cap,cur,hv,hB,hg,hnc,hcm,hcs,ht⟩
 ·cases h2
 simp only [Value.slice.injEq,Option.some.injEq,Addr.mk.injEq,and_true,true_and]at hv;obtain⟨rfl,rfl⟩:=hv;obtain⟨kX,a1,a2,a3⟩:=Eb g e (0,0) (xs.drop i) (i+1) w cur hg (by simp;omega);obtain⟨Vp,b1,b2,b3⟩:=Eb g e (0,0) [u] i _ kX a1 (by simp;omega);refine⟨by rw [UE xs i u (by omega)];omega,.inr ⟨g,c,Vp,rfl,hB,b1,hc,hcm,by omega,?_⟩⟩;apply Hy;intro j;rw [fC xs i u (by omega) j,CG];have Aej:∀j,j<n->cur[j]? =xs[j]? :=fun j hj=>by rw [<-ht,CG,if_pos (by omega)];simp
 by_cases hj:j<(n+1)*1
 ·rw [if_pos hj];have e2:Vp.toList[j]? =Vp[j]? :=by simp
  rw [e2,b3 j];simp only [Bh,D8,CS];by_cases hji:j=i
  ·subst hji;rw [if_pos (by omega),if_neg (by omega),if_pos rfl];simp
  ·rw [if_neg (by omega),a3 j];by_cases hlt:j<i
   ·rw [if_neg (by omega),if_pos hlt,Aej j (by omega)]
   ·rw [if_pos (by simp;omega),if_neg hlt,if_neg hji,Cf];congr 1;omega
 ·rw [if_neg hj,if_neg (by omega),if_neg (by omega),EH (by omega)]
theorem YM{w:World}{base G:Nat}{e:TypeId}{xs zs:List Value}{i:Nat}{u:Value}(ROW:Array Value)(hb:base<=w.heap.size)(hi:i<=xs.length)(hG:xs.length+1<=G)(su:G<=maxLen)(hR:ROW.size=G)(hz:∀j,j<i->ROW[j]? =xs[j]?)(hzs:zs=xs.drop i):
 ((((w.alloc (.cells ROW e)).drew.setCells w.heap.size i [u]).drew).setCells w.heap.size (i+1) zs).ownsRow base e 1 (.slice (some ⟨w.heap.size,0,none⟩) (xs.length+1) G) (xs.length+1) (SG xs i u):=by
 subst hzs;have hg:((w.alloc (.cells ROW e)).drew).heap[w.heap.size]? =some (.cells ROW e (0,0)):=by
  show(w.heap.push _)[w.heap.size]? =_;simp
 obtain⟨kX,a1,a2,a3⟩:=Eb w.heap.size e (0,0) [u] i _ ROW hg (by simp;omega);have a1':(((w.alloc (.cells ROW e)).drew.setCells w.heap.size i [u]).drew).heap[w.heap.size]? =some (.cells kX e (0,0)):=a1;obtain⟨Vp,b1,b2,b3⟩:=Eb w.heap.size e (0,0) (xs.drop i) (i+1) _ kX a1' (by simp;omega);refine⟨by rw [UE xs i u hi];omega,.inr ⟨w.heap.size,G,Vp,rfl,hb,b1,hG,su,by omega,?_⟩⟩;apply Hy;intro j;rw [fC xs i u hi j,CG];by_cases hj:j<(xs.length+1)*1
 ·rw [if_pos hj];have e2:Vp.toList[j]? =Vp[j]? :=by simp
  rw [e2,b3 j,a3 j];simp only [Bh,D8,CS,List.length_drop];by_cases hji:j=i
  ·subst hji;rw [if_neg (by omega),if_pos (by omega),if_neg (by omega),if_pos rfl];simp
  ·by_cases hlt:j<i
   ·rw [if_neg (by omega),if_neg (by omega),if_pos hlt,hz j hlt]
   ·rw [if_pos (by omega),if_neg hlt,if_neg hji,Cf];congr 1;omega
 ·rw [if_neg hj,if_neg (by omega),if_neg (by omega),EH (by omega)]
def ZU(xs:List Value)(i:Nat):List Value:=xs.take i++xs.drop (i+1)
theorem xK(xs:List Value)(i:Nat)(hi:i<xs.length)(j:Nat):(ZU xs i)[j]? =if j<i then xs[j]? else xs[j+1]? :=by
 unfold ZU;by_cases h1:j<i
 ·rw [if_pos h1,CE (by simp;omega),CG,if_pos h1]
 ·rw [if_neg h1,BX (by simp;omega)];simp only [Dt,Iq (Nat.le_of_lt hi)];rw [Cf];congr 1;omega
theorem fD(xs:List Value)(i:Nat)(hi:i<xs.length):(ZU xs i).length=xs.length-1:=by
 unfold ZU;simp;omega
theorem UF{w:World}{base g n c i:Nat}{e:TypeId}{xs zs:List Value}(h:w.ownsRow base e 1 (.slice (some ⟨g,0,none⟩) n c) n xs)(hi:i<n)(hz:zs.length=1):
 ((w.setCells g i (xs.drop (i+1))).setCells g (n-1) zs).ownsRow base e 1 (.slice (some ⟨g,0,none⟩) (n-1) c) (n-1) (ZU xs i):=by
 obtain⟨h1,h2⟩:=h;have hlen:xs.length=n:=by simpa using h1
 rcases h2 with⟨h2,_⟩| ⟨g',cap,cur,hv,hB,hg,hnc,hcm,hcs,ht⟩
 ·cases h2
 simp only [Value.slice.injEq,Option.some.injEq,Addr.mk.injEq,and_true,true_and]at hv;obtain⟨rfl,rfl⟩:=hv;obtain⟨kX,a1,a2,a3⟩:=Eb g e (0,0) (xs.drop (i+1)) i w cur hg (by simp;omega);obtain⟨Vp,b1,b2,b3⟩:=Eb g e (0,0) zs (n-1) _ kX a1 (by omega);refine⟨by rw [fD xs i (by omega)];omega,.inr ⟨g,c,Vp,rfl,hB,b1,by omega,hcm,by omega,?_⟩⟩;apply Hy;intro j;rw [xK xs i (by omega) j,CG];have Aej:∀j,j<n->cur[j]? =xs[j]? :=fun j hj=>by rw [<-ht,CG,if_pos (by omega)];simp
 by_cases hj:j<(n-1)*1
 ·rw [if_pos hj];have e2:Vp.toList[j]? =Vp[j]? :=by simp
  rw [e2,b3 j,if_neg (by omega),a3 j];by_cases hlt:j<i
  ·rw [if_neg (by omega),if_pos hlt,Aej j (by omega)]
  ·rw [if_pos (by simp;omega),if_neg hlt,Cf];congr 1;omega
 ·rw [if_neg hj,if_neg (by omega),EH (by omega)]
theorem Kept.refl(w:World)(row:Option Nat):Kept w w row:=⟨Ad _,fun _ _ _=>rfl⟩
theorem Kept.setCells{w w':World}{g:Nat}(h:Kept w w' (some g))(o:Nat)(vs:List Value):Kept w (w'.setCells g o vs) (some g):=
 ⟨by rw [setCells_size];exact h.1,fun k hk hne=>by rw [Ht _ _ _ _ (fun e=>hne (by rw [e]))];exact h.2 k hk hne⟩
theorem Kept.drew{w w':World}{row:Option Nat}(h:Kept w w' row):Kept w w'.drew row:=h
theorem Kept.below{w w':World}{row:Option Nat}{B:Nat}(h:Kept w w' row)(hB:B<=w.heap.size)(ho:w'.os=w.os)(ht:w'.tape=w.tape)(hp:w'.output=w.output)(hr:∀g,row=some g->B<=g):Below B w w':=
 ⟨ho,ht,hp,h.1,fun k hk=>h.2 k (by omega) (fun e=>by have:=hr k e.symm;omega)⟩
theorem Rh {P : Program} {t e : TypeId} {z : Value} {bytes : Nat} (T : KC P t e z bytes) (ty : TypeId) {w : World} {base : Nat} {v : Value} {n : Nat} {xs news : List Value}
    (hown : w.ownsRow base e 1 v n xs) {A : Option Addr} {m : Nat} (hr : Rd w A m news)
    (h1 : ∀ u ∈ news, u.oneCell' = true) (hm : n + m <= 1000000000) (hby : bytes <= 64) (hbase : base <= w.heap.size) (c : Nat) :
    ∃ v' w', (Builtin.append_ #[t, t] ty #[v, .slice A m c]).run P w = .ok v' w' /\ w'.ownsRow base e 1 v' (n + m) (xs ++ news) /\ Below base w w' /\ Kept w w' v.ownBlock := by
  obtain ⟨i, hi, hz0, hz1, hz2⟩ := info_parts T.hi
  rcases A with _ | ad
  · have h0 : m = 0 := by
      rcases FV m with h0 | h0
      · exact h0
      · obtain ⟨_, _, e, _⟩ := hr.2 h0; cases e
    subst h0
    have hn : news = [] := Bj hr.1
    subst hn
    refine ⟨v, w, ?_, by simpa using hown, Below.refl _ _, Kept.refl _ _⟩
    rcases hown.2 with ⟨rfl, rfl⟩ | ⟨g, cap, cur, rfl, _, _, hnc, _⟩
    · simp [Builtin.append_, run_underlying T.ht, sizeOf, typeInfo, hi, Builtin.lenOf, Builtin.firstCells]
    · simp [Builtin.append_, run_underlying T.ht, sizeOf, typeInfo, hi, Builtin.lenOf, Builtin.firstCells, hnc, storeCells]
  · have hcells : ∀ j u, news[j]? = some u -> w.cell? (ad.add j) = some u := by
      intro j u hu
      have hj : j < m := by
        have := (List.getElem?_eq_some_iff.1 hu).1
        have := hr.1
        omega
      obtain ⟨b, off, e, _, hc⟩ := hr.2 (by omega)
      injection e with e
      subst e
      rw [Addr.add_lit, hc j hj, hu]
    have hmul : (n + m) * bytes <= 1000000000 * 64 := Gy hm hby
    obtain ⟨v', w', hrun, h2, h3, _⟩ := run_append_own (P := P) w base t ty e i z 1 bytes T.ht hi hz0 hz1 hz2 T.hz (by decide) v n xs hown ad m c news (by simp [hr.1]) hcells h1
      (by unfold maxLen; omega) (by omega) hbase
    exact ⟨v', w', hrun, h2, (Below.refl _ _).grown h3 hbase (fun k hk => (hown.lt k hk).1), h3.size, fun k hk hne => h3.block k hk (fun h => hne h)⟩
structure Touch(F:Nat->Prop)(w w':World):Prop where
 os:w'.os=w.os
 tape:w'.tape=w.tape
 output:w'.output=w.output
 size:w.heap.size<=w'.heap.size
 block:∀k,k<w.heap.size->¬F k->w'.heap[k]? =w.heap[k]?
theorem Touch.refl(F:Nat->Prop)(w:World):Touch F w w:=⟨rfl,rfl,rfl,Ad _,fun _ _ _=>rfl⟩
theorem Touch.mono{F G:Nat->Prop}{w w':World}(h:Touch F w w')(hg:∀k,F k->G k):Touch G w w':=
 ⟨h.os,h.tape,h.output,h.size,fun k hk hn=>h.block k hk (fun hf=>hn (hg k hf))⟩
theorem Touch.of_below{F:Nat->Prop}{w w':World}(h:Below w.heap.size w w'):Touch F w w':=
 ⟨h.os,h.tape,h.output,h.size,fun k hk _=>h.block k hk⟩
theorem Touch.below{F:Nat->Prop}{w w':World}(h:Touch F w w'){B:Nat}(hB:B<=w.heap.size)(hF:∀k,F k->B<=k):Below B w w':=
 ⟨h.os,h.tape,h.output,h.size,fun k hk=>h.block k (by omega) (fun hf=>by have:=hF k hf;omega)⟩
theorem Touch.trans{F G:Nat->Prop}{w w' w'':World}(h:Touch F w w')(k:Touch G w' w'')(hg:∀b,G b->F b\/w.heap.size<=b):Touch F w w'':=
 ⟨k.os.trans h.os,k.tape.trans h.tape,k.output.trans h.output,AL h.size k.size,fun b hb hn=>by
  rw [k.block b (Bg hb h.size) (fun hgb=>(hg b hgb).elim hn (fun hle=>by omega))];exact h.block b hb hn⟩
theorem Touch.setCell{F:Nat->Prop}{w w':World}(h:Touch F w w'){p:Addr}(hp:F p.block\/w.heap.size<=p.block)(u:Value):Touch F w (w'.setCell p u):=
 ⟨h.os,h.tape,h.output,by simpa [World.setCell]using h.size,fun b hb hn=>by
  rw [Below.heap_setCell w' p u b (fun e=>hp.elim (fun hf=>hn (e▸hf)) (fun hle=>by omega))];exact h.block b hb hn⟩
theorem BH.touch{w w':World}{F:Nat->Prop}{g:Nat}{e:TypeId}{xs:List Value}(h:BH w g e xs)(t:Touch F w w')(hg:¬F g):BH w' g e xs:=(t.block g h.lt hg).trans h
theorem Rd.touch{w w':World}{F:Nat->Prop}{A:Option Addr}{n:Nat}{xs:List Value}(h:Rd w A n xs)(t:Touch F w w')(hF:∀a,A=some a->¬F a.block):Rd w' A n xs:=
 ⟨h.1,fun hn=>by
   obtain⟨b,off,e,hb,hc⟩:=h.2 hn;exact⟨b,off,e,Bg hb t.size,fun j hj=>(World.cell?_of_block (w:=w) (t.block b hb (hF _ e))).trans (hc j hj)⟩⟩
theorem Gf{w w':World}{F:Nat->Prop}{base:Nat}{e:TypeId}{v:Value}{n:Nat}{xs:List Value}{size:Nat}(h:w.ownsRow base e size v n xs)(t:Touch F w w')(hF:∀g,v.ownBlock=some g->¬F g):w'.ownsRow base e size v n xs:=by
 refine⟨h.1,?_⟩;rcases h.2 with h| ⟨g,cap,cur,h1,h2,h3,h4⟩
 ·exact .inl h
 ·exact .inr ⟨g,cap,cur,h1,h2,(t.block g (Array.getElem?_eq_some_iff.1 h3).1 (hF g (by rw [h1];rfl))).trans h3,h4⟩
theorem MW{w:World}{base g n c i:Nat}{e:TypeId}{xs:List Value}{u:Value}(h:w.ownsRow base e 1 (.slice (some ⟨g,0,none⟩) n c) n xs)(_:i<n):
 (w.setCell ⟨g,i,none⟩ u).ownsRow base e 1 (.slice (some ⟨g,0,none⟩) n c) n (xs.set i u):=by
 obtain⟨h1,h2⟩:=h;have hlen:xs.length=n:=by simpa using h1
 rcases h2 with⟨h2,_⟩| ⟨g',cap,cur,hv,hB,hg,hnc,hcm,hcs,ht⟩
 ·cases h2
 simp only [Value.slice.injEq,Option.some.injEq,Addr.mk.injEq,and_true,true_and]at hv;obtain⟨rfl,rfl⟩:=hv;have a1:(w.setCell ⟨g,i,none⟩ u).heap[g]? =some (.cells (cur.setIfInBounds i u) e (0,0)):=by
  simp [World.setCell,JW,hg]
 refine⟨by simpa using h1,.inr ⟨g,c,_,rfl,hB,a1,hnc,hcm,by simpa using hcs,?_⟩⟩;rw [Array.toList_setIfInBounds,List.take_set,ht]
theorem Qq{w:World}{base g n c i:Nat}{e:TypeId}{xs:List Value}(h:w.ownsRow base e 1 (.slice (some ⟨g,0,none⟩) n c) n xs)(hi:i<n):
 (∃v,w.cell? ⟨g,i,none⟩=some v)/\w.frozen? ⟨g,i,none⟩=false:=by
 refine⟨VN h hi,?_⟩;rcases h.2 with⟨h2,_⟩| ⟨g',cap,cur,hv,hB,hg,_⟩
 ·cases h2
 ·simp only [Value.slice.injEq,Option.some.injEq,Addr.mk.injEq,and_true,true_and]at hv;obtain⟨rfl,rfl⟩:=hv;simp [World.frozen?,hg]
theorem Me{w:World}{base n c:Nat}{A:Option Addr}{e:TypeId}{xs:List Value}(h:w.ownsRow base e 1 (.slice A n c) n xs)(hn:0<n):∃g,A=some ⟨g,0,none⟩/\base<=g/\g<w.heap.size:=by
 rcases h.2 with⟨h2,h0⟩| ⟨g',cap,cur,hv,hB,hg,_⟩
 ·omega
 ·simp only [Value.slice.injEq]at hv;exact⟨g',hv.1,hB,(Array.getElem?_eq_some_iff.1 hg).1⟩
theorem pO(A:Option Addr)(n c k:Nat)(w:World)(hn:n<=1000000000)(h8:k%8=0)(hk:k+8<=n):
 Calls Tryz.prog 133 #[.slice A n c,.int .i64 (k:Int)] w fun e w'=>e= .returned (.bool true)/\w=w':=by
 have t1:decide ((0:Int)<=(k:Int))=true:=by simp
 have t2:((k:Int)%8==0)=true:=by rw [beq_iff_eq];omega
 have t3:decide ((k:Int)<=(n:Int) -8)=true:=decide_eq_true (by omega);go_enter Tryz.func133,Tryz.ntmps133;go_wp2;go_ret;exact⟨rfl,rfl⟩
theorem ZV(j:Nat):2^(8*j)=256^j:=by rw [Nat.pow_mul]
theorem sD(j:Nat)(hj:j<8):256^j<=72057594037927936:=by
 have:256^j<=256^7:=DF (by decide) (by omega);exact AL this (by decide)
theorem pR(X b j:Nat)(hb:b<256)(hj:j<8):bits .or .u64 ((X:Int)%256^j) (IntKind.u64.wrap (IntKind.u64.wrap (b:Int)*2^(8*j)))=((X%256^j+b*256^j:Nat):Int):=by
 have h1:X%256^j<256^j:=Lj _ (QC (by decide));have h2:=sD j hj;have h3:b*256^j<=255*72057594037927936:=Gy (by omega) h2;have e1:((X:Int)%256^j)=((X%256^j:Nat):Int):=by rw [Aav,GV];rfl
 have e2:IntKind.u64.wrap (b:Int)=(b:Int):=by rw [IntKind.wrap_u64];omega
 have e3:(b:Int)*2^(8*j)=((b*256^j:Nat):Int):=by rw [<-ZV,Fe,GV];rfl
 have e4:IntKind.u64.wrap ((b*256^j:Nat):Int)=((b*256^j:Nat):Int):=by rw [IntKind.wrap_u64];omega
 rw [e1,e2,e3,e4,u64_or_nat _ _ (by omega) (by omega),Nat.or_comm,nat_join (8*j) _ _ (by rw [ZV];exact Nat.mul_mod_left _ _) (by rw [ZV];exact h1)];congr 1;omega
theorem fE(A:Option Addr)(n c k:Nat)(l:List UInt64)(w:World)(hn:n<=1000000)(h:Bs w A n (leBytes l))(hk:k<l.length):
 Calls Tryz.prog 88 #[.slice A n c,.int .i64 ((8*k:Nat):Int)] w fun e w'=>e= .returned (.tuple #[.int .u64 (l[k].toNat:Int),.bool true])/\w=w':=by
 have hlen:=h.len;rw [leBytes_length]at hlen;have hh:=pO A n c (8*k) w (by omega) (by omega) (by omega);have HH:=Aa hh;have HLE:=Aa (Hq l k · hk ·);clear hh;go_enter Tryz.func88,Tryz.ntmps88
 go_wp2_with fail
 refine HH.out.mono ?_;rintro e w'⟨rfl,rfl⟩;clear HH
 go_wp2_with fail
 go_loop [6,12](fun s i=>∃j:Nat,j<=8/\i= .int .i64 j/\s= .int .u64 ((l[k].toNat%256^j:Nat):Int))(fun _ i=>8- (intOf i).toNat)
 case atStart=>exact⟨0,by omega,rfl,by simp⟩
 case round=>
  obtain⟨j,hj,rfl,rfl⟩:=hrel;by_cases hlt:j<8
  ·obtain⟨hq,p,off,rfl,hp,hc⟩:=h.at (show 8*k+j<n by omega);have hb:=HLE.out j hlt;rw [List.getElem?_eq_getElem hq]at hb;injection hb with hb
   rw [hb]at hc;have HS:Hid (bits .or .u64 ((l[k].toNat:Int)%256^j) (IntKind.u64.wrap (IntKind.u64.wrap ((leB l[k] j).toNat:Int)*2^(8*j)))=((l[k].toNat%256^(j+1):Nat):Int)):=Aa (by
    rw [pR _ _ _ (leB l[k] j).toNat_lt hlt,le_step])
   go_wp2
   go_round
   case rel=>exact⟨j+1,by omega,by go_num,by rw [HS.out]⟩
   case measure=>simp [intOf];omega
  ·have sF:j=8:=by omega
   subst sF;rw [Aef];go_wp2;go_ret2;exact⟨rfl,rfl⟩
theorem fF(x:UInt64)(j:Nat):(x.toNat:Int)/2^(8*j)%256=((leB x j).toNat:Int):=by
 have e:(x.toNat:Int)/2^(8*j)=((x.toNat/256^j:Nat):Int):=by
  rw [Aaw,<-ZV,GV];rfl
 rw [TV,e];rfl
theorem UG(A:Option Addr)(n c k:Nat)(l:List UInt64)(x:UInt64)(w:World)(hn:n<=1000000)(h:Bs w A n (leBytes l))(hk:k<l.length):
 Calls Tryz.prog 89 #[.slice A n c,.int .i64 ((8*k:Nat):Int),.int .u64 (x.toNat:Int)] w fun e w'=>∃g c',e= .returned (.tuple #[.slice (some ⟨g,0,none⟩) n c',.bool true])/\w'.ownsRow w.heap.size 5 1 (.slice (some ⟨g,0,none⟩) n c') n ((leBytes (l.set k x)).map bv)/\Below w.heap.size w w':=by
 have hlen:=h.len;rw [leBytes_length]at hlen;have HM:=Aa (rG l k x · hk ·);have HZ:=Aa (rF l k x);have HE:=Aa (dR l k x hk);go_enter Tryz.func89,Tryz.ntmps89
 go_wp2_with fail
 refine(QY A n c (leBytes l) w hn h).mono ?_;rintro e w1⟨v1,rfl,o1,hb1⟩;obtain⟨A1,c1,rfl,hc1,_⟩:=BU o1;obtain⟨g,rfl,hg1,hg2⟩:=Me o1 (by omega);have HH:=Aa (pO A n c (8*k) w1 (by omega) (by omega) (by omega));rw [<-HZ.out]at o1;clear HZ
 go_wp2_with fail
 refine HH.out.mono ?_;rintro e w'⟨rfl,rfl⟩;clear HH
 go_wp2_with fail
 go_loopw [17](fun i wr=>∃j:Nat,j<=8/\i= .int .i64 j/\wr.ownsRow w.heap.size 5 1 (.slice (some ⟨g,0,none⟩) n c1) n ((Vm l k x j).map bv)/\Below w.heap.size w wr)(fun i _=>8- (intOf i).toNat)
 case atStart=>exact⟨0,by omega,rfl,o1,hb1⟩
 case round=>
  obtain⟨j,hj,rfl,oj,hbj⟩:=hrel;by_cases hlt:j<8
  ·obtain⟨⟨v,hv⟩,hfz⟩:=Qq oj (show 8*k+j<n by omega);have HO:Hid ((wr.setCell ⟨g,8*k+j,none⟩ (.int .u8 ((leB x j).toNat:Int))).ownsRow w.heap.size 5 1 (.slice (some ⟨g,0,none⟩) n c1) n ((Vm l k x (j+1)).map bv)):=Aa (by
    rw [<-HM.out j hlt,List.map_set];exact MW oj (by omega))
   have HB:=Aa (hbj.setCell (p:=⟨g,8*k+j,none⟩) hg1 (.int .u8 ((leB x j).toNat:Int)));have HW:=Aa (fF x j);clear oj;go_wp2;rw [HW.out];go_roundw
   case rel=>exact⟨j+1,by omega,by go_num,HO.out,HB.out⟩
   case measure=>simp [intOf];omega
  ·have sF:j=8:=by omega
   subst sF;rw [HE.out]at oj;go_wp2;go_ret2;exact⟨g,c1,rfl,oj,hbj⟩
def GI(ws:Nat->UInt64)(i:Nat):List UInt64:=(List.range 8).map fun t=>ws (8*i+t)
theorem Lm(ws:Nat->UInt64)(i:Nat):(GI ws i).length=8:=by simp [GI]
theorem LG(ws:Nat->UInt64)(i k:Nat)(hk:k<(GI ws i).length):(GI ws i)[k]=ws (8*i+k):=by simp [GI]
theorem sG(ws:Nat->UInt64)(i k:Nat)(x:UInt64)(_:k<8):(GI ws i).set k x=GI (fun j=>if j=8*i+k then x else ws j) i:=by
 apply DX
 ·simp [GI]
 ·intro t h1 h2;rw [List.getElem_set,LG,LG];by_cases ht:k=t
  ·rw [if_pos ht,if_pos (by omega)]
  ·rw [if_neg ht,if_neg (by omega)]
theorem fG(ws:Nat->UInt64)(i i' k:Nat)(x:UInt64)(hk:k<8)(hne:i'≠i):GI (fun j=>if j=8*i+k then x else ws j) i'=GI ws i':=by
 apply DX
 ·simp [GI]
 ·intro t h1 h2;have:t<8:=by simpa [GI]using h1
  rw [LG,LG,if_neg (by omega)]
def Yk(w:World)(A:Option Addr)(n c:Nat)(hb:Option Nat):Prop:=
 (hb=none/\n=0/\c=0)\/∃h xs,hb=some h/\A=some ⟨h,0,none⟩/\w.ownsRow 0 107 2 (.slice A n c) n xs/\∀x∈xs,x.oneCell'=true
structure Cj(w:World)(d L:Nat)(ws:Nat->UInt64)(len mark:Nat->Nat)(g:Nat)(hb:Nat->Option Nat):Prop where
 box:∃st:Int,BH w d 105 [.slice (some ⟨g,0,none⟩) L L,.bool false,.int .i64 (-1),.int .i64 st]
 gd:g≠d
 blk:∃cur:Array Value,w.heap[g]? =some (.cells cur 102 (0,0))/\cur.size=66*L/\
  (∀i,i<L->∀k,k<64->cur[66*i+k]? =(leBytes (GI ws i))[k]?.map bv)/\
  ∀i,i<L->∃A c,cur[66*i+64]? =some (.slice A (len i) c)/\cur[66*i+65]? =some (.int .i64 (mark i:Int))/\Yk w A (len i) c (hb i)
 bd:∀i,i<L->∀h,hb i=some h->h≠g/\h≠d
 inj:∀i j,i<L->j<L->i≠j->∀h,hb i=some h->hb j≠some h
 mrk:∀i,i<L->mark i<=len i+1
def EO(d L g:Nat)(hb:Nat->Option Nat)(b:Nat):Prop:=b=d\/b=g\/∃i,i<L/\hb i=some b
def Dev(w:World)(d L:Nat)(ws:Nat->UInt64)(len mark:Nat->Nat)(own:Nat->Prop):Prop:=
 ∃g hb,Cj w d L ws len mark g hb/\∀b,own b<->EO d L g hb b
theorem Yk.keep{w w':World}{A:Option Addr}{n c:Nat}{hb:Option Nat}(h:Yk w A n c hb)(hk:∀b,hb=some b->b<w.heap.size->w'.heap[b]? =w.heap[b]?):Yk w' A n c hb:=by
 rcases h with h| ⟨h0,xs,e1,e2,⟨h1,h2⟩,h3⟩
 ·exact .inl h
 ·refine .inr ⟨h0,xs,e1,e2,⟨h1,?_⟩,h3⟩;rcases h2 with h2| ⟨g,cap,cur,a1,a2,a3,a4⟩
  ·exact .inl h2
  ·refine .inr ⟨g,cap,cur,a1,a2,?_,a4⟩;have:g=h0:=by
    simp only [Value.slice.injEq]at a1;have:=a1.1.symm.trans e2;simpa using this
   subst this;rw [hk g e1 (Array.getElem?_eq_some_iff.1 a3).1];exact a3
theorem Yk.lt {w : World} {A : Option Addr} {n c : Nat} {hb : Option Nat} (h : Yk w A n c hb) : ∀ b, hb = some b -> b < w.heap.size := by
  intro b hbb
  rcases h with ⟨h, _⟩ | ⟨h0, xs, e1, e2, ⟨h1, h2⟩, h3⟩
  · rw [h] at hbb; cases hbb
  · rcases h2 with ⟨h2, _⟩ | ⟨g, cap, cur, a1, a2, a3, a4⟩
    · simp only [Value.slice.injEq] at h2
      rw [e2] at h2; cases h2.1
    · have e3 : g = h0 := by
        simp only [Value.slice.injEq] at a1
        have := a1.1.symm.trans e2
        simpa using this
      rw [e1] at hbb
      injection hbb with hbb
      subst e3 hbb
      exact (Array.getElem?_eq_some_iff.1 a3).1
theorem Cj.keep{w w':World}{d L:Nat}{ws:Nat->UInt64}{len mark:Nat->Nat}{g:Nat}{hb:Nat->Option Nat}(h:Cj w d L ws len mark g hb)
 (hk:∀b,EO d L g hb b->b<w.heap.size->w'.heap[b]? =w.heap[b]?):Cj w' d L ws len mark g hb:=by
 obtain⟨st,hbx⟩:=h.box;obtain⟨cur,hg,hs,h1,h2⟩:=h.blk;refine⟨⟨st,(hk d (.inl rfl) hbx.lt).trans hbx⟩,h.gd,⟨cur,(hk g (.inr (.inl rfl)) (Array.getElem?_eq_some_iff.1 hg).1).trans hg,hs,h1,fun i hi=> ?_⟩,h.bd,h.inj,h.mrk⟩;obtain⟨A,c,e1,e2,hc⟩:=h2 i hi;exact⟨A,c,e1,e2,hc.keep (fun b hb' hlt=>hk b (.inr (.inr ⟨i,hi,hb'⟩)) hlt)⟩
theorem Dev.touch{w w':World}{d L:Nat}{ws:Nat->UInt64}{len mark:Nat->Nat}{own F:Nat->Prop}(h:Dev w d L ws len mark own)(t:Touch F w w')(hF:∀b,own b->¬F b):Dev w' d L ws len mark own:=by
 obtain⟨g,hb,hr,ho⟩:=h;exact⟨g,hb,hr.keep (fun b fH hlt=>t.block b hlt (hF b ((ho b).2 fH))),ho⟩
theorem Dev.below{w w':World}{d L:Nat}{ws:Nat->UInt64}{len mark:Nat->Nat}{own:Nat->Prop}(h:Dev w d L ws len mark own)(hb:Below w.heap.size w w'):Dev w' d L ws len mark own:=by
 obtain⟨g,hb',hr,ho⟩:=h;exact⟨g,hb',hr.keep (fun b _ hlt=>hb.block b hlt),ho⟩
theorem Cj.lt{w:World}{d L:Nat}{ws:Nat->UInt64}{len mark:Nat->Nat}{g:Nat}{hb:Nat->Option Nat}(h:Cj w d L ws len mark g hb):∀b,EO d L g hb b->b<w.heap.size:=by
 intro b hb';obtain⟨st,hbx⟩:=h.box;obtain⟨cur,hg,hs,h1,h2⟩:=h.blk;rcases hb' with rfl| rfl| ⟨i,hi,hh⟩
 ·exact hbx.lt
 ·exact(Array.getElem?_eq_some_iff.1 hg).1
 ·obtain⟨A,c,_,_,hc⟩:=h2 i hi;exact hc.lt b hh
theorem Dev.lt{w:World}{d L:Nat}{ws:Nat->UInt64}{len mark:Nat->Nat}{own:Nat->Prop}(h:Dev w d L ws len mark own):∀b,own b->b<w.heap.size:=by
 obtain⟨g,hb,hr,ho⟩:=h;exact fun b hb'=>hr.lt b ((ho b).1 hb')
theorem Cj.line{w:World}{d L:Nat}{ws:Nat->UInt64}{len mark:Nat->Nat}{g:Nat}{hb:Nat->Option Nat}(h:Cj w d L ws len mark g hb)(i:Nat)(hi:i<L):Bs w (some ⟨g,66*i,none⟩) 64 (leBytes (GI ws i)):=by
 obtain⟨cur,hg,hs,h1,h2⟩:=h.blk;refine⟨by rw [CO,leBytes_length,Lm],fun _=>⟨g,66*i,rfl,(Array.getElem?_eq_some_iff.1 hg).1,fun j hj=> ?_⟩⟩;rw [cell_of_row w g _ cur _ (0,0) hg,h1 i hi j hj,BC]
theorem Cb{w:World}{g:Nat}{e:TypeId}{a b c d:Value}(h:BH w g e [a,b,c,d]):
 w.cell? ⟨g,0,none⟩=some a/\w.cell? ⟨g,1,none⟩=some b/\w.cell? ⟨g,2,none⟩=some c/\w.cell? ⟨g,3,none⟩=some d/\
 w.frozen? ⟨g,0,none⟩=false/\w.frozen? ⟨g,1,none⟩=false/\w.frozen? ⟨g,2,none⟩=false/\w.frozen? ⟨g,3,none⟩=false:=
 ⟨h.cell 0,h.cell 1,h.cell 2,h.cell 3,h.frozen 0,h.frozen 1,h.frozen 2,h.frozen 3⟩
theorem Wp(d L g:Nat)(v1 v2 v3:Value)(w:World)(hL:L<=1024)(h:BH w d 105 [.slice (some ⟨g,0,none⟩) L L,v1,v2,v3]):
 Calls Tryz.prog 44 #[.pointer (some ⟨d,0,none⟩)] w fun e w'=>e= .returned (.int .i64 ((L*64:Nat):Int))/\w=w':=by
 obtain⟨y0,y1,y2,y3,f0,f1,f2,f3⟩:=Cb h;go_enter Tryz.func44,Tryz.ntmps44;go_wp2;go_ret;exact⟨by simp,rfl⟩
theorem kZ(d L g off each:Nat)(v2 v3:Value)(w:World)(hL:L<=1024)(h:BH w d 105 [.slice (some ⟨g,0,none⟩) L L,.bool false,v2,v3])(ho:off<L*64)(he:0<each)(hm:off%each=0)(he2:each<=64):
 Calls Tryz.prog 87 #[.pointer (some ⟨d,0,none⟩),.int .i64 (off:Int),.int .i64 (each:Int)] w fun e w'=>e= .returned (.int .i64 0)/\w=w':=by
 obtain⟨y0,y1,y2,y3,f0,f1,f2,f3⟩:=Cb h;have hs:=Wp d L g (.bool false) v2 v3 w hL h;have HS:=Aa hs;have t1:(((L*64:Nat):Int)==0)=false:=by rw [beq_eq_false_iff_ne];omega
 have t2:decide ((off:Int)<0)=false:=by simp
 have t3:decide (((L*64:Nat):Int)<=(off:Int))=false:=by simp;omega
 have t4:((off:Int)%(each:Int)!=0)=false:=by
  have:(off:Int)%(each:Int)=((off%each:Nat):Int):=by rw [Aav]
  rw [this,hm];rfl
 generalize hN:L*64=N at*;clear hs hN h;go_enter Tryz.func87,Tryz.ntmps87
 go_wp2_with fail
 refine HS.out.mono ?_;rintro e w'⟨rfl,rfl⟩
 go_wp2_with fail
 refine HS.out.mono ?_;rintro e w'⟨rfl,rfl⟩
 go_wp2_with fail
 go_ret;exact⟨rfl,rfl⟩
theorem SH(d L:Nat)(ws:Nat->UInt64)(len mark:Nat->Nat)(g:Nat)(hb:Nat->Option Nat)(j:Nat)(w:World)(hL:L<=1024)(h:Cj w d L ws len mark g hb)(hj:j<8*L):
 Calls Tryz.prog 41 #[.pointer (some ⟨d,0,none⟩),.int .i64 ((8*j:Nat):Int)] w fun e w'=>e= .returned (.tuple #[.int .u64 ((ws j).toNat:Int),.int .i64 0])/\w=w':=by
 obtain⟨st,hbx⟩:=h.box;obtain⟨y0,y1,y2,y3,f0,f1,f2,f3⟩:=Cb hbx;have ha:=kZ d L g (8*j) 8 (.int .i64 (-1)) (.int .i64 st) w hL hbx (by omega) (by decide) (by omega) (by decide);have HA:=Aa ha;have hl:=h.line (j/8) (by omega);have hg:=fE (some ⟨g,66*(j/8),none⟩) 64 64 (j%8) (GI ws (j/8)) w (by decide) hl (by rw [Lm];omega);rw [LG,show 8*(j/8)+j%8=j by omega]at hg;have HG:=Aa hg;clear ha hl hg h hbx;go_enter Tryz.func41,Tryz.ntmps41
 go_wp2_with fail
 refine HA.out.mono ?_;rintro e w'⟨rfl,rfl⟩;clear HA
 go_wp2_with fail
 rw [show 8*j/64*66=66*(j/8)by omega,show 8*(j:Int)%64=((8*(j%8):Nat):Int)by omega];refine HG.out.mono ?_;rintro e w'⟨rfl,rfl⟩;clear HG
 go_wp2_with fail
 go_ret2;exact⟨rfl,rfl⟩
theorem SI(d g L:Nat)(st:Int)(w:World)(h:BH w d 105 [.slice (some ⟨g,0,none⟩) L L,.bool false,.int .i64 (-1),.int .i64 st]):
 Calls Tryz.prog 43 #[.pointer (some ⟨d,0,none⟩)] w fun e w'=>e= .returned (.tuple #[])/\∃st':Int,w'=w.setCell ⟨d,3,none⟩ (.int .i64 st'):=by
 obtain⟨y0,y1,y2,y3,f0,f1,f2,f3⟩:=Cb h;clear h;go_enter Tryz.func43,Tryz.ntmps43;go_wp2;go_end0;exact⟨rfl,_,rfl⟩
theorem Wq{P:Program}(w:World)(b off:Nat)(ty:TypeId)(vs:List Value)(d:TypeDesc)(hu:P.underlying ty=some d)(hd:(match d with| .struct _| .array _ _=>true| _=>false)=true)
 (hi:(P.info? ty).map (·.size)=some vs.length)(h:∀j v,vs[j]? =some v->w.cell? ⟨b,off+j,none⟩=some v):(loadVar ty ⟨b,off,none⟩).run P w= .ok (.agg vs.toArray) w:=by
 have hl:(loadCells ⟨b,off,none⟩ vs.length).run P w= .ok vs.toArray w:=
  run_loadCells_list (P:=P) w ⟨b,off,none⟩ vs (fun j v hv=>by rw [Addr.add_lit];exact h j v hv)
 cases hq:P.info? ty with
 | none=>simp [hq]at hi
 | some i=>
   have hs:i.size=vs.length:=by simpa [hq]using hi
   have hagg:(isAgg ty).run P w= .ok true w:=by
    unfold isAgg;rw [Sem.run_bind,run_underlying hu w];cases d<;>simp_all
   simp [loadVar,Sem.run_bind,hagg,sizeOf,typeInfo,hq,hs,hl]
theorem Wu{P:Program}{ops:Array Oper}{rest:List Oper}{o:Oper}{a:Act}{w:World}{Q:Exit->Act->World->Prop}(hgd:o.guard=none)(ty:TypeId)(x:Operand)(ho:o.op= .load ty x)
 (b off:Nat)(hx:a.eval x= .pointer (some ⟨b,off,none⟩))(vs:List Value)(d:TypeDesc)(hu:P.underlying ty=some d)(hd:(match d with| .struct _| .array _ _=>true| _=>false)=true)
 (hi:(P.info? ty).map (·.size)=some vs.length)(hc:∀j v,vs[j]? =some v->w.cell? ⟨b,off+j,none⟩=some v)
 (h:wpList P ops Q rest (a.put o.dst (.agg vs.toArray)) w):wpList P ops Q (o::rest) a w:=by
 refine wpList_plain hgd fun K hK=> ?_
 unfold Oper.wp execOp;simp only [ho,hx,Instr.loadAt,Instr.sureAddr,Sem.run_bind,Sem.run_pure,Result.andThen_ok,Wq w b off ty vs d hu hd hi hc];exact hK _ _ h
theorem Vr{P:Program}(w:World)(b off:Nat)(ty:TypeId)(vs:List Value)(hi:(P.info? ty).map (·.size)=some vs.length)(hc:∀j,j<vs.length->(w.cell? ⟨b,off+j,none⟩).isSome=true)
 (hf:∀j,j<vs.length->w.frozen? ⟨b,off+j,none⟩=false)(h1:∀v∈vs,v.oneCell'=true):(storeVar ty ⟨b,off,none⟩ (.agg vs.toArray)).run P w= .ok () (w.setCells b off vs):=by
 have hs:=run_storeCells_cells (P:=P) b off vs 0 w (by simpa using hc) (by simpa using hf) h1;cases hq:P.info? ty with
 | none=>simp [hq]at hi
 | some i=>
   have hz:i.size=vs.length:=by simpa [hq]using hi
   simp only [Nat.add_zero]at hs;simp [storeVar,Sem.run_bind,sizeOf,typeInfo,hq,hz,Value.cells,hs]
theorem Vs{P:Program}{ops:Array Oper}{rest:List Oper}{o:Oper}{a:Act}{w:World}{Q:Exit->Act->World->Prop}(hgd:o.guard=none)(ty:TypeId)(x y:Operand)(ho:o.op= .store ty x y)
 (b off:Nat)(hx:a.eval x= .pointer (some ⟨b,off,none⟩))(vs:List Value)(hy:a.eval y= .agg vs.toArray)(hi:(P.info? ty).map (·.size)=some vs.length)(hc:∀j,j<vs.length->(w.cell? ⟨b,off+j,none⟩).isSome=true)
 (hf:∀j,j<vs.length->w.frozen? ⟨b,off+j,none⟩=false)(h1:∀v∈vs,v.oneCell'=true)
 (h:wpList P ops Q rest (a.put o.dst undef) (w.setCells b off vs)):wpList P ops Q (o::rest) a w:=by
 refine wpList_plain hgd fun K hK=> ?_
 unfold Oper.wp execOp;simp only [ho,hx,hy,Instr.storeAt,Instr.sureAddr,Sem.run_bind,Sem.run_pure,Result.andThen_ok,Vr w b off ty vs hi hc hf h1];exact hK _ _ h
theorem xM(g off k:Nat)(l:List UInt64)(x:UInt64)(w:World)(hl:l.length=8)(h:Bs w (some ⟨g,off,none⟩) 64 (leBytes l))(hf:∀j,j<64->w.frozen? ⟨g,off+j,none⟩=false)(hk:k<8):
 Calls Tryz.prog 42 #[.pointer (some ⟨g,off,none⟩),.int .i64 ((8*k:Nat):Int),.int .u64 (x.toNat:Int)] w fun e w'=>e= .returned (.tuple #[])/\∃w1,Below w.heap.size w w1/\w'=w1.setCells g off ((leBytes (l.set k x)).map bv):=by
 have hp:=UG (some ⟨g,off,none⟩) 64 64 k l x w (by decide) h (by omega);have HP:=Aa hp;have hlen:((leBytes (l.set k x)).map bv).length=64:=by rw [CO,leBytes_length,BZ,hl]
 have HLEN:=Aa hlen;have hgw:g<w.heap.size:=by
  obtain⟨_,b,o,e,hb,_⟩:=h.at (show 0<64 by decide);injection e with e;injection e with e _ _;omega
 have HC:Hid (∀j,j<64->(w.cell? ⟨g,off+j,none⟩).isSome=true):=Aa (fun j hj=>by
  obtain⟨_,b,o,e,hb,hc⟩:=h.at hj;injection e with e;injection e with e1 e2 _;subst e1 e2
  rw [hc];rfl)
 have HF:=Aa hf;clear hp hlen h hf;go_enter Tryz.func42,Tryz.ntmps42
 go_wp2_with fail
 refine HP.out.mono ?_;rintro e w1⟨gn,cn,rfl,on,hb1⟩;clear HP;obtain⟨hcn,rn⟩:=BK on;have hcell:∀j v,((leBytes (l.set k x)).map bv)[j]? =some v->w1.cell? ⟨gn,0+j,none⟩=some v:=fun j v hj=>by
  have hlt:=(List.getElem?_eq_some_iff.1 hj).1;obtain⟨b,o,e,_,hc⟩:=rn.2 (by decide);injection e with e;injection e with e1 e2 _;subst e1 e2
  rw [hc j (by rw [<-HLEN.out];exact hlt)];exact hj
 have hst:∀j,j<((leBytes (l.set k x)).map bv).length->(w1.cell? ⟨g,off+j,none⟩).isSome=true:=fun j hj=>by
  rw [hb1.cell (p:=⟨g,off+j,none⟩) hgw];exact HC.out j (by rw [HLEN.out]at hj;exact hj)
 have hfz:∀j,j<((leBytes (l.set k x)).map bv).length->w1.frozen? ⟨g,off+j,none⟩=false:=fun j hj=>by
  rw [hb1.frozen (p:=⟨g,off+j,none⟩) hgw];exact HF.out j (by rw [HLEN.out]at hj;exact hj)
 have HCE:=Aa hcell;have HST:=Aa hst;have HFZ:=Aa hfz;have hsz:(Tryz.prog.info? 99).map (·.size)=some 64:=by kernel_rfl
 have HSZ:Hid ((Tryz.prog.info? 99).map (·.size)=some ((leBytes (l.set k x)).map bv).length):=Aa (by rw [HLEN.out];exact hsz);have har:∀W,(Instr.arrayAt 99 (.slice (some ⟨gn,0,none⟩) 64 cn)).run Tryz.prog W= .ok (.pointer (some ⟨gn,0,none⟩)) W:=fun W=>by
  simp [Instr.arrayAt,run_underlying Tryz.underlying99]
 clear hcell hst hfz rn on hsz
 go_wp2_with(first
  | (with_reducible refine Wu rfl 99 (.tmp 21) rfl gn 0 rfl ((leBytes (l.set k x)).map bv) _ Tryz.underlying99 rfl HSZ.out HCE.out ?_)
  | (with_reducible refine Vs rfl 99 (.tmp 24) (.tmp 22) rfl g off rfl ((leBytes (l.set k x)).map bv) rfl HSZ.out HST.out HFZ.out (Gn _) ?_)
  | fail)
 go_end0;exact⟨rfl,w1,hb1,rfl⟩
theorem Touch.Wv{F:Nat->Prop}{w w':World}{row:Option Nat}(h:w.grownBy w' row)(hF:∀k,row=some k->F k):Touch F w w':=
 ⟨h.os,h.tape,h.output,h.size,fun b hb hn=>h.block b hb (fun e=>hn (hF b e.symm))⟩
theorem Yk.append{w:World}{A:Option Addr}{n c:Nat}{hb:Option Nat}(h:Yk w A n c hb)(ty:TypeId)(b:Nat)(x y:Value)(hbk:BH w b 107 [x,y])(hx:x.oneCell'=true)(hy:y.oneCell'=true)(hn:n<=1000000):
 ∃g c' w',(Builtin.append_ #[100,100] ty #[.slice A n c,.slice (some ⟨b,0,none⟩) 1 1]).run Tryz.prog w= .ok (.slice (some ⟨g,0,none⟩) (n+1) c') w'/\
  Yk w' (some ⟨g,0,none⟩) (n+1) c' (some g)/\(hb=some g\/g=w.heap.size)/\Touch (fun k=>hb=some k) w w':=by
 obtain⟨i,hi,hz0,hz1,hz2⟩:∃i,Tryz.prog.info? 107=some i/\i.zero=some (.agg #[.int .i64 0,.int .u64 0])/\i.size=2/\i.bytes=16:=by
  have hI:(Tryz.prog.info? 107).map (fun i=>(i.zero,i.size,i.bytes))=some (some (.agg #[.int .i64 0,.int .u64 0]),2,16):=by kernel_rfl
  exact info_parts hI
 have hnews:∀j u,[x,y][j]? =some u->w.cell? ((⟨b,0,none⟩:Addr).add j)=some u:=fun j u hu=>by
  rw [Addr.add_lit];have:=World.news_of_block hbk j u (by simpa using hu);rw [Addr.add_lit]at this;exact this
 have h1:∀u∈[x,y],u.oneCell'=true:=by
  intro u hu;simp at hu;rcases hu with rfl| rfl<;>assumption
 rcases h with⟨rfl,rfl,rfl⟩| ⟨h0,xs,e1,e2,hown,hone⟩
 ·have hs:=Src.ofSlice (P:=Tryz.prog) w Tryz.underlying100 ⟨b,0,none⟩ 1 1 [x,y] (size:=i.size) (by rw [hz1];rfl) hnews h1;have hr:=run_append_grow_src (P:=Tryz.prog) w 100 100 ty 107 i _ Tryz.underlying100 hi hz0 A 0 0 []
   (by cases A with
    | none=>exact run_firstCells_none w.drew i.size 0 0 0
    | some a=>exact run_firstCells_some w.drew i.size 0 a 0 0 [] (by simp) (by simp)) (.slice (some ⟨b,0,none⟩) 1 1) 1 [x,y] hs (by decide) (by decide) (by rw [hz2];decide)
  have hr0:=run_append_grow_src (P:=Tryz.prog) w 100 100 ty 107 i _ Tryz.underlying100 hi hz0 none 0 0 []
   (run_firstCells_none w.drew i.size 0 0 0) (.slice (some ⟨b,0,none⟩) 1 1) 1 [x,y] hs (by decide) (by decide) (by rw [hz2];decide)
  obtain⟨g,cap,w',a1,a2,a3,a4,a5⟩:=run_append_lies (P:=Tryz.prog) w 100 ty 0 107 i _ 2 16 Tryz.underlying100 hi hz0 hz1 hz2 rfl (by decide) (.slice none 0 0) 0 [] (World.ownsRow_nil w 0 107 2) ⟨b,0,none⟩ 1 1 [x,y] rfl hnews h1 (by decide) (by unfold maxLen;omega) (by omega) (BA _) _ rfl;refine⟨g,cap,w',(hr.trans hr0.symm).trans a1,.inr ⟨g,_,rfl,rfl,a2,?_⟩,?_,Touch.Wv a3 (fun k hk=>by cases hk)⟩
  ·intro u hu;exact h1 u (by simpa using hu)
  ·rcases a4 with a4| a4
   ·cases a4
   ·exact .inr a4
 ·subst e1 e2;obtain⟨g,cap,w',a1,a2,a3,a4,a5⟩:=run_append_lies (P:=Tryz.prog) w 100 ty 0 107 i _ 2 16 Tryz.underlying100 hi hz0 hz1 hz2 rfl (by decide) _ n xs hown ⟨b,0,none⟩ 1 1 [x,y] rfl hnews h1 (by decide) (by unfold maxLen;omega) (by omega) (BA _) _ rfl;refine⟨g,cap,w',a1,.inr ⟨g,_,rfl,rfl,a2,?_⟩,?_,Touch.Wv a3 (fun k hk=>hk)⟩
  ·intro u hu;rcases List.mem_append.1 hu with hu| hu
   ·exact hone u hu
   ·exact h1 u hu
  ·rcases a4 with a4| a4
   ·left;exact a4
   ·right;exact a4
section
variable{w:World}{d L:Nat}{ws:Nat->UInt64}{len mark:Nat->Nat}{g:Nat}{hb:Nat->Option Nat}
theorem IW{w:World}{g i:Nat}{cur:Array Value}{e:TypeId}{fz:Nat×Nat}(v:Value)(h:w.heap[g]? =some (.cells cur e fz)):(w.setCell ⟨g,i,none⟩ v).heap[g]? =some (.cells (cur.setIfInBounds i v) e fz):=by
 simp [World.setCell,JW,h]
theorem Cj.sH(h:Cj w d L ws len mark g hb):g<w.heap.size:=h.lt g (.inr (.inl rfl))
theorem Cj.dlt(h:Cj w d L ws len mark g hb):d<w.heap.size:=h.lt d (.inl rfl)
theorem Cj.step(h:Cj w d L ws len mark g hb)(st':Int):Cj (w.setCell ⟨d,3,none⟩ (.int .i64 st')) d L ws len mark g hb:=by
 have hk:∀b,b≠d->(w.setCell ⟨d,3,none⟩ (.int .i64 st')).heap[b]? =w.heap[b]? :=fun b hb'=>Below.heap_setCell w ⟨d,3,none⟩ _ b hb'
 obtain⟨st,hbx⟩:=h.box;obtain⟨cur,hg,hs,h1,h2⟩:=h.blk;refine⟨⟨st',?_⟩,h.gd,⟨cur,(hk g h.gd).trans hg,hs,h1,fun i hi=> ?_⟩,h.bd,h.inj,h.mrk⟩
 ·have:=IW (i:=3) (.int .i64 st') hbx;unfold BH;rw [this];rfl
 ·obtain⟨A,c,e1,e2,hc⟩:=h2 i hi;exact⟨A,c,e1,e2,hc.keep (fun b hb' _=>hk b (h.bd i hi b hb').2)⟩
theorem Cj.grow(h:Cj w d L ws len mark g hb){i:Nat}(hi:i<L){w2:World}(t:Touch (fun k=>hb i=some k) w w2){g2 c':Nat}(hc:Yk w2 (some ⟨g2,0,none⟩) (len i+1) c' (some g2))(hg2:hb i=some g2\/w.heap.size<=g2):
 Cj (w2.setCell ⟨g,66*i+64,none⟩ (.slice (some ⟨g2,0,none⟩) (len i+1) c')) d L ws (fun k=>if k=i then len i+1 else len k) mark g (fun k=>if k=i then some g2 else hb k):=by
 have ZW:=h.sH;have Akc:=h.dlt;have hk:∀b,b≠g->(w2.setCell ⟨g,66*i+64,none⟩ (.slice (some ⟨g2,0,none⟩) (len i+1) c')).heap[b]? =w2.heap[b]? :=fun b hb'=>Below.heap_setCell w2 ⟨g,66*i+64,none⟩ _ b hb'
 have hng:¬hb i=some g:=fun e=>(h.bd i hi g e).1 rfl
 have hnd:¬hb i=some d:=fun e=>(h.bd i hi d e).2 rfl
 have h2g:g2≠g/\g2≠d:=by
  rcases hg2 with e| e
  ·exact h.bd i hi g2 e
  ·exact⟨by omega,by omega⟩
 obtain⟨st,hbx⟩:=h.box;obtain⟨cur,hg,hs,h1,h2⟩:=h.blk;have hgw:=(t.block g ZW hng).trans hg;refine⟨⟨st,(hk d (fun e=>h.gd e.symm)).trans ((t.block d Akc hnd).trans hbx)⟩,h.gd,⟨_,IW _ hgw,by rw [FW];exact hs,fun i' hi' k hk'=> ?_,fun i' hi'=> ?_⟩,?_,?_,?_⟩
 ·rw [AB,if_neg (by omega)];exact h1 i' hi' k hk'
 ·obtain⟨A,c,e1,e2,hcc⟩:=h2 i' hi';by_cases e:i'=i
  ·subst e;refine⟨some ⟨g2,0,none⟩,c',?_,?_,?_⟩
   ·rw [AB,if_pos rfl,if_pos (by omega),if_pos rfl]
   ·rw [AB,if_neg (by omega)];exact e2
   ·rw [if_pos rfl,if_pos rfl];exact hc.keep (fun b hb' _=>hk b (by injection hb' with hb';omega))
  ·refine⟨A,c,?_,?_,?_⟩
   ·rw [AB,if_neg (by omega),if_neg e];exact e1
   ·rw [AB,if_neg (by omega)];exact e2
   ·rw [if_neg e,if_neg e];exact hcc.keep (fun b hb' hlt=>(hk b (h.bd i' hi' b hb').1).trans (t.block b hlt (h.inj i i' hi hi' (fun x=>e x.symm) b · hb')))
 ·intro i' hi' b hb';by_cases e:i'=i
  ·rw [if_pos e]at hb';injection hb' with hb';subst hb';exact h2g
  ·rw [if_neg e]at hb';exact h.bd i' hi' b hb'
 ·intro a b ha hb' hab v hv;by_cases ea:a=i<;>by_cases eb:b=i
  ·omega
  ·rw [if_pos ea]at hv;rw [if_neg eb];injection hv with hv;subst hv
   intro hbb;rcases hg2 with e| e
   ·exact h.inj b i hb' hi eb g2 hbb e
   ·have:=h.lt g2 (.inr (.inr ⟨b,hb',hbb⟩));omega
  ·rw [if_neg ea]at hv;rw [if_pos eb];intro hbb;injection hbb with hbb;subst hbb
   rcases hg2 with e| e
   ·exact h.inj a i ha hi ea g2 hv e
   ·have:=h.lt g2 (.inr (.inr ⟨a,ha,hv⟩));omega
  ·rw [if_neg ea]at hv;rw [if_neg eb];exact h.inj a b ha hb' hab v hv
 ·intro i' hi';have:=h.mrk i' hi';by_cases e:i'=i
  ·rw [if_pos e];subst e;omega
  ·rw [if_neg e];exact this
theorem Cj.put(h:Cj w d L ws len mark g hb){i k:Nat}(hi:i<L)(hk8:k<8)(x:UInt64):
 Cj (w.setCells g (66*i) ((leBytes ((GI ws i).set k x)).map bv)) d L (fun j=>if j=8*i+k then x else ws j) len mark g hb:=by
 have ZW:=h.sH;have hl:((leBytes ((GI ws i).set k x)).map bv).length=64:=by rw [CO,leBytes_length,BZ,Lm]
 have hk:∀b,b≠g->b<w.heap.size->(w.setCells g (66*i) ((leBytes ((GI ws i).set k x)).map bv)).heap[b]? =w.heap[b]? :=fun b hb' hlt=>World.heap_setCells_other w g _ _ hlt hb'
 obtain⟨st,hbx⟩:=h.box;obtain⟨cur,hg,hs,h1,h2⟩:=h.blk;obtain⟨cur',c1,c2,c3⟩:=Eb g _ _ ((leBytes ((GI ws i).set k x)).map bv) (66*i) w cur hg (by rw [hl,hs];omega);rw [hl]at c3;refine⟨⟨st,(hk d (fun e=>h.gd e.symm) h.dlt).trans hbx⟩,h.gd,⟨cur',c1,by rw [c2];exact hs,fun i' hi' j hj=> ?_,fun i' hi'=> ?_⟩,h.bd,h.inj,h.mrk⟩
 ·rw [c3];by_cases e:i'=i
  ·subst e;rw [if_pos (by omega),show 66*i'+j-66*i'=j by omega,sG ws i' k x hk8,BC]
  ·rw [if_neg (by omega),fG ws i i' k x hk8 e];exact h1 i' hi' j hj
 ·obtain⟨A,c,e1,e2,hc⟩:=h2 i' hi';refine⟨A,c,?_,?_,hc.keep (fun b hb' hlt=>hk b (h.bd i' hi' b hb').1 hlt)⟩
  ·rw [c3,if_neg (by omega)];exact e1
  ·rw [c3,if_neg (by omega)];exact e2
end
theorem Touch.setCells{F:Nat->Prop}{w w':World}(h:Touch F w w'){g o:Nat}{vs:List Value}(hg:F g\/w.heap.size<=g):Touch F w (w'.setCells g o vs):=by
 refine⟨?_,?_,?_,?_,fun b hb hn=> ?_⟩
 ·rw [Ec];exact h.os
 ·rw [Dy];exact h.tape
 ·rw [CZ];exact h.output
 ·rw [setCells_size];exact h.size
 ·rw [World.heap_setCells_other w' g o vs (Bg hb h.size) (fun e=>hg.elim (fun hf=>hn (e▸hf)) (fun hle=>by omega))];exact h.block b hb hn
theorem Cj.below{w w':World}{d L:Nat}{ws:Nat->UInt64}{len mark:Nat->Nat}{g:Nat}{hb:Nat->Option Nat}(h:Cj w d L ws len mark g hb)(k:Below w.heap.size w w'):Cj w' d L ws len mark g hb:=
 h.keep (fun b _ hlt=>k.block b hlt)
theorem lg(d L:Nat)(ws:Nat->UInt64)(len mark:Nat->Nat)(g:Nat)(hb:Nat->Option Nat)(j:Nat)(w:World)(hL:L<=1024)(h:Cj w d L ws len mark g hb)(hj:j<8*L):
 Calls Tryz.prog 11 #[.pointer (some ⟨d,0,none⟩),.int .i64 ((8*j:Nat):Int),.int .u64 ((ws j).toNat:Int)] w fun e w'=>e= .returned (.int .i64 0)/\∃st:Int,w'=w.setCell ⟨d,3,none⟩ (.int .i64 st):=by
 obtain⟨st,hbx⟩:=h.box;obtain⟨y0,y1,y2,y3,f0,f1,f2,f3⟩:=Cb hbx;have hl:=SH d L ws len mark g hb j w hL h hj;have HL:=Aa hl;have hd:=SI d g L st w hbx;have HD:=Aa hd;clear hl hd h hbx;go_enter Tryz.func11,Tryz.ntmps11
 go_wp2_with fail
 refine HL.out.mono ?_;rintro e w'⟨rfl,rfl⟩;clear HL
 go_wp2_with fail
 refine HD.out.mono ?_;rintro e w'⟨rfl,st',rfl⟩;clear HD
 go_wp2_with fail
 go_ret;exact⟨rfl,st',rfl⟩
theorem sJ(d L:Nat)(ws:Nat->UInt64)(len mark:Nat->Nat)(g:Nat)(hb:Nat->Option Nat)(j:Nat)(x:UInt64)(w:World)(hL:L<=1024)(h:Cj w d L ws len mark g hb)(hj:j<8*L)(hne:ws j≠x)(hlen:len (j/8)<=1000000):
 Calls Tryz.prog 11 #[.pointer (some ⟨d,0,none⟩),.int .i64 ((8*j:Nat):Int),.int .u64 (x.toNat:Int)] w fun e w'=>e= .returned (.int .i64 0)/\
  ∃g2,(hb (j/8)=some g2\/w.heap.size<=g2)/\Cj w' d L (fun i=>if i=j then x else ws i) (fun k=>if k=j/8 then len (j/8)+1 else len k) mark g (fun k=>if k=j/8 then some g2 else hb k)/\Touch (EO d L g hb) w w':=by
 obtain⟨st,hbx⟩:=h.box;obtain⟨y0,y1,y2,y3,f0,f1,f2,f3⟩:=Cb hbx;have hl:=SH d L ws len mark g hb j w hL h hj;have HL:=Aa hl;have t1:(((ws j).toNat:Int)!=(x.toNat:Int))=true:=by
  rw [bne_iff_ne];intro e;exact hne (UInt64.toNat_inj.1 (by omega))
 obtain⟨cur,hg,hs,h1,h2⟩:=h.blk;obtain⟨A,c,e1,e2,hc⟩:=h2 (j/8) (by omega);have z1:w.cell? ⟨g,66*(j/8)+64,none⟩=some (.slice A (len (j/8)) c):=by rw [cell_of_row w g _ cur _ (0,0) hg];exact e1
 have z2:w.frozen? ⟨g,66*(j/8)+64,none⟩=false:=by simp [World.frozen?,hg]
 rw [show 66*(j/8)+64=8*j/64*66+64 by omega]at z1 z2;have H:=Aa h;have HC:=Aa hc;have HG:=Aa h1;clear hl h hbx h1 h2 hc hg e1 e2;have hall:Below w.heap.size w (w.alloc (.cells #[.int .i64 (8*(j:Int)%64),.int .u64 ((ws j).toNat:Int)] 107)):=(Below.refl _ _).alloc (Ad _) _;have hR1:=H.out.below hall;have hc1:=HC.out.keep (w':=w.alloc (.cells #[.int .i64 (8*(j:Int)%64),.int .u64 ((ws j).toNat:Int)] 107)) (fun b _ hlt=>hall.block b hlt);obtain⟨g2,c',w2,hrun,hch,hg2,ht⟩:=hc1.append 100 w.heap.size _ _ (heap_alloc_new w _) rfl rfl hlen;have hng:¬hb (j/8)=some g:=fun e=>(H.out.bd (j/8) (by omega) g e).1 rfl
 have hgb:w2.heap[g]? =w.heap[g]? :=(ht.block g (by have:=H.out.sH;simp;omega) hng).trans (hall.block g H.out.sH);have z3:w2.cell? ⟨g,8*j/64*66+64,none⟩=some (.slice A (len (j/8)) c):=(World.cell?_of_block hgb).trans z1;have z4:w2.frozen? ⟨g,8*j/64*66+64,none⟩=false:=(World.frozen?_of_block hgb).trans z2;have Ahr:hb (j/8)=some g2\/w.heap.size<=g2:=hg2.imp id (fun e=>by rw [e];simp);have hR3:=hR1.grow (i:=j/8) (by omega) ht hch (hg2.imp id (fun e=>by omega));have xN:Touch (EO d L g hb) w (w2.setCell ⟨g,66*(j/8)+64,none⟩ (.slice (some ⟨g2,0,none⟩) (len (j/8)+1) c')):=
  ((Touch.of_below (F:=EO d L g hb) hall).trans (ht.mono (fun k hk=> .inr (.inr ⟨j/8,by omega,hk⟩))) (fun b hb'=> .inl hb')).setCell (.inl (.inr (.inl rfl))) _
 have Ahs:=Aa hrun;have HZ3:=Aa z3;have HZ4:=Aa z4;have HR3:=Aa hR3;have HT3:=Aa xN;have HG2:=Aa Ahr;clear hrun z3 z4 hall hR1 hc1 hch hg2 ht hng hgb Ahr hR3 xN;go_enter Tryz.func11,Tryz.ntmps11
 go_wp2_with fail
 refine HL.out.mono ?_;rintro e w'⟨rfl,rfl⟩;clear HL
 go_wp2_with(at_builtin;go_loud(refine EI _ rfl (.tmp 36) (.tmp 40) 100 100 rfl (.slice A (len (j/8)) c) (.slice (some ⟨w.heap.size,0,none⟩) 1 1) rfl rfl _ _ Ahs.out ?_;clear Ahs;have z3:=HZ3.out;have z4:=HZ4.out))
 rw [show 8*j/64*66=66*(j/8)by omega,show 8*(j:Int)%64=((8*(j%8):Nat):Int)by omega];refine(xM g (66*(j/8)) (j%8) (GI ws (j/8)) x _ (Lm _ _) (HR3.out.line (j/8) (by omega)) ?_ (by omega)).mono ?_
 ·obtain⟨Amm,hg3,_⟩:=HR3.out.blk;intro t _;simp [World.frozen?,hg3]
 rintro e w5⟨rfl,w4,hb4,rfl⟩;have ZX:=(HR3.out.below hb4).put (i:=j/8) (k:=j%8) (by omega) (by omega) x;have hT5:=(HT3.out.trans (Touch.of_below (F:=EO d L g hb) hb4) (fun b h=> .inl h)).setCells (g:=g) (o:=66*(j/8)) (vs:=(leBytes ((GI ws (j/8)).set (j%8) x)).map bv) (.inl (.inr (.inl rfl)));rw [show 8*(j/8)+j%8=j by omega]at ZX;generalize w4.setCells g (66*(j/8)) ((leBytes ((GI ws (j/8)).set (j%8) x)).map bv)=w5 at ZX hT5⊢;obtain⟨st5,xO⟩:=ZX.box;have HD:=Aa (SI d g L st5 _ xO);have HR5:=Aa ZX;have HT5:=Aa hT5;clear ZX hT5 xO z3 z4 HZ3 HZ4 hb4 HT3 HR3
 go_wp2_with fail
 refine HD.out.mono ?_;rintro e w'⟨rfl,st',rfl⟩;clear HD
 go_wp2_with fail
 go_ret;exact⟨rfl,g2,HG2.out,HR5.out.step st',HT5.out.setCell (.inl (.inl rfl)) _⟩
theorem Cj.mark{w:World}{d L:Nat}{ws:Nat->UInt64}{len mark:Nat->Nat}{g:Nat}{hb:Nat->Option Nat}(h:Cj w d L ws len mark g hb){i:Nat}(hi:i<L)(m:Nat)(hm:m<=len i+1):
 Cj (w.setCell ⟨g,66*i+65,none⟩ (.int .i64 (m:Int))) d L ws len (fun k=>if k=i then m else mark k) g hb:=by
 have hk:∀b,b≠g->(w.setCell ⟨g,66*i+65,none⟩ (.int .i64 (m:Int))).heap[b]? =w.heap[b]? :=fun b hb'=>Below.heap_setCell w ⟨g,66*i+65,none⟩ _ b hb'
 obtain⟨st,hbx⟩:=h.box;obtain⟨cur,hg,hs,h1,h2⟩:=h.blk;refine⟨⟨st,(hk d (fun e=>h.gd e.symm)).trans hbx⟩,h.gd,⟨_,IW _ hg,by rw [FW];exact hs,fun i' hi' k hk'=> ?_,fun i' hi'=> ?_⟩,h.bd,h.inj,fun i' hi'=> ?_⟩
 ·rw [AB,if_neg (by omega)];exact h1 i' hi' k hk'
 ·obtain⟨A,c,e1,e2,hcc⟩:=h2 i' hi';refine⟨A,c,?_,?_,hcc.keep (fun b hb' _=>hk b (h.bd i' hi' b hb').1)⟩
  ·rw [AB,if_neg (by omega)];exact e1
  ·by_cases e:i'=i
   ·subst e;rw [AB,if_pos rfl,if_pos (by omega),if_pos rfl]
   ·rw [AB,if_neg (by omega),if_neg e];exact e2
 ·show(if i'=i then m else mark i')<=len i'+1;by_cases e:i'=i
  ·rw [if_pos e];subst e;exact hm
  ·rw [if_neg e];exact h.mrk i' hi'
theorem sK(d L:Nat)(ws:Nat->UInt64)(len mark:Nat->Nat)(g:Nat)(hb:Nat->Option Nat)(off:Nat)(w:World)(hL:L<=1024)(h:Cj w d L ws len mark g hb)(hj:off<64*L)(hlen:len (off/64)<=1000001):
 Calls Tryz.prog 146 #[.pointer (some ⟨d,0,none⟩),.int .i64 (off:Int)] w fun e w'=>e= .returned (.int .i64 0)/\
  Cj w' d L ws len (fun k=>if k=off/64 then len (off/64)+1 else mark k) g hb/\Touch (EO d L g hb) w w':=by
 obtain⟨st,hbx⟩:=h.box;obtain⟨y0,y1,y2,y3,f0,f1,f2,f3⟩:=Cb hbx;have ha:=kZ d L g off 1 (.int .i64 (-1)) (.int .i64 st) w hL hbx (by omega) (by decide) (by omega) (by decide);have HA:=Aa ha;obtain⟨cur,hg,hs,h1,h2⟩:=h.blk;obtain⟨A,c,e1,e2,hc⟩:=h2 (off/64) (by omega);have z1:w.cell? ⟨g,66*(off/64)+64,none⟩=some (.slice A (len (off/64)) c):=by rw [cell_of_row w g _ cur _ (0,0) hg];exact e1
 have z2:w.frozen? ⟨g,66*(off/64)+65,none⟩=false:=by simp [World.frozen?,hg]
 have z3:w.cell? ⟨g,66*(off/64)+65,none⟩=some (.int .i64 (mark (off/64):Int)):=by rw [cell_of_row w g _ cur _ (0,0) hg];exact e2
 rw [show 66*(off/64)+64=off/64*66+64 by omega]at z1;rw [show 66*(off/64)+65=off/64*66+65 by omega]at z2 z3;have hm:=h.mark (i:=off/64) (by omega) (len (off/64)+1) (Ad _);have ht:=(Touch.refl (EO d L g hb) w).setCell (p:=⟨g,66*(off/64)+65,none⟩) (.inl (.inr (.inl rfl))) (.int .i64 ((len (off/64)+1:Nat):Int));have HM:=Aa hm;have HT:=Aa ht;clear ha h hbx h1 h2 hc hg e1 e2 hm ht;go_enter Tryz.func146,Tryz.ntmps146
 go_wp2_with fail
 refine HA.out.mono ?_;rintro e w'⟨rfl,rfl⟩;clear HA
 go_wp2_with fail
 rw [show off/64*66=66*(off/64)by omega,show((len (off/64):Int)+1)=((len (off/64)+1:Nat):Int)by omega];have hR:=HM.out;have hT:=HT.out;clear HM HT;generalize w.setCell ⟨g,66*(off/64)+65,none⟩ (.int .i64 ((len (off/64)+1:Nat):Int))=w5 at hR hT⊢;obtain⟨st5,xO⟩:=hR.box;have HD:=Aa (SI d g L st5 _ xO);have HR:=Aa hR;have HT:=Aa hT;clear hR hT xO;refine HD.out.mono ?_;rintro e w'⟨rfl,st',rfl⟩;clear HD
 go_wp2_with fail
 go_ret;exact⟨rfl,HR.out.step st',HT.out.setCell (.inl (.inl rfl)) _⟩
theorem lh(A:Option Addr)(c:Nat)(w:World):
 Calls Tryz.prog 180 #[.slice A 0 c] w fun e w'=>∃B,e= .returned (.slice B 0 0)/\Below w.heap.size w w':=by
 rcases A with _| ad
 ·have q1:=fun W=>H7 (P:=Tryz.prog) W 100 107 none 0 c 0 0 Tryz.underlying100
  go_enter Tryz.func180,Tryz.ntmps180;go_wp2;go_ret;exact⟨_,rfl,Below.refl _ _⟩
 ·have q1:=fun W=>H7 (P:=Tryz.prog) W 100 107 (some ad) 0 c 0 0 Tryz.underlying100
  obtain⟨i,hi,hz0,hz1,hz2⟩:∃i,Tryz.prog.info? 107=some i/\i.zero=some (.agg #[.int .i64 0,.int .u64 0])/\i.size=2/\i.bytes=16:=by
   have hI:(Tryz.prog.info? 107).map (fun i=>(i.zero,i.size,i.bytes))=some (some (.agg #[.int .i64 0,.int .u64 0]),2,16):=by kernel_rfl
   exact info_parts hI
  have hr:(Builtin.append_ #[100,100] 100 #[.slice (some ⟨w.heap.size,0,none⟩) 0 0,.slice (some ad) 0 c]).run Tryz.prog (w.alloc (.cells #[] 107))= .ok (.slice (some ⟨w.heap.size,0,none⟩) 0 0) (w.alloc (.cells #[] 107)):=by
   simp [Builtin.append_,run_underlying Tryz.underlying100,sizeOf,typeInfo,hi,Builtin.lenOf,Builtin.firstCells,loadCells,loadCellsFrom,storeCells]
  have HR:=Aa hr;clear hr;go_enter Tryz.func180,Tryz.ntmps180
  go_wp2_with(at_builtin;go_loud(refine EI _ rfl (.tmp 5) (.tmp 6) 100 100 rfl (.slice (some ⟨w.heap.size,0,none⟩) 0 0) (.slice (some ad) 0 c) rfl rfl _ _ HR.out ?_))
  go_ret;exact⟨_,rfl,(Below.refl _ _).alloc (Ad _) _⟩
theorem Cj.clear{w:World}{d L:Nat}{ws:Nat->UInt64}{len mark:Nat->Nat}{g:Nat}{hb:Nat->Option Nat}(h:Cj w d L ws len mark g hb){i:Nat}(hi:i<L){w1:World}(k:Below w.heap.size w w1)(B:Option Addr):
 Cj ((w1.setCell ⟨g,66*i+64,none⟩ (.slice B 0 0)).setCell ⟨g,66*i+65,none⟩ (.int .i64 0)) d L ws (fun k=>if k=i then 0 else len k) (fun k=>if k=i then 0 else mark k) g (fun k=>if k=i then none else hb k):=by
 have h:=h.below k;have hk:∀b,b≠g->((w1.setCell ⟨g,66*i+64,none⟩ (.slice B 0 0)).setCell ⟨g,66*i+65,none⟩ (.int .i64 0)).heap[b]? =w1.heap[b]? :=fun b hb'=>(Below.heap_setCell _ ⟨g,66*i+65,none⟩ _ b hb').trans (Below.heap_setCell w1 ⟨g,66*i+64,none⟩ _ b hb')
 obtain⟨st,hbx⟩:=h.box;obtain⟨cur,hg,hs,h1,h2⟩:=h.blk;refine⟨⟨st,(hk d (fun e=>h.gd e.symm)).trans hbx⟩,h.gd,⟨_,IW _ (IW _ hg),by rw [FW,FW];exact hs,fun i' hi' k hk'=> ?_,fun i' hi'=> ?_⟩,fun i' hi' b hb'=> ?_,fun a b ha hb' hab v hv=> ?_,fun i' hi'=> ?_⟩
 ·rw [AB,if_neg (by omega),AB,if_neg (by omega)];exact h1 i' hi' k hk'
 ·obtain⟨A,c,e1,e2,hcc⟩:=h2 i' hi';by_cases e:i'=i
  ·subst e;refine⟨B,0,?_,?_,.inl ⟨if_pos rfl,if_pos rfl,rfl⟩⟩
   ·rw [AB,if_neg (by omega),AB,if_pos rfl,if_pos (by omega),if_pos rfl]
   ·rw [AB,if_pos rfl,if_pos (by rw [FW];omega),if_pos rfl];rfl
  ·refine⟨A,c,?_,?_,?_⟩
   ·rw [AB,if_neg (by omega),AB,if_neg (by omega),if_neg e];exact e1
   ·rw [AB,if_neg (by omega),AB,if_neg (by omega),if_neg e];exact e2
   ·rw [if_neg e,if_neg e];exact hcc.keep (fun b hb' _=>hk b (h.bd i' hi' b hb').1)
 ·by_cases e:i'=i
  ·rw [if_pos e]at hb';cases hb'
  ·rw [if_neg e]at hb';exact h.bd i' hi' b hb'
 ·by_cases ea:a=i
  ·rw [if_pos ea]at hv;cases hv
  ·rw [if_neg ea]at hv;by_cases eb:b=i
   ·rw [if_pos eb];exact fun x=>by cases x
   ·rw [if_neg eb];exact h.inj a b ha hb' hab v hv
 ·show(if i'=i then 0 else mark i')<=(if i'=i then 0 else len i')+1;by_cases e:i'=i
  ·rw [if_pos e];omega
  ·rw [if_neg e,if_neg e];exact h.mrk i' hi'
theorem ZY(size:Nat)(h:size<=32):2^size-1<4294967296:=by
 have:2^size<=2^32:=DF (by decide) h;omega
theorem lq(low:Nat)(h:low<=31):2^low<=2147483648:=DF (by decide) h
theorem xP(x low size:Nat)(hx:x<18446744073709551616)(hs:size<=32):bits .and .u64 ((x:Int)/2^low) ((2^size-1:Nat):Int)=(fieldN x low size:Nat):=by
 have e1:(x:Int)/2^low=((x/2^low:Nat):Int):=by rw [Aaw,GV];rfl
 have:=ZY size hs;rw [e1,u64_and_nat _ _ (Ej (Nat.div_le_self _ _) hx) (by omega),Nat.and_two_pow_sub_one_eq_mod];rfl
theorem Abj(x low size v:Nat)(hx:x<18446744073709551616)(hv:v<18446744073709551616)(hs:size<=32)(hl:low<=31):
 bits .or .u64 (bits .andNot .u64 (x:Int) (IntKind.u64.wrap (((2^size-1:Nat):Int)*2^low))) (IntKind.u64.wrap (bits .and .u64 (v:Int) ((2^size-1:Nat):Int)*2^low))=(DI x low size v:Nat):=by
 have h1:=ZY size hs;have h2:=lq low hl;have h3:(2^size-1)*2^low<=4294967295*2147483648:=Gy (by omega) h2;have h4:v&&&(2^size-1)<=2^size-1:=Aax;have h5:(v&&&(2^size-1))*2^low<=4294967295*2147483648:=Gy (by omega) h2;have e1:((2^size-1:Nat):Int)*2^low=(((2^size-1)*2^low:Nat):Int):=by rw [Fe,GV];rfl
 have e2:IntKind.u64.wrap (((2^size-1)*2^low:Nat):Int)=(((2^size-1)*2^low:Nat):Int):=by rw [IntKind.wrap_u64];omega
 have e3:((v&&&(2^size-1):Nat):Int)*2^low=(((v&&&(2^size-1))*2^low:Nat):Int):=by rw [Fe,GV];rfl
 have e4:IntKind.u64.wrap (((v&&&(2^size-1))*2^low:Nat):Int)=(((v&&&(2^size-1))*2^low:Nat):Int):=by rw [IntKind.wrap_u64];omega
 have h6:x&&&(18446744073709551615- (2^size-1)*2^low)<=x:=Aa3;rw [e1,e2,u64_andNot_nat _ _ hx (by omega),u64_and_nat _ _ hv (by omega),e3,e4,u64_or_nat _ _ (by omega) (by omega)];rfl
theorem fJ(low size:Nat)(w:World)(hl:low+size<=64)(hs:size<=32):
 Calls Tryz.prog 171 #[.int .i64 (low:Int),.int .i64 (size:Int)] w fun e w'=>e= .returned (.tuple #[.int .i64 (low:Int),.int .u64 ((2^size-1:Nat):Int)])/\Dr w w':=by
 have h1:=ZY size hs;have hp:0<2^size:=QC (by decide);have hq:((2^size:Nat):Int)=(2:Int)^size:=by rw [GV];rfl
 have e2:IntKind.u64.wrap (IntKind.u64.wrap ((2:Int)^size) -1)=((2^size-1:Nat):Int):=by
  rw [IntKind.wrap_u64,IntKind.wrap_u64,<-hq];omega
 go_enter Tryz.func171,Tryz.ntmps171
 go_wp2_with fail
 go_quiet(fail)
 go_wp2_with fail
 go_ret2;exact⟨by simp;omega,_,rfl⟩
theorem Qr(x low size:Nat)(w:World)(hx:x<18446744073709551616)(hl:low+size<=64)(hs:size<=32):
 Calls Tryz.prog 130 #[.int .u64 (x:Int),.int .i64 (low:Int),.int .i64 (size:Int)] w fun e w'=>e= .returned (.int .u64 (fieldN x low size:Nat))/\Dr w w':=by
 have HE:=Aa (xP x low size hx hs);go_enter Tryz.func130,Tryz.ntmps130
 go_wp2_with fail
 refine(fJ low size w hl hs).mono ?_;rintro e w'⟨rfl,q,rfl⟩
 go_wp2_with fail
 rw [HE.out];go_ret;exact⟨rfl,_,rfl⟩
theorem PM(x low size v:Nat)(w:World)(hx:x<18446744073709551616)(hv:v<18446744073709551616)(hl:low+size<=31):
 Calls Tryz.prog 129 #[.int .u64 (x:Int),.int .i64 (low:Int),.int .i64 (size:Int),.int .u64 (v:Int)] w fun e w'=>e= .returned (.int .u64 (DI x low size v:Nat))/\Dr w w':=by
 have HE:=Aa (Abj x low size v hx hv (by omega) (by omega));go_enter Tryz.func129,Tryz.ntmps129
 go_wp2_with fail
 refine(fJ low size w (by omega) (by omega)).mono ?_;rintro e w'⟨rfl,q,rfl⟩
 go_wp2_with fail
 go_quiet(fail)
 go_wp2_with fail
 rw [HE.out];go_ret;exact⟨rfl,Dr.two _ _ _⟩
theorem YN(x low size:Nat):fieldN x low size<2^size:=Lj _ (QC (by decide))
theorem SK(x:Nat):Dq x<4:=YN x 16 2
theorem sN(x:Nat):IA x<65536:=YN x 0 16
theorem Fq(c:Nat):Ba c<=16:=by unfold Ba;split<;>omega
theorem YO(c:Nat):AQ c<=4:=by unfold AQ;split<;>omega
theorem NL(x low size v:Nat)(hx:x<18446744073709551616)(hs:low+size<=64):DI x low size v<18446744073709551616:=by
 unfold DI;have h1:x&&&(ZI- (2^size-1)*2^low)<2^64:=Ej Aa3 hx;have h2:(v&&&(2^size-1))*2^low<2^64:=by
  have a:v&&&(2^size-1)<=2^size-1:=Aax;have b:0<2^size:=QC (by decide);have c:(v&&&(2^size-1))*2^low<2^size*2^low:=Nat.mul_lt_mul_of_pos_right (by omega) (QC (by decide));rw [<-Nat.pow_add]at c;exact Bg c (DF (by decide) (by omega))
 exact Nat.or_lt_two_pow h1 h2
theorem Fv(c:Nat)(w:World)(hc:c<1000000):Calls Tryz.prog 74 #[.int .i64 (c:Int)] w fun e w'=>e= .returned (.int .i64 (Ba c:Nat))/\w=w':=by
 by_cases h1:c=1
 ·subst h1;go_enter Tryz.func74,Tryz.ntmps74;go_wp2;go_ret;exact⟨rfl,rfl⟩
 ·by_cases h2:c=2
  ·subst h2;go_enter Tryz.func74,Tryz.ntmps74;go_wp2;go_ret;exact⟨rfl,rfl⟩
  ·have t1:((c:Int)==1)=false:=by rw [beq_eq_false_iff_ne];omega
   have t2:((c:Int)==2)=false:=by rw [beq_eq_false_iff_ne];omega
   have e:Ba c=0:=by unfold Ba;split<;>first| omega| rfl
   rw [e];go_enter Tryz.func74,Tryz.ntmps74;go_wp2;go_ret;exact⟨rfl,rfl⟩
theorem Nu(c:Nat)(w:World)(hc:c<1000000):Calls Tryz.prog 105 #[.int .i64 (c:Int)] w fun e w'=>e= .returned (.int .i64 (AQ c:Nat))/\w=w':=by
 by_cases h1:c=1
 ·subst h1;go_enter Tryz.func105,Tryz.ntmps105;go_wp2;go_ret;exact⟨rfl,rfl⟩
 ·by_cases h2:c=2
  ·subst h2;go_enter Tryz.func105,Tryz.ntmps105;go_wp2;go_ret;exact⟨rfl,rfl⟩
  ·have t1:((c:Int)==1)=false:=by rw [beq_eq_false_iff_ne];omega
   have t2:((c:Int)==2)=false:=by rw [beq_eq_false_iff_ne];omega
   have e:AQ c=0:=by unfold AQ;split<;>first| omega| rfl
   rw [e];go_enter Tryz.func105,Tryz.ntmps105;go_wp2;go_ret;exact⟨rfl,rfl⟩
theorem SL(x:Nat)(w:World)(hx:x<18446744073709551616):Calls Tryz.prog 107 #[.int .u64 (x:Int)] w fun e w'=>e= .returned (.int .i64 (Dq x:Nat))/\Dr w w':=by
 have hd:=Dr.refl w;have hk:=SK x;have e1:IntKind.i64.wrap (Dq x:Int)=(Dq x:Int):=by rw [IntKind.wrap_i64];omega
 go_enter Tryz.func107,Tryz.ntmps107
 go_wp2_with fail
 refine(Qr x 16 2 _ hx (by decide) (by decide)).mono ?_;rintro e w'⟨rfl,hd'⟩;replace hd:=hd.trans hd';rw [show fieldN x 16 2=Dq x from rfl]
 go_wp2_with fail
 go_ret;exact⟨rfl,hd⟩
theorem YP(x:Nat)(w:World)(hx:x<18446744073709551616):Calls Tryz.prog 128 #[.int .u64 (x:Int)] w fun e w'=>e= .returned (.int .u64 (IA x:Nat))/\Dr w w':=by
 have hd:=Dr.refl w;go_enter Tryz.func128,Tryz.ntmps128
 go_wp2_with fail
 refine(Qr x 0 16 _ hx (by decide) (by decide)).mono ?_;rintro e w'⟨rfl,hd'⟩;replace hd:=hd.trans hd';rw [show fieldN x 0 16=IA x from rfl]
 go_wp2_with fail
 go_ret;exact⟨rfl,hd⟩
theorem Ri(x:Nat)(w:World)(hx:x<18446744073709551616):Calls Tryz.prog 106 #[.int .u64 (x:Int)] w fun e w'=>e= .returned (.bool (FK x))/\Dr w w':=by
 have hd:=Dr.refl w;have hk:=SK x;have hb:=Fq (Dq x);by_cases h0:x=0
 ·subst h0;rw [show FK 0=true from rfl];go_enter Tryz.func106,Tryz.ntmps106;go_wp2;go_ret;exact⟨rfl,hd⟩
 ·have t0:((x:Int)==0)=false:=by rw [beq_eq_false_iff_ne];omega
  have HF:=Aa (fun W=>Qr x 0 (Ba (Dq x)) W hx (by omega) (by omega));have w1:=NL x 0 (Ba (Dq x)) 0 hx (by omega);have HW1:=Aa (fun W=>PM x 0 (Ba (Dq x)) 0 W hx (by decide) (by omega));have HW2:=Aa (fun W=>PM (DI x 0 (Ba (Dq x)) 0) 16 2 0 W w1 (by decide) (by decide));by_cases h1:fieldN x 0 (Ba (Dq x))=0
  ·have HR:Hid (FK x=false):=Aa (by simp [FK,h0,h1]);have t1:(((fieldN x 0 (Ba (Dq x)):Nat):Int)!=0)=false:=by rw [h1];rfl
   generalize fieldN x 0 (Ba (Dq x))=fl at HF t1;clear h1;go_enter Tryz.func106,Tryz.ntmps106
   go_wp2_with fail
   refine(SL x _ hx).mono ?_;rintro e w'⟨rfl,hd'⟩;replace hd:=hd.trans hd'
   go_wp2_with fail
   refine(Fv (Dq x) _ (by omega)).mono ?_;rintro e w'⟨rfl,rfl⟩
   go_wp2_with fail
   refine(HF.out _).mono ?_;rintro e w'⟨rfl,hd'⟩;replace hd:=hd.trans hd'
   go_wp2_with fail
   rw [HR.out];go_ret;exact⟨rfl,hd⟩
  ·have HR:Hid (FK x=(DI (DI x 0 (Ba (Dq x)) 0) 16 2 0==0)):=Aa (by
   have e0:(x==0)=false:=by rw [beq_eq_false_iff_ne];exact h0
   have e1:(fieldN x 0 (Ba (Dq x))!=0)=true:=by rw [bne_iff_ne];exact h1
   rw [FK,e0,e1];rfl)
   have t1:(((fieldN x 0 (Ba (Dq x)):Nat):Int)!=0)=true:=by rw [bne_iff_ne];omega
   have HT:Hid ((((DI (DI x 0 (Ba (Dq x)) 0) 16 2 0:Nat):Int)==0)=(DI (DI x 0 (Ba (Dq x)) 0) 16 2 0==0)):=Aa (by
    rw [Bool.eq_iff_iff,beq_iff_eq,beq_iff_eq];omega)
   generalize fieldN x 0 (Ba (Dq x))=fl at HF t1;clear h1;go_enter Tryz.func106,Tryz.ntmps106
   go_wp2_with fail
   refine(SL x _ hx).mono ?_;rintro e w'⟨rfl,hd'⟩;replace hd:=hd.trans hd'
   go_wp2_with fail
   refine(Fv (Dq x) _ (by omega)).mono ?_;rintro e w'⟨rfl,rfl⟩
   go_wp2_with fail
   refine(HF.out _).mono ?_;rintro e w'⟨rfl,hd'⟩;replace hd:=hd.trans hd'
   go_wp2_with fail
   refine(HW1.out _).mono ?_;rintro e w'⟨rfl,hd'⟩;replace hd:=hd.trans hd'
   go_wp2_with fail
   refine(HW2.out _).mono ?_;rintro e w'⟨rfl,hd'⟩;replace hd:=hd.trans hd'
   go_wp2_with fail
   rw [HR.out,HT.out];go_ret;exact⟨rfl,hd⟩
theorem LH(x:Nat):AU x<4:=by unfold AU;split;exact SK x;decide
theorem FT(x:Nat)(w:World)(hx:x<18446744073709551616):Calls Tryz.prog 57 #[.int .u64 (x:Int)] w fun e w'=>e= .returned (.int .i64 (AU x:Nat))/\Dr w w':=by
 have hd:=Dr.refl w;have HR:=Aa (fun W=>Ri x W hx);cases hr:FK x
 ·rw [show AU x=0 by simp [AU,hr]];rw [hr]at HR;clear hr;go_enter Tryz.func57,Tryz.ntmps57
  go_wp2_with fail
  refine(HR.out _).mono ?_;rintro e w'⟨rfl,hd'⟩;replace hd:=hd.trans hd'
  go_wp2_with fail
  go_ret;exact⟨rfl,hd⟩
 ·rw [show AU x=Dq x by simp [AU,hr]];rw [hr]at HR;clear hr;go_enter Tryz.func57,Tryz.ntmps57
  go_wp2_with fail
  refine(HR.out _).mono ?_;rintro e w'⟨rfl,hd'⟩;replace hd:=hd.trans hd'
  go_wp2_with fail
  refine(SL x _ hx).mono ?_;rintro e w'⟨rfl,hd'⟩;replace hd:=hd.trans hd'
  go_wp2_with fail
  go_ret;exact⟨rfl,hd⟩
theorem PN(x a:Nat)(w:World)(hx:x<18446744073709551616)(ha:a<1000000):Calls Tryz.prog 82 #[.int .u64 (x:Int),.int .i64 (a:Int)] w fun e w'=>e= .returned (.bool (En x a))/\Dr w w':=by
 have hd:=Dr.refl w;have hc:=LH x;have hb:=Fq (AU x);have t0:decide ((0:Int)<=(a:Int))=true:=by simp
 by_cases h1:a<Ba (AU x)
 ·have HF:=Aa (fun W=>Qr x a 1 W hx (by omega) (by omega));have t1:decide ((a:Int)<((Ba (AU x):Nat):Int))=true:=decide_eq_true (by omega);have HT:Hid ((((fieldN x a 1:Nat):Int)==1)=En x a):=Aa (by
   rw [Bool.eq_iff_iff,beq_iff_eq];simp [En,h1];omega)
  go_enter Tryz.func82,Tryz.ntmps82
  go_wp2_with fail
  refine(FT x _ hx).mono ?_;rintro e w'⟨rfl,hd'⟩;replace hd:=hd.trans hd'
  go_wp2_with fail
  refine(Fv (AU x) _ (by omega)).mono ?_;rintro e w'⟨rfl,rfl⟩
  go_wp2_with fail
  refine(HF.out _).mono ?_;rintro e w'⟨rfl,hd'⟩;replace hd:=hd.trans hd'
  go_wp2_with fail
  rw [HT.out];go_ret;exact⟨rfl,hd⟩
 ·have t1:decide ((a:Int)<((Ba (AU x):Nat):Int))=false:=decide_eq_false (by omega);rw [show En x a=false by simp [En,h1]];go_enter Tryz.func82,Tryz.ntmps82
  go_wp2_with fail
  refine(FT x _ hx).mono ?_;rintro e w'⟨rfl,hd'⟩;replace hd:=hd.trans hd'
  go_wp2_with fail
  refine(Fv (AU x) _ (by omega)).mono ?_;rintro e w'⟨rfl,rfl⟩
  go_wp2_with fail
  go_ret;exact⟨rfl,hd⟩
structure IE(P:Program)(t e:TypeId)(z:Value)(k bytes:Nat):Prop where
 ht:P.underlying t=some (.slice e)
 hi:(P.info? e).map (fun i=>(i.zero,i.size,i.bytes))=some (some z,k,bytes)
 hz:z.cells.size=k
theorem Wx{P:Program}{t e:TypeId}{z:Value}{k bytes:Nat}(T:IE P t e z k bytes)(ty:TypeId){w:World}{base:Nat}{v:Value}{n:Nat}{xs news:List Value}
 (hown:w.ownsRow base e k v n xs)(b:Nat)(hb:BH w b e news)(hk:news.length=k)(hk0:0<k)(h1:∀u∈news,u.oneCell'=true)(hm:n<=1000000)(hby:bytes<=1000)(hbase:base<=w.heap.size)(c:Nat):
 ∃g cap w',(Builtin.append_ #[t,t] ty #[v,.slice (some ⟨b,0,none⟩) 1 c]).run P w= .ok (.slice (some ⟨g,0,none⟩) (n+1) cap) w'/\w'.ownsRow base e k (.slice (some ⟨g,0,none⟩) (n+1) cap) (n+1) (xs++news)/\Below base w w'/\Kept w w' v.ownBlock/\(v.ownBlock=some g\/g=w.heap.size):=by
 obtain⟨i,hi,hz0,hz1,hz2⟩:=info_parts T.hi;have hnews:∀j u,news[j]? =some u->w.cell? ((⟨b,0,none⟩:Addr).add j)=some u:=fun j u hu=>by
  rw [Addr.add_lit,CS,hb.cell,hu]
 have hmul:(n+1)*bytes<=1000001*1000:=Gy (by omega) hby;obtain⟨g,cap,w',a1,a2,a3,a4,a5⟩:=run_append_lies (P:=P) w t ty base e i z k bytes T.ht hi hz0 hz1 hz2 T.hz hk0 v n xs hown ⟨b,0,none⟩ 1 c news (by rw [hk,Nat.one_mul]) hnews h1 (by decide) (by unfold maxLen;omega) (by omega) hbase _ rfl;exact⟨g,cap,w',a1,a2,(Below.refl _ _).grown a3 hbase (fun k hk=>(hown.lt k hk).1),⟨a3.size,fun j hj hr=>a3.block j hj hr⟩,a4⟩
theorem DT{P:Program}{ops:Array Oper}{rest:List Oper}{o:Oper}{a:Act}{w:World}{Q:Exit->Act->World->Prop}(hgd:o.guard=none)(s x:Operand)(t:TypeId)
 (ho:o.op= .call {callee:= .builtin .append,args:= #[s,x],argTypes:= #[t,t]}){e:TypeId}{z:Value}{k bytes:Nat}(T:IE P t e z k bytes)
 (wr:World)(base:Nat)(v:Value)(n:Nat)(xs news:List Value)(hs:a.eval s=v)(hown:wr.ownsRow base e k v n xs)(hw:w=wr.alloc (.cells news.toArray e))(b c:Nat)(hx:a.eval x= .slice (some ⟨b,0,none⟩) 1 c)(hb:b=wr.heap.size)
 (hk:news.length=k)(hk0:0<k)(h1:∀u∈news,u.oneCell'=true)(hm:n<=1000000)(hby:bytes<=1000)(hbase:base<=wr.heap.size)
 (h:∀g cap w',w'.ownsRow base e k (.slice (some ⟨g,0,none⟩) (n+1) cap) (n+1) (xs++news)->Below base wr w'->Kept wr w' v.ownBlock->(v.ownBlock=some g\/wr.heap.size<=g)->wpList P ops Q rest (a.put o.dst (.slice (some ⟨g,0,none⟩) (n+1) cap)) w'):wpList P ops Q (o::rest) a w:=by
 refine wpList_plain hgd fun K hK=> ?_
 subst hw hb;have hbl:Below wr.heap.size wr (wr.alloc (.cells news.toArray e)):=(Below.refl _ _).alloc (Ad _) _;have hown':(wr.alloc (.cells news.toArray e)).ownsRow base e k v n xs:=by
  refine⟨hown.1,?_⟩;rcases hown.2 with h| ⟨g,cap,cur,h1,h2,h3,h4⟩
  ·exact .inl h
  ·exact .inr ⟨g,cap,cur,h1,h2,by rw [hbl.block g (Array.getElem?_eq_some_iff.1 h3).1];exact h3,h4⟩
 obtain⟨g,cap,w',hrun,h2,h3,h4,h5⟩:=Wx T o.type hown' wr.heap.size (heap_alloc_new wr _) hk hk0 h1 hm hby (by simp;omega) c;unfold Oper.wp execOp;simp only [ho,resolve,invoke,builtin,Sem.run_bind,Sem.run_pure,Result.andThen_ok,KQ,Bo,Em,hs,hx,hrun];refine hK _ _ (h g cap w' h2 ((hbl.mono hbase).trans h3) ⟨AL hbl.size h4.1,fun j hj hr=>(h4.2 j (Bg hj hbl.size) hr).trans (hbl.block j hj)⟩ (h5.imp id (fun e=>by rw [e];simp)))
def D9(W:World)(r:Nat)(es:Array MapEntry)(c:Nat):World:={W with heap:=W.heap.setIfInBounds r (.map es c)}
theorem UH(W:World)(r:Nat)(es:Array MapEntry)(c:Nat):(D9 W r es c).heap.size=W.heap.size:=by simp [D9]
theorem LJ(W:World)(r:Nat)(es:Array MapEntry)(c:Nat)(h:r<W.heap.size):(D9 W r es c).heap[r]? =some (.map es c):=by simp [D9,h]
theorem Ia(W:World)(r:Nat)(es:Array MapEntry)(c:Nat):Touch (fun b=>b=r) W (D9 W r es c):=
 ⟨rfl,rfl,rfl,by simp [D9],fun k hk hn=>by
  simp only [D9];rw [AB,if_neg (fun e=>hn e.symm)]⟩
theorem JJ{P:Program}{w:World}{r:Nat}{es:Array MapEntry}{c:Nat}(hb:w.heap[r]? =some (.map es c)):(getObj r).run P w= .ok (.map es c) w:=by simp [getObj,Sem.run,hb]
theorem Rj{P:Program}{w:World}{r:Nat}{es:Array MapEntry}{c:Nat}(o:Obj)(hb:w.heap[r]? =some (.map es c)):(setObj r o).run P w= .ok () {w with heap:=w.heap.setIfInBounds r o}:=by simp [setObj,Sem.run,hb]
theorem run_makeMap{P:Program}(t:TypeId)(w:World):(Instr.makeMap t none).run P w= .ok (.map (some w.heap.size)) (w.alloc (.map #[] 0)):=by
 simp [Instr.makeMap,Result.andThen]
theorem Ib{P:Program}{kt:TypeId}{d:IntKind}(hk:P.underlying kt=some (.int d))(b:Bool)(n:Nat)(q:IntKind)(k:Int)(w:World):(Instr.checkKey b (n+1) kt (.int q k)).run P w= .ok () w:=by
 simp [Instr.checkKey,run_underlying hk,Result.andThen]
theorem V9{P:Program}{t kt et:TypeId}{d:IntKind}(ht:P.underlying t=some (.map kt et))(hk:P.underlying kt=some (.int d))(W:World)(r:Nat)(es:Array MapEntry)(c:Nat)(k:Int)(v:Value)
 (h:W.heap[r]? =some (.map es c))(hf:Instr.findNow (.int d) (.int d k) es.toList 0=some none):
 (Instr.mapUpdate t (.map (some r)) (.int d k) v).run P W= .ok () (D9 W r (es.push {key:= .int d k,val:=v,born:=c}) (c+1)):=by
 have h1:=run_underlying (P:=P) ht;have h2:=run_underlying (P:=P) hk;have h3:=fun w=>Ib (P:=P) hk false 9999 d k w
 have h4:=JJ (P:=P) h;have h5:=fun o=>Rj (P:=P) o h
 simp [Instr.mapUpdate,h1,h2,h3,h4,h5,Instr.findKey,hf,D9,Result.andThen]
theorem MB{P:Program}{t kt et:TypeId}{d:IntKind}(ht:P.underlying t=some (.map kt et))(hk:P.underlying kt=some (.int d))(W:World)(r:Nat)(es:Array MapEntry)(c:Nat)(k:Int)(i:Nat)(v:Value)
 (h:W.heap[r]? =some (.map es c))(hf:Instr.findNow (.int d) (.int d k) es.toList 0=some (some (i,v))):
 (Instr.lookup t (.map (some r)) (.int d k) false).run P W= .ok v W:=by
 have h1:=run_underlying (P:=P) ht;have h2:=run_underlying (P:=P) hk;have h3:=fun b w=>Ib (P:=P) hk b 9999 d k w
 have h4:=JJ (P:=P) h;simp [Instr.lookup,h1,h2,h3,h4,Instr.findKey,hf,Result.andThen]
def Abk(w:World):Prop:=∀j,j<16->w.cell? ⟨0,j,none⟩=some (.int .u32 (JB.getD j 0:Nat))
theorem xQ(j:Nat):JB.getD j 0<4294967296:=by
 rcases Nat.lt_or_ge j 16 with h| h
 ·have key:∀k:Fin 16,JB.getD k.val 0<4294967296:=by decide
  exact key ⟨j,h⟩
 ·rw [List.getD_eq_getElem?_getD,EH (by simpa [JB]using h)];decide
theorem pU(y:Nat)(hy:y<4294967296):bits .and .u32 (y:Int) 15=((y%16:Nat):Int):=by
 rw [show(15:Int)=((15:Nat):Int)from rfl,u32_and_nat _ _ hy (by decide),nat_mask4]
theorem pV(y:Nat)(hy:y<4294967296):bits .xor .u32 ((y:Int)/16) ((JB.getD (y%16) 0:Nat):Int)=(Ot y:Nat):=by
 rw [show(y:Int)/16=((y/16:Nat):Int)by omega,u32_xor_nat _ _ (by omega) (xQ _)];rfl
theorem fK(sum:Nat)(A:Option Addr)(n c:Nat)(l:List UInt8)(w:World)(hs:sum<4294967296)(hn:n<=1000000)(h:Bs w A n l)(hT:Abk w):
 Calls Tryz.prog 157 #[.int .u32 (sum:Int),.slice A n c] w fun e w'=>e= .returned (.int .u32 (Ko sum l:Nat))/\w=w':=by
 have hlen:=h.len;have e0:bits .xor .u32 IntKind.u32.max (sum:Int)=((NI sum l 0:Nat):Int):=by
  rw [show IntKind.u32.max=((4294967295:Nat):Int)from rfl,u32_xor_nat _ _ (by decide) hs,VV,Agl]
 have HH:=Aa h;clear h;go_enter Tryz.func157,Tryz.ntmps157
 go_wp2_with fail
 go_loop [5,12](fun x i=>∃k:Nat,k<=n/\i= .int .i64 k/\x= .int .u32 ((NI sum l k:Nat):Int))(fun _ i=>n- (intOf i).toNat)
 case atStart=>exact⟨0,BA _,rfl,rfl⟩
 case round=>
  obtain⟨k,hk,rfl,rfl⟩:=hrel;have hlt:=VX sum l hs k (by omega);by_cases hkn:k<n
  ·obtain⟨hkl,b,off,rfl,hb,hc⟩:=HH.out.at hkn;have hcb:l[k].toNat<256:=UInt8.toNat_lt _;have HS:=Aa (VW sum l k hkl);generalize NI sum l k=x at*;generalize l[k].toNat=b at*;have hy:x^^^b<4294967296:=Nat.xor_lt_two_pow (n:=32) hlt (by omega);have a1:bits .xor .u32 (x:Int) (b:Int)=((x^^^b:Nat):Int):=u32_xor_nat _ _ hlt (by omega);have a2:=pU _ hy;have a3:=pV _ hy;have c1:=hT ((x^^^b)%16) (Lj _ (by decide));have HB:Hid (Qm x b=Ot (Ot (x^^^b))):=Aa rfl;generalize x^^^b=y at*;have hz:=QT y hy;generalize Ot y=z at*;have b2:=pU _ hz;have b3:=pV _ hz;have c2:=hT (z%16) (Lj _ (by decide));generalize JB.getD (y%16) 0=f1 at*;generalize JB.getD (z%16) 0=f2 at*;go_wp2
   trace_state
   go_round
   case rel=>exact⟨k+1,by omega,by go_num,by rw [HS.out,HB.out]⟩
   case measure=>simp [intOf];omega
  ·have hkn:k=n:=by omega
   subst hkn;have e1:bits .xor .u32 IntKind.u32.max ((NI sum l k:Nat):Int)=(Ko sum l:Nat):=by
    rw [show IntKind.u32.max=((4294967295:Nat):Int)from rfl,u32_xor_nat _ _ (by decide) hlt,Agl,<-hlen,rH]
   go_wp2;go_ret;exact⟨rfl,rfl⟩
theorem lu(A:Option Addr)(n c:Nat)(l:List UInt8)(w:World)(hn:n<=1000000)(h:Bs w A n l)(hT:Abk w):
 Calls Tryz.prog 120 #[.slice A n c] w fun e w'=>e= .returned (.int .u32 (Ko 0 l:Nat))/\w=w':=by
 have HN:=Aa (fK 0 A n c l w (by decide) hn h hT);go_enter Tryz.func120,Tryz.ntmps120
 go_wp2_with fail
 refine HN.out.mono ?_;rintro e w'⟨rfl,rfl⟩
 go_wp2_with fail
 go_ret;exact⟨rfl,rfl⟩
theorem Lp{P:Program}{ops:Array Oper}{o:Oper}{a:Act}{w:World}{K:Act->World->Prop}{Q:Exit->Act->World->Prop}{E:Prop}(hgd:o.guard=none)(s x:Operand)(t:TypeId)
 (ho:o.op= .call {callee:= .builtin .append,args:= #[s,x],argTypes:= #[t,t]}){e:TypeId}{z:Value}{k bytes:Nat}(T:IE P t e z k bytes)
 (wr:World)(base:Nat)(v:Value)(n:Nat)(xs news:List Value)(hs:a.eval s=v)(hown:wr.ownsRow base e k v n xs)(hw:w.heap=wr.heap.push (.cells news.toArray e))
 (hos:w.os=wr.os)(htape:w.tape=wr.tape)(hout:w.output=wr.output)(gx c:Nat)(hx:a.eval x= .slice (some ⟨gx,0,none⟩) 1 c)(hgx:wr.heap.size=gx)
 (hk:news.length=k)(hk0:0<k)(h1:∀u∈news,u.oneCell'=true)(hm:n<=1000000)(hby:bytes<=1000)(hbase:base<=wr.heap.size)
 (h:∀g cap w',w'.ownsRow base e k (.slice (some ⟨g,0,none⟩) (n+1) cap) (n+1) (xs++news)->Below base wr w'->Kept wr w' v.ownBlock->(v.ownBlock=some g\/wr.heap.size<=g)->K (a.put o.dst (.slice (some ⟨g,0,none⟩) (n+1) cap)) w'):
 if Region.wanted o (yielded ops a.tmps)=true then Oper.wp P o a w K Q else E:=by
 have hwt:Region.wanted o (yielded ops a.tmps)=true:=by simp [Region.wanted,hgd]
 rw [if_pos hwt];subst hgx;have hbl:Below wr.heap.size wr w:=⟨hos,htape,hout,by rw [hw];simp,fun k hk=>by rw [hw,Fb,if_neg (by omega)]⟩;have hown':w.ownsRow base e k v n xs:=by
  refine⟨hown.1,?_⟩;rcases hown.2 with h| ⟨g,cap,cur,h1,h2,h3,h4⟩
  ·exact .inl h
  ·exact .inr ⟨g,cap,cur,h1,h2,by rw [hbl.block g (Array.getElem?_eq_some_iff.1 h3).1];exact h3,h4⟩
 have hb:BH w wr.heap.size e news:=by unfold BH;rw [hw,Fb,if_pos rfl]
 obtain⟨g,cap,w',hrun,h2,h3,h4,h5⟩:=Wx T o.type hown' wr.heap.size hb hk hk0 h1 hm hby (AL hbase hbl.size) c;unfold Oper.wp execOp;simp only [ho,resolve,invoke,builtin,Sem.run_bind,Sem.run_pure,Result.andThen_ok,KQ,Bo,Em,hs,hx,hrun];exact h g cap w' h2 ((hbl.mono hbase).trans h3) ⟨AL hbl.size h4.1,fun j hj hr=>(h4.2 j (Bg hj hbl.size) hr).trans (hbl.block j hj)⟩ (h5.imp id (fun e=>by rw [e];exact hbl.size))
def pW(w w':World)(e:TypeId)(A A':Option Addr)(m:Nat):Prop:=(A'=A/\m=0)\/∃g cs,A'=some ⟨g,0,none⟩/\w.heap.size<=g/\w'.heap[g]? =some (.cells cs e (0,0))
theorem l7 {P : Program} {t e : TypeId} {z : Value} {bytes : Nat} (T : KC P t e z bytes) (ty : TypeId) {w : World} {A : Option Addr} {n : Nat} {xs news : List Value} (hA : Rd w A n xs) (hA0 : ∀ a, A = some a -> ∃ g, a = ⟨g, 0, none⟩) (hn0 : A = none -> n = 0)
    {B : Option Addr} {m : Nat} (hr : Rd w B m news) (h1 : ∀ u ∈ news, u.oneCell' = true) (hm : n + m <= 1000000) (hby : bytes <= 64) (c : Nat) :
    ∃ A' C w', (Builtin.append_ #[t, t] ty #[.slice A n n, .slice B m c]).run P w = .ok (.slice A' (n + m) C) w' /\ n + m <= C /\ Rd w' A' (n + m) (xs ++ news) /\ Below w.heap.size w w' /\ pW w w' e A A' m := by
  obtain ⟨i, hi, hz0, hz1, hz2⟩ := info_parts T.hi
  rcases B with _ | bd
  · have h0 : m = 0 := by
      rcases FV m with h0 | h0
      · exact h0
      · obtain ⟨_, _, e, _⟩ := hr.2 h0; cases e
    subst h0
    have hn : news = [] := Bj hr.1
    subst hn
    refine ⟨A, n, w, ?_, Ad _, by simpa using hA, Below.refl _ _, .inl ⟨rfl, rfl⟩⟩
    rcases A with _ | a
    · have hn := hn0 rfl
      subst hn
      simp [Builtin.append_, run_underlying T.ht, sizeOf, typeInfo, hi, Builtin.lenOf, Builtin.firstCells]
    · simp [Builtin.append_, run_underlying T.ht, sizeOf, typeInfo, hi, Builtin.lenOf, Builtin.firstCells, storeCells]
  · have hcells : ∀ j u, news[j]? = some u -> w.cell? (bd.add j) = some u := by
      intro j u hu
      have hj : j < m := by
        have := (List.getElem?_eq_some_iff.1 hu).1
        have := hr.1
        omega
      obtain ⟨b, off, e, _, hc⟩ := hr.2 (by omega)
      injection e with e
      subst e
      rw [Addr.add_lit, hc j hj, hu]
    rcases A with _ | a
    · have hn := hn0 rfl
      subst hn
      have hxs : xs = [] := Bj hA.1
      subst hxs
      obtain ⟨v', w', hrun, h2, h3, h4⟩ := Rh T ty (World.ownsRow_nil w w.heap.size e 1) hr h1 (by omega) hby (Ad _) c
      obtain ⟨A', C, rfl, hc, hrd⟩ := BU h2
      refine ⟨A', C, w', hrun, hc, hrd, h3, ?_⟩
      rcases h2.2 with ⟨e1, e2⟩ | ⟨g, cap, cur, e1, e2, e3, _⟩
      · simp only [Value.slice.injEq] at e1
        exact .inl ⟨e1.1, by omega⟩
      · simp only [Value.slice.injEq] at e1
        exact .inr ⟨g, _, e1.1, e2, e3⟩
    · obtain ⟨g, rfl⟩ := hA0 a rfl
      rcases FV m with h0 | h0
      · subst h0
        have hn : news = [] := Bj hr.1
        subst hn
        have hrun := run_append_room_cells (P := P) w t ty e i T.ht hi g 0 n n bd 0 c [] (by simp) (by simp) (by simp) (by omega) (by simp) (by simp)
        exact ⟨_, n, w, hrun, Ad _, by simpa using hA, Below.refl _ _, .inl ⟨rfl, rfl⟩⟩
      · have holds : ∀ j u, xs[j]? = some u -> w.cell? ((⟨g, 0, none⟩ : Addr).add j) = some u := by
          intro j u hu
          have hj : j < n := by
            have := (List.getElem?_eq_some_iff.1 hu).1
            have := hA.1
            omega
          obtain ⟨b, off, e, _, hc⟩ := hA.2 (by omega)
          injection e with e
          injection e with e1 e2
          subst e1 e2
          rw [Addr.add_lit, hc j hj, hu]
        have hmul : (n + m) * bytes <= 1000000 * 64 := Gy hm hby
        obtain ⟨v', w', hrun, h2, h3⟩ := run_append_arg_grows (P := P) w t ty e i z 1 bytes T.ht hi hz0 hz1 hz2 T.hz (by decide) ⟨g, 0, none⟩ n n xs (by have := hA.1; omega) holds bd m c news (by have := hr.1; omega) hcells (by omega) (by unfold maxLen; omega) (by omega)
        obtain ⟨A', C, rfl, hc, hrd⟩ := BU h2
        refine ⟨A', C, w', hrun, hc, hrd, (Below.refl _ _).grown h3 (Ad _) (fun k hk => nomatch hk), ?_⟩
        rcases h2.2 with ⟨e1, e2⟩ | ⟨g', cap, cur, e1, e2, e3, _⟩
        · omega
        · simp only [Value.slice.injEq] at e1
          exact .inr ⟨g', _, e1.1, e2, e3⟩
theorem Ic{P:Program}{ops:Array Oper}{o:Oper}{a:Act}{w:World}{K:Act->World->Prop}{Q:Exit->Act->World->Prop}{E:Prop}(hgd:o.guard=none)(s x:Operand)(t:TypeId)
 (ho:o.op= .call {callee:= .builtin .append,args:= #[s,x],argTypes:= #[t,t]}){e:TypeId}{z:Value}{bytes:Nat}(T:KC P t e z bytes)
 (A:Option Addr)(n:Nat)(xs:List Value)(hs:a.eval s= .slice A n n)(hA:Rd w A n xs)(hA0:∀a,A=some a->∃g,a=⟨g,0,none⟩)(hn0:A=none->n=0)
 (B:Option Addr)(m c:Nat)(news:List Value)(hx:a.eval x= .slice B m c)(hr:Rd w B m news)(h1:∀u∈news,u.oneCell'=true)(hm:n+m<=1000000)(hby:bytes<=64)
 (h:∀A' C w',n+m<=C->Rd w' A' (n+m) (xs++news)->Below w.heap.size w w'->pW w w' e A A' m->K (a.put o.dst (.slice A' (n+m) C)) w'):
 if Region.wanted o (yielded ops a.tmps)=true then Oper.wp P o a w K Q else E:=by
 have hwt:Region.wanted o (yielded ops a.tmps)=true:=by simp [Region.wanted,hgd]
 rw [if_pos hwt];obtain⟨A',C,w',hrun,h2,h3,h4,h5⟩:=l7 T o.type hA hA0 hn0 hr h1 hm hby c;unfold Oper.wp execOp;simp only [ho,resolve,invoke,builtin,Sem.run_bind,Sem.run_pure,Result.andThen_ok,KQ,Bo,Em,hs,hx,hrun];exact h A' C w' h2 h3 h4 h5
theorem Kr{P:Program}{ops:Array Oper}{o:Oper}{a:Act}{w:World}{K:Act->World->Prop}{Q:Exit->Act->World->Prop}{E:Prop}(hgd:o.guard=none)(s x:Operand)(t:TypeId)
 (ho:o.op= .call {callee:= .builtin .append,args:= #[s,x],argTypes:= #[t,t]}){e:TypeId}{z:Value}{bytes:Nat}(T:KC P t e z bytes)
 (wr:World)(A:Option Addr)(n:Nat)(xs:List Value)(hs:a.eval s= .slice A n n)(hA:Rd wr A n xs)(hA0:∀a,A=some a->∃g,a=⟨g,0,none⟩)(hn0:A=none->n=0)
 (u:Value)(hw:w.heap=wr.heap.push (.cells #[u] e))(hos:w.os=wr.os)(htape:w.tape=wr.tape)(hout:w.output=wr.output)(gx c:Nat)(hx:a.eval x= .slice (some ⟨gx,0,none⟩) 1 c)(hgx:wr.heap.size=gx)
 (h1:u.oneCell'=true)(hm:n+1<=1000000)(hby:bytes<=64)
 (h:∀A' C w',n+1<=C->Rd w' A' (n+1) (xs++[u])->Below wr.heap.size wr w'->pW wr w' e A A' 1->K (a.put o.dst (.slice A' (n+1) C)) w'):
 if Region.wanted o (yielded ops a.tmps)=true then Oper.wp P o a w K Q else E:=by
 subst hgx;have hbl:Below wr.heap.size wr w:=⟨hos,htape,hout,by rw [hw];simp,fun k hk=>by rw [hw,Fb,if_neg (by omega)]⟩;have hb:BH w wr.heap.size e [u]:=by unfold BH;rw [hw,Fb,if_pos rfl]
 refine Ic hgd s x t ho T A n xs hs (Rd.below hA hbl) hA0 hn0 (some ⟨wr.heap.size,0,none⟩) 1 c [u] hx hb.rd (fun v hv=>by rw [List.mem_singleton]at hv;exact hv▸h1) hm hby ?_;intro A' C w' q1 q2 q3 q4;refine h A' C w' q1 q2 (hbl.trans (q3.mono hbl.size)) ?_;rcases q4 with h2| ⟨g,cs,h2,h3,h4⟩
 ·exact .inl h2
 ·exact .inr ⟨g,cs,h2,AL hbl.size h3,h4⟩
theorem lC {P : Program} {t e : TypeId} {z : Value} {k bytes : Nat} (T : IE P t e z k bytes) (hk0 : 0 < k) (ty : TypeId) {w : World} {base : Nat} {v : Value} {n : Nat} {xs news : List Value}
    (hown : w.ownsRow base e k v n xs) {A : Option Addr} {m : Nat} (hr : Rd w A (m * k) news)
    (h1 : ∀ u ∈ news, u.oneCell' = true) (hm : n + m <= 1000000) (hby : bytes <= 1000) (hbase : base <= w.heap.size) (c : Nat) :
    ∃ v' w', (Builtin.append_ #[t, t] ty #[v, .slice A m c]).run P w = .ok v' w' /\ w'.ownsRow base e k v' (n + m) (xs ++ news) /\ Below base w w' /\ Kept w w' v.ownBlock := by
  obtain ⟨i, hi, hz0, hz1, hz2⟩ := info_parts T.hi
  rcases A with _ | ad
  · have h0 : m = 0 := by
      rcases FV m with h0 | h0
      · exact h0
      · obtain ⟨_, _, e, _⟩ := hr.2 (Nat.mul_pos h0 hk0); cases e
    subst h0
    have hn : news = [] := Bj (by have := hr.1; omega)
    subst hn
    refine ⟨v, w, ?_, by simpa using hown, Below.refl _ _, Kept.refl _ _⟩
    rcases hown.2 with ⟨rfl, rfl⟩ | ⟨g, cap, cur, rfl, _, _, hnc, _⟩
    · simp [Builtin.append_, run_underlying T.ht, sizeOf, typeInfo, hi, Builtin.lenOf, Builtin.firstCells]
    · simp [Builtin.append_, run_underlying T.ht, sizeOf, typeInfo, hi, Builtin.lenOf, Builtin.firstCells, hnc, storeCells]
  · have hcells : ∀ j u, news[j]? = some u -> w.cell? (ad.add j) = some u := by
      intro j u hu
      have hj : j < m * k := by
        have := (List.getElem?_eq_some_iff.1 hu).1
        have := hr.1
        omega
      obtain ⟨b, off, e, _, hc⟩ := hr.2 (by omega)
      injection e with e
      subst e
      rw [Addr.add_lit, hc j hj, hu]
    have hmul : (n + m) * bytes <= 1000000 * 1000 := Gy hm hby
    obtain ⟨v', w', hrun, h2, h3, _⟩ := run_append_own (P := P) w base t ty e i z k bytes T.ht hi hz0 hz1 hz2 T.hz hk0 v n xs hown ad m c news hr.1 hcells h1
      (by unfold maxLen; omega) (by omega) hbase
    exact ⟨v', w', hrun, h2, (Below.refl _ _).grown h3 hbase (fun k hk => (hown.lt k hk).1), h3.size, fun k hk hne => h3.block k hk (fun h => hne h)⟩
theorem KX{P:Program}{ops:Array Oper}{rest:List Oper}{o:Oper}{a:Act}{w:World}{Q:Exit->Act->World->Prop}(hgd:o.guard=none)(s x:Operand)(t:TypeId)
 (ho:o.op= .call {callee:= .builtin .append,args:= #[s,x],argTypes:= #[t,t]}){e:TypeId}{z:Value}{k bytes:Nat}(T:IE P t e z k bytes)(hk0:0<k)
 (base:Nat)(v:Value)(n:Nat)(xs:List Value)(hs:a.eval s=v)(hown:w.ownsRow base e k v n xs)(A:Option Addr)(m c:Nat)(news:List Value)(hx:a.eval x= .slice A m c)(hr:Rd w A (m*k) news)
 (h1:∀u∈news,u.oneCell'=true)(hm:n+m<=1000000)(hby:bytes<=1000)(hbase:base<=w.heap.size)
 (h:∀v' w',w'.ownsRow base e k v' (n+m) (xs++news)->Below base w w'->Kept w w' v.ownBlock->wpList P ops Q rest (a.put o.dst v') w'):wpList P ops Q (o::rest) a w:=by
 refine wpList_plain hgd fun K hK=> ?_
 obtain⟨v',w',hrun,h2,h3,h4⟩:=lC T hk0 o.type hown hr h1 hm hby hbase c;unfold Oper.wp execOp;simp only [ho,resolve,invoke,builtin,Sem.run_bind,Sem.run_pure,Result.andThen_ok,KQ,Bo,Em,hs,hx,hrun];exact hK _ _ (h v' w' h2 h3 h4)
def Gi:Nat->List (Int×Int)->List MapEntry
 | _,[]=>[]
 | i,(o,v)::t=>{key:= .int .i64 o,val:= .int .i64 v,born:=i}::Gi (i+1) t
theorem Wy(o v:Int):∀(l:List (Int×Int))(i:Nat),Gi i (l++[(o,v)])=Gi i l++[{key:= .int .i64 o,val:= .int .i64 v,born:=i+l.length}]
 | [],i=>rfl
 | (a,b)::t,i=>by
   simp only [BI,Gi,Wy o v t (i+1),Bh];rw [show i+1+t.length=i+(t.length+1)by omega]
theorem WA:∀(l:List (Int×Int))(i:Nat),(Gi i l).length=l.length
 | [],_=>rfl
 | (_,_)::t,i=>by simp [Gi,WA t]
theorem ZZ(k:Int):∀(l:List (Int×Int))(i n:Nat),(∀p∈l,p.1≠k)->Instr.findNow (.int .i64) (.int .i64 k) (Gi i l) n=some none
 | [],_,_,_=>rfl
 | (a,b)::t,i,n,h=>by
   have ha:(k==a)=false:=by rw [beq_eq_false_iff_ne];exact fun e=>h (a,b) (Be ..) e.symm
   simp only [Gi,Instr.findNow,Instr.sameNow,if_true,ha];exact ZZ k t (i+1) (n+1) (fun p hp=>h p (Bi _ hp))
theorem WB(k v:Int)(l2:List (Int×Int)):∀(l1:List (Int×Int))(i n:Nat),(∀p∈l1,p.1≠k)->Instr.findNow (.int .i64) (.int .i64 k) (Gi i (l1++(k,v)::l2)) n=some (some (n+l1.length,.int .i64 v))
 | [],_,_,_=>by simp [Gi,Instr.findNow,Instr.sameNow]
 | (a,b)::t,i,n,h=>by
   have ha:(k==a)=false:=by rw [beq_eq_false_iff_ne];exact fun e=>h (a,b) (Be ..) e.symm
   simp only [BI,Gi,Instr.findNow,Instr.sameNow,if_true,ha];rw [WB k v l2 t (i+1) (n+1) (fun p hp=>h p (Bi _ hp))];simp only [Bh];rw [show n+1+t.length=n+(t.length+1)by omega]
theorem fM(k v v':Int)(l2:List (Int×Int)):∀(l1:List (Int×Int))(i:Nat),(Gi i (l1++(k,v)::l2)).modify l1.length (fun e=>{e with key:= .int .i64 k,val:= .int .i64 v'})=Gi i (l1++(k,v')::l2)
 | [],i=>rfl
 | (a,b)::t,i=>by
   simp only [BI,Gi,Bh,List.modify_succ_cons];rw [fM k v v' l2 t (i+1)]
def Jm(w:World)(mb:Nat)(l:List (Int×Int)):Prop:=w.heap[mb]? =some (.map (Gi 0 l).toArray l.length)
theorem Jm.lt{w:World}{mb:Nat}{l:List (Int×Int)}(h:Jm w mb l):mb<w.heap.size:=(Array.getElem?_eq_some_iff.1 h).1
theorem Jm.below{w w':World}{mb:Nat}{l:List (Int×Int)}(h:Jm w mb l)(k:Below w.heap.size w w'):Jm w' mb l:=(k.block _ h.lt).trans h
section
variable{P:Program}{t:TypeId}
theorem VA{kt:TypeId}(ht:P.underlying t=some (.map kt kt))(hk:P.underlying kt=some (.int .i64))(hz:∀W,(zeroValue kt).run P W= .ok (.int .i64 0) W)(W:World)(mb:Nat)(l:List (Int×Int))(k:Int)(h:Jm W mb l)(hn:∀p∈l,p.1≠k):
 (Instr.lookup t (.map (some mb)) (.int .i64 k) false).run P W= .ok (.int .i64 0) W:=by
 have h1:=run_underlying (P:=P) ht;have h2:=run_underlying (P:=P) hk;have h3:=fun b w=>Ib (P:=P) hk b 9999 .i64 k w
 have h4:=JJ (P:=P) h;have hf:=ZZ k l 0 0 hn;simp [Instr.lookup,h1,h2,h3,h4,Instr.findKey,hf,hz,Result.andThen]
theorem NM{kt et:TypeId}(ht:P.underlying t=some (.map kt et))(hk:P.underlying kt=some (.int .i64))(W:World)(mb:Nat)(l1 l2:List (Int×Int))(k v:Int)(h:Jm W mb (l1++(k,v)::l2))(hn:∀p∈l1,p.1≠k):
 (Instr.lookup t (.map (some mb)) (.int .i64 k) false).run P W= .ok (.int .i64 v) W:=
 MB ht hk W mb _ _ k _ _ h (by simpa using WB k v l2 l1 0 0 hn)
theorem ae{kt et:TypeId}(ht:P.underlying t=some (.map kt et))(hk:P.underlying kt=some (.int .i64))(W:World)(mb:Nat)(l:List (Int×Int))(k v:Int)(h:Jm W mb l)(hn:∀p∈l,p.1≠k):
 (Instr.mapUpdate t (.map (some mb)) (.int .i64 k) (.int .i64 v)).run P W= .ok () (D9 W mb (Gi 0 (l++[(k,v)])).toArray (l++[(k,v)]).length):=by
 rw [V9 ht hk W mb _ _ k _ h (by simpa using ZZ k l 0 0 hn),Wy];simp
theorem Abl{kt et:TypeId}(ht:P.underlying t=some (.map kt et))(hk:P.underlying kt=some (.int .i64))(W:World)(mb:Nat)(l1 l2:List (Int×Int))(k v v':Int)(h:Jm W mb (l1++(k,v)::l2))(hn:∀p∈l1,p.1≠k):
 (Instr.mapUpdate t (.map (some mb)) (.int .i64 k) (.int .i64 v')).run P W= .ok () (D9 W mb (Gi 0 (l1++(k,v')::l2)).toArray (l1++(k,v')::l2).length):=by
 have h1:=run_underlying (P:=P) ht;have h2:=run_underlying (P:=P) hk;have h3:=fun w=>Ib (P:=P) hk false 9999 .i64 k w
 have h4:=JJ (P:=P) h;have h5:=fun o=>Rj (P:=P) o h
 have hf:=WB k v l2 l1 0 0 hn;have hm:=fM k v v' l2 l1 0;have hkey:(((Gi 0 (l1++(k,v)::l2)).toArray[l1.length]?).map (·.key)).getD (.int .i64 k)= .int .i64 k:=by
  have:∀(l1:List (Int×Int))(i:Nat),(((Gi i (l1++(k,v)::l2))[l1.length]?).map (·.key)).getD (.int .i64 k)= .int .i64 k:=by
   intro l1;induction l1 with
   | nil=>intro i;rfl
   | cons p t ih=>intro i;obtain⟨a,b⟩:=p;simpa [Gi]using ih (i+1)
  simpa using this l1 0
 have hks:∀W,(Instr.keyThatStays (.int .i64 k) (.int .i64 k)).run P W= .ok (.int .i64 k) W:=fun W=>by
  have hb:Instr.sameBits 10000 (.int .i64 k) (.int .i64 k)=true:=by show Instr.sameBits (9999+1) _ _=true;simp [Instr.sameBits]
  simp [Instr.keyThatStays,hb]
 have hlen:(l1++(k,v')::l2).length=(l1++(k,v)::l2).length:=by simp
 have harr:(Gi 0 (l1++(k,v)::l2)).toArray.modify l1.length (fun e=>{e with key:= .int .i64 k,val:= .int .i64 v'})=(Gi 0 (l1++(k,v')::l2)).toArray:=by
  rw [<-hm];simp
 rw [hlen];simp only [CS]at hf;simp only [Instr.mapUpdate,Sem.run_bind,h1,Result.andThen_ok,h4,h3,Instr.findKey,h2,hf,Sem.run_pure,hkey,hks,h5,harr,D9]
end
end Go.Proofs.YtjcppneoncpdbaaGreatDoor
