import Derived.WalkSpells
import Derived.WalkLawsBesides
import Derived.Lib.Hide
import Derived.Deep.AppendLies
import Derived.Deep.RegionLaw
import Derived.Lib.BytesEntry
import Derived.BigQuiet
set_option linter.defProp false
open Int renaming ofNat_lt->uA
open List renaming getElem?_eq_getElem->Af,eq_nil_of_length_eq_zero->Ci,getElem?_take->CW,mem_map->Ba,replicate->BC,ext_getElem->Eu,getElem?_eq_some_iff->Cc,getElem?_map->BZ,length_take->Dw,map_toArray->MZ,map_cons->Cb,map_nil->Gv,take_succ_eq_append_getElem->Dk,getElem_mem->BI,flatMap_cons->Aey,take_succ_cons->JB,drop_eq_getElem_cons->Eg,all_cons->Al7,length_cons->BB,cons_append->Cj,all_eq_true->EH,map_set->Rh,set_append_right->TD,replicate_succ->UR,getElem_cons_succ->Ah,nil_append->EM,range->D9,length_append->AQ,ext_getElem?->Jk,getElem?_mapIdx->Na,getElem?_set->H9,getElem_set->KG,getElem?_eq_none->EW,getElem_take->Aez,getElem_of_mem->CB,filter_cons->Ae5,take_of_length_le->FM,drop_take->Ai5,take_take->Ai6,getElem_map->IU,getElem_range->VY,getD_cons_zero->zt
open Nat renaming le_refl->Ad,eq_zero_or_pos->Hu,mul_le_mul->IA,pow_succ->J9,mul_assoc->NI,mul_comm->GK,min_eq_left->Ny,pow_le_pow_right->Fj,div_div_eq_div_mul->uB,mod_eq_of_lt->Gl,lt_of_lt_of_le->BQ,mod_lt->TE,xor_lt_two_pow->VR
open Array renaming getElem?_eq_some_iff->AB,getElem?_push->FH
open Go.Value renaming int->Au,cells->uU
open Option renaming map_some->DT
open UInt64 renaming ofNat->Aw,toNat_ofNat'->J5
namespace Go.Proofs.YtkimaejoeapmnaaGreatDoor
open Go.RowKit
theorem O{p:Prop}(h:p:=by omega):p:=h
theorem U{p:Prop}(h:p:=by decide):p:=h
theorem Θ{p:Prop}(h:p:=by simp):p:=h
theorem Γ{p:Prop}(h:p:=by kernel_rfl):p:=h
theorem Ω{q p:Prop}(a:q)(h:q->p:=by intro h;omega):p:=h a
theorem Ψ{q r p:Prop}(a:q)(b:r)(h:q->r->p:=by intro h k;omega):p:=h a b
theorem Ξ{q r t p:Prop}(a:q)(b:r)(c:t)(h:q->r->t->p:=by intro h k l;omega):p:=h a b c
abbrev Δ(b i:Nat):Addr:=⟨b,i,none⟩
abbrev Φ(b:Nat):Addr:=⟨b,0,none⟩
abbrev η(w W:World):Prop:=Below w.heap.size w W
theorem τ{w W V:World}(h:Below w.heap.size w W)(k:Below W.heap.size W V):Below w.heap.size w V:=h.trans (k.mono h.size)
theorem χ(w:World)(o:Obj){r:Nat}(h:r<w.heap.size):(w.alloc o).heap[r]? =w.heap[r]?:=by
 show(w.heap.push o)[r]? =_
 rw [Array.getElem?_push_lt h,Array.getElem?_eq_getElem h]
abbrev Az(b:Nat):Value:= .pointer (some (Φ b))
def Yg{k n:Nat}(h:k<n):(k:Int)<(n:Int)/\decide ((k:Int)<(n:Int))=true/\decide (k<n)=true:=⟨uA.2 h,decide_eq_true (uA.2 h),decide_eq_true h⟩
def Aus{k n:Nat}(h:k<n):decide ((k:Int)<(n:Int))=true/\decide (k<n)=true:=(Yg h).2
def mQ{k n:Nat}(h:¬k<n):decide ((k:Int)<(n:Int))=false/\decide (k<n)=false:=⟨decide_eq_false (λe=>h (uA.1 e)),decide_eq_false h⟩
def eX(k:Nat)(h:k+1<9223372036854775808):IntKind.i64.wrap ((k:Int)+1)=(k:Int)+1:=IntWalk.i64_in _ O
def Rd(w:World)(A:Option Addr)(n:Nat)(xs:List Value):Prop:=
 xs.length=n/\(0<n->∃b off,A=some (Δ b off)/\b<w.heap.size/\∀j,j<n->w.cell? (Δ b (off+j))=xs[j]?)
def Rd.nil{w:World}{A:Option Addr}:Rd w A 0 []:=⟨rfl,λh=>absurd h O⟩
def Rd.at{w:World}{A:Option Addr}{n:Nat}{xs:List Value}(h:Rd w A n xs){k:Nat}(hk:k<n):
 ∃b off u,A=some (Δ b off)/\b<w.heap.size/\xs[k]? =some u/\w.cell? (Δ b (off+k))=some u:=by
 obtain⟨b,off,e,hb,hc⟩:=h.2 O;have hl:k<xs.length:=Ω h.1
 exact⟨b,off,xs[k],e,hb,Af hl,(hc k hk).trans (Af hl)⟩
def Rd.keep{w w':World}{A:Option Addr}{n:Nat}{xs:List Value}(h:Rd w A n xs)(hs:w.heap.size<=w'.heap.size)
 (hk:∀k,k<w.heap.size->w'.heap[k]? =w.heap[k]?):Rd w' A n xs:=
 ⟨h.1,λhn=>by
   obtain⟨b,off,e,hb,hc⟩:=h.2 hn;exact⟨b,off,e,O,λj hj=>(World.cell?_of_block (w:=w) (hk b hb)).trans (hc j hj)⟩⟩
def Rd.below{w w':World}{A:Option Addr}{n:Nat}{xs:List Value}(h:Rd w A n xs)(hb:η w w'):Rd w' A n xs:=
 h.keep hb.size hb.block
def bv(b:UInt8):Value:= .int .u8 (b.toNat:Int)
def wv(x:UInt64):Value:= .int .u64 (x.toNat:Int)
def Bs(w:World)(A:Option Addr)(n:Nat)(l:List UInt8):Prop:=Rd w A n (l.map bv)
def Ws(w:World)(A:Option Addr)(n:Nat)(l:List UInt64):Prop:=Rd w A n (l.map wv)
def Bs.len{w:World}{A:Option Addr}{n:Nat}{l:List UInt8}(h:Bs w A n l):l.length=n:=by
 have:=h.1;simpa using this
def Ws.len{w:World}{A:Option Addr}{n:Nat}{l:List UInt64}(h:Ws w A n l):l.length=n:=by
 have:=h.1;simpa using this
def Bs.below{w w':World}{A:Option Addr}{n:Nat}{l:List UInt8}(h:Bs w A n l)(hb:η w w'):Bs w' A n l:=Rd.below h hb
def Ws.below{w w':World}{A:Option Addr}{n:Nat}{l:List UInt64}(h:Ws w A n l)(hb:η w w'):Ws w' A n l:=Rd.below h hb
def Bs.at{w:World}{A:Option Addr}{n:Nat}{l:List UInt8}(h:Bs w A n l){k:Nat}(hk:k<n):
 ∃(hl:k<l.length)(b off:Nat),A=some (Δ b off)/\b<w.heap.size/\w.cell? (Δ b (off+k))=some (.int .u8 (l[k].toNat:Int)):=by
 have hl:k<l.length:=Ω h.len
 obtain⟨b,off,u,e,hb,hu,hc⟩:=Rd.at h hk;refine⟨hl,b,off,e,hb,?_⟩;rw [hc,<-hu];simp [bv,hl]
def Ws.at{w:World}{A:Option Addr}{n:Nat}{l:List UInt64}(h:Ws w A n l){k:Nat}(hk:k<n):
 ∃(hl:k<l.length)(b off:Nat),A=some (Δ b off)/\b<w.heap.size/\w.cell? (Δ b (off+k))=some (.int .u64 (l[k].toNat:Int)):=by
 have hl:k<l.length:=Ω h.len
 obtain⟨b,off,u,e,hb,hu,hc⟩:=Rd.at h hk;refine⟨hl,b,off,e,hb,?_⟩;rw [hc,<-hu];simp [wv,hl]
def CU{w:World}{base:Nat}{e:TypeId}{v:Value}{n:Nat}{xs:List Value}(h:w.ownsRow base e 1 v n xs):
 ∃A c,v= .slice A n c/\n<=c/\Rd w A n xs:=by
 obtain⟨h1,h2⟩:=h;rcases h2 with⟨rfl,rfl⟩| ⟨g,cap,cur,rfl,_,hg,hnc,_,hcs,htake⟩
 ·have:xs=[]:=Ci (by simpa using h1);subst this;exact⟨none,0,rfl,Ad _,Rd.nil⟩
 ·refine⟨_,_,rfl,hnc,by simpa using h1,λhn=>⟨g,0,rfl,?_,λj hj=> ?_⟩⟩
  ·exact(AB.1 hg).1
  ·rw [cell_of_row w g (0+j) cur e (0,0) hg,<-htake,CW,if_pos O];simp
def Dr(w w':World):Prop:=∃q,w'=w.drewN q
def Dr.refl(w:World):Dr w w:=⟨0,rfl⟩
def Dr.one(w:World)(q:Nat):Dr w (w.drewN q):=⟨q,rfl⟩
def Dr.two(w:World)(q r:Nat):Dr w ((w.drewN q).drewN r):=⟨q+r,World.drewN_drewN _ _ _⟩
def Dr.trans{a b c:World}(h:Dr a b)(k:Dr b c):Dr a c:=by
 obtain⟨q,rfl⟩:=h;obtain⟨r,rfl⟩:=k;exact Dr.two _ _ _
def Dr.below{w w':World}(h:Dr w w')(B:Nat):Below B w w':=by
 obtain⟨q,rfl⟩:=h;exact⟨rfl,rfl,rfl,Ad _,λ_ _=>rfl⟩
def YU{w:World}{base g cap:Nat}{e:TypeId}{n:Nat}{xs:List Value}(h:w.ownsRow base e 1 (.slice (some (Φ g)) n cap) n xs){k:Nat}(hk:k<n):∃u,w.cell? (Δ g k)=some u:=by
 rw [h.cellAt k O];exact⟨_,Af (Ω h.1)⟩
def Abn{v u:Value}(h:v=u):Ending.returned v=Ending.returned u:=by rw [h]
def Hm(l:List UInt8):∀u∈l.map bv,u.oneCell'=true:=by
 intro u hu;obtain⟨_,_,rfl⟩:=Ba.1 hu;rfl
def PW(l:List UInt64):∀u∈l.map wv,u.oneCell'=true:=by
 intro u hu;obtain⟨_,_,rfl⟩:=Ba.1 hu;rfl
def block_lt_of_cell{w:World}{a:Addr}{v:Value}(h:w.cell? a=some v):a.block<w.heap.size:=by
 rcases Nat.lt_or_ge a.block w.heap.size with hlt| hge
 ·exact hlt
 ·rw [World.cell?,Array.getElem?_eq_none hge]at h;cases h
def PX(n:Nat):(madeCells (Au .u8 0).cells (n*1)).toList=(BC n (0:UInt8)).map bv:=by
 apply Eu
 ·simp [madeCells]
 ·intro i h1 h2;simp [madeCells,uU,Nat.mod_one,bv]
def Lj(n:Nat):(madeCells (Au .u64 0).cells (n*1)).toList=(BC n (0:UInt64)).map wv:=by
 apply Eu
 ·simp [madeCells]
 ·intro i h1 h2;simp [madeCells,uU,Nat.mod_one,wv]
def Am5 {P : Program} {w : World} {A : Option Addr} {n : Nat} {l : List UInt8} (h : Bs w A n l) (c : Nat) :
    (Extern.Bytes.bytesOf (.slice A n c)).run P w = .ok ⟨l.toArray⟩ w := by
  have hlen := h.len
  rcases A with _ | ad
  · have hn : n = 0 := by
      rcases Hu n with h0 | h0
      · exact h0
      · obtain ⟨_, _, e, _⟩ := h.2 h0; cases e
    subst hn
    have hl : l = [] := Ci hlen
    subst hl
    rfl
  · have key := Lib.run_loadBytesX (P := P) w (l.map λb => (b.toNat : Int)) ad .empty (λj x hx => by
      have hjl : j < l.length := by
        have := (Cc.1 hx).1
        simpa using this
      obtain ⟨hl, b, off, e, hb, hc⟩ := h.at (k := j) O
      injection e with e
      subst e
      rw [Addr.add_lit, hc]
      rw [BZ, Af hjl] at hx
      simp only [DT, Option.some.injEq] at hx
      rw [hx])
    simp only [List.length_map, hlen] at key
    show (Extern.Bytes.loadBytes ad n .empty).run P w = _
    rw [key]
    congr 1
    apply ByteArray.ext
    show (#[] : Array UInt8) ++ (Lib.bytesOf _).toArray = l.toArray
    simp [Lib.bytesOf, Function.comp_def]
def Ll {P : Program} {w : World} {src e dst : TypeId} (hs : P.underlying src = some (.slice e)) (he : P.underlying e = some (.int .u8)) (hd : P.underlying dst = some .string)
    {A : Option Addr} {n : Nat} {l : List UInt8} (h : Bs w A n l) (c : Nat) : (convert src dst (.slice A n c)).run P w = .ok (.string ⟨l.toArray⟩) w := by
  have hlen := h.len
  rcases A with _ | ad
  · have hn : n = 0 := by
      rcases Hu n with h0 | h0
      · exact h0
      · obtain ⟨_, _, e, _⟩ := h.2 h0; cases e
    subst hn
    have hl : l = [] := Ci hlen
    subst hl
    exact run_convert_bytes_nil w src e hs he 0 c dst hd
  · have hl : (loadCells ad n).run P w = .ok ((l.map λb => (b.toNat : Int)).map (Au .u8)).toArray w := by
      have := run_loadCells_list (P := P) w ad ((l.map λb => (b.toNat : Int)).map (Au .u8)) (λj v hj => by
        have hjl : j < l.length := by
          have := (Cc.1 hj).1
          simpa using this
        obtain ⟨hl, b, off, e, hb, hc⟩ := h.at (k := j) O
        injection e with e
        subst e
        rw [Addr.add_lit, hc]
        simp only [BZ, Af hjl, DT, Option.some.injEq] at hj
        rw [hj])
      simpa [hlen] using this
    rw [run_convert_bytes_string w src dst e _ n c hs he hd, run_bytesToString w _ n c _ hl, foldl_push_bytes]
    congr 2
    apply ByteArray.ext
    show (#[] : Array UInt8) ++ _ = l.toArray
    simp [Function.comp_def]
structure MH(P:Program)(t e:TypeId)(z:Value)(bytes:Nat):Prop where
 ht:P.underlying t=some (.slice e)
 hi:(P.info? e).map (λi=>(i.zero,i.size,i.bytes))=some (some z,1,bytes)
 hz:z.cells.size=1
def UX(A:Option Addr)(c lo:Nat):Option Addr:=if c=lo then A else A.map (·.add lo)
def Rd.sub{w:World}{A:Option Addr}{n:Nat}{xs:List Value}(h:Rd w A n xs){c lo hi:Nat}(h1:lo<=hi)(h2:hi<=n)(hc:n<=c):Rd w (UX A c lo) (hi-lo) ((xs.drop lo).take (hi-lo)):=by
 refine⟨by rw [Dw,List.length_drop,h.1];omega,λh0=> ?_⟩;obtain⟨b,off,rfl,hb,hcl⟩:=h.2 O;refine⟨b,off+lo,?_,hb,λj hj=> ?_⟩
 ·rw [UX,if_neg O];simp [Addr.add_lit]
 ·rw [Nat.add_assoc,hcl (lo+j) O,CW,if_pos hj,List.getElem?_drop]
section
variable{P:Program}{t e:TypeId}{z:Value}{bytes:Nat}
def MH.PY(T:MH P t e z bytes)(w:World):(sizeOf e).run P w= .ok 1 w:=by
 obtain⟨i,hi,hz0,hz1,hz2⟩:=info_parts T.hi;simp [sizeOf,typeInfo,hi,hz1]
def zH(T:MH P t e z bytes)(A:Option Addr)(n c:Nat)(k1 k2:IntKind)(lo hi:Nat)(h1:lo<=hi)(h2:hi<=c)(w:World):
 (Instr.slice t (.slice A n c) (some (.int k1 (lo:Int))) (some (.int k2 (hi:Int))) none).run P w= .ok (.slice (UX A c lo) (hi-lo) (c-lo)) w:=by
 have e1:=run_sliceBound (P:=P) (w:=w) k2 (hi:Int) c .sliceAcap O O;have e2:=run_sliceBound (P:=P) (w:=w) k1 (lo:Int) hi .sliceB O O;simp [Instr.slice,run_underlying T.ht,Instr.sliceBounds,e1,e2,T.PY,UX]
def nS(T:MH P t e z bytes)(A:Option Addr)(n c:Nat)(k1:IntKind)(lo:Nat)(h1:lo<=n)(w:World):
 (Instr.slice t (.slice A n c) (some (.int k1 (lo:Int))) none none).run P w= .ok (.slice (UX A c lo) (n-lo) (c-lo)) w:=by
 have e2:=run_sliceBound (P:=P) (w:=w) k1 (lo:Int) n .sliceB O O;simp [Instr.slice,run_underlying T.ht,Instr.sliceBounds,e2,T.PY,UX]
end
def Abp {P : Program} {t e : TypeId} {z : Value} {bytes : Nat} (T : MH P t e z bytes) (ty : TypeId) {w : World} {base : Nat} {v : Value} {n : Nat} {xs news : List Value}
    (hown : w.ownsRow base e 1 v n xs) {A : Option Addr} {m : Nat} (hr : Rd w A m news)
    (h1 : ∀ u ∈ news, u.oneCell' = true) (hm : n + m <= 1000000000) (hby : bytes <= 64) (hbase : base <= w.heap.size) (c : Nat) :
    ∃ v' w', (Builtin.append_ #[t, t] ty #[v, .slice A m c]).run P w = .ok v' w' /\ w'.ownsRow base e 1 v' (n + m) (xs ++ news) /\ Below base w w' := by
  obtain ⟨i, hi, hz0, hz1, hz2⟩ := info_parts T.hi
  rcases A with _ | ad
  · have h0 : m = 0 := by
      rcases Hu m with h0 | h0
      · exact h0
      · obtain ⟨_, _, e, _⟩ := hr.2 h0; cases e
    subst h0
    have hn : news = [] := Ci hr.1
    subst hn
    refine ⟨v, w, ?_, by simpa using hown, Below.refl _ _⟩
    rcases hown.2 with ⟨rfl, rfl⟩ | ⟨g, cap, cur, rfl, _, _, hnc, _⟩
    · simp [Builtin.append_, run_underlying T.ht, sizeOf, typeInfo, hi, Builtin.lenOf, Builtin.firstCells]
    · simp [Builtin.append_, run_underlying T.ht, sizeOf, typeInfo, hi, Builtin.lenOf, Builtin.firstCells, hnc, storeCells]
  · have hcells : ∀ j u, news[j]? = some u -> w.cell? (ad.add j) = some u := by
      intro j u hu
      have hj : j < m := by
        have := (Cc.1 hu).1
        have := hr.1
        omega
      obtain ⟨b, off, e, _, hc⟩ := hr.2 O
      injection e with e
      subst e
      rw [Addr.add_lit, hc j hj, hu]
    have hmul : (n + m) * bytes <= 1000000000 * 64 := IA hm hby
    obtain ⟨v', w', hrun, h2, h3, _⟩ := run_append_own (P := P) w base t ty e i z 1 bytes T.ht hi hz0 hz1 hz2 T.hz U v n xs hown ad m c news (by simp [hr.1]) hcells h1
      (by unfold maxLen; omega) O hbase
    exact ⟨v', w', hrun, h2, (Below.refl _ _).grown h3 hbase (λk hk => (hown.lt k hk).1)⟩
def TN{P:Program}{ops:Array Oper}{rest:List Oper}{o:Oper}{a:Act}{w:World}{Q:Exit->Act->World->Prop}(hgd:o.guard=none)(s x:Operand)(t:TypeId)
 (ho:o.op= .call {callee:= .builtin .append,args:= #[s,x],argTypes:= #[t,t]}){e:TypeId}{z:Value}{bytes:Nat}(T:MH P t e z bytes)
 (base:Nat)(v:Value)(n:Nat)(xs news:List Value)(hs:a.eval s=v)(hown:w.ownsRow base e 1 v n xs)(A:Option Addr)(m c:Nat)(hx:a.eval x= .slice A m c)(hr:Rd w A m news)
 (h1:∀u∈news,u.oneCell'=true)(hm:n+m<=1000000000)(hby:bytes<=64)(hbase:base<=w.heap.size)
 (h:∀v' w',w'.ownsRow base e 1 v' (n+m) (xs++news)->Below base w w'->wpList P ops Q rest (a.put o.dst v') w'):wpList P ops Q (o::rest) a w:=by
 refine wpList_plain hgd λK hK=> ?_
 obtain⟨v',w',hrun,h2,h3⟩:=Abp T o.type hown hr h1 hm hby hbase c;unfold Oper.wp execOp;simp only [ho,resolve,invoke,builtin,Sem.run_bind,Sem.run_pure,Result.andThen_ok,MZ,Cb,Gv,hs,hx,hrun];exact hK _ _ (h v' w' h2 h3)
def uY{P:Program}{t e:TypeId}{z:Value}{bytes:Nat}(T:MH P t e z bytes)(ty:TypeId){w wr:World}{base:Nat}{v:Value}{n:Nat}{xs news:List Value}
 (hown:wr.ownsRow base e 1 v n xs)(hw:w.heap=wr.heap.push (.cells news.toArray e))(hos:w.os=wr.os)(htape:w.tape=wr.tape)(hout:w.output=wr.output)
 (h1:∀u∈news,u.oneCell'=true)(hm:n+news.length<=1000000000)(hby:bytes<=64)(hbase:base<=wr.heap.size)(m c:Nat)(hmn:m=news.length):
 ∃v' w',(Builtin.append_ #[t,t] ty #[v,.slice (some (Φ wr.heap.size)) m c]).run P w= .ok v' w'/\w'.ownsRow base e 1 v' (n+m) (xs++news)/\Below base wr w':=by
 subst hmn;obtain⟨i,hi,hz0,hz1,hz2⟩:=info_parts T.hi;have hb1:η wr w:=⟨hos,htape,hout,by rw [hw];simp,λk hk=>by rw [hw,FH,if_neg O]⟩;have hown':w.ownsRow base e 1 v n xs:=by
  refine⟨hown.1,?_⟩;rcases hown.2 with h| ⟨g,cap,cur,h1,h2,h3,h4⟩
  ·exact .inl h
  ·exact .inr ⟨g,cap,cur,h1,h2,by rw [hb1.block g (AB.1 h3).1];exact h3,h4⟩
 have hcells:∀j u,news[j]? =some u->w.cell? (((Φ wr.heap.size):Addr).add j)=some u:=by
  intro j u hu;rw [show((Φ wr.heap.size):Addr).add j=(Δ wr.heap.size (0+j)) from Addr.add_lit _ _ _];rw [cell_of_row w wr.heap.size (0+j) news.toArray e (0,0) (by rw [hw,FH,if_pos rfl])];simpa using hu
 have hmul:(n+news.length)*bytes<=1000000000*64:=IA hm hby;obtain⟨v',w',hrun,h2,h3,_⟩:=run_append_own (P:=P) w base t ty e i z 1 bytes T.ht hi hz0 hz1 hz2 T.hz U v n xs hown' _ news.length c news Θ hcells h1
  (by unfold maxLen;omega) O (by rw [hw];simp;omega)
 refine⟨v',w',hrun,h2,(hb1.mono hbase).trans ?_⟩;exact(Below.refl _ _).grown h3 (by rw [hw];simp;omega) (λk hk=>(hown'.lt k hk).1)
def jq{P:Program}{ops:Array Oper}{o:Oper}{a:Act}{w:World}{K:Act->World->Prop}{Q:Exit->Act->World->Prop}{E:Prop}(hgd:o.guard=none)(s x:Operand)(t:TypeId)
 (ho:o.op= .call {callee:= .builtin .append,args:= #[s,x],argTypes:= #[t,t]}){e:TypeId}{z:Value}{bytes:Nat}(T:MH P t e z bytes)
 (wr:World)(base:Nat)(v:Value)(n:Nat)(xs news:List Value)(hs:a.eval s=v)(hown:wr.ownsRow base e 1 v n xs)(hw:w.heap=wr.heap.push (.cells news.toArray e))
 (hos:w.os=wr.os)(htape:w.tape=wr.tape)(hout:w.output=wr.output)
 (m c:Nat)(hx:a.eval x= .slice (some (Φ wr.heap.size)) m c)(hmn:m=news.length)
 (h1:∀u∈news,u.oneCell'=true)(hm:n+news.length<=1000000000)(hby:bytes<=64)(hbase:base<=wr.heap.size)
 (h:∀v' w',w'.ownsRow base e 1 v' (n+m) (xs++news)->Below base wr w'->K (a.put o.dst v') w'):
 if Region.wanted o (yielded ops a.tmps)=true then Oper.wp P o a w K Q else E:=by
 have hwt:Region.wanted o (yielded ops a.tmps)=true:=by simp [Region.wanted,hgd]
 rw [if_pos hwt];obtain⟨v',w',hrun,h2,h3⟩:=uY T o.type hown hw hos htape hout h1 hm hby hbase m c hmn;unfold Oper.wp execOp;simp only [ho,resolve,invoke,builtin,Sem.run_bind,Sem.run_pure,Result.andThen_ok,MZ,Cb,Gv,hs,hx,hrun];exact h v' w' h2 h3
def DK(b:UInt8):Bool:=b.toNat<16
def TP{α:Type}(p:α->Bool)(l:List α)(k:Nat)(h:k<l.length)(ha:(l.take k).all p=true)(hp:p l[k]=true):(l.take (k+1)).all p=true:=by
 rw [Dk h,List.all_append,ha];simp [hp]
def Wh{α:Type}(p:α->Bool)(l:List α)(k:Nat)(h:k<l.length)(hp:p l[k]=false):l.all p=false:=by
 rw [List.all_eq_false];exact⟨l[k],BI h,by simp [hp]⟩
def Wi{b:UInt8}(h:b.toNat<16):DK b=true:=by simp [DK,h]
def Aff{b:UInt8}(h:¬b.toNat<16):DK b=false:=by simp [DK];omega
def Dn(l:List UInt8):List UInt8:=l.flatMap λb=>[b/16,b%16]
def YV(l:List UInt8)(k:Nat)(h:k<l.length):Dn (l.take (k+1))=Dn (l.take k)++[l[k]/16,l[k]%16]:=by
 rw [Dk h];simp only [Dn,List.flatMap_append,Aey,List.flatMap_nil,List.append_nil]
def Ub(s:ByteArray)(k:Nat)(h:k<s.size):Dn (s.data.toList.take (k+1))=Dn (s.data.toList.take k)++[s[k]/16,s[k]%16]:=by
 have hl:k<s.data.toList.length:=by simpa using h
 rw [YV _ k hl];rfl
def MI(l:List UInt8):(Dn l).length=2*l.length:=by
 induction l with
 | nil=>rfl
 | cons a l ih=>simp [Dn]at ih⊢;omega
def Am6(b:UInt8):Au .u8 ((b.toNat:Int)/16)=bv (b/16):=by simp [bv]
def Am7(b:UInt8):Au .u8 ((b.toNat:Int)%16)=bv (b%16):=by simp [bv]
def Ajc(b:UInt8):Au .u8 (IntKind.u8.wrap ((b.toNat:Int)/16))=bv (b/16):=by
 have:=b.toNat_lt;rw [<-Am6,IntWalk.u8_in _ O]
def Ajd(b:UInt8):Au .u8 ((b.toNat:Int).tmod 16)=bv (b%16):=by
 rw [<-Am7,Int.tmod_eq_emod_of_nonneg O]
def common:List UInt8->List UInt8->Nat
 | a::as,b::bs=>if a=b then common as bs+1 else 0
 | _,_=>0
def Je:∀(a b:List UInt8),common a b<=a.length
 | [],_=>by simp [common]
 | a::as,[]=>by simp [common]
 | a::as,b::bs=>by
   simp only [common];have:=Je as bs;split<;>simp;omega
def Ro:∀(a b:List UInt8),common a b=common b a
 | [],[]=>rfl
 | [],_::_=>by simp [common]
 | _::_,[]=>by simp [common]
 | a::as,b::bs=>by
   simp only [common];rw [Ro as bs];by_cases h:a=b
   ·subst h;simp
   ·simp [h,Ne.symm h]
def Fq(a b:List UInt8):common a b<=b.length:=by rw [Ro];exact Je b a
def alike(k:Nat)(a b:List UInt8):Prop:=k<=a.length/\k<=b.length/\a.take k=b.take k
def uZ(a b:List UInt8):alike 0 a b:=⟨Nat.zero_le _,Nat.zero_le _,by simp⟩
def Nh:∀(k:Nat)(a b:List UInt8),alike k a b->common a b=k+common (a.drop k) (b.drop k)
 | 0,a,b,_=>by simp
 | k+1,[],b,h=>by have:=h.1;simp at this
 | k+1,a::as,[],h=>by have:=h.2.1;simp at this
 | k+1,a::as,b::bs,h=>by
   obtain⟨h1,h2,h3⟩:=h;simp only [JB,List.cons.injEq]at h3;obtain⟨rfl,h3⟩:=h3;have:=Nh k as bs ⟨by simpa using h1,by simpa using h2,h3⟩;simp [common,this];omega
def ve{k:Nat}{a b:List UInt8}(h:alike k a b)(ha:k<a.length)(hb:k<b.length)(e:a[k]=b[k]):alike (k+1) a b:=
 ⟨ha,hb,by rw [Dk ha,Dk hb,h.2.2,e]⟩
def Yh{k:Nat}{a b:List UInt8}(h:alike k a b)(ha:k<a.length)(hb:k<b.length)(e:a[k]≠b[k]):common a b=k:=by
 rw [Nh k a b h,Eg ha,Eg hb];simp [common,e]
def Oy{k:Nat}{a b:List UInt8}(h:alike k a b)(ha:a.length=k):common a b=k:=by
 rw [Nh k a b h,List.drop_of_length_le O];simp [common]
def Uc{k:Nat}{a b:List UInt8}(h:alike k a b)(hb:b.length=k):common a b=k:=by
 rw [Ro];exact Oy ⟨h.2.1,h.1,h.2.2.symm⟩ hb
def nT{a b:UInt8}(h:a=b):(((a.toNat:Int))==(b.toNat:Int))=true:=by simp [h]
def jr{a b:UInt8}(h:a≠b):(((a.toNat:Int))==(b.toNat:Int))=false:=by
 rw [beq_eq_false_iff_ne];intro e;exact h (UInt8.toNat_inj.1 O)
def Fa:List UInt8->Nat
 | []=>0
 | d::l=>d.toNat+16*Fa l
def UY:∀(l:List UInt8),l.all DK=true->Fa l<16^l.length
 | [],_=>by simp [Fa]
 | d::l,h=>by
   simp only [Al7,Bool.and_eq_true]at h;have:=UY l h.2;have hd:d.toNat<16:=by simpa [DK]using h.1
   simp only [Fa,BB,J9];omega
def UZ:∀(l m:List UInt8),Fa (l++m)=Fa l+16^l.length*Fa m
 | [],m=>by simp [Fa]
 | d::l,m=>by
   simp only [Cj,Fa,UZ l m,BB,J9];have:16*(16^l.length*Fa m)=16^l.length*16*Fa m:=by rw [<-NI,GK 16]
   omega
def Yi(l:List UInt8)(k:Nat)(h:k<l.length):Fa (l.take (k+1))=Fa (l.take k)+16^k*l[k].toNat:=by
 rw [Dk h,UZ];simp [Fa,Ny (Nat.le_of_lt h)]
def Ama(k:Nat):16^(k+1)=2^(4+4*k):=by
 rw [show(16:Nat)=2^4 from rfl,<-Nat.pow_mul];congr 1;omega
def Va(p:UInt8->Bool)(l:List UInt8)(k:Nat)(h:l.all p=true):(l.take k).all p=true:=by
 rw [EH]at h⊢;exact λx hx=>h x (List.mem_of_mem_take hx)
def Vb(p:UInt8->Bool)(l:List UInt8)(k:Nat)(h:l.all p=true):(l.drop k).all p=true:=by
 rw [EH]at h⊢;exact λx hx=>h x (List.mem_of_mem_drop hx)
def Y1{l:List UInt8}{k:Nat}(h:l.all DK=true)(hk:k<l.length):l[k].toNat<16:=by
 rw [EH]at h;simpa [DK]using h l[k] (BI hk)
def Abq(l:List UInt8)(n k:Nat)(hn:n<=15)(hk:k<n)(hl:k<l.length)(Ud:l.all DK=true):
 Au IntKind.u64 (bits BinOp.or IntKind.u64 ((n:Int)+16*(Fa (l.take k):Int)) (IntKind.u64.wrap (IntKind.u64.wrap (l[k].toNat:Int)*2^(4+4*k))))=
  Au IntKind.u64 ((n+16*Fa (l.take (k+1)):Nat):Int):=by
 have hd:=Y1 Ud hl;have hp:=UY (l.take k) (Va _ _ _ Ud);rw [Dw,Ny O]at hp;have Axc:16^(k+1)<=16^15:=Fj U O;have hs:16^(k+1)=16*16^k:=by rw [J9,GK]
 have hX:n+16*Fa (l.take k)<16^(k+1):=O
 have hdm:l[k].toNat*16^(k+1)<=15*16^(k+1):=Nat.mul_le_mul_right _ O;have h15:(16:Nat)^15=1152921504606846976:=by decide
 congr 1;have e1:IntKind.u64.wrap (l[k].toNat:Int)=(l[k].toNat:Int):=IntWalk.u64_in _ O;have e2:(l[k].toNat:Int)*2^(4+4*k)=((l[k].toNat*16^(k+1):Nat):Int):=by rw [Ama];simp
 rw [e1,e2,IntWalk.u64_in _ O];have e3:(n:Int)+16*(Fa (l.take k):Int)=((n+16*Fa (l.take k):Nat):Int):=by simp
 rw [e3,u64_or_nat _ _ O O];congr 1;rw [Yi l k hl];rw [Ama]at hX hs⊢;have hor:=Nat.two_pow_add_eq_or_of_lt hX l[k].toNat;rw [Nat.or_comm,GK,<-hor,hs];have:16*16^k*l[k].toNat=16*(16^k*l[k].toNat):=NI _ _ _;omega
def digits:Nat->Nat->List UInt8
 | 0,_=>[]
 | k+1,n=>UInt8.ofNat (n%16)::digits k (n/16)
def digits_length:∀(k n:Nat),(digits k n).length=k
 | 0,_=>rfl
 | k+1,n=>by simp [digits,digits_length k]
def Xv:∀(k n:Nat),digits (k+1) n=digits k n++[UInt8.ofNat (n/16^k%16)]
 | 0,n=>by simp [digits]
 | k+1,n=>by
   rw [digits,Xv k (n/16),digits,Cj,uB,J9,GK 16]
def Vd:∀(l:List UInt8),l.all DK=true->digits l.length (Fa l)=l
 | [],_=>rfl
 | d::l,h=>by
   simp only [Al7,Bool.and_eq_true]at h;have hd:d.toNat<16:=by simpa [DK]using h.1
   rw [BB,Fa,digits,show(d.toNat+16*Fa l)/16=Fa l by omega,Vd l h.2,show(d.toNat+16*Fa l)%16=d.toNat by omega];simp
def zI(n:Nat):Au .u8 ((n:Int)%16)=bv (UInt8.ofNat (n%16)):=by
 simp only [bv,UInt8.toNat_ofNat'];rw [Gl (show n%16<2^8 by omega)];simp
def jv(k n:Nat)(y:Nat)(hk:k<n):
 (((digits k y++BC (n-k) (0:UInt8)).map bv).set k (bv (UInt8.ofNat (y/16^k%16))))=(digits (k+1) y++BC (n- (k+1)) (0:UInt8)).map bv:=by
 rw [Xv,<-Rh,TD _ _ (by rw [digits_length];omega),digits_length];obtain⟨r,hr⟩:∃r,n-k=r+1:=⟨n-k-1,O⟩;rw [hr,show n- (k+1)=r by omega,UR];simp
def pairs:List UInt8->List UInt8
 | a::b::l=>(a*16+b)::pairs l
 | _=>[]
def N7:∀(l:List UInt8),(pairs l).length=l.length/2
 | []=>rfl
 | [_]=>by simp [pairs]
 | a::b::l=>by simp [pairs,N7 l];omega
def Xw:∀(i:Nat)(l:List UInt8)(_:i%2=0)(h:i+1<l.length),pairs (l.take (i+2))=pairs (l.take i)++[l[i]*16+l[i+1]]
 | 0,a::b::l,_,_=>by simp [pairs]
 | 1,_,hi,_=>by simp at hi
 | i+2,a::b::l,hi,h=>by
   have:=Xw i l O (by simp at h;omega);simp only [JB,pairs,Cj,Ah];rw [this]
 | 0,[],_,h=>by simp at h
 | 0,[_],_,h=>by simp at h
 | i+2,[],_,h=>by simp at h
 | i+2,[_],_,h=>by simp at h
def vg(k:Nat)(l:List UInt8)(h:2*k+1<l.length):pairs (l.take (2*(k+1)))=pairs (l.take (2*k))++[l[2*k]*16+l[2*k+1]]:=
 Xw (2*k) l O h
def YW(l:List UInt8):pairs (l.take (2*(l.length/2)))=pairs l:=by
 have aux:∀(l:List UInt8),pairs (l.take (2*(l.length/2)))=pairs l:=by
  intro l;induction l using pairs.induct with
  | case1 a b l ih=>
    rw [show 2*((a::b::l).length/2)=2*(l.length/2)+1+1 by simp;omega];simp [pairs,ih]
  | case2 l h=>
    rcases l with _| ⟨a,_| ⟨b,l⟩⟩
    ·rfl
    ·simp [pairs]
    ·exact absurd rfl (h a b l)
 exact aux l
def nU(a b:UInt8)(ha:a.toNat<16)(hb:b.toNat<16):(a*16+b)/16=a/\(a*16+b)%16=b:=by
 have h1:(a*16+b).toNat=a.toNat*16+b.toNat:=by simp [UInt8.toNat_add,UInt8.toNat_mul];omega
 constructor
 ·apply UInt8.toNat_inj.1;rw [UInt8.toNat_div,h1];simp;omega
 ·apply UInt8.toNat_inj.1;rw [UInt8.toNat_mod,h1];simp;omega
def YX(l:List UInt8):(Dn l).all DK=true:=by
 rw [EH];intro x hx;obtain⟨b,_,hx⟩:=List.mem_flatMap.1 hx;have:=b.toNat_lt;simp only [List.mem_cons,List.not_mem_nil,or_false]at hx;rcases hx with rfl| rfl<;>simp [DK]<;>omega
def Ue:∀(l:List UInt8),pairs (Dn l)=l
 | []=>rfl
 | a::l=>by
   have:=Ue l;simp only [Dn]at this;simp only [Dn,Aey,Cj,EM,pairs,this];congr 1;apply UInt8.toNat_inj.1;have:=a.toNat_lt;simp [UInt8.toNat_add,UInt8.toNat_mul];omega
def Jv(l:List UInt8):Bool:=decide (l.length%2=0)&&l.all DK
def nV(l:List UInt8)(k h:Nat)(hk:k<h)(hl:2*k+1<l.length)(hh:h=l.length/2):
 (((pairs (l.take (2*k))++BC (h-k) (0:UInt8)).map bv).set k (bv (l[2*k]*16+l[2*k+1])))=(pairs (l.take (2*(k+1)))++BC (h- (k+1)) (0:UInt8)).map bv:=by
 have hlen:(pairs (l.take (2*k))).length=k:=by rw [N7,Dw];omega
 rw [vg k l hl,<-Rh,TD _ _ O,hlen];obtain⟨r,hr⟩:∃r,h-k=r+1:=⟨h-k-1,O⟩;rw [hr,show h- (k+1)=r by omega,UR];simp
def zJ(a b:UInt8):Au .u8 (((a.toNat:Int)*16+(b.toNat:Int))%256)=bv (a*16+b):=by
 simp only [bv,UInt8.toNat_add,UInt8.toNat_mul];congr 1;have h1:=a.toNat_lt;have h2:=b.toNat_lt;simp
def Ve(l:List UInt8)(k:Nat)(hk:l.length<=k)(h:l.all DK=true):Fa l<16^k:=
 BQ (UY l h) (Fj U hk)
def LV:(16:Nat)^15=1152921504606846976:=by decide
def vz(l:List UInt8):Jv (Dn l)=true:=by
 simp only [Jv,MI,YX,Bool.and_true,decide_eq_true_eq];omega
def unpack_pack(l:List UInt8)(h15:l.length<=15)(h:l.all DK=true):
 (l.length+16*Fa l)%16=l.length/\(l.length+16*Fa l)/16=Fa l/\Fa l/16^l.length=0/\digits l.length (Fa l)=l/\l.length+16*Fa l<18446744073709551616:=by
 have h1:=UY l h;have h2:=Ve l 15 h15 h;rw [LV]at h2;exact⟨O,O,Nat.div_eq_of_lt h1,Vd l h,O⟩
def YY{a b:UInt8}(h1:a/16=b/16)(h2:a%16=b%16):a=b:=by
 apply UInt8.toNat_inj.1;have e1:=congrArg UInt8.toNat h1;have e2:=congrArg UInt8.toNat h2;simp at e1 e2;omega
def eY(a:UInt8)(l:List UInt8):Dn (a::l)=a/16::a%16::Dn l:=rfl
def nX:Dn []=[]:=rfl
def nY:∀(a b:List UInt8),common (Dn a) (Dn b)=2*common a b\/common (Dn a) (Dn b)=2*common a b+1
 | [],_=>by simp [nX,common]
 | a::as,[]=>by simp [eY,nX,common]
 | a::as,b::bs=>by
   have ih:=nY as bs;simp only [eY,common];by_cases h1:a/16=b/16
   ·by_cases h2:a%16=b%16
    ·have e:=YY h1 h2;subst e;simp only [if_true];omega
    ·have e:a≠b:=λe=>h2 (by rw [e])
     rw [if_pos h1,if_neg h2,if_neg e];omega
   ·have e:a≠b:=λe=>h1 (by rw [e])
    rw [if_neg h1,if_neg e];omega
def TQ:∀(a b:List UInt8),common a (a++b)=a.length
 | [],_=>by simp [common]
 | a::as,b=>by simp [common,TQ as b]
def Rq:∀(a b:List UInt8),a.take (common a b)=b.take (common a b)
 | [],_=>by simp [common]
 | _::_,[]=>by simp [common]
 | a::as,b::bs=>by
   simp only [common];by_cases h:a=b
   ·rw [if_pos h,JB,JB,h,Rq as bs]
   ·rw [if_neg h];rfl
def Xx:∀(a b:List UInt8)(h1:common a b<a.length)(h2:common a b<b.length),a[common a b]≠b[common a b]
 | [],_,h1,_=>by simp at h1
 | _::_,[],_,h2=>by simp at h2
 | a::as,b::bs,h1,h2=>by
   by_cases h:a=b
   ·have e:common (a::as) (b::bs)=common as bs+1:=by simp [common,h]
    have h1':common as bs<as.length:=by simp [e]at h1;exact h1
    have h2':common as bs<bs.length:=by simp [e]at h2;exact h2
    have ih:=Xx as bs h1' h2';simp only [e,Ah];exact ih
   ·have e:common (a::as) (b::bs)=0:=by simp [common,h]
    simp only [e,List.getElem_cons_zero];exact h
def leB(x:UInt64)(i:Nat):UInt8:=UInt8.ofNat (x.toNat/256^i%256)
def SQ(x:UInt64)(i:Nat):(leB x i).toNat=x.toNat/256^i%256:=by
 unfold leB;rw [UInt8.toNat_ofNat'];exact Gl (TE _ U)
def Wj(x:UInt64):List UInt8:=(D9 8).map (leB x)
def LW(x:UInt64):(Wj x).length=8:=by simp [Wj]
def vC(x:UInt64)(i:Nat)(h:i<8):(Wj x)[i]? =some (leB x i):=by simp [Wj,h]
def leBytes:List UInt64->List UInt8
 | []=>[]
 | x::l=>Wj x++leBytes l
def leBytes_length:∀l:List UInt64,(leBytes l).length=8*l.length
 | []=>rfl
 | x::l=>by rw [leBytes,AQ,LW,leBytes_length l,BB];omega
def Ip:∀(l:List UInt64)(k i:Nat)(hk:k<l.length)(_:i<8),(leBytes l)[8*k+i]? =some (leB l[k] i)
 | [],_,_,hk,_=>by simp at hk
 | x::l,0,i,_,hi=>by
   rw [leBytes,List.getElem?_append_left (by rw [LW];omega)];simpa using vC x i hi
 | x::l,k+1,i,hk,hi=>by
   rw [leBytes,List.getElem?_append_right (by rw [LW];omega),LW,show 8*(k+1)+i-8=8*k+i by omega];exact Ip l k i (by simpa using hk) hi
def le_step(x:UInt64)(i:Nat):x.toNat%256^i+(leB x i).toNat*256^i=x.toNat%256^(i+1):=by
 rw [SQ,J9,Nat.mod_mul];rw [GK]
def Am8(x:UInt64):x.toNat%256^8=x.toNat:=Gl (by have:=x.toNat_lt;simpa using this)
def Yj(l:List UInt64)(k:Nat)(n:UInt64)(i:Nat):List UInt8:=(leBytes l).mapIdx λj b=>if 8*k<=j/\j<8*k+i then leB n (j-8*k)else b
def Xy(l:List UInt64)(k:Nat)(n:UInt64)(i:Nat):(Yj l k n i).length=8*l.length:=by simp [Yj,leBytes_length]
def Abr(l:List UInt64)(k:Nat)(n:UInt64):Yj l k n 0=leBytes l:=by
 apply Jk;intro j;simp only [Yj,Na];cases(leBytes l)[j]? with
 | none=>rfl
 | some b=>rw [DT,if_neg O]
def Abs(l:List UInt64)(k:Nat)(n:UInt64)(i:Nat)(hk:k<l.length)(hi:i<8):(Yj l k n i).set (8*k+i) (leB n i)=Yj l k n (i+1):=by
 apply Jk;intro j;rw [H9];by_cases hj:8*k+i=j
 ·subst hj;rw [if_pos rfl,if_pos (by rw [Xy];omega)];simp only [Yj,Na,Ip l k i hk hi,DT];rw [if_pos O,show 8*k+i-8*k=i by omega]
 ·rw [if_neg hj];simp only [Yj,Na];cases(leBytes l)[j]? with
  | none=>rfl
  | some b=>
    simp only [DT];by_cases h1:8*k<=j/\j<8*k+i
    ·rw [if_pos h1,if_pos O]
    ·rw [if_neg h1,if_neg O]
def nZ(l:List UInt64)(k:Nat)(n:UInt64)(_:k<l.length):Yj l k n 8=leBytes (l.set k n):=by
 apply Jk;intro j;by_cases hj:j<8*l.length
 ·have e:j=8*(j/8)+j%8:=O
  have h1:j/8<l.length:=O
  have h2:j%8<8:=TE _ U;have a1:=Ip l (j/8) (j%8) h1 h2;have a2:=Ip (l.set k n) (j/8) (j%8) (by simpa using h1) h2;rw [<-e]at a1 a2;simp only [Yj,Na,a1,a2,DT];rw [KG];by_cases hkj:k=j/8
  ·rw [if_pos O,if_pos hkj,show j-8*k=j%8 by omega]
  ·rw [if_neg O,if_neg hkj]
 ·rw [EW (by rw [Xy];omega),EW (by rw [leBytes_length,List.length_set];omega)]
def jy:Nat:=2^64-1
def fieldN(n low size:Nat):Nat:=n/2^low%2^size
def EC(n low size v:Nat):Nat:=(n&&&(jy- (2^size-1)*2^low))||| ((v&&&(2^size-1))*2^low)
def jA(n many:Nat):Option Nat:=(D9 many).find? λi=> !n.testBit i
def Lm:List Nat:=[0x00000000,0x105ec76f,0x20bd8ede,0x30e349b1,0x417b1dbc,0x5125dad3,0x61c69362,0x7198540d,0x82f63b78,0x92a8fc17,0xa24bb5a6,0xb21572c9,0xc38d26c4,0xd3d3e1ab,0xe330a81a,0xf36e6f75]
def PZ(x:Nat):Nat:=(x/16)^^^Lm.getD (x%16) 0
def SS(x c:Nat):Nat:=PZ (PZ (x^^^c))
def LX(sum:Nat)(l:List UInt8):Nat:=(l.foldl (λx c=>SS x c.toNat) (sum^^^4294967295))^^^4294967295
structure Sh where
 lines:Nat
 BM:Nat
 table:Nat
 data:Nat
 deriving DecidableEq
def JO(BM:Nat):Nat:=2+(BM+7)/8
def NR(BM:Nat):Nat:=JO BM+16*BM
def JL(lines:Nat):Nat->Nat->Nat
 | 0,s=>s
 | f+1,s=>if NR (s+1)<=lines then JL lines f (s+1)else s
def Qa(lines:Nat):Nat:=JL lines lines 0
def shapeOf(lines:Nat):Option Sh:=
 if lines>1024 then none else
 let s:=Qa lines
 if s=0 then none else some {lines:=lines,BM:=s,table:=128,data:=JO s*64}
def headW(s:Sh):List UInt64:=[0x6c6c697473,1,Aw s.lines,Aw s.BM,Aw s.table,Aw s.data]
def wordsOf(s:Sh):List UInt64:=headW s++[Aw (LX 0 (leBytes (headW s))),0]
def Bv:Nat->Nat
 | 1=>16
 | 2=>4
 | _=>0
def Bf:Nat->Nat
 | 1=>1
 | 2=>4
 | _=>0
def DX(w:Nat):Nat:=fieldN w 16 2
def JP(w:Nat):Nat:=fieldN w 0 16
def EX(w:Nat):Bool:=w==0|| (fieldN w 0 (Bv (DX w))!=0&&EC (EC w 0 (Bv (DX w)) 0) 16 2 0==0)
def Bg(w:Nat):Nat:=if EX w then DX w else 0
def EP(w:Nat)(at_:Nat):Bool:=decide (at_<Bv (Bg w))&&fieldN w at_ 1==1
def IC(w:Nat):List Nat:=(D9 (Bv (Bg w))).filter (EP w)
def Lp(w c:Nat):Bool:=EX w&&decide (0<Bv c)&&(w==0|| DX w==c)
def KI(w c:Nat):Option Nat:=if Lp w c then jA (JP w) (Bv c)else none
def Gt(w c at_:Nat):Nat×Bool:=if !Lp w c|| decide (Bv c<=at_)|| EP w at_ then(w,false)else(EC (EC w at_ 1 1) 16 2 c,true)
def Eh(w at_:Nat):Nat×Bool:=if !EP w at_ then(w,false)else if JP (EC w at_ 1 0)=0 then(0,true)else(EC w at_ 1 0,true)
structure Nd where
 pre:List UInt8
 val:UInt64
 labels:List UInt8
 kids:List UInt64
def DW:List UInt8->Bool
 | a::b::l=>decide (a.toNat<b.toNat)&&DW (b::l)
 | _=>true
def Ho:∀(l:List UInt8),DW l=true<->∀i(h:i+1<l.length),l[i].toNat<l[i+1].toNat
 | []=>by simp [DW]
 | [_]=>by simp [DW]
 | a::b::l=>by
   have ih:=Ho (b::l);simp only [DW,Bool.and_eq_true,decide_eq_true_eq,ih];constructor
   ·rintro⟨h1,h2⟩i hi;rcases i with _| i
    ·simpa using h1
    ·exact h2 i (by simpa using hi)
   ·intro h;exact⟨by simpa using h 0 Θ,λi hi=>h (i+1) (by simpa using hi)⟩
def Pm(l:List UInt8)(k:Nat)(hk:k<l.length)(h:DW (l.take k)=true)(hlt:∀j,k=j+1->(h:j<l.length)->l[j].toNat<l[k].toNat):DW (l.take (k+1))=true:=by
 rw [Ho]at h⊢;intro i hi;simp only [Dw]at hi;simp only [Aez];by_cases e:i+1=k
 ·subst e;exact hlt i rfl O
 ·have:=h i (by simp;omega);simpa using this
def og(l:List UInt8)(j:Nat)(hq:j+1<l.length)(h:DW (l.take (j+1))=true)(hr:l[j].toNat<l[j+1].toNat):DW (l.take (j+1+1))=true:=
 Pm l (j+1) hq h (λj' hj' _=>by cases hj';exact hr)
def C9(x:Nd):Bool:=
 decide (x.pre.length<=15)&&x.pre.all DK&&decide (x.labels.length=x.kids.length)&&x.labels.all DK&&DW x.labels&&x.kids.all (λk=>k.toNat !=0)
def Bq(x:Nd):C9 x=true<->x.pre.length<=15/\x.pre.all DK=true/\x.labels.length=x.kids.length/\x.labels.all DK=true/\DW x.labels=true/\∀i(h:i<x.kids.length),x.kids[i].toNat≠0:=by
 simp only [C9,Bool.and_eq_true,decide_eq_true_eq,and_assoc,EH (p:=λk:UInt64=>k.toNat !=0),bne_iff_ne,ne_eq];constructor
 ·rintro⟨h1,h2,h3,h4,h5,h6⟩;exact⟨h1,h2,h3,h4,h5,λi hi=>h6 _ (BI hi)⟩
 ·rintro⟨h1,h2,h3,h4,h5,h6⟩;refine⟨h1,h2,h3,h4,h5,λk hk=> ?_⟩;obtain⟨i,hi,rfl⟩:=CB hk;exact h6 i hi
def jB(x:Nd)(k:Nat)(hk:k<x.labels.length)(h:¬x.labels[k].toNat<16):C9 x=false:=by
 cases hr:C9 x with
 | false=>rfl
 | true=>
   have:=((Bq x).1 hr).2.2.2.1;exact absurd (Y1 this hk) h
def dA(x:Nd)(j:Nat)(hj:j+1<x.labels.length)(h:¬x.labels[j].toNat<x.labels[j+1].toNat):C9 x=false:=by
 cases hr:C9 x with
 | false=>rfl
 | true=>
   have:=((Bq x).1 hr).2.2.2.2.1;exact absurd ((Ho _).1 this j hj) h
def jC(x:Nd)(h:¬(x.pre.length<=15/\x.pre.all DK=true)):C9 x=false:=by
 cases hr:C9 x with
 | false=>rfl
 | true=>exact absurd ⟨((Bq x).1 hr).1,((Bq x).1 hr).2.1⟩ h
def jD(x:Nd)(h:x.labels.length≠x.kids.length):C9 x=false:=by
 cases hr:C9 x with
 | false=>rfl
 | true=>exact absurd ((Bq x).1 hr).2.2.1 h
def vF(x:Nd)(h1:x.pre.length<=15)(h2:x.pre.all DK=true)(h3:x.labels.length=x.kids.length)(h4:x.labels.all DK=true)(h5:DW x.labels=true):
 C9 x= !(x.kids.any λy=>y.toNat==0):=by
 rw [Bool.eq_iff_iff,Bq];simp only [Bool.not_eq_true',List.any_eq_false,beq_iff_eq];constructor
 ·rintro⟨_,_,_,_,_,h⟩k hk;obtain⟨i,hi,rfl⟩:=CB hk;exact h i hi
 ·intro h;exact⟨h1,h2,h3,h4,h5,λi hi=>h _ (BI hi)⟩
def Dp(x:Nd):Nat:=if x.kids.length<=4 then 1 else 2
def placeOf{α:Type}(p:α->Bool)(l:List α):Int:=match l.findIdx? p with| some i=>(i:Int)| none=> -1
def Xz{α:Type}(p:α->Bool)(l:List α)(k:Nat)(hk:k<l.length)(hno:∀j(h:j<k),p (l[j]' O)=false)(hp:p l[k]=true):placeOf p l=(k:Int):=by
 have:l.findIdx? p=some k:=by
  rw [List.findIdx?_eq_some_iff_getElem];exact⟨hk,hp,λj hj=>by simp [hno j hj]⟩
 simp [placeOf,this]
def Vf{α:Type}(p:α->Bool)(l:List α)(hno:∀j(h:j<l.length),p l[j]=false):placeOf p l= -1:=by
 have:l.findIdx? p=none:=by
  rw [List.findIdx?_eq_none_iff];intro x hx;obtain⟨i,hi,rfl⟩:=CB hx;exact hno i hi
 simp [placeOf,this]
def Gm(l:List UInt8):UInt64:=Aw (l.length+16*Fa l)
def CV:List UInt64->List UInt8->List UInt64->List UInt64
 | row,a::as,k::ks=>CV (row.set (4+a.toNat) k) as ks
 | row,_,_=>row
def NS:∀(row:List UInt64)(as:List UInt8)(ks:List UInt64),(CV row as ks).length=row.length
 | row,a::as,k::ks=>by rw [CV,NS];simp
 | row,[],_=>by simp [CV]
 | row,_::_,[]=>by simp [CV]
def Oz:∀(row:List UInt64)(as:List UInt8)(ks:List UInt64)(i:Nat)(h1:i<as.length)(h2:i<ks.length),
 CV row (as.take (i+1)) (ks.take (i+1))=(CV row (as.take i) (ks.take i)).set (4+as[i].toNat) ks[i]
 | row,a::as,k::ks,0,_,_=>by simp [CV]
 | row,a::as,k::ks,i+1,h1,h2=>by
   have:=Oz (row.set (4+a.toNat) k) as ks i (by simpa using h1) (by simpa using h2);simpa [CV]using this
 | _,[],_,_,h1,_=>by simp at h1
 | _,_::_,[],_,_,h2=>by simp at h2
def encS(x:Nd):List UInt64:=[Aw (1+256*x.kids.length),Gm x.pre,x.val,Gm x.labels]++x.kids++BC (4-x.kids.length) 0
def headB(x:Nd):List UInt64:=[Aw (2+256*x.kids.length),Gm x.pre,x.val]++BC 29 0
def Rt(x:Nd):List UInt64:=CV (headB x) x.labels x.kids
def Ea(x:Nd):List UInt64:=if x.kids.length<=4 then encS x else Rt x
def X0(x:Nd)(h:x.kids.length<=4):(encS x).length=8:=by simp [encS];omega
def X3(x:Nd):(Rt x).length=32:=by simp [Rt,NS,headB]
def ER(x:Nd):(Ea x).length=if x.kids.length<=4 then 8 else 32:=by
 unfold Ea;split
 ·rename_i h;exact X0 x h
 ·exact X3 x
def Jf(u:Nat)(tail:List UInt64):List UInt8×List UInt64:=
 if u/16/16^(u%16)=0/\u%16<=4 then(digits (u%16) (u/16),tail.take (u%16))else([],[])
def Jw:Nat->List UInt64->List UInt8
 | _,[]=>[]
 | i,k::t=>if k.toNat=0 then Jw (i+1) t else UInt8.ofNat i::Jw (i+1) t
def Kw(t:List UInt64):List UInt64:=t.filter λk=>k.toNat !=0
def YZ:∀(i:Nat)(t:List UInt64)(x:UInt64),Jw i (t++[x])=Jw i t++(if x.toNat=0 then []else [UInt8.ofNat (i+t.length)])
 | i,[],x=>by simp only [EM,Jw];split<;>simp
 | i,k::t,x=>by
   have:=YZ (i+1) t x;simp only [Cj,Jw,this,BB];rw [show i+1+t.length=i+(t.length+1)by omega];split<;>simp
def vG(t:List UInt64)(x:UInt64):Kw (t++[x])=Kw t++(if x.toNat=0 then []else [x]):=by
 simp only [Kw,List.filter_append,Ae5,List.filter_nil];by_cases h:x.toNat=0<;>simp [h]
def O0:∀(i:Nat)(t:List UInt64),(Jw i t).length=(Kw t).length
 | _,[]=>rfl
 | i,k::t=>by
   have:=O0 (i+1) t;simp only [Jw,Kw,Ae5]at this⊢;by_cases h:k.toNat=0<;>simp [h,this]
def Za(t:List UInt64):(Kw t).length<=t.length:=List.length_filter_le _ _
def Em(u:Nat):List UInt8:=if u/16/16^(u%16)=0 then digits (u%16) (u/16)else []
def Afg(l:List UInt64):Nd:=
 {pre:=Em (l.getD 1 0).toNat,val:=l.getD 2 0,labels:=(Jf (l.getD 3 0).toNat (l.drop 4)).1,kids:=(Jf (l.getD 3 0).toNat (l.drop 4)).2}
def vH(l:List UInt64):Nd:=
 {pre:=Em (l.getD 1 0).toNat,val:=l.getD 2 0,labels:=Jw 0 ((l.drop 4).take 16),kids:=Kw ((l.drop 4).take 16)}
def EY(l:List UInt64):Nd:=if l.length=8 then Afg l else vH l
def IX(l:List UInt64):Bool:=(decide (l.length=8)|| decide (l.length=32))&&(C9 (EY l)&&decide (Ea (EY l)=l))
def fA(u:Nat):(Em u).length<=15:=by
 unfold Em;split
 ·rw [digits_length];omega
 ·simp
def vI(x:Nd)(v:UInt64):C9 {x with val:=v}=C9 x:=rfl
def Vg:∀(row row':List UInt64)(as:List UInt8)(ks:List UInt64)(i:Nat),row.length=row'.length->(∀j,j≠2->row[j]? =row'[j]?)->i≠2->(CV row as ks)[i]? =(CV row' as ks)[i]?
 | row,row',a::as,k::ks,i,hl,h,hi=>by
   simp only [CV];refine Vg _ _ as ks i (by simp [hl]) (λj hj=> ?_) hi;rw [H9,H9,h j hj,hl]
 | row,row',[],_,i,_,h,hi=>by simp only [CV];exact h i hi
 | row,row',_::_,[],i,_,h,hi=>by simp only [CV];exact h i hi
def X4:∀(row:List UInt64)(as:List UInt8)(ks:List UInt64),(CV row as ks)[2]? =row[2]?
 | row,a::as,k::ks=>by
   simp only [CV];rw [X4,H9];simp;omega
 | row,[],_=>by simp [CV]
 | row,_::_,[]=>by simp [CV]
def Afh(x:Nd)(v:UInt64)(i:Nat)(hi:i≠2):(Ea {x with val:=v})[i]? =(Ea x)[i]? :=by
 unfold Ea;by_cases h:x.kids.length<=4
 ·simp only [if_pos h,encS];rcases i with _| _| _| i
  ·rfl
  ·rfl
  ·exact absurd rfl hi
  ·simp
 ·simp only [if_neg h,Rt];refine Vg _ _ _ _ i (by simp [headB]) (λj hj=> ?_) hi;rcases j with _| _| _| j
  ·rfl
  ·rfl
  ·exact absurd rfl hj
  ·simp [headB]
def Afi(x:Nd):(Ea x)[2]? =some x.val:=by
 unfold Ea;split
 ·simp [encS]
 ·rw [Rt,X4];simp [headB]
def BO(ws:Nat->UInt64)(j:Nat)(xs:List UInt64)(i:Nat):UInt64:=if j<=i/\i<j+xs.length then xs.getD (i-j) 0 else ws i
def FN(ws:Nat->UInt64)(j:Nat)(x:UInt64)(i:Nat):UInt64:=if i=j then x else ws i
def wordsAt(ws:Nat->UInt64)(j n:Nat):List UInt64:=(D9 n).map λt=>ws (j+t)
structure St where
 sh:Sh
 ws:Nat->UInt64
 tk:List UInt64
 hd:List UInt64
def GY(s:St)(i:Nat):Nat:=(s.tk.getD i 0).toNat
def hdN(s:St)(i:Nat):Nat:=(s.hd.getD i 0).toNat
def CQ(s:St)(i:Nat):Nat:=GY s i||| hdN s i
def CY(sh:Sh)(i c a:Nat):Nat:=sh.data+1024*i+64*Bf c*a
def Ia(s:St)(off:Int):Option (Nat×Nat):=
 if off<(s.sh.data:Int)\/(s.sh.data+1024*s.tk.length:Nat)<=off then none else
 if Bf (Bg (CQ s ((off.toNat-s.sh.data)/1024)))=0\/(off.toNat-s.sh.data)%1024%(64*Bf (Bg (CQ s ((off.toNat-s.sh.data)/1024))))≠0 then none else
 some ((off.toNat-s.sh.data)/1024,(off.toNat-s.sh.data)%1024/(64*Bf (Bg (CQ s ((off.toNat-s.sh.data)/1024)))))
def D7(s:St)(off:Int):Nat:=
 match Ia s off with
 | none=>0
 | some (i,a)=>if EP (GY s i) a then Bg (GY s i)else 0
def Lr(s:St)(k c:Nat):Option Nat:=(D9 s.tk.length).find? λi=>decide (Bg (CQ s i)=k)&&(KI (CQ s i) c).isSome
def LY(s:St)(c:Nat):Option Nat:=match Lr s c c with| some i=>some i| none=>Lr s 0 c
def CO(s:St)(c:Nat):Option (Nat×St):=
 match LY s c with
 | none=>none
 | some i=>match KI (CQ s i) c with
   | none=>none
   | some a=>some (CY s.sh i c a,{s with hd:=s.hd.set i (Aw (Gt (hdN s i) c a).1)})
def Zb(s:St)(i:Nat)(x:UInt64):St:={s with ws:=FN s.ws (s.sh.table/8+i) x,tk:=s.tk.set i x}
def Ib(s:St)(off:Int):St×Int:=
 match Ia s off with
 | none=>(s,7)
 | some (i,a)=>if EP (hdN s i) a then
  ({Zb s i (Aw (Gt (GY s i) (Bg (hdN s i)) a).1)with hd:=s.hd.set i (Aw (Eh (hdN s i) a).1)},0)
   else(s,7)
def IE(s:St)(off:Int):St×Int:=
 match Ia s off with
 | none=>(s,7)
 | some (i,a)=>
   if(Eh (hdN s i) a).2 then({s with hd:=s.hd.set i (Aw (Eh (hdN s i) a).1)},0)
   else if(Eh (GY s i) a).2 then(Zb s i (Aw (Eh (GY s i) a).1),0)
   else(s,7)
def DC(s:St):List Nat:=(D9 s.tk.length).flatMap λi=>(IC (GY s i)).map λa=>CY s.sh i (Bg (GY s i)) a
def oh(s:St):Nat:=((D9 s.hd.length).map λi=>(IC (hdN s i)).length).sum
def LZ(sh:Sh):Nat->UInt64:=BO (λ_=>0) 0 (wordsOf sh)
def Bj(x:UInt64):Int:=IntKind.i64.wrap (x.toNat:Int)
def Fb(s:St)(name:UInt64):Option Nd:=
 if Bf (D7 s (Bj name))=0 then none else
 if IX (wordsAt s.ws ((Bj name).toNat/8) (8*Bf (D7 s (Bj name))))then some (EY (wordsAt s.ws ((Bj name).toNat/8) (8*Bf (D7 s (Bj name)))))else none
structure Pl where
 nd:Nd
 off:Int
 label:UInt8
 word:Int
def J6(l:List UInt8)(x:UInt8):Option Nat:=l.findIdx? λy=>y.toNat==x.toNat
def OL(x:Nd)(label:UInt8):Option (UInt64×Nat):=
 match J6 x.labels label with
 | some i=>if C9 x then some (x.kids.getD i 0,if x.kids.length<=4 then 4+i else 4+label.toNat)else none
 | none=>none
def Ez(s:St):Nat->UInt64->List UInt8->UInt8->Int->List Pl->Option (List Pl×List UInt8)
 | 0,_,rest,_,_,way=>some (way,rest)
 | f+1,name,rest,label,word,way=>
   if name=0 then some (way,rest)else
   match Fb s name with
   | none=>none
   | some x=>
     if common x.pre rest<x.pre.length\/common x.pre rest=rest.length then some (way++[⟨x,Bj name,label,word⟩],rest)else
     match OL x (rest.getD (common x.pre rest) 0)with
     | none=>some (way++[⟨x,Bj name,label,word⟩],rest)
     | some (kid,number)=>Ez s f kid (rest.drop (common x.pre rest+1)) (rest.getD (common x.pre rest) 0) (Bj name+8*number) (way++[⟨x,Bj name,label,word⟩])
def FY(s:St)(key:List UInt8):Option (List Pl×List UInt8):=Ez s (2*key.length+1) (s.ws 9) (Dn key) 0 72 []
def CZ(way:List Pl)(rest:List UInt8):Option Pl:=
 match way.getLast? with
 | none=>none
 | some last=>if last.nd.pre=rest then some last else none
def Gy(s:St)(key:List UInt8):UInt64×Int:=
 if 16<key.length then(0,3)else
 match FY s key with
 | none=>(0,5)
 | some (way,rest)=>match CZ way rest with
   | none=>(0,7)
   | some last=>if last.nd.val=0 then(0,7)else(last.nd.val,0)
structure Jb where
 s:St
 made:List Int
def Nj(j:Jb)(n:Nd):Jb×UInt64×Int:=
 if !C9 n then(j,0,5)else
 match CO j.s (Dp n)with
 | none=>(j,0,6)
 | some (off,s1)=>
   match Ib {s1 with ws:=BO s1.ws (off/8) (Ea n)} off with
   | (s2,e)=>if e=0 then(⟨s2,j.made++[(off:Int)]⟩,Aw off,0)else(⟨s2,j.made++[(off:Int)]⟩,0,e)
def Pn(l:List UInt8)(x:UInt8):Bool:=l.any λy=>y.toNat==x.toNat
def Jo(x:Nd)(label:UInt8)(kid:UInt64):Bool:=C9 x&&decide (label.toNat<16)&& !(kid.toNat==0)&& !Pn x.labels label
def JD{α:Type}(xs:List α)(i:Nat)(u:α):List α:=xs.take i++u::xs.drop i
def J7{α:Type}(xs:List α)(i:Nat):List α:=xs.take i++xs.drop (i+1)
def Gh(l:List UInt8)(x:UInt8):Nat:=l.countP λy=>decide (y.toNat<x.toNat)
def Ic(x:Nd)(label:UInt8)(kid:UInt64):Nd:={pre:=x.pre,val:=x.val,labels:=JD x.labels (Gh x.labels label) label,kids:=JD x.kids (Gh x.labels label) kid}
def Wl(x:Nd)(i:Nat):Nd:={pre:=x.pre,val:=x.val,labels:=J7 x.labels i,kids:=J7 x.kids i}
def JQ(j:Jb)(n:Nd)(label:UInt8)(kid:UInt64)(e:Int):Jb×UInt64×Int:=
 if e≠0 then(j,0,e)else
 if Jo n label kid then Nj j (Ic n label kid)else(j,0,5)
def Po:Nat->Jb->List UInt8->UInt64->Jb×UInt64×Int
 | 0,j,_,_=>(j,0,5)
 | f+1,j,l,value=>
   if l.length<=15 then Nj j ⟨l,value,[],[]⟩else
   match Po f j (l.drop 16) value with
   | (j1,kid,e)=>JQ j1 ⟨l.take 15,0,[],[]⟩ (l.getD 15 0) kid e
def X5(j:Jb)(x:Nd)(rest:List UInt8)(value:UInt64):Jb×UInt64×Int:=
 if common x.pre rest=x.pre.length then
  match Po (rest.length+1) j (rest.drop (common x.pre rest+1)) value with
  | (j1,kid,e)=>JQ j1 x (rest.getD (common x.pre rest) 0) kid e
 else
  match Nj j {x with pre:=x.pre.drop (common x.pre rest+1)}with
  | (j1,kid,e)=>
    if common x.pre rest=rest.length then JQ j1 ⟨x.pre.take (common x.pre rest),value,[],[]⟩ (x.pre.getD (common x.pre rest) 0) kid e else
    if e≠0 then(j1,0,e)else
    if Jo ⟨x.pre.take (common x.pre rest),0,[],[]⟩ (x.pre.getD (common x.pre rest) 0) kid then
     match Po (rest.length+1) j1 (rest.drop (common x.pre rest+1)) value with
     | (j2,Zc,e2)=>JQ j2 (Ic ⟨x.pre.take (common x.pre rest),0,[],[]⟩ (x.pre.getD (common x.pre rest) 0) kid) (rest.getD (common x.pre rest) 0) Zc e2
    else(j1,0,5)
def Uf(s:St)(l:List Int):St:=l.foldl (λs off=>(IE s off).1) s
def Ru:St->List Int->Int->St×Int
 | s,[],e=>(s,e)
 | s,off::l,e=>Ru (IE s off).1 l (if e=0 then(IE s off).2 else e)
def H7(j:Jb)(e:Int)(word:Int)(name:UInt64)(old:List Int):St×Int:=
 if e≠0 then(Uf j.s j.made,e)else Ru {j.s with ws:=FN j.s.ws (word.toNat/8) name} old 0
def Qb(s:St)(at_:Pl)(n:UInt64):St:={s with ws:=FN s.ws (at_.off.toNat/8+2) n}
def KJ(s:St)(key:List UInt8)(value:UInt64):St×Int:=
 if 16<key.length then(s,3)else if value=0 then(s,2)else
 match FY s key with
 | none=>(s,5)
 | some (way,rest)=>match CZ way rest with
   | some last=>(Qb s last value,0)
   | none=>match way.getLast? with
     | none=>match Po (rest.length+1) ⟨s,[]⟩ rest value with
       | (j,name,e)=>H7 j e 72 name []
     | some last=>match X5 ⟨s,[]⟩ last.nd rest value with
       | (j,name,e)=>H7 j e last.word name [last.off]
def H8(way:List Pl):Nat->List Int->Nat×List Int
 | 0,old=>(0,old)
 | a+1,old=>match way[a]?,way[a+1]? with
   | some up,some _=>if up.nd.val=0/\up.nd.kids.length=1 then H8 way a (old++[up.off])else(a+1,old)
   | _,_=>(a+1,old)
def Wn(j:Jb)(way:List Pl):St×Int:=
 match H8 way (way.length-1) [(way.getLast?.map (·.off)).getD 0]with
 | (0,old)=>H7 j 0 72 0 old
 | (a+1,old)=>match way[a]?,way[a+1]? with
   | some up,some at_=>match J6 up.nd.labels at_.label with
     | some i=>if C9 up.nd then match Nj j (Wl up.nd i)with
      | (j1,name,e)=>H7 j1 e up.word name (old++[up.off])
       else(j.s,5)
     | none=>(j.s,5)
   | _,_=>(j.s,5)
def Ug(s:St)(key:List UInt8):St×UInt64×Int:=
 if 16<key.length then(s,0,3)else
 match FY s key with
 | none=>(s,0,5)
 | some (way,rest)=>match CZ way rest with
   | none=>(s,0,7)
   | some last=>if last.nd.val=0 then(s,0,7)else
     match(if last.nd.kids.length=0 then Wn ⟨s,[]⟩ way else(s,6))with
     | (s1,e)=>if e=6 then(Qb s1 last 0,last.nd.val,0)else if e=0 then(s1,last.nd.val,0)else(s1,0,e)
def Dq(s:St):Nat->UInt64->List UInt8->List (List UInt8×UInt64)×List Int->Option (List (List UInt8×UInt64)×List Int)
 | 0,_,_,_=>none
 | f+1,name,ahead,(items,met)=>
   match Fb s name with
   | none=>none
   | some n=>
     if met.contains (Bj name)\/32<(ahead++n.pre).length then none else
     if n.val≠0/\Jv (ahead++n.pre)=false then none else
     (n.labels.zip n.kids).foldlM (λst(lk:UInt8×UInt64)=>Dq s f lk.2 (ahead++n.pre++[lk.1]) st)
      (if n.val≠0 then items++[(pairs (ahead++n.pre),n.val)]else items,met++[Bj name])
def DJ(s:St):Option (List (List UInt8×UInt64)×List Int):=
 if s.ws 9=0 then some ([],[])else Dq s 34 (s.ws 9) [] ([],[])
def Uh(x:Nat)(h:x<4294967296):PZ x<4294967296:=by
 have h1:x/16<2^32:=O
 have h2:Lm.getD (x%16) 0<2^32:=by
  have:x%16<16:=TE _ U;have key:∀k:Fin 16,Lm.getD k.val 0<2^32:=by decide
  exact key ⟨x%16,this⟩
 exact VR h1 h2
def vJ(x c:Nat)(h:x<4294967296)(hc:c<256):SS x c<4294967296:=by
 unfold SS;refine Uh _ (Uh _ ?_);exact VR (n:=32) h O
def Pq(sum:Nat)(l:List UInt8)(k:Nat):Nat:=(l.take k).foldl (λx c=>SS x c.toNat) (sum^^^4294967295)
def Zd(sum:Nat)(l:List UInt8):Pq sum l 0=sum^^^4294967295:=by simp [Pq]
def Ze(sum:Nat)(l:List UInt8)(k:Nat)(hk:k<l.length):Pq sum l (k+1)=SS (Pq sum l k) l[k].toNat:=by
 unfold Pq;rw [Dk hk,List.foldl_append];rfl
def Abt(sum:Nat)(l:List UInt8):Pq sum l l.length^^^4294967295=LX sum l:=by simp [Pq,LX]
def Zf(sum:Nat)(l:List UInt8)(hs:sum<4294967296):∀k,k<=l.length->Pq sum l k<4294967296
 | 0,_=>by rw [Zd];exact VR (n:=32) hs U
 | k+1,hk=>by
   rw [Ze sum l k hk];exact vJ _ _ (Zf sum l hs k O) (UInt8.toNat_lt _)
structure Rc where
 stamp:UInt64
 next:UInt64
 gone:Bool
 text:ByteArray
def Eb(r:Rc):Bool:= !(r.stamp.toNat==0)&&decide (r.text.size<=40)&&(!r.gone|| decide (r.text.size=0))
def MJ:List UInt8->Nat
 | []=>0
 | b::l=>b.toNat+256*MJ l
def Y2:∀(l:List UInt8),MJ l<256^l.length
 | []=>by simp [MJ]
 | b::l=>by
   have:=Y2 l;have hb:=b.toNat_lt;rw [MJ,BB,J9];omega
def fB:∀(l:List UInt8)(b:UInt8),MJ (l++[b])=MJ l+b.toNat*256^l.length
 | [],b=>by simp [MJ]
 | a::l,b=>by
   have:=fB l b;rw [Cj,MJ,this,MJ,BB,J9,Nat.mul_add];have e:256*(b.toNat*256^l.length)=b.toNat*(256^l.length*256):=by rw [GK 256,NI]
   omega
def Lc(l:List UInt8)(k:Nat):UInt64:=Aw (MJ ((l.drop (8*k)).take 8))
def textW(l:List UInt8):List UInt64:=(D9 5).map (Lc l)
def Vh(l:List UInt8):(textW l).length=5:=by simp [textW]
def SV(l:List UInt8)(k:Nat):(Lc l k).toNat=MJ ((l.drop (8*k)).take 8):=by
 unfold Lc
 have:=Y2 ((l.drop (8*k)).take 8)
 have h2:256^((l.drop (8*k)).take 8).length<=256^8:=Fj U (by simp;omega)
 rw [J5]
 exact Gl (by have:(256:Nat)^8=2^64:=by decide
              omega)
def Zg(l:List UInt8)(i:Nat)(hi:i<l.length):(Lc (l.take (i+1)) (i/8)).toNat=(Lc (l.take i) (i/8)).toNat+l[i].toNat*256^(i%8):=by
 rw [SV,SV];have e:((l.take (i+1)).drop (8*(i/8))).take 8=((l.take i).drop (8*(i/8))).take 8++[l[i]]:=by
  have h1:((l.take i).drop (8*(i/8))).length<=8:=by simp;omega
  have h2:((l.take i).drop (8*(i/8))++[l[i]]).length<=8:=by simp;omega
  rw [Dk hi,List.drop_append_of_le_length (by simp;omega),FM h2,FM h1]
 have h2:(((l.take i).drop (8*(i/8))).take 8).length=i%8:=by simp;omega
 rw [e,fB,h2]
def oq(l:List UInt8)(i k:Nat)(hk:k≠i/8):Lc (l.take (i+1)) k=Lc (l.take i) k:=by
 unfold Lc;congr 2;rw [Ai5,Ai5,Ai6,Ai6];by_cases h:k<i/8
 ·rw [show min 8 (i+1-8*k)=8 by omega,show min 8 (i-8*k)=8 by omega]
 ·rw [show min 8 (i+1-8*k)=0 by omega,show min 8 (i-8*k)=0 by omega]
def vK(l:List UInt8)(i:Nat):(Lc (l.take i) (i/8)).toNat<256^(i%8):=by
 rw [SV];have:=Y2 (((l.take i).drop (8*(i/8))).take 8);exact BQ this (Fj U (by simp;omega))
def vM(l:List UInt8)(i:Nat)(hi:i<l.length)(x:UInt64)(hx:x.toNat=(Lc (l.take i) (i/8)).toNat+l[i].toNat*256^(i%8)):(textW (l.take i)).set (i/8) x=textW (l.take (i+1)):=by
 have hx':x=Lc (l.take (i+1)) (i/8):=UInt64.toNat_inj.1 (by rw [hx,Zg l i hi]);apply Eu
 ·simp [textW]
 ·intro k h1 h2;rw [KG];simp only [textW,IU,VY];by_cases hk:i/8=k
  ·rw [if_pos hk,hx',hk]
  ·rw [if_neg hk,oq l i k (λe=>hk e.symm)]
def Zh:textW []=[0,0,0,0,0]:=by decide
def Iu(n:Nat)(g:Bool):Nat:=3+65536*n+(if g then 256 else 0)
def Dj(r:Rc):List UInt64:=[Aw (Iu r.text.size r.gone),r.stamp,r.next]++textW r.text.data.toList
def Iw(r:Rc):(Dj r).length=8:=by simp [Dj,Vh]
def Ui(l:List UInt64):Rc:=
 {stamp:=l.getD 1 0,next:=l.getD 2 0,gone:=decide ((l.getD 0 0).toNat/256%2=1),text:=⟨((leBytes (l.drop 3)).take ((l.getD 0 0).toNat/65536)).toArray⟩}
def Nq(l:List UInt64):Option Rc:=
 if l.length=8/\(l.getD 0 0).toNat/65536<=40 then
  if Eb (Ui l)=true/\Dj (Ui l)=l then some (Ui l)else none
 else none
def ou:∀(l:List UInt8)(i:Nat)(hi:i<l.length),MJ l/256^i%256=l[i].toNat
 | b::l,0,_=>by
   have:=b.toNat_lt;simp [MJ]
 | b::l,i+1,hi=>by
   have hb:=b.toNat_lt;have:=ou l i (by simpa using hi);rw [MJ,J9,GK (256^i) 256,<-uB,show(b.toNat+256*MJ l)/256=MJ l by omega,this];rfl
def Abu(l:List UInt8)(i:Nat)(hi:i<l.length):leB (Lc l (i/8)) (i%8)=l[i]:=by
 apply UInt8.toNat_inj.1;rw [SQ,SV,ou _ _ (by simp;omega)];simp only [Aez,List.getElem_drop];congr 2;omega
def Ky(r:Rc):Eb r=true<->r.stamp.toNat≠0/\r.text.size<=40/\(r.gone=true->r.text.size=0):=by
 simp only [Eb,Bool.and_eq_true,decide_eq_true_eq,Bool.not_eq_true',beq_eq_false_iff_ne,Bool.or_eq_true,and_assoc];cases r.gone<;>simp
def Abv{n:Nat}(h:n<=40)(g:Bool):Iu n g<18446744073709551616:=by
 unfold Iu;split<;>omega
def Qc{n:Nat}(h:n<=40)(g:Bool):(Aw (Iu n g)).toNat=Iu n g:=by
 rw [J5];exact Gl (Abv h g)
def Uj(r:Rc)(h:Eb r=true):Ui (Dj r)=r:=by
 obtain⟨h1,h2,h3⟩:=(Ky r).1 h;have e0:((Dj r).getD 0 0).toNat=Iu r.text.size r.gone:=by
  simp only [Dj,Cj,zt];exact Qc h2 _
 have e1:Iu r.text.size r.gone/65536=r.text.size:=by unfold Iu;split<;>omega
 have e2:Iu r.text.size r.gone/256%2=if r.gone then 1 else 0:=by unfold Iu;split<;>omega
 have e3:(Dj r).drop 3=textW r.text.data.toList:=rfl;have hsz:r.text.size=r.text.data.toList.length:=rfl;unfold Ui;rw [e0,e1,e2,e3];have et:(leBytes (textW r.text.data.toList)).take r.text.size=r.text.data.toList:=by
  apply Jk;intro i;rw [CW];by_cases hi:i<r.text.size
  ·rw [if_pos hi];have:=Ip (textW r.text.data.toList) (i/8) (i%8) (by rw [Vh];omega) O;rw [show 8*(i/8)+i%8=i by omega]at this;rw [this];simp only [textW,IU,VY];rw [Abu _ _ O,Af O]
  ·rw [if_neg hi,EW O]
 rw [et];have eg:decide ((if r.gone=true then 1 else 0)=1)=r.gone:=by cases r.gone<;>rfl
 rw [eg];cases r with
 | mk a b c d=>simp only [Rc.mk.injEq];exact⟨rfl,rfl,trivial,trivial⟩
def Abw(r:Rc)(h:Eb r=true):Nq (Dj r)=some r:=by
 obtain⟨h1,h2,h3⟩:=(Ky r).1 h;have e0:((Dj r).getD 0 0).toNat=Iu r.text.size r.gone:=by
  simp only [Dj,Cj,zt];exact Qc h2 _
 have e1:Iu r.text.size r.gone/65536=r.text.size:=by unfold Iu;split<;>omega
 unfold Nq;rw [if_pos ⟨Iw r,by rw [e0,e1];exact h2⟩,Uj r h,if_pos ⟨h,rfl⟩]
structure Lk where
 off:Int
 rc:Rc
def EG(l:List Lk):Nat:=match l.getLast? with| none=>18446744073709551616| some k=>k.rc.stamp.toNat
def OM(s:St):Nat->UInt64->List Lk->Option (List Lk)
 | 0,_,_=>none
 | f+1,at_,acc=>
   if at_.toNat=0 then some acc else
   if D7 s (Bj at_)≠1 then none else
   match Nq (wordsAt s.ws ((Bj at_).toNat/8) 8)with
   | none=>none
   | some r=>if EG acc<=r.stamp.toNat then none else OM s f r.next (acc++[⟨Bj at_,r⟩])
def Iq(s:St)(first:UInt64):Option (List Lk):=OM s 18446744073709551618 first []
def IZ(s:St)(r:Rc):St×UInt64×Int:=
 if Eb r=false then(s,0,2)else
 match CO s 1 with
 | none=>(s,0,6)
 | some (off,s1)=>
   match Ib {s1 with ws:=BO s1.ws (off/8) (Dj r)} off with
   | (s2,e)=>if e=0 then(s2,Aw off,0)else((IE s2 off).1,0,e)
def Vj:List Lk->Nat->Option ByteArray
 | [],_=>none
 | k::l,at_=>if k.rc.stamp.toNat<=at_ then(if k.rc.gone then none else some k.rc.text)else Vj l at_
def Df(l:List Int):List Int:=l.mergeSort λx y=>decide (x<=y)
def Fv(s:St):List (List UInt8×UInt64)->List Int->Option (List Int)
 | [],acc=>some acc
 | it::t,acc=>match Iq s it.2 with
   | none=>none
   | some l=>Fv s t (acc++l.map (·.off))
def Gz:List Int->Bool
 | a::b::t=> !(a==b)&&Gz (b::t)
 | _=>true
def Zi (s : St) : ∀ (l : List (List UInt8 × UInt64)) (it : List UInt8 × UInt64) (acc : List Int), Fv s (l ++ [it]) acc = match Fv s l acc with
    | none => none
    | some a => match Iq s it.2 with | none => none | some k => some (a ++ k.map (·.off))
  | [], it, acc => by
    simp only [EM, Fv]
  | x :: t, it, acc => by
    simp only [Cj, Fv]
    cases Iq s x.2 with
    | none => rfl
    | some k => exact Zi s t it _
def Zj{s:St}{l:List (List UInt8×UInt64)}{acc r:List Int}(h:Fv s l acc=some r):∀k,k<=l.length->∃a,Fv s (l.take k) acc=some a/\Fv s (l.drop k) a=some r:=by
 induction l generalizing acc with
 | nil=>intro k hk;exact⟨acc,by simp [Fv],by simpa [Fv]using h⟩
 | cons x t ih=>
   intro k hk;cases k with
   | zero=>exact⟨acc,rfl,h⟩
   | succ k=>
     simp only [Fv]at h;simp only [JB,List.drop_succ_cons,Fv];cases hl:Iq s x.2 with
     | none=>rw [hl]at h;cases h
     | some m=>
       rw [hl]at h;exact ih h k (by simpa using hk)
def fC{s:St}:∀{l:List (List UInt8×UInt64)}{acc r:List Int},Fv s l acc=some r->acc.length<=r.length
 | [],acc,r,h=>by simp only [Fv,Option.some.injEq]at h;subst h;exact Ad _
 | x::t,acc,r,h=>by
   simp only [Fv]at h;cases hl:Iq s x.2 with
   | none=>rw [hl]at h;cases h
   | some m=>
     rw [hl]at h;have:=fC h;rw [AQ]at this;omega
def fD:∀{l:List Int},Gz l=true->∀i(h:i+1<l.length),l[i]≠l[i+1]
 | a::b::t,h,0,_=>by
   simp only [Gz,Bool.and_eq_true,Bool.not_eq_true',beq_eq_false_iff_ne,ne_eq]at h;exact h.1
 | a::b::t,h,i+1,hi=>by
   simp only [Gz,Bool.and_eq_true]at h;have:=fD h.2 i (by simpa using hi);simpa using this
 | [],_,_,hi=>by simp at hi
 | [a],_,i,hi=>by simp at hi
def NT(s:St):Option (List Int):=
 match DJ s with
 | none=>none
 | some (its,met)=>match Fv s its (Df met)with
   | none=>none
   | some l=>if Gz (Df l)=true then some (Df l)else none
def vN{s:St}{l:List (List UInt8×UInt64)}{acc a:List Int}{k:Nat}(hk:k<l.length)(ha:Fv s (l.take k) acc=some a):
 Fv s (l.take (k+1)) acc=match Iq s l[k].2 with| none=>none| some m=>some (a++m.map (·.off)):=by
 rw [Dk hk,Zi,ha]
def vO{s:St}{l:List (List UInt8×UInt64)}{acc:List Int}{k:Nat}(hk:k<l.length)(h:Fv s (l.take (k+1)) acc=none):Fv s l acc=none:=by
 cases ho:Fv s l acc with
 | none=>rfl
 | some r=>
   obtain⟨b,hb,_⟩:=Zj ho (k+1) hk;rw [hb]at h;cases h
def jE(l:List Int)(j:Nat):Prop:=∀i,1<=i->i<j->∀h:i<l.length,l[i-1]≠l[i]
def oz{l:List Int}{j:Nat}(hj:1<=j)(h:jE l j){a b:Int}(ha:l[j]? =some a)(hb:l[j-1]? =some b)(hne:a≠b):jE l (j+1):=λi h1 h2 h3=>by
 by_cases he:i=j
 ·subst he;obtain⟨_,e1⟩:=Cc.1 ha;obtain⟨_,e2⟩:=Cc.1 hb;rw [e1,e2];exact λe=>hne e.symm
 ·exact h i h1 O h3
def zK:∀{l:List Int},(∀i,1<=i->∀h:i<l.length,l[i-1]≠l[i])->Gz l=true
 | [],_=>rfl
 | [_],_=>rfl
 | a::b::t,h=>by
   have h1:=h 1 (Ad _) Θ;have ih:=zK (l:=b::t) (λi h2 h3=>by
    have:=h (i+1) O (by simpa using h3);obtain⟨i,rfl⟩:∃k,i=k+1:=⟨i-1,O⟩;simpa using this)
   unfold Gz;simp only [Bool.and_eq_true,Bool.not_eq_true',beq_eq_false_iff_ne];exact⟨h1,ih⟩
