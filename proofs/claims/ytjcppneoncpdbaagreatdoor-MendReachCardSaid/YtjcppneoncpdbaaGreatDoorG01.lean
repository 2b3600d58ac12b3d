import Derived.WalkKit
import Derived.WalkSpells
import Derived.WalkLawsBesides
import Derived.Lib.Hide
import Derived.Deep.AppendLies
import Derived.Deep.RegionLaw
import Derived.Outline
import Derived.Lib.BytesEntry
import Derived.Deep.Draws
import Derived.Deep.QuietTactic
import Derived.BigQuiet
import Derived.Laws.BitsAllLaws
import Derived.Laws.Bits64
open List renaming getElem?_eq_getElem->Ag,eq_nil_of_length_eq_zero->BK,getElem?_take->CY,mem_map->BX,replicate->Bq,ext_getElem->Ew,getElem?_eq_some_iff->CB,getElem?_map->BO,length_take->Ed,map_toArray->LQ,map_cons->Cf,map_nil->FY,take_succ_eq_append_getElem->Df,getElem_mem->CU,flatMap_cons->yX,take_succ_cons->Jn,drop_eq_getElem_cons->Fz,all_cons->Afu,length_cons->BJ,cons_append->Ci,all_eq_true->Em,map_set->Qj,set_append_right->Rq,replicate_succ->TD,getElem_cons_succ->Ap,nil_append->Et,range->Eo,length_append->AQ,ext_getElem?->IL,getElem?_mapIdx->LU,getElem?_set->GV,getElem_set->JO,getElem?_eq_none->Ff,getElem_take->yY,getElem_of_mem->CG,filter_cons->zG,take_of_length_le->EW,drop_take->Adb,take_take->Adc,getElem_map->MX,getElem_range->U8,getD_cons_zero->sH
open Nat renaming le_refl->Ae,eq_zero_or_pos->GM,mul_le_mul->Ih,pow_succ->Jl,mul_assoc->MN,mul_comm->IK,min_eq_left->MG,pow_le_pow_right->EN,div_div_eq_div_mul->mg,mod_eq_of_lt->FM,lt_of_lt_of_le->Cb,mod_lt->Rt,xor_lt_two_pow->U2
open Array renaming getElem?_eq_some_iff->Az,getElem?_push->FZ
open Go.Value renaming int->Aw,cells->ni
open Option renaming map_some->Dw
open UInt64 renaming ofNat->AA,toNat_ofNat'->Jh
namespace Go.Proofs.YtjcppneoncpdbaaGreatDoor
open Go.RowKit
def Rd(w:World)(A:Option Addr)(n:Nat)(xs:List Value):Prop:=
 xs.length=n/\(0<n->∃b off,A=some ⟨b,off,none⟩/\b<w.heap.size/\∀j,j<n->w.cell? ⟨b,off+j,none⟩=xs[j]?)
theorem Rd.nil{w:World}{A:Option Addr}:Rd w A 0 []:=⟨rfl,fun h=>absurd h (by omega)⟩
theorem Rd.at{w:World}{A:Option Addr}{n:Nat}{xs:List Value}(h:Rd w A n xs){k:Nat}(hk:k<n):
 ∃b off u,A=some ⟨b,off,none⟩/\b<w.heap.size/\xs[k]? =some u/\w.cell? ⟨b,off+k,none⟩=some u:=by
 obtain⟨b,off,e,hb,hc⟩:=h.2 (by omega);have hl:k<xs.length:=by have:=h.1;omega
 exact⟨b,off,xs[k],e,hb,Ag hl,(hc k hk).trans (Ag hl)⟩
theorem Rd.keep{w w':World}{A:Option Addr}{n:Nat}{xs:List Value}(h:Rd w A n xs)(hs:w.heap.size<=w'.heap.size)
 (hk:∀k,k<w.heap.size->w'.heap[k]? =w.heap[k]?):Rd w' A n xs:=
 ⟨h.1,fun hn=>by
   obtain⟨b,off,e,hb,hc⟩:=h.2 hn;exact⟨b,off,e,by omega,fun j hj=>(World.cell?_of_block (w:=w) (hk b hb)).trans (hc j hj)⟩⟩
theorem Rd.below{w w':World}{A:Option Addr}{n:Nat}{xs:List Value}(h:Rd w A n xs)(hb:Below w.heap.size w w'):Rd w' A n xs:=
 h.keep hb.size hb.block
def bv(b:UInt8):Value:= .int .u8 (b.toNat:Int)
def wv(x:UInt64):Value:= .int .u64 (x.toNat:Int)
def Bs(w:World)(A:Option Addr)(n:Nat)(l:List UInt8):Prop:=Rd w A n (l.map bv)
def Ws(w:World)(A:Option Addr)(n:Nat)(l:List UInt64):Prop:=Rd w A n (l.map wv)
theorem Bs.len{w:World}{A:Option Addr}{n:Nat}{l:List UInt8}(h:Bs w A n l):l.length=n:=by
 have:=h.1;simpa using this
theorem Ws.len{w:World}{A:Option Addr}{n:Nat}{l:List UInt64}(h:Ws w A n l):l.length=n:=by
 have:=h.1;simpa using this
theorem Bs.below{w w':World}{A:Option Addr}{n:Nat}{l:List UInt8}(h:Bs w A n l)(hb:Below w.heap.size w w'):Bs w' A n l:=Rd.below h hb
theorem Ws.below{w w':World}{A:Option Addr}{n:Nat}{l:List UInt64}(h:Ws w A n l)(hb:Below w.heap.size w w'):Ws w' A n l:=Rd.below h hb
theorem Bs.at{w:World}{A:Option Addr}{n:Nat}{l:List UInt8}(h:Bs w A n l){k:Nat}(hk:k<n):
 ∃(hl:k<l.length)(b off:Nat),A=some ⟨b,off,none⟩/\b<w.heap.size/\w.cell? ⟨b,off+k,none⟩=some (.int .u8 (l[k].toNat:Int)):=by
 have hl:k<l.length:=by have:=h.len;omega
 obtain⟨b,off,u,e,hb,hu,hc⟩:=Rd.at h hk;refine⟨hl,b,off,e,hb,?_⟩;rw [hc,<-hu];simp [bv,hl]
theorem Ws.at{w:World}{A:Option Addr}{n:Nat}{l:List UInt64}(h:Ws w A n l){k:Nat}(hk:k<n):
 ∃(hl:k<l.length)(b off:Nat),A=some ⟨b,off,none⟩/\b<w.heap.size/\w.cell? ⟨b,off+k,none⟩=some (.int .u64 (l[k].toNat:Int)):=by
 have hl:k<l.length:=by have:=h.len;omega
 obtain⟨b,off,u,e,hb,hu,hc⟩:=Rd.at h hk;refine⟨hl,b,off,e,hb,?_⟩;rw [hc,<-hu];simp [wv,hl]
theorem CP{w:World}{base:Nat}{e:TypeId}{v:Value}{n:Nat}{xs:List Value}(h:w.ownsRow base e 1 v n xs):
 ∃A c,v= .slice A n c/\n<=c/\Rd w A n xs:=by
 obtain⟨h1,h2⟩:=h;rcases h2 with⟨rfl,rfl⟩| ⟨g,cap,cur,rfl,_,hg,hnc,_,hcs,htake⟩
 ·have:xs=[]:=BK (by simpa using h1);subst this;exact⟨none,0,rfl,Ae _,Rd.nil⟩
 ·refine⟨_,_,rfl,hnc,by simpa using h1,fun hn=>⟨g,0,rfl,?_,fun j hj=> ?_⟩⟩
  ·exact(Az.1 hg).1
  ·rw [cell_of_row w g (0+j) cur e (0,0) hg,<-htake,CY,if_pos (by omega)];simp
def Dr(w w':World):Prop:=∃q,w'=w.drewN q
theorem Dr.refl(w:World):Dr w w:=⟨0,rfl⟩
theorem Dr.one(w:World)(q:Nat):Dr w (w.drewN q):=⟨q,rfl⟩
theorem Dr.two(w:World)(q r:Nat):Dr w ((w.drewN q).drewN r):=⟨q+r,World.drewN_drewN _ _ _⟩
theorem Dr.trans{a b c:World}(h:Dr a b)(k:Dr b c):Dr a c:=by
 obtain⟨q,rfl⟩:=h;obtain⟨r,rfl⟩:=k;exact Dr.two _ _ _
theorem Dr.below{w w':World}(h:Dr w w')(B:Nat):Below B w w':=by
 obtain⟨q,rfl⟩:=h;exact⟨rfl,rfl,rfl,Ae _,fun _ _=>rfl⟩
theorem WZ{w:World}{base g cap:Nat}{e:TypeId}{n:Nat}{xs:List Value}(h:w.ownsRow base e 1 (.slice (some ⟨g,0,none⟩) n cap) n xs){k:Nat}(hk:k<n):∃u,w.cell? ⟨g,k,none⟩=some u:=by
 rw [h.cellAt k (by omega)];exact⟨_,Ag (by have:=h.1;omega)⟩
theorem vC{v u:Value}(h:v=u):Ending.returned v=Ending.returned u:=by rw [h]
theorem Hw(l:List UInt8):∀u∈l.map bv,u.oneCell'=true:=by
 intro u hu;obtain⟨_,_,rfl⟩:=BX.1 hu;rfl
theorem OX(l:List UInt64):∀u∈l.map wv,u.oneCell'=true:=by
 intro u hu;obtain⟨_,_,rfl⟩:=BX.1 hu;rfl
theorem block_lt_of_cell{w:World}{a:Addr}{v:Value}(h:w.cell? a=some v):a.block<w.heap.size:=by
 rcases Nat.lt_or_ge a.block w.heap.size with hlt| hge
 ·exact hlt
 ·rw [World.cell?,Array.getElem?_eq_none hge]at h;cases h
theorem OY(n:Nat):(madeCells (Aw .u8 0).cells (n*1)).toList=(Bq n (0:UInt8)).map bv:=by
 apply Ew
 ·simp [madeCells]
 ·intro i h1 h2;simp [madeCells,ni,Nat.mod_one,bv]
theorem KH(n:Nat):(madeCells (Aw .u64 0).cells (n*1)).toList=(Bq n (0:UInt64)).map wv:=by
 apply Ew
 ·simp [madeCells]
 ·intro i h1 h2;simp [madeCells,ni,Nat.mod_one,wv]
theorem Agn {P : Program} {w : World} {A : Option Addr} {n : Nat} {l : List UInt8} (h : Bs w A n l) (c : Nat) :
    (Extern.Bytes.bytesOf (.slice A n c)).run P w = .ok ⟨l.toArray⟩ w := by
  have hlen := h.len
  rcases A with _ | ad
  · have hn : n = 0 := by
      rcases GM n with h0 | h0
      · exact h0
      · obtain ⟨_, _, e, _⟩ := h.2 h0; cases e
    subst hn
    have hl : l = [] := BK hlen
    subst hl
    rfl
  · have key := Lib.run_loadBytesX (P := P) w (l.map fun b => (b.toNat : Int)) ad .empty (fun j x hx => by
      have hjl : j < l.length := by
        have := (CB.1 hx).1
        simpa using this
      obtain ⟨hl, b, off, e, hb, hc⟩ := h.at (k := j) (by omega)
      injection e with e
      subst e
      rw [Addr.add_lit, hc]
      rw [BO, Ag hjl] at hx
      simp only [Dw, Option.some.injEq] at hx
      rw [hx])
    simp only [List.length_map, hlen] at key
    show (Extern.Bytes.loadBytes ad n .empty).run P w = _
    rw [key]
    congr 1
    apply ByteArray.ext
    show (#[] : Array UInt8) ++ (Lib.bytesOf _).toArray = l.toArray
    simp [Lib.bytesOf, Function.comp_def]
theorem KI {P : Program} {w : World} {src e dst : TypeId} (hs : P.underlying src = some (.slice e)) (he : P.underlying e = some (.int .u8)) (hd : P.underlying dst = some .string)
    {A : Option Addr} {n : Nat} {l : List UInt8} (h : Bs w A n l) (c : Nat) : (convert src dst (.slice A n c)).run P w = .ok (.string ⟨l.toArray⟩) w := by
  have hlen := h.len
  rcases A with _ | ad
  · have hn : n = 0 := by
      rcases GM n with h0 | h0
      · exact h0
      · obtain ⟨_, _, e, _⟩ := h.2 h0; cases e
    subst hn
    have hl : l = [] := BK hlen
    subst hl
    exact run_convert_bytes_nil w src e hs he 0 c dst hd
  · have hl : (loadCells ad n).run P w = .ok ((l.map fun b => (b.toNat : Int)).map (Aw .u8)).toArray w := by
      have := run_loadCells_list (P := P) w ad ((l.map fun b => (b.toNat : Int)).map (Aw .u8)) (fun j v hj => by
        have hjl : j < l.length := by
          have := (CB.1 hj).1
          simpa using this
        obtain ⟨hl, b, off, e, hb, hc⟩ := h.at (k := j) (by omega)
        injection e with e
        subst e
        rw [Addr.add_lit, hc]
        simp only [BO, Ag hjl, Dw, Option.some.injEq] at hj
        rw [hj])
      simpa [hlen] using this
    rw [run_convert_bytes_string w src dst e _ n c hs he hd, run_bytesToString w _ n c _ hl, foldl_push_bytes]
    congr 2
    apply ByteArray.ext
    show (#[] : Array UInt8) ++ _ = l.toArray
    simp [Function.comp_def]
structure L6(P:Program)(t e:TypeId)(z:Value)(bytes:Nat):Prop where
 ht:P.underlying t=some (.slice e)
 hi:(P.info? e).map (fun i=>(i.zero,i.size,i.bytes))=some (some z,1,bytes)
 hz:z.cells.size=1
def TI(A:Option Addr)(c lo:Nat):Option Addr:=if c=lo then A else A.map (·.add lo)
theorem Rd.sub{w:World}{A:Option Addr}{n:Nat}{xs:List Value}(h:Rd w A n xs){c lo hi:Nat}(h1:lo<=hi)(h2:hi<=n)(hc:n<=c):Rd w (TI A c lo) (hi-lo) ((xs.drop lo).take (hi-lo)):=by
 refine⟨by rw [Ed,List.length_drop,h.1];omega,fun h0=> ?_⟩;obtain⟨b,off,rfl,hb,hcl⟩:=h.2 (by omega);refine⟨b,off+lo,?_,hb,fun j hj=> ?_⟩
 ·rw [TI,if_neg (by omega)];simp [Addr.add_lit]
 ·rw [Nat.add_assoc,hcl (lo+j) (by omega),CY,if_pos hj,List.getElem?_drop]
section
variable{P:Program}{t e:TypeId}{z:Value}{bytes:Nat}
theorem L6.OZ(T:L6 P t e z bytes)(w:World):(sizeOf e).run P w= .ok 1 w:=by
 obtain⟨i,hi,hz0,hz1,hz2⟩:=info_parts T.hi;simp [sizeOf,typeInfo,hi,hz1]
theorem sW(T:L6 P t e z bytes)(A:Option Addr)(n c:Nat)(k1 k2:IntKind)(lo hi:Nat)(h1:lo<=hi)(h2:hi<=c)(w:World):
 (Instr.slice t (.slice A n c) (some (.int k1 (lo:Int))) (some (.int k2 (hi:Int))) none).run P w= .ok (.slice (TI A c lo) (hi-lo) (c-lo)) w:=by
 have e1:=run_sliceBound (P:=P) (w:=w) k2 (hi:Int) c .sliceAcap (by omega) (by omega);have e2:=run_sliceBound (P:=P) (w:=w) k1 (lo:Int) hi .sliceB (by omega) (by omega);simp [Instr.slice,run_underlying T.ht,Instr.sliceBounds,e1,e2,T.OZ,TI]
theorem gZ(T:L6 P t e z bytes)(A:Option Addr)(n c:Nat)(k1:IntKind)(lo:Nat)(h1:lo<=n)(w:World):
 (Instr.slice t (.slice A n c) (some (.int k1 (lo:Int))) none none).run P w= .ok (.slice (TI A c lo) (n-lo) (c-lo)) w:=by
 have e2:=run_sliceBound (P:=P) (w:=w) k1 (lo:Int) n .sliceB (by omega) (by omega);simp [Instr.slice,run_underlying T.ht,Instr.sliceBounds,e2,T.OZ,TI]
end
theorem vF {P : Program} {t e : TypeId} {z : Value} {bytes : Nat} (T : L6 P t e z bytes) (ty : TypeId) {w : World} {base : Nat} {v : Value} {n : Nat} {xs news : List Value}
    (hown : w.ownsRow base e 1 v n xs) {A : Option Addr} {m : Nat} (hr : Rd w A m news)
    (h1 : ∀ u ∈ news, u.oneCell' = true) (hm : n + m <= 1000000000) (hby : bytes <= 64) (hbase : base <= w.heap.size) (c : Nat) :
    ∃ v' w', (Builtin.append_ #[t, t] ty #[v, .slice A m c]).run P w = .ok v' w' /\ w'.ownsRow base e 1 v' (n + m) (xs ++ news) /\ Below base w w' := by
  obtain ⟨i, hi, hz0, hz1, hz2⟩ := info_parts T.hi
  rcases A with _ | ad
  · have h0 : m = 0 := by
      rcases GM m with h0 | h0
      · exact h0
      · obtain ⟨_, _, e, _⟩ := hr.2 h0; cases e
    subst h0
    have hn : news = [] := BK hr.1
    subst hn
    refine ⟨v, w, ?_, by simpa using hown, Below.refl _ _⟩
    rcases hown.2 with ⟨rfl, rfl⟩ | ⟨g, cap, cur, rfl, _, _, hnc, _⟩
    · simp [Builtin.append_, run_underlying T.ht, sizeOf, typeInfo, hi, Builtin.lenOf, Builtin.firstCells]
    · simp [Builtin.append_, run_underlying T.ht, sizeOf, typeInfo, hi, Builtin.lenOf, Builtin.firstCells, hnc, storeCells]
  · have hcells : ∀ j u, news[j]? = some u -> w.cell? (ad.add j) = some u := by
      intro j u hu
      have hj : j < m := by
        have := (CB.1 hu).1
        have := hr.1
        omega
      obtain ⟨b, off, e, _, hc⟩ := hr.2 (by omega)
      injection e with e
      subst e
      rw [Addr.add_lit, hc j hj, hu]
    have hmul : (n + m) * bytes <= 1000000000 * 64 := Ih hm hby
    obtain ⟨v', w', hrun, h2, h3, _⟩ := run_append_own (P := P) w base t ty e i z 1 bytes T.ht hi hz0 hz1 hz2 T.hz (by decide) v n xs hown ad m c news (by simp [hr.1]) hcells h1
      (by unfold maxLen; omega) (by omega) hbase
    exact ⟨v', w', hrun, h2, (Below.refl _ _).grown h3 hbase (fun k hk => (hown.lt k hk).1)⟩
theorem RH{P:Program}{ops:Array Oper}{rest:List Oper}{o:Oper}{a:Act}{w:World}{Q:Exit->Act->World->Prop}(hgd:o.guard=none)(s x:Operand)(t:TypeId)
 (ho:o.op= .call {callee:= .builtin .append,args:= #[s,x],argTypes:= #[t,t]}){e:TypeId}{z:Value}{bytes:Nat}(T:L6 P t e z bytes)
 (base:Nat)(v:Value)(n:Nat)(xs news:List Value)(hs:a.eval s=v)(hown:w.ownsRow base e 1 v n xs)(A:Option Addr)(m c:Nat)(hx:a.eval x= .slice A m c)(hr:Rd w A m news)
 (h1:∀u∈news,u.oneCell'=true)(hm:n+m<=1000000000)(hby:bytes<=64)(hbase:base<=w.heap.size)
 (h:∀v' w',w'.ownsRow base e 1 v' (n+m) (xs++news)->Below base w w'->wpList P ops Q rest (a.put o.dst v') w'):wpList P ops Q (o::rest) a w:=by
 refine wpList_plain hgd fun K hK=> ?_
 obtain⟨v',w',hrun,h2,h3⟩:=vF T o.type hown hr h1 hm hby hbase c;unfold Oper.wp execOp;simp only [ho,resolve,invoke,builtin,Sem.run_bind,Sem.run_pure,Result.andThen_ok,LQ,Cf,FY,hs,hx,hrun];exact hK _ _ (h v' w' h2 h3)
theorem nC{P:Program}{t e:TypeId}{z:Value}{bytes:Nat}(T:L6 P t e z bytes)(ty:TypeId){w wr:World}{base:Nat}{v:Value}{n:Nat}{xs news:List Value}
 (hown:wr.ownsRow base e 1 v n xs)(hw:w.heap=wr.heap.push (.cells news.toArray e))(hos:w.os=wr.os)(htape:w.tape=wr.tape)(hout:w.output=wr.output)
 (h1:∀u∈news,u.oneCell'=true)(hm:n+news.length<=1000000000)(hby:bytes<=64)(hbase:base<=wr.heap.size)(m c:Nat)(hmn:m=news.length):
 ∃v' w',(Builtin.append_ #[t,t] ty #[v,.slice (some ⟨wr.heap.size,0,none⟩) m c]).run P w= .ok v' w'/\w'.ownsRow base e 1 v' (n+m) (xs++news)/\Below base wr w':=by
 subst hmn;obtain⟨i,hi,hz0,hz1,hz2⟩:=info_parts T.hi;have hb1:Below wr.heap.size wr w:=⟨hos,htape,hout,by rw [hw];simp,fun k hk=>by rw [hw,FZ,if_neg (by omega)]⟩;have hown':w.ownsRow base e 1 v n xs:=by
  refine⟨hown.1,?_⟩;rcases hown.2 with h| ⟨g,cap,cur,h1,h2,h3,h4⟩
  ·exact .inl h
  ·exact .inr ⟨g,cap,cur,h1,h2,by rw [hb1.block g (Az.1 h3).1];exact h3,h4⟩
 have hcells:∀j u,news[j]? =some u->w.cell? ((⟨wr.heap.size,0,none⟩:Addr).add j)=some u:=by
  intro j u hu;rw [show(⟨wr.heap.size,0,none⟩:Addr).add j=⟨wr.heap.size,0+j,none⟩from Addr.add_lit _ _ _];rw [cell_of_row w wr.heap.size (0+j) news.toArray e (0,0) (by rw [hw,FZ,if_pos rfl])];simpa using hu
 have hmul:(n+news.length)*bytes<=1000000000*64:=Ih hm hby;obtain⟨v',w',hrun,h2,h3,_⟩:=run_append_own (P:=P) w base t ty e i z 1 bytes T.ht hi hz0 hz1 hz2 T.hz (by decide) v n xs hown' _ news.length c news (by simp) hcells h1
  (by unfold maxLen;omega) (by omega) (by rw [hw];simp;omega)
 refine⟨v',w',hrun,h2,(hb1.mono hbase).trans ?_⟩;exact(Below.refl _ _).grown h3 (by rw [hw];simp;omega) (fun k hk=>(hown'.lt k hk).1)
theorem bu{P:Program}{ops:Array Oper}{o:Oper}{a:Act}{w:World}{K:Act->World->Prop}{Q:Exit->Act->World->Prop}{E:Prop}(hgd:o.guard=none)(s x:Operand)(t:TypeId)
 (ho:o.op= .call {callee:= .builtin .append,args:= #[s,x],argTypes:= #[t,t]}){e:TypeId}{z:Value}{bytes:Nat}(T:L6 P t e z bytes)
 (wr:World)(base:Nat)(v:Value)(n:Nat)(xs news:List Value)(hs:a.eval s=v)(hown:wr.ownsRow base e 1 v n xs)(hw:w.heap=wr.heap.push (.cells news.toArray e))
 (hos:w.os=wr.os)(htape:w.tape=wr.tape)(hout:w.output=wr.output)
 (m c:Nat)(hx:a.eval x= .slice (some ⟨wr.heap.size,0,none⟩) m c)(hmn:m=news.length)
 (h1:∀u∈news,u.oneCell'=true)(hm:n+news.length<=1000000000)(hby:bytes<=64)(hbase:base<=wr.heap.size)
 (h:∀v' w',w'.ownsRow base e 1 v' (n+m) (xs++news)->Below base wr w'->K (a.put o.dst v') w'):
 if Region.wanted o (yielded ops a.tmps)=true then Oper.wp P o a w K Q else E:=by
 have hwt:Region.wanted o (yielded ops a.tmps)=true:=by simp [Region.wanted,hgd]
 rw [if_pos hwt];obtain⟨v',w',hrun,h2,h3⟩:=nC T o.type hown hw hos htape hout h1 hm hby hbase m c hmn;unfold Oper.wp execOp;simp only [ho,resolve,invoke,builtin,Sem.run_bind,Sem.run_pure,Result.andThen_ok,LQ,Cf,FY,hs,hx,hrun];exact h v' w' h2 h3
def DR(b:UInt8):Bool:=b.toNat<16
theorem RI{α:Type}(p:α->Bool)(l:List α)(k:Nat)(h:k<l.length)(ha:(l.take k).all p=true)(hp:p l[k]=true):(l.take (k+1)).all p=true:=by
 rw [Df h,List.all_append,ha];simp [hp]
theorem U9{α:Type}(p:α->Bool)(l:List α)(k:Nat)(h:k<l.length)(hp:p l[k]=false):l.all p=false:=by
 rw [List.all_eq_false];exact⟨l[k],CU h,by simp [hp]⟩
theorem UA{b:UInt8}(h:b.toNat<16):DR b=true:=by simp [DR,h]
theorem zQ{b:UInt8}(h:¬b.toNat<16):DR b=false:=by simp [DR];omega
def Di(l:List UInt8):List UInt8:=l.flatMap fun b=>[b/16,b%16]
theorem Xa(l:List UInt8)(k:Nat)(h:k<l.length):Di (l.take (k+1))=Di (l.take k)++[l[k]/16,l[k]%16]:=by
 rw [Df h];simp only [Di,List.flatMap_append,yX,List.flatMap_nil,List.append_nil]
theorem Sj(s:ByteArray)(k:Nat)(h:k<s.size):Di (s.data.toList.take (k+1))=Di (s.data.toList.take k)++[s[k]/16,s[k]%16]:=by
 have hl:k<s.data.toList.length:=by simpa using h
 rw [Xa _ k hl];rfl
theorem L8(l:List UInt8):(Di l).length=2*l.length:=by
 induction l with
 | nil=>rfl
 | cons a l ih=>simp [Di]at ih⊢;omega
theorem Ago(b:UInt8):Aw .u8 ((b.toNat:Int)/16)=bv (b/16):=by simp [bv]
theorem Agp(b:UInt8):Aw .u8 ((b.toNat:Int)%16)=bv (b%16):=by simp [bv]
theorem Adi(b:UInt8):Aw .u8 (IntKind.u8.wrap ((b.toNat:Int)/16))=bv (b/16):=by
 have:=b.toNat_lt;rw [<-Ago,IntWalk.u8_in _ (by omega)]
theorem Adj(b:UInt8):Aw .u8 ((b.toNat:Int).tmod 16)=bv (b%16):=by
 rw [<-Agp,Int.tmod_eq_emod_of_nonneg (by omega)]
def common:List UInt8->List UInt8->Nat
 | a::as,b::bs=>if a=b then common as bs+1 else 0
 | _,_=>0
theorem I8:∀(a b:List UInt8),common a b<=a.length
 | [],_=>by simp [common]
 | a::as,[]=>by simp [common]
 | a::as,b::bs=>by
   simp only [common];have:=I8 as bs;split<;>simp;omega
theorem Qp:∀(a b:List UInt8),common a b=common b a
 | [],[]=>rfl
 | [],_::_=>by simp [common]
 | _::_,[]=>by simp [common]
 | a::as,b::bs=>by
   simp only [common];rw [Qp as bs];by_cases h:a=b
   ·subst h;simp
   ·simp [h,Ne.symm h]
theorem EP(a b:List UInt8):common a b<=b.length:=by rw [Qp];exact I8 b a
def alike(k:Nat)(a b:List UInt8):Prop:=k<=a.length/\k<=b.length/\a.take k=b.take k
theorem nD(a b:List UInt8):alike 0 a b:=⟨Nat.zero_le _,Nat.zero_le _,by simp⟩
theorem LW:∀(k:Nat)(a b:List UInt8),alike k a b->common a b=k+common (a.drop k) (b.drop k)
 | 0,a,b,_=>by simp
 | k+1,[],b,h=>by have:=h.1;simp at this
 | k+1,a::as,[],h=>by have:=h.2.1;simp at this
 | k+1,a::as,b::bs,h=>by
   obtain⟨h1,h2,h3⟩:=h;simp only [Jn,List.cons.injEq]at h3;obtain⟨rfl,h3⟩:=h3;have:=LW k as bs ⟨by simpa using h1,by simpa using h2,h3⟩;simp [common,this];omega
theorem nG{k:Nat}{a b:List UInt8}(h:alike k a b)(ha:k<a.length)(hb:k<b.length)(e:a[k]=b[k]):alike (k+1) a b:=
 ⟨ha,hb,by rw [Df ha,Df hb,h.2.2,e]⟩
theorem Wh{k:Nat}{a b:List UInt8}(h:alike k a b)(ha:k<a.length)(hb:k<b.length)(e:a[k]≠b[k]):common a b=k:=by
 rw [LW k a b h,Fz ha,Fz hb];simp [common,e]
theorem NJ{k:Nat}{a b:List UInt8}(h:alike k a b)(ha:a.length=k):common a b=k:=by
 rw [LW k a b h,List.drop_of_length_le (by omega)];simp [common]
theorem Sl{k:Nat}{a b:List UInt8}(h:alike k a b)(hb:b.length=k):common a b=k:=by
 rw [Qp];exact NJ ⟨h.2.1,h.1,h.2.2.symm⟩ hb
theorem ig{a b:UInt8}(h:a=b):(((a.toNat:Int))==(b.toNat:Int))=true:=by simp [h]
theorem bz{a b:UInt8}(h:a≠b):(((a.toNat:Int))==(b.toNat:Int))=false:=by
 rw [beq_eq_false_iff_ne];intro e;exact h (UInt8.toNat_inj.1 (by omega))
def EG:List UInt8->Nat
 | []=>0
 | d::l=>d.toNat+16*EG l
theorem TJ:∀(l:List UInt8),l.all DR=true->EG l<16^l.length
 | [],_=>by simp [EG]
 | d::l,h=>by
   simp only [Afu,Bool.and_eq_true]at h;have:=TJ l h.2;have hd:d.toNat<16:=by simpa [DR]using h.1
   simp only [EG,BJ,Jl];omega
theorem TK:∀(l m:List UInt8),EG (l++m)=EG l+16^l.length*EG m
 | [],m=>by simp [EG]
 | d::l,m=>by
   simp only [Ci,EG,TK l m,BJ,Jl];have:16*(16^l.length*EG m)=16^l.length*16*EG m:=by rw [<-MN,IK 16]
   omega
theorem Wi(l:List UInt8)(k:Nat)(h:k<l.length):EG (l.take (k+1))=EG (l.take k)+16^k*l[k].toNat:=by
 rw [Df h,TK];simp [EG,MG (Nat.le_of_lt h)]
theorem Afw(k:Nat):16^(k+1)=2^(4+4*k):=by
 rw [show(16:Nat)=2^4 from rfl,<-Nat.pow_mul];congr 1;omega
theorem TL(p:UInt8->Bool)(l:List UInt8)(k:Nat)(h:l.all p=true):(l.take k).all p=true:=by
 rw [Em]at h⊢;exact fun x hx=>h x (List.mem_of_mem_take hx)
theorem TM(p:UInt8->Bool)(l:List UInt8)(k:Nat)(h:l.all p=true):(l.drop k).all p=true:=by
 rw [Em]at h⊢;exact fun x hx=>h x (List.mem_of_mem_drop hx)
theorem WG{l:List UInt8}{k:Nat}(h:l.all DR=true)(hk:k<l.length):l[k].toNat<16:=by
 rw [Em]at h;simpa [DR]using h l[k] (CU hk)
theorem vG(l:List UInt8)(n k:Nat)(hn:n<=15)(hk:k<n)(hl:k<l.length)(Sm:l.all DR=true):
 Aw IntKind.u64 (bits BinOp.or IntKind.u64 ((n:Int)+16*(EG (l.take k):Int)) (IntKind.u64.wrap (IntKind.u64.wrap (l[k].toNat:Int)*2^(4+4*k))))=
  Aw IntKind.u64 ((n+16*EG (l.take (k+1)):Nat):Int):=by
 have hd:=WG Sm hl;have hp:=TJ (l.take k) (TL _ _ _ Sm);rw [Ed,MG (by omega)]at hp;have Ao5:16^(k+1)<=16^15:=EN (by decide) (by omega);have hs:16^(k+1)=16*16^k:=by rw [Jl,IK]
 have hX:n+16*EG (l.take k)<16^(k+1):=by omega
 have hdm:l[k].toNat*16^(k+1)<=15*16^(k+1):=Nat.mul_le_mul_right _ (by omega);have h15:(16:Nat)^15=1152921504606846976:=by decide
 congr 1;have e1:IntKind.u64.wrap (l[k].toNat:Int)=(l[k].toNat:Int):=IntWalk.u64_in _ (by omega);have e2:(l[k].toNat:Int)*2^(4+4*k)=((l[k].toNat*16^(k+1):Nat):Int):=by rw [Afw];simp
 rw [e1,e2,IntWalk.u64_in _ (by omega)];have e3:(n:Int)+16*(EG (l.take k):Int)=((n+16*EG (l.take k):Nat):Int):=by simp
 rw [e3,u64_or_nat _ _ (by omega) (by omega)];congr 1;rw [Wi l k hl];rw [Afw]at hX hs⊢;have hor:=Nat.two_pow_add_eq_or_of_lt hX l[k].toNat;rw [Nat.or_comm,IK,<-hor,hs];have:16*16^k*l[k].toNat=16*(16^k*l[k].toNat):=MN _ _ _;omega
def digits:Nat->Nat->List UInt8
 | 0,_=>[]
 | k+1,n=>UInt8.ofNat (n%16)::digits k (n/16)
theorem digits_length:∀(k n:Nat),(digits k n).length=k
 | 0,_=>rfl
 | k+1,n=>by simp [digits,digits_length k]
theorem Vx:∀(k n:Nat),digits (k+1) n=digits k n++[UInt8.ofNat (n/16^k%16)]
 | 0,n=>by simp [digits]
 | k+1,n=>by
   rw [digits,Vx k (n/16),digits,Ci,mg,Jl,IK 16]
theorem TN:∀(l:List UInt8),l.all DR=true->digits l.length (EG l)=l
 | [],_=>rfl
 | d::l,h=>by
   simp only [Afu,Bool.and_eq_true]at h;have hd:d.toNat<16:=by simpa [DR]using h.1
   rw [BJ,EG,digits,show(d.toNat+16*EG l)/16=EG l by omega,TN l h.2,show(d.toNat+16*EG l)%16=d.toNat by omega];simp
theorem sZ(n:Nat):Aw .u8 ((n:Int)%16)=bv (UInt8.ofNat (n%16)):=by
 simp only [bv,UInt8.toNat_ofNat'];rw [FM (show n%16<2^8 by omega)];simp
theorem bC(k n:Nat)(y:Nat)(hk:k<n):
 (((digits k y++Bq (n-k) (0:UInt8)).map bv).set k (bv (UInt8.ofNat (y/16^k%16))))=(digits (k+1) y++Bq (n- (k+1)) (0:UInt8)).map bv:=by
 rw [Vx,<-Qj,Rq _ _ (by rw [digits_length];omega),digits_length];obtain⟨r,hr⟩:∃r,n-k=r+1:=⟨n-k-1,by omega⟩;rw [hr,show n- (k+1)=r by omega,TD];simp
def pairs:List UInt8->List UInt8
 | a::b::l=>(a*16+b)::pairs l
 | _=>[]
theorem TP:∀(l:List UInt8),(pairs l).length=l.length/2
 | []=>rfl
 | [_]=>by simp [pairs]
 | a::b::l=>by simp [pairs,TP l];omega
theorem Vy:∀(i:Nat)(l:List UInt8)(_:i%2=0)(h:i+1<l.length),pairs (l.take (i+2))=pairs (l.take i)++[l[i]*16+l[i+1]]
 | 0,a::b::l,_,_=>by simp [pairs]
 | 1,_,hi,_=>by simp at hi
 | i+2,a::b::l,hi,h=>by
   have:=Vy i l (by omega) (by simp at h;omega);simp only [Jn,pairs,Ci,Ap];rw [this]
 | 0,[],_,h=>by simp at h
 | 0,[_],_,h=>by simp at h
 | i+2,[],_,h=>by simp at h
 | i+2,[_],_,h=>by simp at h
theorem nH(k:Nat)(l:List UInt8)(h:2*k+1<l.length):pairs (l.take (2*(k+1)))=pairs (l.take (2*k))++[l[2*k]*16+l[2*k+1]]:=
 Vy (2*k) l (by omega) h
theorem Xb(l:List UInt8):pairs (l.take (2*(l.length/2)))=pairs l:=by
 have aux:∀(l:List UInt8),pairs (l.take (2*(l.length/2)))=pairs l:=by
  intro l;induction l using pairs.induct with
  | case1 a b l ih=>
    rw [show 2*((a::b::l).length/2)=2*(l.length/2)+1+1 by simp;omega];simp [pairs,ih]
  | case2 l h=>
    rcases l with _| ⟨a,_| ⟨b,l⟩⟩
    ·rfl
    ·simp [pairs]
    ·exact absurd rfl (h a b l)
 exact aux l
theorem Xc(l:List UInt8):(Di l).all DR=true:=by
 rw [Em];intro x hx;obtain⟨b,_,hx⟩:=List.mem_flatMap.1 hx;have:=b.toNat_lt;simp only [List.mem_cons,List.not_mem_nil,or_false]at hx;rcases hx with rfl| rfl<;>simp [DR]<;>omega
theorem Sr:∀(l:List UInt8),pairs (Di l)=l
 | []=>rfl
 | a::l=>by
   have:=Sr l;simp only [Di]at this;simp only [Di,yX,Ci,Et,pairs,this];congr 1;apply UInt8.toNat_inj.1;have:=a.toNat_lt;simp [UInt8.toNat_add,UInt8.toNat_mul];omega
def MZ(l:List UInt8):Bool:=decide (l.length%2=0)&&l.all DR
theorem ik(l:List UInt8)(k h:Nat)(hk:k<h)(hl:2*k+1<l.length)(hh:h=l.length/2):
 (((pairs (l.take (2*k))++Bq (h-k) (0:UInt8)).map bv).set k (bv (l[2*k]*16+l[2*k+1])))=(pairs (l.take (2*(k+1)))++Bq (h- (k+1)) (0:UInt8)).map bv:=by
 have hlen:(pairs (l.take (2*k))).length=k:=by rw [TP,Ed];omega
 rw [nH k l hl,<-Qj,Rq _ _ (by omega),hlen];obtain⟨r,hr⟩:∃r,h-k=r+1:=⟨h-k-1,by omega⟩;rw [hr,show h- (k+1)=r by omega,TD];simp
theorem tq(a b:UInt8):Aw .u8 (((a.toNat:Int)*16+(b.toNat:Int))%256)=bv (a*16+b):=by
 simp only [bv,UInt8.toNat_add,UInt8.toNat_mul];congr 1;have h1:=a.toNat_lt;have h2:=b.toNat_lt;simp
theorem TQ(l:List UInt8)(k:Nat)(hk:l.length<=k)(h:l.all DR=true):EG l<16^k:=
 Cb (TJ l h) (EN (by decide) hk)
theorem Ld:(16:Nat)^15=1152921504606846976:=by decide
theorem nI(l:List UInt8):MZ (Di l)=true:=by
 simp only [MZ,L8,Xc,Bool.and_true,decide_eq_true_eq];omega
theorem unpack_pack(l:List UInt8)(h15:l.length<=15)(h:l.all DR=true):
 (l.length+16*EG l)%16=l.length/\(l.length+16*EG l)/16=EG l/\EG l/16^l.length=0/\digits l.length (EG l)=l/\l.length+16*EG l<18446744073709551616:=by
 have h1:=TJ l h;have h2:=TQ l 15 h15 h;rw [Ld]at h2;exact⟨by omega,by omega,Nat.div_eq_of_lt h1,TN l h,by omega⟩
theorem Xd{a b:UInt8}(h1:a/16=b/16)(h2:a%16=b%16):a=b:=by
 apply UInt8.toNat_inj.1;have e1:=congrArg UInt8.toNat h1;have e2:=congrArg UInt8.toNat h2;simp at e1 e2;omega
theorem Zx(a:UInt8)(l:List UInt8):Di (a::l)=a/16::a%16::Di l:=rfl
theorem iq:Di []=[]:=rfl
theorem iw:∀(a b:List UInt8),common (Di a) (Di b)=2*common a b\/common (Di a) (Di b)=2*common a b+1
 | [],_=>by simp [iq,common]
 | a::as,[]=>by simp [Zx,iq,common]
 | a::as,b::bs=>by
   have ih:=iw as bs;simp only [Zx,common];by_cases h1:a/16=b/16
   ·by_cases h2:a%16=b%16
    ·have e:=Xd h1 h2;subst e;simp only [if_true];omega
    ·have e:a≠b:=fun e=>h2 (by rw [e])
     rw [if_pos h1,if_neg h2,if_neg e];omega
   ·have e:a≠b:=fun e=>h1 (by rw [e])
    rw [if_neg h1,if_neg e];omega
theorem RJ:∀(a b:List UInt8),common a (a++b)=a.length
 | [],_=>by simp [common]
 | a::as,b=>by simp [common,RJ as b]
theorem Qq:∀(a b:List UInt8),a.take (common a b)=b.take (common a b)
 | [],_=>by simp [common]
 | _::_,[]=>by simp [common]
 | a::as,b::bs=>by
   simp only [common];by_cases h:a=b
   ·rw [if_pos h,Jn,Jn,h,Qq as bs]
   ·rw [if_neg h];rfl
theorem Vz:∀(a b:List UInt8)(h1:common a b<a.length)(h2:common a b<b.length),a[common a b]≠b[common a b]
 | [],_,h1,_=>by simp at h1
 | _::_,[],_,h2=>by simp at h2
 | a::as,b::bs,h1,h2=>by
   by_cases h:a=b
   ·have e:common (a::as) (b::bs)=common as bs+1:=by simp [common,h]
    have h1':common as bs<as.length:=by simp [e]at h1;exact h1
    have h2':common as bs<bs.length:=by simp [e]at h2;exact h2
    have ih:=Vz as bs h1' h2';simp only [e,Ap];exact ih
   ·have e:common (a::as) (b::bs)=0:=by simp [common,h]
    simp only [e,List.getElem_cons_zero];exact h
def leB(x:UInt64)(i:Nat):UInt8:=UInt8.ofNat (x.toNat/256^i%256)
theorem UB(x:UInt64)(i:Nat):(leB x i).toNat=x.toNat/256^i%256:=by
 unfold leB;rw [UInt8.toNat_ofNat'];exact FM (Rt _ (by decide))
def UC(x:UInt64):List UInt8:=(Eo 8).map (leB x)
theorem Le(x:UInt64):(UC x).length=8:=by simp [UC]
theorem nJ(x:UInt64)(i:Nat)(h:i<8):(UC x)[i]? =some (leB x i):=by simp [UC,h]
def leBytes:List UInt64->List UInt8
 | []=>[]
 | x::l=>UC x++leBytes l
theorem leBytes_length:∀l:List UInt64,(leBytes l).length=8*l.length
 | []=>rfl
 | x::l=>by rw [leBytes,AQ,Le,leBytes_length l,BJ];omega
theorem I9:∀(l:List UInt64)(k i:Nat)(hk:k<l.length)(_:i<8),(leBytes l)[8*k+i]? =some (leB l[k] i)
 | [],_,_,hk,_=>by simp at hk
 | x::l,0,i,_,hi=>by
   rw [leBytes,List.getElem?_append_left (by rw [Le];omega)];simpa using nJ x i hi
 | x::l,k+1,i,hk,hi=>by
   rw [leBytes,List.getElem?_append_right (by rw [Le];omega),Le,show 8*(k+1)+i-8=8*k+i by omega];exact I9 l k i (by simpa using hk) hi
theorem le_step(x:UInt64)(i:Nat):x.toNat%256^i+(leB x i).toNat*256^i=x.toNat%256^(i+1):=by
 rw [UB,Jl,Nat.mod_mul];rw [IK]
theorem Agq(x:UInt64):x.toNat%256^8=x.toNat:=FM (by have:=x.toNat_lt;simpa using this)
def Wj(l:List UInt64)(k:Nat)(n:UInt64)(i:Nat):List UInt8:=(leBytes l).mapIdx fun j b=>if 8*k<=j/\j<8*k+i then leB n (j-8*k)else b
theorem V3(l:List UInt64)(k:Nat)(n:UInt64)(i:Nat):(Wj l k n i).length=8*l.length:=by simp [Wj,leBytes_length]
theorem vH(l:List UInt64)(k:Nat)(n:UInt64):Wj l k n 0=leBytes l:=by
 apply IL;intro j;simp only [Wj,LU];cases(leBytes l)[j]? with
 | none=>rfl
 | some b=>rw [Dw,if_neg (by omega)]
theorem vI(l:List UInt64)(k:Nat)(n:UInt64)(i:Nat)(hk:k<l.length)(hi:i<8):(Wj l k n i).set (8*k+i) (leB n i)=Wj l k n (i+1):=by
 apply IL;intro j;rw [GV];by_cases hj:8*k+i=j
 ·subst hj;rw [if_pos rfl,if_pos (by rw [V3];omega)];simp only [Wj,LU,I9 l k i hk hi,Dw];rw [if_pos (by omega),show 8*k+i-8*k=i by omega]
 ·rw [if_neg hj];simp only [Wj,LU];cases(leBytes l)[j]? with
  | none=>rfl
  | some b=>
    simp only [Dw];by_cases h1:8*k<=j/\j<8*k+i
    ·rw [if_pos h1,if_pos (by omega)]
    ·rw [if_neg h1,if_neg (by omega)]
theorem iy(l:List UInt64)(k:Nat)(n:UInt64)(_:k<l.length):Wj l k n 8=leBytes (l.set k n):=by
 apply IL;intro j;by_cases hj:j<8*l.length
 ·have e:j=8*(j/8)+j%8:=by omega
  have h1:j/8<l.length:=by omega
  have h2:j%8<8:=Rt _ (by decide);have a1:=I9 l (j/8) (j%8) h1 h2;have a2:=I9 (l.set k n) (j/8) (j%8) (by simpa using h1) h2;rw [<-e]at a1 a2;simp only [Wj,LU,a1,a2,Dw];rw [JO];by_cases hkj:k=j/8
  ·rw [if_pos (by omega),if_pos hkj,show j-8*k=j%8 by omega]
  ·rw [if_neg (by omega),if_neg hkj]
 ·rw [Ff (by rw [V3];omega),Ff (by rw [leBytes_length,List.length_set];omega)]
def bD:Nat:=2^64-1
def fieldN(n low size:Nat):Nat:=n/2^low%2^size
def Eg(n low size v:Nat):Nat:=(n&&&(bD- (2^size-1)*2^low))||| ((v&&&(2^size-1))*2^low)
def bF(n many:Nat):Option Nat:=(Eo many).find? fun i=> !n.testBit i
def KJ:List Nat:=[0x00000000,0x105ec76f,0x20bd8ede,0x30e349b1,0x417b1dbc,0x5125dad3,0x61c69362,0x7198540d,0x82f63b78,0x92a8fc17,0xa24bb5a6,0xb21572c9,0xc38d26c4,0xd3d3e1ab,0xe330a81a,0xf36e6f75]
def Pg(x:Nat):Nat:=(x/16)^^^KJ.getD (x%16) 0
def QS(x c:Nat):Nat:=Pg (Pg (x^^^c))
def Lh(sum:Nat)(l:List UInt8):Nat:=(l.foldl (fun x c=>QS x c.toNat) (sum^^^4294967295))^^^4294967295
structure Sh where
 lines:Nat
 BM:Nat
 table:Nat
 data:Nat
 deriving DecidableEq
def Jy(BM:Nat):Nat:=2+(BM+7)/8
def Na(BM:Nat):Nat:=Jy BM+16*BM
def Ju(lines:Nat):Nat->Nat->Nat
 | 0,s=>s
 | f+1,s=>if Na (s+1)<=lines then Ju lines f (s+1)else s
def Ph(lines:Nat):Nat:=Ju lines lines 0
def shapeOf(lines:Nat):Option Sh:=
 if lines>1024 then none else
 let s:=Ph lines
 if s=0 then none else some {lines:=lines,BM:=s,table:=128,data:=Jy s*64}
def headW(s:Sh):List UInt64:=[0x6c6c697473,1,AA s.lines,AA s.BM,AA s.table,AA s.data]
def wordsOf(s:Sh):List UInt64:=headW s++[AA (Lh 0 (leBytes (headW s))),0]
def Bi:Nat->Nat
 | 1=>16
 | 2=>4
 | _=>0
def AZ:Nat->Nat
 | 1=>1
 | 2=>4
 | _=>0
def DF(w:Nat):Nat:=fieldN w 16 2
def Jz(w:Nat):Nat:=fieldN w 0 16
def FI(w:Nat):Bool:=w==0|| (fieldN w 0 (Bi (DF w))!=0&&Eg (Eg w 0 (Bi (DF w)) 0) 16 2 0==0)
def Bd(w:Nat):Nat:=if FI w then DF w else 0
def EF(w:Nat)(at_:Nat):Bool:=decide (at_<Bi (Bd w))&&fieldN w at_ 1==1
def Ox(w:Nat):List Nat:=(Eo (Bi (Bd w))).filter (EF w)
def KL(w c:Nat):Bool:=FI w&&decide (0<Bi c)&&(w==0|| DF w==c)
def JQ(w c:Nat):Option Nat:=if KL w c then bF (Jz w) (Bi c)else none
def Gh(w c at_:Nat):Nat×Bool:=if !KL w c|| decide (Bi c<=at_)|| EF w at_ then(w,false)else(Eg (Eg w at_ 1 1) 16 2 c,true)
def Eu(w at_:Nat):Nat×Bool:=if !EF w at_ then(w,false)else if Jz (Eg w at_ 1 0)=0 then(0,true)else(Eg w at_ 1 0,true)
structure Nd where
 pre:List UInt8
 val:UInt64
 labels:List UInt8
 kids:List UInt64
def DD:List UInt8->Bool
 | a::b::l=>decide (a.toNat<b.toNat)&&DD (b::l)
 | _=>true
theorem GH:∀(l:List UInt8),DD l=true<->∀i(h:i+1<l.length),l[i].toNat<l[i+1].toNat
 | []=>by simp [DD]
 | [_]=>by simp [DD]
 | a::b::l=>by
   have ih:=GH (b::l);simp only [DD,Bool.and_eq_true,decide_eq_true_eq,ih];constructor
   ·rintro⟨h1,h2⟩i hi;rcases i with _| i
    ·simpa using h1
    ·exact h2 i (by simpa using hi)
   ·intro h;exact⟨by simpa using h 0 (by simp),fun i hi=>h (i+1) (by simpa using hi)⟩
theorem Oy(l:List UInt8)(k:Nat)(hk:k<l.length)(h:DD (l.take k)=true)(hlt:∀j,k=j+1->(h:j<l.length)->l[j].toNat<l[k].toNat):DD (l.take (k+1))=true:=by
 rw [GH]at h⊢;intro i hi;simp only [Ed]at hi;simp only [yY];by_cases e:i+1=k
 ·subst e;exact hlt i rfl (by omega)
 ·have:=h i (by simp;omega);simpa using this
theorem iC(l:List UInt8)(j:Nat)(hq:j+1<l.length)(h:DD (l.take (j+1))=true)(hr:l[j].toNat<l[j+1].toNat):DD (l.take (j+1+1))=true:=
 Oy l (j+1) hq h (fun j' hj' _=>by cases hj';exact hr)
def Cc(x:Nd):Bool:=
 decide (x.pre.length<=15)&&x.pre.all DR&&decide (x.labels.length=x.kids.length)&&x.labels.all DR&&DD x.labels&&x.kids.all (fun k=>k.toNat !=0)
theorem Bg(x:Nd):Cc x=true<->x.pre.length<=15/\x.pre.all DR=true/\x.labels.length=x.kids.length/\x.labels.all DR=true/\DD x.labels=true/\∀i(h:i<x.kids.length),x.kids[i].toNat≠0:=by
 simp only [Cc,Bool.and_eq_true,decide_eq_true_eq,and_assoc,Em (p:=fun k:UInt64=>k.toNat !=0),bne_iff_ne,ne_eq];constructor
 ·rintro⟨h1,h2,h3,h4,h5,h6⟩;exact⟨h1,h2,h3,h4,h5,fun i hi=>h6 _ (CU hi)⟩
 ·rintro⟨h1,h2,h3,h4,h5,h6⟩;refine⟨h1,h2,h3,h4,h5,fun k hk=> ?_⟩;obtain⟨i,hi,rfl⟩:=CG hk;exact h6 i hi
theorem bG(x:Nd)(k:Nat)(hk:k<x.labels.length)(h:¬x.labels[k].toNat<16):Cc x=false:=by
 cases hr:Cc x with
 | false=>rfl
 | true=>
   have:=((Bg x).1 hr).2.2.2.1;exact absurd (WG this hk) h
theorem YP(x:Nd)(j:Nat)(hj:j+1<x.labels.length)(h:¬x.labels[j].toNat<x.labels[j+1].toNat):Cc x=false:=by
 cases hr:Cc x with
 | false=>rfl
 | true=>
   have:=((Bg x).1 hr).2.2.2.2.1;exact absurd ((GH _).1 this j hj) h
theorem bH(x:Nd)(h:¬(x.pre.length<=15/\x.pre.all DR=true)):Cc x=false:=by
 cases hr:Cc x with
 | false=>rfl
 | true=>exact absurd ⟨((Bg x).1 hr).1,((Bg x).1 hr).2.1⟩ h
theorem bI(x:Nd)(h:x.labels.length≠x.kids.length):Cc x=false:=by
 cases hr:Cc x with
 | false=>rfl
 | true=>exact absurd ((Bg x).1 hr).2.2.1 h
theorem nM(x:Nd)(h1:x.pre.length<=15)(h2:x.pre.all DR=true)(h3:x.labels.length=x.kids.length)(h4:x.labels.all DR=true)(h5:DD x.labels=true):
 Cc x= !(x.kids.any fun y=>y.toNat==0):=by
 rw [Bool.eq_iff_iff,Bg];simp only [Bool.not_eq_true',List.any_eq_false,beq_iff_eq];constructor
 ·rintro⟨_,_,_,_,_,h⟩k hk;obtain⟨i,hi,rfl⟩:=CG hk;exact h i hi
 ·intro h;exact⟨h1,h2,h3,h4,h5,fun i hi=>h _ (CU hi)⟩
def Dl(x:Nd):Nat:=if x.kids.length<=4 then 1 else 2
def placeOf{α:Type}(p:α->Bool)(l:List α):Int:=match l.findIdx? p with| some i=>(i:Int)| none=> -1
theorem V4{α:Type}(p:α->Bool)(l:List α)(k:Nat)(hk:k<l.length)(hno:∀j(h:j<k),p (l[j]'(by omega))=false)(hp:p l[k]=true):placeOf p l=(k:Int):=by
 have:l.findIdx? p=some k:=by
  rw [List.findIdx?_eq_some_iff_getElem];exact⟨hk,hp,fun j hj=>by simp [hno j hj]⟩
 simp [placeOf,this]
theorem TR{α:Type}(p:α->Bool)(l:List α)(hno:∀j(h:j<l.length),p l[j]=false):placeOf p l= -1:=by
 have:l.findIdx? p=none:=by
  rw [List.findIdx?_eq_none_iff];intro x hx;obtain⟨i,hi,rfl⟩:=CG hx;exact hno i hi
 simp [placeOf,this]
def FN(l:List UInt8):UInt64:=AA (l.length+16*EG l)
def CO:List UInt64->List UInt8->List UInt64->List UInt64
 | row,a::as,k::ks=>CO (row.set (4+a.toNat) k) as ks
 | row,_,_=>row
theorem Nb:∀(row:List UInt64)(as:List UInt8)(ks:List UInt64),(CO row as ks).length=row.length
 | row,a::as,k::ks=>by rw [CO,Nb];simp
 | row,[],_=>by simp [CO]
 | row,_::_,[]=>by simp [CO]
theorem NK:∀(row:List UInt64)(as:List UInt8)(ks:List UInt64)(i:Nat)(h1:i<as.length)(h2:i<ks.length),
 CO row (as.take (i+1)) (ks.take (i+1))=(CO row (as.take i) (ks.take i)).set (4+as[i].toNat) ks[i]
 | row,a::as,k::ks,0,_,_=>by simp [CO]
 | row,a::as,k::ks,i+1,h1,h2=>by
   have:=NK (row.set (4+a.toNat) k) as ks i (by simpa using h1) (by simpa using h2);simpa [CO]using this
 | _,[],_,_,h1,_=>by simp at h1
 | _,_::_,[],_,_,h2=>by simp at h2
def encS(x:Nd):List UInt64:=[AA (1+256*x.kids.length),FN x.pre,x.val,FN x.labels]++x.kids++Bq (4-x.kids.length) 0
def headB(x:Nd):List UInt64:=[AA (2+256*x.kids.length),FN x.pre,x.val]++Bq 29 0
def Qr(x:Nd):List UInt64:=CO (headB x) x.labels x.kids
def DI(x:Nd):List UInt64:=if x.kids.length<=4 then encS x else Qr x
theorem V5(x:Nd)(h:x.kids.length<=4):(encS x).length=8:=by simp [encS];omega
theorem V6(x:Nd):(Qr x).length=32:=by simp [Qr,Nb,headB]
theorem Ez(x:Nd):(DI x).length=if x.kids.length<=4 then 8 else 32:=by
 unfold DI;split
 ·rename_i h;exact V5 x h
 ·exact V6 x
def IA(u:Nat)(tail:List UInt64):List UInt8×List UInt64:=
 if u/16/16^(u%16)=0/\u%16<=4 then(digits (u%16) (u/16),tail.take (u%16))else([],[])
def Jd:Nat->List UInt64->List UInt8
 | _,[]=>[]
 | i,k::t=>if k.toNat=0 then Jd (i+1) t else UInt8.ofNat i::Jd (i+1) t
def JB(t:List UInt64):List UInt64:=t.filter fun k=>k.toNat !=0
theorem Xe:∀(i:Nat)(t:List UInt64)(x:UInt64),Jd i (t++[x])=Jd i t++(if x.toNat=0 then []else [UInt8.ofNat (i+t.length)])
 | i,[],x=>by simp only [Et,Jd];split<;>simp
 | i,k::t,x=>by
   have:=Xe (i+1) t x;simp only [Ci,Jd,this,BJ];rw [show i+1+t.length=i+(t.length+1)by omega];split<;>simp
theorem nN(t:List UInt64)(x:UInt64):JB (t++[x])=JB t++(if x.toNat=0 then []else [x]):=by
 simp only [JB,List.filter_append,zG,List.filter_nil];by_cases h:x.toNat=0<;>simp [h]
theorem NL:∀(i:Nat)(t:List UInt64),(Jd i t).length=(JB t).length
 | _,[]=>rfl
 | i,k::t=>by
   have:=NL (i+1) t;simp only [Jd,JB,zG]at this⊢;by_cases h:k.toNat=0<;>simp [h,this]
theorem Xf(t:List UInt64):(JB t).length<=t.length:=List.length_filter_le _ _
def DW(u:Nat):List UInt8:=if u/16/16^(u%16)=0 then digits (u%16) (u/16)else []
def zS(l:List UInt64):Nd:=
 {pre:=DW (l.getD 1 0).toNat,val:=l.getD 2 0,labels:=(IA (l.getD 3 0).toNat (l.drop 4)).1,kids:=(IA (l.getD 3 0).toNat (l.drop 4)).2}
def nO(l:List UInt64):Nd:=
 {pre:=DW (l.getD 1 0).toNat,val:=l.getD 2 0,labels:=Jd 0 ((l.drop 4).take 16),kids:=JB ((l.drop 4).take 16)}
def EE(l:List UInt64):Nd:=if l.length=8 then zS l else nO l
def Iz(l:List UInt64):Bool:=(decide (l.length=8)|| decide (l.length=32))&&(Cc (EE l)&&decide (DI (EE l)=l))
theorem Zy(u:Nat):(DW u).length<=15:=by
 unfold DW;split
 ·rw [digits_length];omega
 ·simp
theorem nP(x:Nd)(v:UInt64):Cc {x with val:=v}=Cc x:=rfl
theorem TS:∀(row row':List UInt64)(as:List UInt8)(ks:List UInt64)(i:Nat),row.length=row'.length->(∀j,j≠2->row[j]? =row'[j]?)->i≠2->(CO row as ks)[i]? =(CO row' as ks)[i]?
 | row,row',a::as,k::ks,i,hl,h,hi=>by
   simp only [CO];refine TS _ _ as ks i (by simp [hl]) (fun j hj=> ?_) hi;rw [GV,GV,h j hj,hl]
 | row,row',[],_,i,_,h,hi=>by simp only [CO];exact h i hi
 | row,row',_::_,[],i,_,h,hi=>by simp only [CO];exact h i hi
theorem V7:∀(row:List UInt64)(as:List UInt8)(ks:List UInt64),(CO row as ks)[2]? =row[2]?
 | row,a::as,k::ks=>by
   simp only [CO];rw [V7,GV];simp;omega
 | row,[],_=>by simp [CO]
 | row,_::_,[]=>by simp [CO]
theorem zT(x:Nd)(v:UInt64)(i:Nat)(hi:i≠2):(DI {x with val:=v})[i]? =(DI x)[i]? :=by
 unfold DI;by_cases h:x.kids.length<=4
 ·simp only [if_pos h,encS];rcases i with _| _| _| i
  ·rfl
  ·rfl
  ·exact absurd rfl hi
  ·simp
 ·simp only [if_neg h,Qr];refine TS _ _ _ _ i (by simp [headB]) (fun j hj=> ?_) hi;rcases j with _| _| _| j
  ·rfl
  ·rfl
  ·exact absurd rfl hj
  ·simp [headB]
theorem zU(x:Nd):(DI x)[2]? =some x.val:=by
 unfold DI;split
 ·simp [encS]
 ·rw [Qr,V7];simp [headB]
def BA(ws:Nat->UInt64)(j:Nat)(xs:List UInt64)(i:Nat):UInt64:=if j<=i/\i<j+xs.length then xs.getD (i-j) 0 else ws i
def FO(ws:Nat->UInt64)(j:Nat)(x:UInt64)(i:Nat):UInt64:=if i=j then x else ws i
def wordsAt(ws:Nat->UInt64)(j n:Nat):List UInt64:=(Eo n).map fun t=>ws (j+t)
structure St where
 sh:Sh
 ws:Nat->UInt64
 tk:List UInt64
 hd:List UInt64
def Hr(s:St)(i:Nat):Nat:=(s.tk.getD i 0).toNat
def hdN(s:St)(i:Nat):Nat:=(s.hd.getD i 0).toNat
def Cm(s:St)(i:Nat):Nat:=Hr s i||| hdN s i
def CS(sh:Sh)(i c a:Nat):Nat:=sh.data+1024*i+64*AZ c*a
def IB(s:St)(off:Int):Option (Nat×Nat):=
 if off<(s.sh.data:Int)\/(s.sh.data+1024*s.tk.length:Nat)<=off then none else
 if AZ (Bd (Cm s ((off.toNat-s.sh.data)/1024)))=0\/(off.toNat-s.sh.data)%1024%(64*AZ (Bd (Cm s ((off.toNat-s.sh.data)/1024))))≠0 then none else
 some ((off.toNat-s.sh.data)/1024,(off.toNat-s.sh.data)%1024/(64*AZ (Bd (Cm s ((off.toNat-s.sh.data)/1024)))))
def Dz(s:St)(off:Int):Nat:=
 match IB s off with
 | none=>0
 | some (i,a)=>if EF (Hr s i) a then Bd (Hr s i)else 0
def KN(s:St)(k c:Nat):Option Nat:=(Eo s.tk.length).find? fun i=>decide (Bd (Cm s i)=k)&&(JQ (Cm s i) c).isSome
def Lj(s:St)(c:Nat):Option Nat:=match KN s c c with| some i=>some i| none=>KN s 0 c
def C9(s:St)(c:Nat):Option (Nat×St):=
 match Lj s c with
 | none=>none
 | some i=>match JQ (Cm s i) c with
   | none=>none
   | some a=>some (CS s.sh i c a,{s with hd:=s.hd.set i (AA (Gh (hdN s i) c a).1)})
def bJ(s:St)(i:Nat)(x:UInt64):St:={s with ws:=FO s.ws (s.sh.table/8+i) x,tk:=s.tk.set i x}
def Fh(s:St)(off:Int):St×Int:=
 match IB s off with
 | none=>(s,7)
 | some (i,a)=>if EF (hdN s i) a then
  ({bJ s i (AA (Gh (Hr s i) (Bd (hdN s i)) a).1)with hd:=s.hd.set i (AA (Eu (hdN s i) a).1)},0)
   else(s,7)
def Fj(s:St)(off:Int):St×Int:=
 match IB s off with
 | none=>(s,7)
 | some (i,a)=>
   if(Eu (hdN s i) a).2 then({s with hd:=s.hd.set i (AA (Eu (hdN s i) a).1)},0)
   else if(Eu (Hr s i) a).2 then(bJ s i (AA (Eu (Hr s i) a).1),0)
   else(s,7)
def Jo(s:St):List Nat:=(Eo s.tk.length).flatMap fun i=>(Ox (Hr s i)).map fun a=>CS s.sh i (Bd (Hr s i)) a
def MH(sh:Sh):Nat->UInt64:=BA (fun _=>0) 0 (wordsOf sh)
def Be(x:UInt64):Int:=IntKind.i64.wrap (x.toNat:Int)
def ER(s:St)(name:UInt64):Option Nd:=
 if AZ (Dz s (Be name))=0 then none else
 if Iz (wordsAt s.ws ((Be name).toNat/8) (8*AZ (Dz s (Be name))))then some (EE (wordsAt s.ws ((Be name).toNat/8) (8*AZ (Dz s (Be name)))))else none
structure Pl where
 nd:Nd
 off:Int
 label:UInt8
 word:Int
def JR(l:List UInt8)(x:UInt8):Option Nat:=l.findIdx? fun y=>y.toNat==x.toNat
def Oe(x:Nd)(label:UInt8):Option (UInt64×Nat):=
 match JR x.labels label with
 | some i=>if Cc x then some (x.kids.getD i 0,if x.kids.length<=4 then 4+i else 4+label.toNat)else none
 | none=>none
def Ee(s:St):Nat->UInt64->List UInt8->UInt8->Int->List Pl->Option (List Pl×List UInt8)
 | 0,_,rest,_,_,way=>some (way,rest)
 | f+1,name,rest,label,word,way=>
   if name=0 then some (way,rest)else
   match ER s name with
   | none=>none
   | some x=>
     if common x.pre rest<x.pre.length\/common x.pre rest=rest.length then some (way++[⟨x,Be name,label,word⟩],rest)else
     match Oe x (rest.getD (common x.pre rest) 0)with
     | none=>some (way++[⟨x,Be name,label,word⟩],rest)
     | some (kid,number)=>Ee s f kid (rest.drop (common x.pre rest+1)) (rest.getD (common x.pre rest) 0) (Be name+8*number) (way++[⟨x,Be name,label,word⟩])
def Gi(s:St)(key:List UInt8):Option (List Pl×List UInt8):=Ee s (2*key.length+1) (s.ws 9) (Di key) 0 72 []
def Dj(way:List Pl)(rest:List UInt8):Option Pl:=
 match way.getLast? with
 | none=>none
 | some last=>if last.nd.pre=rest then some last else none
def FP(s:St)(key:List UInt8):UInt64×Int:=
 if 16<key.length then(0,3)else
 match Gi s key with
 | none=>(0,5)
 | some (way,rest)=>match Dj way rest with
   | none=>(0,7)
   | some last=>if last.nd.val=0 then(0,7)else(last.nd.val,0)
structure Jb where
 s:St
 made:List Int
def DT(j:Jb)(n:Nd):Jb×UInt64×Int:=
 if !Cc n then(j,0,5)else
 match C9 j.s (Dl n)with
 | none=>(j,0,6)
 | some (off,s1)=>
   match Fh {s1 with ws:=BA s1.ws (off/8) (DI n)} off with
   | (s2,e)=>if e=0 then(⟨s2,j.made++[(off:Int)]⟩,AA off,0)else(⟨s2,j.made++[(off:Int)]⟩,0,e)
def Oz(l:List UInt8)(x:UInt8):Bool:=l.any fun y=>y.toNat==x.toNat
def JS(x:Nd)(label:UInt8)(kid:UInt64):Bool:=Cc x&&decide (label.toNat<16)&& !(kid.toNat==0)&& !Oz x.labels label
def Jp{α:Type}(xs:List α)(i:Nat)(u:α):List α:=xs.take i++u::xs.drop i
def Ji{α:Type}(xs:List α)(i:Nat):List α:=xs.take i++xs.drop (i+1)
def FD(l:List UInt8)(x:UInt8):Nat:=l.countP fun y=>decide (y.toNat<x.toNat)
def Ij(x:Nd)(label:UInt8)(kid:UInt64):Nd:={pre:=x.pre,val:=x.val,labels:=Jp x.labels (FD x.labels label) label,kids:=Jp x.kids (FD x.labels label) kid}
def Wl(x:Nd)(i:Nat):Nd:={pre:=x.pre,val:=x.val,labels:=Ji x.labels i,kids:=Ji x.kids i}
def EX(j:Jb)(n:Nd)(label:UInt8)(kid:UInt64)(e:Int):Jb×UInt64×Int:=
 if e≠0 then(j,0,e)else
 if JS n label kid then DT j (Ij n label kid)else(j,0,5)
def Je:Nat->Jb->List UInt8->UInt64->Jb×UInt64×Int
 | 0,j,_,_=>(j,0,5)
 | f+1,j,l,value=>
   if l.length<=15 then DT j ⟨l,value,[],[]⟩else
   match Je f j (l.drop 16) value with
   | (j1,kid,e)=>EX j1 ⟨l.take 15,0,[],[]⟩ (l.getD 15 0) kid e
def I4(j:Jb)(x:Nd)(rest:List UInt8)(value:UInt64):Jb×UInt64×Int:=
 if common x.pre rest=x.pre.length then
  match Je (rest.length+1) j (rest.drop (common x.pre rest+1)) value with
  | (j1,kid,e)=>EX j1 x (rest.getD (common x.pre rest) 0) kid e
 else
  match DT j {x with pre:=x.pre.drop (common x.pre rest+1)}with
  | (j1,kid,e)=>
    if common x.pre rest=rest.length then EX j1 ⟨x.pre.take (common x.pre rest),value,[],[]⟩ (x.pre.getD (common x.pre rest) 0) kid e else
    if e≠0 then(j1,0,e)else
    if JS ⟨x.pre.take (common x.pre rest),0,[],[]⟩ (x.pre.getD (common x.pre rest) 0) kid then
     match Je (rest.length+1) j1 (rest.drop (common x.pre rest+1)) value with
     | (j2,bK,e2)=>EX j2 (Ij ⟨x.pre.take (common x.pre rest),0,[],[]⟩ (x.pre.getD (common x.pre rest) 0) kid) (rest.getD (common x.pre rest) 0) bK e2
    else(j1,0,5)
def LX(s:St)(l:List Int):St:=l.foldl (fun s off=>(Fj s off).1) s
def Nc:St->List Int->Int->St×Int
 | s,[],e=>(s,e)
 | s,off::l,e=>Nc (Fj s off).1 l (if e=0 then(Fj s off).2 else e)
def DK(j:Jb)(e:Int)(word:Int)(name:UInt64)(old:List Int):St×Int:=
 if e≠0 then(LX j.s j.made,e)else Nc {j.s with ws:=FO j.s.ws (word.toNat/8) name} old 0
def JU(s:St)(at_:Pl)(n:UInt64):St:={s with ws:=FO s.ws (at_.off.toNat/8+2) n}
def GX(s:St)(key:List UInt8)(value:UInt64):St×Int:=
 if 16<key.length then(s,3)else if value=0 then(s,2)else
 match Gi s key with
 | none=>(s,5)
 | some (way,rest)=>match Dj way rest with
   | some last=>(JU s last value,0)
   | none=>match way.getLast? with
     | none=>match Je (rest.length+1) ⟨s,[]⟩ rest value with
       | (j,name,e)=>DK j e 72 name []
     | some last=>match I4 ⟨s,[]⟩ last.nd rest value with
       | (j,name,e)=>DK j e last.word name [last.off]
def I5(way:List Pl):Nat->List Int->Nat×List Int
 | 0,old=>(0,old)
 | a+1,old=>match way[a]?,way[a+1]? with
   | some up,some _=>if up.nd.val=0/\up.nd.kids.length=1 then I5 way a (old++[up.off])else(a+1,old)
   | _,_=>(a+1,old)
def Pj(j:Jb)(way:List Pl):St×Int:=
 match I5 way (way.length-1) [(way.getLast?.map (·.off)).getD 0]with
 | (0,old)=>DK j 0 72 0 old
 | (a+1,old)=>match way[a]?,way[a+1]? with
   | some up,some at_=>match JR up.nd.labels at_.label with
     | some i=>if Cc up.nd then match DT j (Wl up.nd i)with
      | (j1,name,e)=>DK j1 e up.word name (old++[up.off])
       else(j.s,5)
     | none=>(j.s,5)
   | _,_=>(j.s,5)
def Nh(s:St)(key:List UInt8):St×UInt64×Int:=
 if 16<key.length then(s,0,3)else
 match Gi s key with
 | none=>(s,0,5)
 | some (way,rest)=>match Dj way rest with
   | none=>(s,0,7)
   | some last=>if last.nd.val=0 then(s,0,7)else
     match(if last.nd.kids.length=0 then Pj ⟨s,[]⟩ way else(s,6))with
     | (s1,e)=>if e=6 then(JU s1 last 0,last.nd.val,0)else if e=0 then(s1,last.nd.val,0)else(s1,0,e)
def Dt(s:St):Nat->UInt64->List UInt8->List (List UInt8×UInt64)×List Int->Option (List (List UInt8×UInt64)×List Int)
 | 0,_,_,_=>none
 | f+1,name,ahead,(items,met)=>
   match ER s name with
   | none=>none
   | some n=>
     if met.contains (Be name)\/32<(ahead++n.pre).length then none else
     if n.val≠0/\MZ (ahead++n.pre)=false then none else
     (n.labels.zip n.kids).foldlM (fun st(lk:UInt8×UInt64)=>Dt s f lk.2 (ahead++n.pre++[lk.1]) st)
      (if n.val≠0 then items++[(pairs (ahead++n.pre),n.val)]else items,met++[Be name])
def EH(s:St):Option (List (List UInt8×UInt64)×List Int):=
 if s.ws 9=0 then some ([],[])else Dt s 34 (s.ws 9) [] ([],[])
theorem Su(x:Nat)(h:x<4294967296):Pg x<4294967296:=by
 have h1:x/16<2^32:=by omega
 have h2:KJ.getD (x%16) 0<2^32:=by
  have:x%16<16:=Rt _ (by decide);have key:∀k:Fin 16,KJ.getD k.val 0<2^32:=by decide
  exact key ⟨x%16,this⟩
 exact U2 h1 h2
theorem nR(x c:Nat)(h:x<4294967296)(hc:c<256):QS x c<4294967296:=by
 unfold QS;refine Su _ (Su _ ?_);exact U2 (n:=32) h (by omega)
def O0(sum:Nat)(l:List UInt8)(k:Nat):Nat:=(l.take k).foldl (fun x c=>QS x c.toNat) (sum^^^4294967295)
theorem Xg(sum:Nat)(l:List UInt8):O0 sum l 0=sum^^^4294967295:=by simp [O0]
theorem Xh(sum:Nat)(l:List UInt8)(k:Nat)(hk:k<l.length):O0 sum l (k+1)=QS (O0 sum l k) l[k].toNat:=by
 unfold O0;rw [Df hk,List.foldl_append];rfl
theorem vJ(sum:Nat)(l:List UInt8):O0 sum l l.length^^^4294967295=Lh sum l:=by simp [O0,Lh]
theorem Xi(sum:Nat)(l:List UInt8)(hs:sum<4294967296):∀k,k<=l.length->O0 sum l k<4294967296
 | 0,_=>by rw [Xg];exact U2 (n:=32) hs (by decide)
 | k+1,hk=>by
   rw [Xh sum l k hk];exact nR _ _ (Xi sum l hs k (by omega)) (UInt8.toNat_lt _)
structure Rc where
 stamp:UInt64
 next:UInt64
 gone:Bool
 text:ByteArray
def DU(r:Rc):Bool:= !(r.stamp.toNat==0)&&decide (r.text.size<=40)&&(!r.gone|| decide (r.text.size=0))
def Rw:List UInt8->Nat
 | []=>0
 | b::l=>b.toNat+256*Rw l
theorem bM:∀(l:List UInt8),Rw l<256^l.length
 | []=>by simp [Rw]
 | b::l=>by
   have:=bM l;have hb:=b.toNat_lt;rw [Rw,BJ,Jl];omega
theorem Zz:∀(l:List UInt8)(b:UInt8),Rw (l++[b])=Rw l+b.toNat*256^l.length
 | [],b=>by simp [Rw]
 | a::l,b=>by
   have:=Zz l b;rw [Ci,Rw,this,Rw,BJ,Jl,Nat.mul_add];have e:256*(b.toNat*256^l.length)=b.toNat*(256^l.length*256):=by rw [IK 256,MN]
   omega
def KE(l:List UInt8)(k:Nat):UInt64:=AA (Rw ((l.drop (8*k)).take 8))
def textW(l:List UInt8):List UInt64:=(Eo 5).map (KE l)
theorem TT(l:List UInt8):(textW l).length=5:=by simp [textW]
theorem QT(l:List UInt8)(k:Nat):(KE l k).toNat=Rw ((l.drop (8*k)).take 8):=by
 unfold KE
 have:=bM ((l.drop (8*k)).take 8)
 have h2:256^((l.drop (8*k)).take 8).length<=256^8:=EN (by decide) (by simp;omega)
 rw [Jh]
 exact FM (by have:(256:Nat)^8=2^64:=by decide
              omega)
theorem Xj(l:List UInt8)(i:Nat)(hi:i<l.length):(KE (l.take (i+1)) (i/8)).toNat=(KE (l.take i) (i/8)).toNat+l[i].toNat*256^(i%8):=by
 rw [QT,QT];have e:((l.take (i+1)).drop (8*(i/8))).take 8=((l.take i).drop (8*(i/8))).take 8++[l[i]]:=by
  have h1:((l.take i).drop (8*(i/8))).length<=8:=by simp;omega
  have h2:((l.take i).drop (8*(i/8))++[l[i]]).length<=8:=by simp;omega
  rw [Df hi,List.drop_append_of_le_length (by simp;omega),EW h2,EW h1]
 have h2:(((l.take i).drop (8*(i/8))).take 8).length=i%8:=by simp;omega
 rw [e,Zz,h2]
theorem iD(l:List UInt8)(i k:Nat)(hk:k≠i/8):KE (l.take (i+1)) k=KE (l.take i) k:=by
 unfold KE;congr 2;rw [Adb,Adb,Adc,Adc];by_cases h:k<i/8
 ·rw [show min 8 (i+1-8*k)=8 by omega,show min 8 (i-8*k)=8 by omega]
 ·rw [show min 8 (i+1-8*k)=0 by omega,show min 8 (i-8*k)=0 by omega]
theorem nS(l:List UInt8)(i:Nat):(KE (l.take i) (i/8)).toNat<256^(i%8):=by
 rw [QT];have:=bM (((l.take i).drop (8*(i/8))).take 8);exact Cb this (EN (by decide) (by simp;omega))
theorem nT(l:List UInt8)(i:Nat)(hi:i<l.length)(x:UInt64)(hx:x.toNat=(KE (l.take i) (i/8)).toNat+l[i].toNat*256^(i%8)):(textW (l.take i)).set (i/8) x=textW (l.take (i+1)):=by
 have hx':x=KE (l.take (i+1)) (i/8):=UInt64.toNat_inj.1 (by rw [hx,Xj l i hi]);apply Ew
 ·simp [textW]
 ·intro k h1 h2;rw [JO];simp only [textW,MX,U8];by_cases hk:i/8=k
  ·rw [if_pos hk,hx',hk]
  ·rw [if_neg hk,iD l i k (fun e=>hk e.symm)]
theorem Xk:textW []=[0,0,0,0,0]:=by decide
def Hy(n:Nat)(g:Bool):Nat:=3+65536*n+(if g then 256 else 0)
def CJ(r:Rc):List UInt64:=[AA (Hy r.text.size r.gone),r.stamp,r.next]++textW r.text.data.toList
theorem Hz(r:Rc):(CJ r).length=8:=by simp [CJ,TT]
def Sv(l:List UInt64):Rc:=
 {stamp:=l.getD 1 0,next:=l.getD 2 0,gone:=decide ((l.getD 0 0).toNat/256%2=1),text:=⟨((leBytes (l.drop 3)).take ((l.getD 0 0).toNat/65536)).toArray⟩}
def Nj(l:List UInt64):Option Rc:=
 if l.length=8/\(l.getD 0 0).toNat/65536<=40 then
  if DU (Sv l)=true/\CJ (Sv l)=l then some (Sv l)else none
 else none
theorem iE:∀(l:List UInt8)(i:Nat)(hi:i<l.length),Rw l/256^i%256=l[i].toNat
 | b::l,0,_=>by
   have:=b.toNat_lt;simp [Rw]
 | b::l,i+1,hi=>by
   have hb:=b.toNat_lt;have:=iE l i (by simpa using hi);rw [Rw,Jl,IK (256^i) 256,<-mg,show(b.toNat+256*Rw l)/256=Rw l by omega,this];rfl
theorem vK(l:List UInt8)(i:Nat)(hi:i<l.length):leB (KE l (i/8)) (i%8)=l[i]:=by
 apply UInt8.toNat_inj.1;rw [UB,QT,iE _ _ (by simp;omega)];simp only [yY,List.getElem_drop];congr 2;omega
theorem JC(r:Rc):DU r=true<->r.stamp.toNat≠0/\r.text.size<=40/\(r.gone=true->r.text.size=0):=by
 simp only [DU,Bool.and_eq_true,decide_eq_true_eq,Bool.not_eq_true',beq_eq_false_iff_ne,Bool.or_eq_true,and_assoc];cases r.gone<;>simp
theorem vM{n:Nat}(h:n<=40)(g:Bool):Hy n g<18446744073709551616:=by
 unfold Hy;split<;>omega
theorem Pm{n:Nat}(h:n<=40)(g:Bool):(AA (Hy n g)).toNat=Hy n g:=by
 rw [Jh];exact FM (vM h g)
theorem Sz(r:Rc)(h:DU r=true):Sv (CJ r)=r:=by
 obtain⟨h1,h2,h3⟩:=(JC r).1 h;have e0:((CJ r).getD 0 0).toNat=Hy r.text.size r.gone:=by
  simp only [CJ,Ci,sH];exact Pm h2 _
 have e1:Hy r.text.size r.gone/65536=r.text.size:=by unfold Hy;split<;>omega
 have e2:Hy r.text.size r.gone/256%2=if r.gone then 1 else 0:=by unfold Hy;split<;>omega
 have e3:(CJ r).drop 3=textW r.text.data.toList:=rfl;have hsz:r.text.size=r.text.data.toList.length:=rfl;unfold Sv;rw [e0,e1,e2,e3];have et:(leBytes (textW r.text.data.toList)).take r.text.size=r.text.data.toList:=by
  apply IL;intro i;rw [CY];by_cases hi:i<r.text.size
  ·rw [if_pos hi];have:=I9 (textW r.text.data.toList) (i/8) (i%8) (by rw [TT];omega) (by omega);rw [show 8*(i/8)+i%8=i by omega]at this;rw [this];simp only [textW,MX,U8];rw [vK _ _ (by omega),Ag (by omega)]
  ·rw [if_neg hi,Ff (by omega)]
 rw [et];have eg:decide ((if r.gone=true then 1 else 0)=1)=r.gone:=by cases r.gone<;>rfl
 rw [eg];cases r with
 | mk a b c d=>simp only [Rc.mk.injEq];exact⟨rfl,rfl,trivial,trivial⟩
theorem vN(r:Rc)(h:DU r=true):Nj (CJ r)=some r:=by
 obtain⟨h1,h2,h3⟩:=(JC r).1 h;have e0:((CJ r).getD 0 0).toNat=Hy r.text.size r.gone:=by
  simp only [CJ,Ci,sH];exact Pm h2 _
 have e1:Hy r.text.size r.gone/65536=r.text.size:=by unfold Hy;split<;>omega
 unfold Nj;rw [if_pos ⟨Hz r,by rw [e0,e1];exact h2⟩,Sz r h,if_pos ⟨h,rfl⟩]
structure Lk where
 off:Int
 rc:Rc
def E5(l:List Lk):Nat:=match l.getLast? with| none=>18446744073709551616| some k=>k.rc.stamp.toNat
def S9(s:St):Nat->UInt64->List Lk->Option (List Lk)
 | 0,_,_=>none
 | f+1,at_,acc=>
   if at_.toNat=0 then some acc else
   if Dz s (Be at_)≠1 then none else
   match Nj (wordsAt s.ws ((Be at_).toNat/8) 8)with
   | none=>none
   | some r=>if E5 acc<=r.stamp.toNat then none else S9 s f r.next (acc++[⟨Be at_,r⟩])
def NM(s:St)(first:UInt64):Option (List Lk):=S9 s 18446744073709551618 first []
def GI(s:St)(r:Rc):St×UInt64×Int:=
 if DU r=false then(s,0,2)else
 match C9 s 1 with
 | none=>(s,0,6)
 | some (off,s1)=>
   match Fh {s1 with ws:=BA s1.ws (off/8) (CJ r)} off with
   | (s2,e)=>if e=0 then(s2,AA off,0)else((Fj s2 off).1,0,e)
def FX(l:List Int):List Int:=l.mergeSort fun x y=>decide (x<=y)
def Ht(s:St):List (List UInt8×UInt64)->List Int->Option (List Int)
 | [],acc=>some acc
 | it::t,acc=>match NM s it.2 with
   | none=>none
   | some l=>Ht s t (acc++l.map (·.off))
def Nk:List Int->Bool
 | a::b::t=> !(a==b)&&Nk (b::t)
 | _=>true
theorem Xl (s : St) : ∀ (l : List (List UInt8 × UInt64)) (it : List UInt8 × UInt64) (acc : List Int), Ht s (l ++ [it]) acc = match Ht s l acc with
    | none => none
    | some a => match NM s it.2 with | none => none | some k => some (a ++ k.map (·.off))
  | [], it, acc => by
    simp only [Et, Ht]
  | x :: t, it, acc => by
    simp only [Ci, Ht]
    cases NM s x.2 with
    | none => rfl
    | some k => exact Xl s t it _
theorem nU{s:St}{l:List (List UInt8×UInt64)}{acc r:List Int}(h:Ht s l acc=some r):∀k,k<=l.length->∃a,Ht s (l.take k) acc=some a/\Ht s (l.drop k) a=some r:=by
 induction l generalizing acc with
 | nil=>intro k hk;exact⟨acc,by simp [Ht],by simpa [Ht]using h⟩
 | cons x t ih=>
   intro k hk;cases k with
   | zero=>exact⟨acc,rfl,h⟩
   | succ k=>
     simp only [Ht]at h;simp only [Jn,List.drop_succ_cons,Ht];cases hl:NM s x.2 with
     | none=>rw [hl]at h;cases h
     | some m=>
       rw [hl]at h;exact ih h k (by simpa using hk)
theorem UD{s:St}:∀{l:List (List UInt8×UInt64)}{acc r:List Int},Ht s l acc=some r->acc.length<=r.length
 | [],acc,r,h=>by simp only [Ht,Option.some.injEq]at h;subst h;exact Ae _
 | x::t,acc,r,h=>by
   simp only [Ht]at h;cases hl:NM s x.2 with
   | none=>rw [hl]at h;cases h
   | some m=>
     rw [hl]at h;have:=UD h;rw [AQ]at this;omega
theorem nV{s:St}{l:List (List UInt8×UInt64)}{acc r a:List Int}(h:Ht s l acc=some r){k:Nat}(hk:k<l.length)(ha:Ht s (l.take k) acc=some a):
 ∃m,NM s l[k].2=some m/\Ht s (l.take (k+1)) acc=some (a++m.map (·.off))/\(a++m.map (·.off)).length<=r.length:=by
 obtain⟨b,hb,hr⟩:=nU h (k+1) hk;have hb2:=hb;rw [Df hk,Xl,ha]at hb2
 dsimp only at hb2
 cases hl:NM s l[k].2 with
 | none=>rw [hl]at hb2;cases hb2
 | some m=>
   rw [hl]at hb2
   dsimp only at hb2
   injection hb2 with hb2
   subst hb2;exact⟨m,rfl,hb,UD hr⟩
theorem Z4:∀{l:List Int},Nk l=true->∀i(h:i+1<l.length),l[i]≠l[i+1]
 | a::b::t,h,0,_=>by
   simp only [Nk,Bool.and_eq_true,Bool.not_eq_true',beq_eq_false_iff_ne,ne_eq]at h;exact h.1
 | a::b::t,h,i+1,hi=>by
   simp only [Nk,Bool.and_eq_true]at h;have:=Z4 h.2 i (by simpa using hi);simpa using this
 | [],_,_,hi=>by simp at hi
 | [a],_,i,hi=>by simp at hi
end Go.Proofs.YtjcppneoncpdbaaGreatDoor
