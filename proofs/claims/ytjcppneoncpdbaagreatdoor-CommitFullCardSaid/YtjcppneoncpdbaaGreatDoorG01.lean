import Derived.WalkKit
import Derived.WalkSpells
import Derived.WalkLawsBesides
import Derived.Lib.Hide
import Derived.Deep.AppendLies
import Derived.Deep.RegionLaw
import Derived.Outline
import Derived.Lib.BytesEntry
import Derived.Deep.Draws
import Derived.Deep.QuietTactic
import Derived.BigQuiet
import Derived.Laws.BitsAllLaws
import Derived.Laws.Bits64
open List renaming getElem?_eq_getElem->Af,eq_nil_of_length_eq_zero->Bj,getElem?_take->CG,replicate->Bf,ext_getElem->DX,getElem?_map->BC,length_take->Dt,getElem?_drop->Cf,map_toArray->KQ,map_cons->Bo,map_nil->Em,take_succ_eq_append_getElem->C9,getElem_mem->BD,flatMap_cons->wF,take_succ_cons->L6,drop_eq_getElem_cons->EG,drop_of_length_le->Kz,all_cons->Ado,length_cons->Bh,cons_append->BI,all_eq_true->Gh,mem_of_mem_take->ku,mem_of_mem_drop->EN,map_set->Nl,set_append_right->KZ,replicate_succ->RZ,getElem_cons_succ->Ak,mem_cons->La,nil_append->DN,range->Dn,getElem?_append_left->CE,getElem?_append_right->BX,ext_getElem?->Hy,getElem?_mapIdx->KR,getElem?_set->EY,getElem_set->Je,getElem?_eq_none->EH,getElem_take->wG,getElem_of_mem->Ci,findIdx?_eq_some_iff_getElem->Jv,filter_cons->wZ,take_of_length_le->DV,drop_take->Aa1,take_take->Yc,getElem_map->P5,getElem_range->TS,getD_cons_zero->oV,length_nil->D8,getD->RV
open Nat renaming le_refl->Ad,lt_or_ge->I8,eq_zero_or_pos->FV,mul_le_mul->Gy,pow_succ->Io,mul_assoc->L8,mul_comm->EC,min_eq_left->Iq,pow_le_pow_right->DF,div_div_eq_div_mul->jO,mod_eq_of_lt->Ep,lt_of_lt_of_le->Bg,mod_lt->Lj,xor_lt_two_pow->TK,testBit_two_pow_mul->dJ,testBit_two_pow_sub_one->Yd,lt_pow_two_of_testBit->ZB,testBit_and->Aa2,testBit_lt_two_pow->jP,testBit_or->Jz,zero_testBit->Ip,zero_add->CS,eq_of_testBit_eq->oW,lt_trans->Agk,add_sub_cancel->TL
open Option renaming map_some->Dh,getD_some->NF
open Array renaming getElem?_push->Fb
namespace Go.Proofs.YtjcppneoncpdbaaGreatDoor
open Go.RowKit
def Rd(w:World)(A:Option Addr)(n:Nat)(xs:List Value):Prop:=
 xs.length=n/\(0<n->∃b off,A=some ⟨b,off,none⟩/\b<w.heap.size/\∀j,j<n->w.cell? ⟨b,off+j,none⟩=xs[j]?)
theorem Rd.nil{w:World}{A:Option Addr}:Rd w A 0 []:=⟨rfl,fun h=>absurd h (by omega)⟩
theorem Rd.at{w:World}{A:Option Addr}{n:Nat}{xs:List Value}(h:Rd w A n xs){k:Nat}(hk:k<n):
 ∃b off u,A=some ⟨b,off,none⟩/\b<w.heap.size/\xs[k]? =some u/\w.cell? ⟨b,off+k,none⟩=some u:=by
 obtain⟨b,off,e,hb,hc⟩:=h.2 (by omega);have hl:k<xs.length:=by have:=h.1;omega
 exact⟨b,off,xs[k],e,hb,Af hl,(hc k hk).trans (Af hl)⟩
theorem Rd.keep{w w':World}{A:Option Addr}{n:Nat}{xs:List Value}(h:Rd w A n xs)(hs:w.heap.size<=w'.heap.size)
 (hk:∀k,k<w.heap.size->w'.heap[k]? =w.heap[k]?):Rd w' A n xs:=
 ⟨h.1,fun hn=>by
   obtain⟨b,off,e,hb,hc⟩:=h.2 hn;exact⟨b,off,e,by omega,fun j hj=>(World.cell?_of_block (w:=w) (hk b hb)).trans (hc j hj)⟩⟩
theorem Rd.below{w w':World}{A:Option Addr}{n:Nat}{xs:List Value}(h:Rd w A n xs)(hb:Below w.heap.size w w'):Rd w' A n xs:=
 h.keep hb.size hb.block
def bv(b:UInt8):Value:= .int .u8 (b.toNat:Int)
def wv(x:UInt64):Value:= .int .u64 (x.toNat:Int)
def Bs(w:World)(A:Option Addr)(n:Nat)(l:List UInt8):Prop:=Rd w A n (l.map bv)
def Ws(w:World)(A:Option Addr)(n:Nat)(l:List UInt64):Prop:=Rd w A n (l.map wv)
theorem Bs.len{w:World}{A:Option Addr}{n:Nat}{l:List UInt8}(h:Bs w A n l):l.length=n:=by
 have:=h.1;simpa using this
theorem Ws.len{w:World}{A:Option Addr}{n:Nat}{l:List UInt64}(h:Ws w A n l):l.length=n:=by
 have:=h.1;simpa using this
theorem Bs.below{w w':World}{A:Option Addr}{n:Nat}{l:List UInt8}(h:Bs w A n l)(hb:Below w.heap.size w w'):Bs w' A n l:=Rd.below h hb
theorem Ws.below{w w':World}{A:Option Addr}{n:Nat}{l:List UInt64}(h:Ws w A n l)(hb:Below w.heap.size w w'):Ws w' A n l:=Rd.below h hb
theorem Bs.at{w:World}{A:Option Addr}{n:Nat}{l:List UInt8}(h:Bs w A n l){k:Nat}(hk:k<n):
 ∃(hl:k<l.length)(b off:Nat),A=some ⟨b,off,none⟩/\b<w.heap.size/\w.cell? ⟨b,off+k,none⟩=some (.int .u8 (l[k].toNat:Int)):=by
 have hl:k<l.length:=by have:=h.len;omega
 obtain⟨b,off,u,e,hb,hu,hc⟩:=Rd.at h hk;refine⟨hl,b,off,e,hb,?_⟩;rw [hc,<-hu];simp [bv,hl]
theorem Ws.at{w:World}{A:Option Addr}{n:Nat}{l:List UInt64}(h:Ws w A n l){k:Nat}(hk:k<n):
 ∃(hl:k<l.length)(b off:Nat),A=some ⟨b,off,none⟩/\b<w.heap.size/\w.cell? ⟨b,off+k,none⟩=some (.int .u64 (l[k].toNat:Int)):=by
 have hl:k<l.length:=by have:=h.len;omega
 obtain⟨b,off,u,e,hb,hu,hc⟩:=Rd.at h hk;refine⟨hl,b,off,e,hb,?_⟩;rw [hc,<-hu];simp [wv,hl]
theorem BU{w:World}{base:Nat}{e:TypeId}{v:Value}{n:Nat}{xs:List Value}(h:w.ownsRow base e 1 v n xs):
 ∃A c,v= .slice A n c/\n<=c/\Rd w A n xs:=by
 obtain⟨h1,h2⟩:=h;rcases h2 with⟨rfl,rfl⟩| ⟨g,cap,cur,rfl,_,hg,hnc,_,hcs,htake⟩
 ·have:xs=[]:=Bj (by simpa using h1);subst this;exact⟨none,0,rfl,Ad _,Rd.nil⟩
 ·refine⟨_,_,rfl,hnc,by simpa using h1,fun hn=>⟨g,0,rfl,?_,fun j hj=> ?_⟩⟩
  ·exact(Array.getElem?_eq_some_iff.1 hg).1
  ·rw [cell_of_row w g (0+j) cur e (0,0) hg,<-htake,CG,if_pos (by omega)];simp
def Dr(w w':World):Prop:=∃q,w'=w.drewN q
theorem Dr.refl(w:World):Dr w w:=⟨0,rfl⟩
theorem Dr.one(w:World)(q:Nat):Dr w (w.drewN q):=⟨q,rfl⟩
theorem Dr.two(w:World)(q r:Nat):Dr w ((w.drewN q).drewN r):=⟨q+r,World.drewN_drewN _ _ _⟩
theorem Dr.trans{a b c:World}(h:Dr a b)(k:Dr b c):Dr a c:=by
 obtain⟨q,rfl⟩:=h;obtain⟨r,rfl⟩:=k;exact Dr.two _ _ _
theorem Dr.below{w w':World}(h:Dr w w')(B:Nat):Below B w w':=by
 obtain⟨q,rfl⟩:=h;exact⟨rfl,rfl,rfl,Ad _,fun _ _=>rfl⟩
theorem VN{w:World}{base g cap:Nat}{e:TypeId}{n:Nat}{xs:List Value}(h:w.ownsRow base e 1 (.slice (some ⟨g,0,none⟩) n cap) n xs){k:Nat}(hk:k<n):∃u,w.cell? ⟨g,k,none⟩=some u:=by
 rw [h.cellAt k (by omega)];exact⟨_,Af (by have:=h.1;omega)⟩
theorem rC{v u:Value}(h:v=u):Ending.returned v=Ending.returned u:=by rw [h]
theorem Gn(l:List UInt8):∀u∈l.map bv,u.oneCell'=true:=by
 intro u hu;obtain⟨_,_,rfl⟩:=List.mem_map.1 hu;rfl
theorem Om(l:List UInt64):∀u∈l.map wv,u.oneCell'=true:=by
 intro u hu;obtain⟨_,_,rfl⟩:=List.mem_map.1 hu;rfl
theorem block_lt_of_cell{w:World}{a:Addr}{v:Value}(h:w.cell? a=some v):a.block<w.heap.size:=by
 rcases I8 a.block w.heap.size with hlt| hge
 ·exact hlt
 ·rw [World.cell?,Array.getElem?_eq_none hge]at h;cases h
theorem Oo(n:Nat):(madeCells (Value.int .u8 0).cells (n*1)).toList=(Bf n (0:UInt8)).map bv:=by
 apply DX
 ·simp [madeCells]
 ·intro i h1 h2;simp [madeCells,Value.cells,Nat.mod_one,bv]
theorem J9(n:Nat):(madeCells (Value.int .u64 0).cells (n*1)).toList=(Bf n (0:UInt64)).map wv:=by
 apply DX
 ·simp [madeCells]
 ·intro i h1 h2;simp [madeCells,Value.cells,Nat.mod_one,wv]
theorem Aec {P : Program} {w : World} {A : Option Addr} {n : Nat} {l : List UInt8} (h : Bs w A n l) (c : Nat) :
    (Extern.Bytes.bytesOf (.slice A n c)).run P w = .ok ⟨l.toArray⟩ w := by
  have hlen := h.len
  rcases A with _ | ad
  · have hn : n = 0 := by
      rcases FV n with h0 | h0
      · exact h0
      · obtain ⟨_, _, e, _⟩ := h.2 h0; cases e
    subst hn
    have hl : l = [] := Bj hlen
    subst hl
    rfl
  · have key := Lib.run_loadBytesX (P := P) w (l.map fun b => (b.toNat : Int)) ad .empty (fun j x hx => by
      have hjl : j < l.length := by
        have := (List.getElem?_eq_some_iff.1 hx).1
        simpa using this
      obtain ⟨hl, b, off, e, hb, hc⟩ := h.at (k := j) (by omega)
      injection e with e
      subst e
      rw [Addr.add_lit, hc]
      rw [BC, Af hjl] at hx
      simp only [Dh, Option.some.injEq] at hx
      rw [hx])
    simp only [List.length_map, hlen] at key
    show (Extern.Bytes.loadBytes ad n .empty).run P w = _
    rw [key]
    congr 1
    apply ByteArray.ext
    show (#[] : Array UInt8) ++ (Lib.bytesOf _).toArray = l.toArray
    simp [Lib.bytesOf, Function.comp_def]
theorem JA {P : Program} {w : World} {src e dst : TypeId} (hs : P.underlying src = some (.slice e)) (he : P.underlying e = some (.int .u8)) (hd : P.underlying dst = some .string)
    {A : Option Addr} {n : Nat} {l : List UInt8} (h : Bs w A n l) (c : Nat) : (convert src dst (.slice A n c)).run P w = .ok (.string ⟨l.toArray⟩) w := by
  have hlen := h.len
  rcases A with _ | ad
  · have hn : n = 0 := by
      rcases FV n with h0 | h0
      · exact h0
      · obtain ⟨_, _, e, _⟩ := h.2 h0; cases e
    subst hn
    have hl : l = [] := Bj hlen
    subst hl
    exact run_convert_bytes_nil w src e hs he 0 c dst hd
  · have hl : (loadCells ad n).run P w = .ok ((l.map fun b => (b.toNat : Int)).map (Value.int .u8)).toArray w := by
      have := run_loadCells_list (P := P) w ad ((l.map fun b => (b.toNat : Int)).map (Value.int .u8)) (fun j v hj => by
        have hjl : j < l.length := by
          have := (List.getElem?_eq_some_iff.1 hj).1
          simpa using this
        obtain ⟨hl, b, off, e, hb, hc⟩ := h.at (k := j) (by omega)
        injection e with e
        subst e
        rw [Addr.add_lit, hc]
        simp only [BC, Af hjl, Dh, Option.some.injEq] at hj
        rw [hj])
      simpa [hlen] using this
    rw [run_convert_bytes_string w src dst e _ n c hs he hd, run_bytesToString w _ n c _ hl, foldl_push_bytes]
    congr 2
    apply ByteArray.ext
    show (#[] : Array UInt8) ++ _ = l.toArray
    simp [Function.comp_def]
structure KC(P:Program)(t e:TypeId)(z:Value)(bytes:Nat):Prop where
 ht:P.underlying t=some (.slice e)
 hi:(P.info? e).map (fun i=>(i.zero,i.size,i.bytes))=some (some z,1,bytes)
 hz:z.cells.size=1
def VO(A:Option Addr)(c lo:Nat):Option Addr:=if c=lo then A else A.map (·.add lo)
theorem Rd.sub{w:World}{A:Option Addr}{n:Nat}{xs:List Value}(h:Rd w A n xs){c lo hi:Nat}(h1:lo<=hi)(h2:hi<=n)(hc:n<=c):Rd w (VO A c lo) (hi-lo) ((xs.drop lo).take (hi-lo)):=by
 refine⟨by rw [Dt,List.length_drop,h.1];omega,fun h0=> ?_⟩;obtain⟨b,off,rfl,hb,hcl⟩:=h.2 (by omega);refine⟨b,off+lo,?_,hb,fun j hj=> ?_⟩
 ·rw [VO,if_neg (by omega)];simp [Addr.add_lit]
 ·rw [Nat.add_assoc,hcl (lo+j) (by omega),CG,if_pos hj,Cf]
section
variable{P:Program}{t e:TypeId}{z:Value}{bytes:Nat}
theorem KC.Oq(T:KC P t e z bytes)(w:World):(sizeOf e).run P w= .ok 1 w:=by
 obtain⟨i,hi,hz0,hz1,hz2⟩:=info_parts T.hi;simp [sizeOf,typeInfo,hi,hz1]
theorem pz(T:KC P t e z bytes)(A:Option Addr)(n c:Nat)(k1 k2:IntKind)(lo hi:Nat)(h1:lo<=hi)(h2:hi<=c)(w:World):
 (Instr.slice t (.slice A n c) (some (.int k1 (lo:Int))) (some (.int k2 (hi:Int))) none).run P w= .ok (.slice (VO A c lo) (hi-lo) (c-lo)) w:=by
 have e1:=run_sliceBound (P:=P) (w:=w) k2 (hi:Int) c .sliceAcap (by omega) (by omega);have e2:=run_sliceBound (P:=P) (w:=w) k1 (lo:Int) hi .sliceB (by omega) (by omega);simp [Instr.slice,run_underlying T.ht,Instr.sliceBounds,e1,e2,T.Oq,VO]
theorem xw(T:KC P t e z bytes)(A:Option Addr)(n c:Nat)(k1:IntKind)(lo:Nat)(h1:lo<=n)(w:World):
 (Instr.slice t (.slice A n c) (some (.int k1 (lo:Int))) none none).run P w= .ok (.slice (VO A c lo) (n-lo) (c-lo)) w:=by
 have e2:=run_sliceBound (P:=P) (w:=w) k1 (lo:Int) n .sliceB (by omega) (by omega);simp [Instr.slice,run_underlying T.ht,Instr.sliceBounds,e2,T.Oq,VO]
end
theorem rD {P : Program} {t e : TypeId} {z : Value} {bytes : Nat} (T : KC P t e z bytes) (ty : TypeId) {w : World} {base : Nat} {v : Value} {n : Nat} {xs news : List Value}
    (hown : w.ownsRow base e 1 v n xs) {A : Option Addr} {m : Nat} (hr : Rd w A m news)
    (h1 : ∀ u ∈ news, u.oneCell' = true) (hm : n + m <= 1000000000) (hby : bytes <= 64) (hbase : base <= w.heap.size) (c : Nat) :
    ∃ v' w', (Builtin.append_ #[t, t] ty #[v, .slice A m c]).run P w = .ok v' w' /\ w'.ownsRow base e 1 v' (n + m) (xs ++ news) /\ Below base w w' := by
  obtain ⟨i, hi, hz0, hz1, hz2⟩ := info_parts T.hi
  rcases A with _ | ad
  · have h0 : m = 0 := by
      rcases FV m with h0 | h0
      · exact h0
      · obtain ⟨_, _, e, _⟩ := hr.2 h0; cases e
    subst h0
    have hn : news = [] := Bj hr.1
    subst hn
    refine ⟨v, w, ?_, by simpa using hown, Below.refl _ _⟩
    rcases hown.2 with ⟨rfl, rfl⟩ | ⟨g, cap, cur, rfl, _, _, hnc, _⟩
    · simp [Builtin.append_, run_underlying T.ht, sizeOf, typeInfo, hi, Builtin.lenOf, Builtin.firstCells]
    · simp [Builtin.append_, run_underlying T.ht, sizeOf, typeInfo, hi, Builtin.lenOf, Builtin.firstCells, hnc, storeCells]
  · have hcells : ∀ j u, news[j]? = some u -> w.cell? (ad.add j) = some u := by
      intro j u hu
      have hj : j < m := by
        have := (List.getElem?_eq_some_iff.1 hu).1
        have := hr.1
        omega
      obtain ⟨b, off, e, _, hc⟩ := hr.2 (by omega)
      injection e with e
      subst e
      rw [Addr.add_lit, hc j hj, hu]
    have hmul : (n + m) * bytes <= 1000000000 * 64 := Gy hm hby
    obtain ⟨v', w', hrun, h2, h3, _⟩ := run_append_own (P := P) w base t ty e i z 1 bytes T.ht hi hz0 hz1 hz2 T.hz (by decide) v n xs hown ad m c news (by simp [hr.1]) hcells h1
      (by unfold maxLen; omega) (by omega) hbase
    exact ⟨v', w', hrun, h2, (Below.refl _ _).grown h3 hbase (fun k hk => (hown.lt k hk).1)⟩
theorem QD{P:Program}{ops:Array Oper}{rest:List Oper}{o:Oper}{a:Act}{w:World}{Q:Exit->Act->World->Prop}(hgd:o.guard=none)(s x:Operand)(t:TypeId)
 (ho:o.op= .call {callee:= .builtin .append,args:= #[s,x],argTypes:= #[t,t]}){e:TypeId}{z:Value}{bytes:Nat}(T:KC P t e z bytes)
 (base:Nat)(v:Value)(n:Nat)(xs news:List Value)(hs:a.eval s=v)(hown:w.ownsRow base e 1 v n xs)(A:Option Addr)(m c:Nat)(hx:a.eval x= .slice A m c)(hr:Rd w A m news)
 (h1:∀u∈news,u.oneCell'=true)(hm:n+m<=1000000000)(hby:bytes<=64)(hbase:base<=w.heap.size)
 (h:∀v' w',w'.ownsRow base e 1 v' (n+m) (xs++news)->Below base w w'->wpList P ops Q rest (a.put o.dst v') w'):wpList P ops Q (o::rest) a w:=by
 refine wpList_plain hgd fun K hK=> ?_
 obtain⟨v',w',hrun,h2,h3⟩:=rD T o.type hown hr h1 hm hby hbase c;unfold Oper.wp execOp;simp only [ho,resolve,invoke,builtin,Sem.run_bind,Sem.run_pure,Result.andThen_ok,KQ,Bo,Em,hs,hx,hrun];exact hK _ _ (h v' w' h2 h3)
theorem kC{P:Program}{t e:TypeId}{z:Value}{bytes:Nat}(T:KC P t e z bytes)(ty:TypeId){w wr:World}{base:Nat}{v:Value}{n:Nat}{xs news:List Value}
 (hown:wr.ownsRow base e 1 v n xs)(hw:w.heap=wr.heap.push (.cells news.toArray e))(hos:w.os=wr.os)(htape:w.tape=wr.tape)(hout:w.output=wr.output)
 (h1:∀u∈news,u.oneCell'=true)(hm:n+news.length<=1000000000)(hby:bytes<=64)(hbase:base<=wr.heap.size)(m c:Nat)(hmn:m=news.length):
 ∃v' w',(Builtin.append_ #[t,t] ty #[v,.slice (some ⟨wr.heap.size,0,none⟩) m c]).run P w= .ok v' w'/\w'.ownsRow base e 1 v' (n+m) (xs++news)/\Below base wr w':=by
 subst hmn;obtain⟨i,hi,hz0,hz1,hz2⟩:=info_parts T.hi;have hb1:Below wr.heap.size wr w:=⟨hos,htape,hout,by rw [hw];simp,fun k hk=>by rw [hw,Fb,if_neg (by omega)]⟩;have hown':w.ownsRow base e 1 v n xs:=by
  refine⟨hown.1,?_⟩;rcases hown.2 with h| ⟨g,cap,cur,h1,h2,h3,h4⟩
  ·exact .inl h
  ·exact .inr ⟨g,cap,cur,h1,h2,by rw [hb1.block g (Array.getElem?_eq_some_iff.1 h3).1];exact h3,h4⟩
 have hcells:∀j u,news[j]? =some u->w.cell? ((⟨wr.heap.size,0,none⟩:Addr).add j)=some u:=by
  intro j u hu;rw [show(⟨wr.heap.size,0,none⟩:Addr).add j=⟨wr.heap.size,0+j,none⟩from Addr.add_lit _ _ _];rw [cell_of_row w wr.heap.size (0+j) news.toArray e (0,0) (by rw [hw,Fb,if_pos rfl])];simpa using hu
 have hmul:(n+news.length)*bytes<=1000000000*64:=Gy hm hby;obtain⟨v',w',hrun,h2,h3,_⟩:=run_append_own (P:=P) w base t ty e i z 1 bytes T.ht hi hz0 hz1 hz2 T.hz (by decide) v n xs hown' _ news.length c news (by simp) hcells h1
  (by unfold maxLen;omega) (by omega) (by rw [hw];simp;omega)
 refine⟨v',w',hrun,h2,(hb1.mono hbase).trans ?_⟩;exact(Below.refl _ _).grown h3 (by rw [hw];simp;omega) (fun k hk=>(hown'.lt k hk).1)
theorem ZF{P:Program}{ops:Array Oper}{o:Oper}{a:Act}{w:World}{K:Act->World->Prop}{Q:Exit->Act->World->Prop}{E:Prop}(hgd:o.guard=none)(s x:Operand)(t:TypeId)
 (ho:o.op= .call {callee:= .builtin .append,args:= #[s,x],argTypes:= #[t,t]}){e:TypeId}{z:Value}{bytes:Nat}(T:KC P t e z bytes)
 (wr:World)(base:Nat)(v:Value)(n:Nat)(xs news:List Value)(hs:a.eval s=v)(hown:wr.ownsRow base e 1 v n xs)(hw:w.heap=wr.heap.push (.cells news.toArray e))
 (hos:w.os=wr.os)(htape:w.tape=wr.tape)(hout:w.output=wr.output)
 (m c:Nat)(hx:a.eval x= .slice (some ⟨wr.heap.size,0,none⟩) m c)(hmn:m=news.length)
 (h1:∀u∈news,u.oneCell'=true)(hm:n+news.length<=1000000000)(hby:bytes<=64)(hbase:base<=wr.heap.size)
 (h:∀v' w',w'.ownsRow base e 1 v' (n+m) (xs++news)->Below base wr w'->K (a.put o.dst v') w'):
 if Region.wanted o (yielded ops a.tmps)=true then Oper.wp P o a w K Q else E:=by
 have hwt:Region.wanted o (yielded ops a.tmps)=true:=by simp [Region.wanted,hgd]
 rw [if_pos hwt];obtain⟨v',w',hrun,h2,h3⟩:=kC T o.type hown hw hos htape hout h1 hm hby hbase m c hmn;unfold Oper.wp execOp;simp only [ho,resolve,invoke,builtin,Sem.run_bind,Sem.run_pure,Result.andThen_ok,KQ,Bo,Em,hs,hx,hrun];exact h v' w' h2 h3
def Df(b:UInt8):Bool:=b.toNat<16
theorem QE{α:Type}(p:α->Bool)(l:List α)(k:Nat)(h:k<l.length)(ha:(l.take k).all p=true)(hp:p l[k]=true):(l.take (k+1)).all p=true:=by
 rw [C9 h,List.all_append,ha];simp [hp]
theorem TT{α:Type}(p:α->Bool)(l:List α)(k:Nat)(h:k<l.length)(hp:p l[k]=false):l.all p=false:=by
 rw [List.all_eq_false];exact⟨l[k],BD h,by simp [hp]⟩
theorem TU{b:UInt8}(h:b.toNat<16):Df b=true:=by simp [Df,h]
theorem xy{b:UInt8}(h:¬b.toNat<16):Df b=false:=by simp [Df];omega
def CQ(l:List UInt8):List UInt8:=l.flatMap fun b=>[b/16,b%16]
theorem VP(l:List UInt8)(k:Nat)(h:k<l.length):CQ (l.take (k+1))=CQ (l.take k)++[l[k]/16,l[k]%16]:=by
 rw [C9 h];simp only [CQ,List.flatMap_append,wF,List.flatMap_nil,List.append_nil]
theorem QP(s:ByteArray)(k:Nat)(h:k<s.size):CQ (s.data.toList.take (k+1))=CQ (s.data.toList.take k)++[s[k]/16,s[k]%16]:=by
 have hl:k<s.data.toList.length:=by simpa using h
 rw [VP _ k hl];rfl
theorem KD(l:List UInt8):(CQ l).length=2*l.length:=by
 induction l with
 | nil=>rfl
 | cons a l ih=>simp [CQ]at ih⊢;omega
theorem Aed(b:UInt8):Value.int .u8 ((b.toNat:Int)/16)=bv (b/16):=by simp [bv]
theorem Aee(b:UInt8):Value.int .u8 ((b.toNat:Int)%16)=bv (b%16):=by simp [bv]
theorem Aa7(b:UInt8):Value.int .u8 (IntKind.u8.wrap ((b.toNat:Int)/16))=bv (b/16):=by
 have:=b.toNat_lt;rw [<-Aed,IntWalk.u8_in _ (by omega)]
theorem Aa8(b:UInt8):Value.int .u8 ((b.toNat:Int).tmod 16)=bv (b%16):=by
 rw [<-Aee,Int.tmod_eq_emod_of_nonneg (by omega)]
def common:List UInt8->List UInt8->Nat
 | a::as,b::bs=>if a=b then common as bs+1 else 0
 | _,_=>0
theorem Ho:∀(a b:List UInt8),common a b<=a.length
 | [],_=>by simp [common]
 | a::as,[]=>by simp [common]
 | a::as,b::bs=>by
   simp only [common];have:=Ho as bs;split<;>simp;omega
theorem P9:∀(a b:List UInt8),common a b=common b a
 | [],[]=>rfl
 | [],_::_=>by simp [common]
 | _::_,[]=>by simp [common]
 | a::as,b::bs=>by
   simp only [common];rw [P9 as bs];by_cases h:a=b
   ·subst h;simp
   ·simp [h,Ne.symm h]
theorem Es(a b:List UInt8):common a b<=b.length:=by rw [P9];exact Ho b a
def alike(k:Nat)(a b:List UInt8):Prop:=k<=a.length/\k<=b.length/\a.take k=b.take k
theorem kD(a b:List UInt8):alike 0 a b:=⟨Nat.zero_le _,Nat.zero_le _,by simp⟩
theorem KU:∀(k:Nat)(a b:List UInt8),alike k a b->common a b=k+common (a.drop k) (b.drop k)
 | 0,a,b,_=>by simp
 | k+1,[],b,h=>by have:=h.1;simp at this
 | k+1,a::as,[],h=>by have:=h.2.1;simp at this
 | k+1,a::as,b::bs,h=>by
   obtain⟨h1,h2,h3⟩:=h;simp only [L6,List.cons.injEq]at h3;obtain⟨rfl,h3⟩:=h3;have:=KU k as bs ⟨by simpa using h1,by simpa using h2,h3⟩;simp [common,this];omega
theorem kE{k:Nat}{a b:List UInt8}(h:alike k a b)(ha:k<a.length)(hb:k<b.length)(e:a[k]=b[k]):alike (k+1) a b:=
 ⟨ha,hb,by rw [C9 ha,C9 hb,h.2.2,e]⟩
theorem Vk{k:Nat}{a b:List UInt8}(h:alike k a b)(ha:k<a.length)(hb:k<b.length)(e:a[k]≠b[k]):common a b=k:=by
 rw [KU k a b h,EG ha,EG hb];simp [common,e]
theorem MP{k:Nat}{a b:List UInt8}(h:alike k a b)(ha:a.length=k):common a b=k:=by
 rw [KU k a b h,Kz (by omega)];simp [common]
theorem QQ{k:Nat}{a b:List UInt8}(h:alike k a b)(hb:b.length=k):common a b=k:=by
 rw [P9];exact MP ⟨h.2.1,h.1,h.2.2.symm⟩ hb
theorem dM{a b:UInt8}(h:a=b):(((a.toNat:Int))==(b.toNat:Int))=true:=by simp [h]
theorem ZG{a b:UInt8}(h:a≠b):(((a.toNat:Int))==(b.toNat:Int))=false:=by
 rw [beq_eq_false_iff_ne];intro e;exact h (UInt8.toNat_inj.1 (by omega))
def Eg:List UInt8->Nat
 | []=>0
 | d::l=>d.toNat+16*Eg l
theorem Sl:∀(l:List UInt8),l.all Df=true->Eg l<16^l.length
 | [],_=>by simp [Eg]
 | d::l,h=>by
   simp only [Ado,Bool.and_eq_true]at h;have:=Sl l h.2;have hd:d.toNat<16:=by simpa [Df]using h.1
   simp only [Eg,Bh,Io];omega
theorem Sm:∀(l m:List UInt8),Eg (l++m)=Eg l+16^l.length*Eg m
 | [],m=>by simp [Eg]
 | d::l,m=>by
   simp only [BI,Eg,Sm l m,Bh,Io];have:16*(16^l.length*Eg m)=16^l.length*16*Eg m:=by rw [<-L8,EC 16]
   omega
theorem Vl(l:List UInt8)(k:Nat)(h:k<l.length):Eg (l.take (k+1))=Eg (l.take k)+16^k*l[k].toNat:=by
 rw [C9 h,Sm];simp [Eg,Iq (Nat.le_of_lt h)]
theorem Adp(k:Nat):16^(k+1)=2^(4+4*k):=by
 rw [show(16:Nat)=2^4 from rfl,<-Nat.pow_mul];congr 1;omega
theorem Sr(p:UInt8->Bool)(l:List UInt8)(k:Nat)(h:l.all p=true):(l.take k).all p=true:=by
 rw [Gh]at h⊢;exact fun x hx=>h x (ku hx)
theorem Su(p:UInt8->Bool)(l:List UInt8)(k:Nat)(h:l.all p=true):(l.drop k).all p=true:=by
 rw [Gh]at h⊢;exact fun x hx=>h x (EN hx)
theorem V7{l:List UInt8}{k:Nat}(h:l.all Df=true)(hk:k<l.length):l[k].toNat<16:=by
 rw [Gh]at h;simpa [Df]using h l[k] (BD hk)
theorem rE(l:List UInt8)(n k:Nat)(hn:n<=15)(hk:k<n)(hl:k<l.length)(QR:l.all Df=true):
 Value.int IntKind.u64 (bits BinOp.or IntKind.u64 ((n:Int)+16*(Eg (l.take k):Int)) (IntKind.u64.wrap (IntKind.u64.wrap (l[k].toNat:Int)*2^(4+4*k))))=
  Value.int IntKind.u64 ((n+16*Eg (l.take (k+1)):Nat):Int):=by
 have hd:=V7 QR hl;have hp:=Sl (l.take k) (Sr _ _ _ QR);rw [Dt,Iq (by omega)]at hp;have Amh:16^(k+1)<=16^15:=DF (by decide) (by omega);have hs:16^(k+1)=16*16^k:=by rw [Io,EC]
 have hX:n+16*Eg (l.take k)<16^(k+1):=by omega
 have hdm:l[k].toNat*16^(k+1)<=15*16^(k+1):=Nat.mul_le_mul_right _ (by omega);have h15:(16:Nat)^15=1152921504606846976:=by decide
 congr 1;have e1:IntKind.u64.wrap (l[k].toNat:Int)=(l[k].toNat:Int):=IntWalk.u64_in _ (by omega);have e2:(l[k].toNat:Int)*2^(4+4*k)=((l[k].toNat*16^(k+1):Nat):Int):=by rw [Adp];simp
 rw [e1,e2,IntWalk.u64_in _ (by omega)];have e3:(n:Int)+16*(Eg (l.take k):Int)=((n+16*Eg (l.take k):Nat):Int):=by simp
 rw [e3,u64_or_nat _ _ (by omega) (by omega)];congr 1;rw [Vl l k hl];rw [Adp]at hX hs⊢;have hor:=Nat.two_pow_add_eq_or_of_lt hX l[k].toNat;rw [Nat.or_comm,EC,<-hor,hs];have:16*16^k*l[k].toNat=16*(16^k*l[k].toNat):=L8 _ _ _;omega
def digits:Nat->Nat->List UInt8
 | 0,_=>[]
 | k+1,n=>UInt8.ofNat (n%16)::digits k (n/16)
theorem digits_length:∀(k n:Nat),(digits k n).length=k
 | 0,_=>rfl
 | k+1,n=>by simp [digits,digits_length k]
theorem U5:∀(k n:Nat),digits (k+1) n=digits k n++[UInt8.ofNat (n/16^k%16)]
 | 0,n=>by simp [digits]
 | k+1,n=>by
   rw [digits,U5 k (n/16),digits,BI,jO,Io,EC 16]
theorem Sv:∀(l:List UInt8),l.all Df=true->digits l.length (Eg l)=l
 | [],_=>rfl
 | d::l,h=>by
   simp only [Ado,Bool.and_eq_true]at h;have hd:d.toNat<16:=by simpa [Df]using h.1
   rw [Bh,Eg,digits,show(d.toNat+16*Eg l)/16=Eg l by omega,Sv l h.2,show(d.toNat+16*Eg l)%16=d.toNat by omega];simp
theorem pF(n:Nat):Value.int .u8 ((n:Int)%16)=bv (UInt8.ofNat (n%16)):=by
 simp only [bv,UInt8.toNat_ofNat'];rw [Ep (show n%16<2^8 by omega)];simp
theorem ZH(k n:Nat)(y:Nat)(hk:k<n):
 (((digits k y++Bf (n-k) (0:UInt8)).map bv).set k (bv (UInt8.ofNat (y/16^k%16))))=(digits (k+1) y++Bf (n- (k+1)) (0:UInt8)).map bv:=by
 rw [U5,<-Nl,KZ _ _ (by rw [digits_length];omega),digits_length];obtain⟨r,hr⟩:∃r,n-k=r+1:=⟨n-k-1,by omega⟩;rw [hr,show n- (k+1)=r by omega,RZ];simp
def pairs:List UInt8->List UInt8
 | a::b::l=>(a*16+b)::pairs l
 | _=>[]
theorem Sz:∀(l:List UInt8),(pairs l).length=l.length/2
 | []=>rfl
 | [_]=>by simp [pairs]
 | a::b::l=>by simp [pairs,Sz l];omega
theorem U6:∀(i:Nat)(l:List UInt8)(_:i%2=0)(h:i+1<l.length),pairs (l.take (i+2))=pairs (l.take i)++[l[i]*16+l[i+1]]
 | 0,a::b::l,_,_=>by simp [pairs]
 | 1,_,hi,_=>by simp at hi
 | i+2,a::b::l,hi,h=>by
   have:=U6 i l (by omega) (by simp at h;omega);simp only [L6,pairs,BI,Ak];rw [this]
 | 0,[],_,h=>by simp at h
 | 0,[_],_,h=>by simp at h
 | i+2,[],_,h=>by simp at h
 | i+2,[_],_,h=>by simp at h
theorem kF(k:Nat)(l:List UInt8)(h:2*k+1<l.length):pairs (l.take (2*(k+1)))=pairs (l.take (2*k))++[l[2*k]*16+l[2*k+1]]:=
 U6 (2*k) l (by omega) h
theorem VQ(l:List UInt8):pairs (l.take (2*(l.length/2)))=pairs l:=by
 have aux:∀(l:List UInt8),pairs (l.take (2*(l.length/2)))=pairs l:=by
  intro l;induction l using pairs.induct with
  | case1 a b l ih=>
    rw [show 2*((a::b::l).length/2)=2*(l.length/2)+1+1 by simp;omega];simp [pairs,ih]
  | case2 l h=>
    rcases l with _| ⟨a,_| ⟨b,l⟩⟩
    ·rfl
    ·simp [pairs]
    ·exact absurd rfl (h a b l)
 exact aux l
theorem dN(a b:UInt8)(ha:a.toNat<16)(hb:b.toNat<16):(a*16+b)/16=a/\(a*16+b)%16=b:=by
 have h1:(a*16+b).toNat=a.toNat*16+b.toNat:=by simp [UInt8.toNat_add,UInt8.toNat_mul];omega
 constructor
 ·apply UInt8.toNat_inj.1;rw [UInt8.toNat_div,h1];simp;omega
 ·apply UInt8.toNat_inj.1;rw [UInt8.toNat_mod,h1];simp;omega
theorem VR(l:List UInt8):(CQ l).all Df=true:=by
 rw [Gh];intro x hx;obtain⟨b,_,hx⟩:=List.mem_flatMap.1 hx;have:=b.toNat_lt;simp only [La,List.not_mem_nil,or_false]at hx;rcases hx with rfl| rfl<;>simp [Df]<;>omega
theorem QS:∀(l:List UInt8),pairs (CQ l)=l
 | []=>rfl
 | a::l=>by
   have:=QS l;simp only [CQ]at this;simp only [CQ,wF,BI,DN,pairs,this];congr 1;apply UInt8.toNat_inj.1;have:=a.toNat_lt;simp [UInt8.toNat_add,UInt8.toNat_mul];omega
def KE(l:List UInt8):Bool:=decide (l.length%2=0)&&l.all Df
theorem dO(l:List UInt8)(k h:Nat)(hk:k<h)(hl:2*k+1<l.length)(hh:h=l.length/2):
 (((pairs (l.take (2*k))++Bf (h-k) (0:UInt8)).map bv).set k (bv (l[2*k]*16+l[2*k+1])))=(pairs (l.take (2*(k+1)))++Bf (h- (k+1)) (0:UInt8)).map bv:=by
 have hlen:(pairs (l.take (2*k))).length=k:=by rw [Sz,Dt];omega
 rw [kF k l hl,<-Nl,KZ _ _ (by omega),hlen];obtain⟨r,hr⟩:∃r,h-k=r+1:=⟨h-k-1,by omega⟩;rw [hr,show h- (k+1)=r by omega,RZ];simp
theorem pG(a b:UInt8):Value.int .u8 (((a.toNat:Int)*16+(b.toNat:Int))%256)=bv (a*16+b):=by
 simp only [bv,UInt8.toNat_add,UInt8.toNat_mul];congr 1;have h1:=a.toNat_lt;have h2:=b.toNat_lt;simp
theorem S9(l:List UInt8)(k:Nat)(hk:l.length<=k)(h:l.all Df=true):Eg l<16^k:=
 Bg (Sl l h) (DF (by decide) hk)
theorem JY:(16:Nat)^15=1152921504606846976:=by decide
theorem kG(l:List UInt8):KE (CQ l)=true:=by
 simp only [KE,KD,VR,Bool.and_true,decide_eq_true_eq];omega
theorem unpack_pack(l:List UInt8)(h15:l.length<=15)(h:l.all Df=true):
 (l.length+16*Eg l)%16=l.length/\(l.length+16*Eg l)/16=Eg l/\Eg l/16^l.length=0/\digits l.length (Eg l)=l/\l.length+16*Eg l<18446744073709551616:=by
 have h1:=Sl l h;have h2:=S9 l 15 h15 h;rw [JY]at h2;exact⟨by omega,by omega,Nat.div_eq_of_lt h1,Sv l h,by omega⟩
theorem VS{a b:UInt8}(h1:a/16=b/16)(h2:a%16=b%16):a=b:=by
 apply UInt8.toNat_inj.1;have e1:=congrArg UInt8.toNat h1;have e2:=congrArg UInt8.toNat h2;simp at e1 e2;omega
theorem YD(a:UInt8)(l:List UInt8):CQ (a::l)=a/16::a%16::CQ l:=rfl
theorem dP:CQ []=[]:=rfl
theorem dQ:∀(a b:List UInt8),common (CQ a) (CQ b)=2*common a b\/common (CQ a) (CQ b)=2*common a b+1
 | [],_=>by simp [dP,common]
 | a::as,[]=>by simp [YD,dP,common]
 | a::as,b::bs=>by
   have ih:=dQ as bs;simp only [YD,common];by_cases h1:a/16=b/16
   ·by_cases h2:a%16=b%16
    ·have e:=VS h1 h2;subst e;simp only [if_true];omega
    ·have e:a≠b:=fun e=>h2 (by rw [e])
     rw [if_pos h1,if_neg h2,if_neg e];omega
   ·have e:a≠b:=fun e=>h1 (by rw [e])
    rw [if_neg h1,if_neg e];omega
theorem QF:∀(a b:List UInt8),common a (a++b)=a.length
 | [],_=>by simp [common]
 | a::as,b=>by simp [common,QF as b]
theorem PD:∀(a b:List UInt8),a.take (common a b)=b.take (common a b)
 | [],_=>by simp [common]
 | _::_,[]=>by simp [common]
 | a::as,b::bs=>by
   simp only [common];by_cases h:a=b
   ·rw [if_pos h,L6,L6,h,PD as bs]
   ·rw [if_neg h];rfl
theorem U7:∀(a b:List UInt8)(h1:common a b<a.length)(h2:common a b<b.length),a[common a b]≠b[common a b]
 | [],_,h1,_=>by simp at h1
 | _::_,[],_,h2=>by simp at h2
 | a::as,b::bs,h1,h2=>by
   by_cases h:a=b
   ·have e:common (a::as) (b::bs)=common as bs+1:=by simp [common,h]
    have h1':common as bs<as.length:=by simp [e]at h1;exact h1
    have h2':common as bs<bs.length:=by simp [e]at h2;exact h2
    have ih:=U7 as bs h1' h2';simp only [e,Ak];exact ih
   ·have e:common (a::as) (b::bs)=0:=by simp [common,h]
    simp only [e,List.getElem_cons_zero];exact h
def leB(x:UInt64)(i:Nat):UInt8:=UInt8.ofNat (x.toNat/256^i%256)
theorem TV(x:UInt64)(i:Nat):(leB x i).toNat=x.toNat/256^i%256:=by
 unfold leB;rw [UInt8.toNat_ofNat'];exact Ep (Lj _ (by decide))
def TW(x:UInt64):List UInt8:=(Dn 8).map (leB x)
theorem JZ(x:UInt64):(TW x).length=8:=by simp [TW]
theorem kH(x:UInt64)(i:Nat)(h:i<8):(TW x)[i]? =some (leB x i):=by simp [TW,h]
def leBytes:List UInt64->List UInt8
 | []=>[]
 | x::l=>TW x++leBytes l
theorem leBytes_length:∀l:List UInt64,(leBytes l).length=8*l.length
 | []=>rfl
 | x::l=>by rw [leBytes,List.length_append,JZ,leBytes_length l,Bh];omega
theorem Hq:∀(l:List UInt64)(k i:Nat)(hk:k<l.length)(_:i<8),(leBytes l)[8*k+i]? =some (leB l[k] i)
 | [],_,_,hk,_=>by simp at hk
 | x::l,0,i,_,hi=>by
   rw [leBytes,CE (by rw [JZ];omega)];simpa using kH x i hi
 | x::l,k+1,i,hk,hi=>by
   rw [leBytes,BX (by rw [JZ];omega),JZ,show 8*(k+1)+i-8=8*k+i by omega];exact Hq l k i (by simpa using hk) hi
theorem le_step(x:UInt64)(i:Nat):x.toNat%256^i+(leB x i).toNat*256^i=x.toNat%256^(i+1):=by
 rw [TV,Io,Nat.mod_mul];rw [EC]
theorem Aef(x:UInt64):x.toNat%256^8=x.toNat:=Ep (by have:=x.toNat_lt;simpa using this)
def Vm(l:List UInt64)(k:Nat)(n:UInt64)(i:Nat):List UInt8:=(leBytes l).mapIdx fun j b=>if 8*k<=j/\j<8*k+i then leB n (j-8*k)else b
theorem U8(l:List UInt64)(k:Nat)(n:UInt64)(i:Nat):(Vm l k n i).length=8*l.length:=by simp [Vm,leBytes_length]
theorem rF(l:List UInt64)(k:Nat)(n:UInt64):Vm l k n 0=leBytes l:=by
 apply Hy;intro j;simp only [Vm,KR];cases(leBytes l)[j]? with
 | none=>rfl
 | some b=>rw [Dh,if_neg (by omega)]
theorem rG(l:List UInt64)(k:Nat)(n:UInt64)(i:Nat)(hk:k<l.length)(hi:i<8):(Vm l k n i).set (8*k+i) (leB n i)=Vm l k n (i+1):=by
 apply Hy;intro j;rw [EY];by_cases hj:8*k+i=j
 ·subst hj;rw [if_pos rfl,if_pos (by rw [U8];omega)];simp only [Vm,KR,Hq l k i hk hi,Dh];rw [if_pos (by omega),show 8*k+i-8*k=i by omega]
 ·rw [if_neg hj];simp only [Vm,KR];cases(leBytes l)[j]? with
  | none=>rfl
  | some b=>
    simp only [Dh];by_cases h1:8*k<=j/\j<8*k+i
    ·rw [if_pos h1,if_pos (by omega)]
    ·rw [if_neg h1,if_neg (by omega)]
theorem dR(l:List UInt64)(k:Nat)(n:UInt64)(_:k<l.length):Vm l k n 8=leBytes (l.set k n):=by
 apply Hy;intro j;by_cases hj:j<8*l.length
 ·have e:j=8*(j/8)+j%8:=by omega
  have h1:j/8<l.length:=by omega
  have h2:j%8<8:=Lj _ (by decide);have a1:=Hq l (j/8) (j%8) h1 h2;have a2:=Hq (l.set k n) (j/8) (j%8) (by simpa using h1) h2;rw [<-e]at a1 a2;simp only [Vm,KR,a1,a2,Dh];rw [Je];by_cases hkj:k=j/8
  ·rw [if_pos (by omega),if_pos hkj,show j-8*k=j%8 by omega]
  ·rw [if_neg (by omega),if_neg hkj]
 ·rw [EH (by rw [U8];omega),EH (by rw [leBytes_length,List.length_set];omega)]
def ZI:Nat:=2^64-1
def fieldN(n low size:Nat):Nat:=n/2^low%2^size
def DI(n low size v:Nat):Nat:=(n&&&(ZI- (2^size-1)*2^low))||| ((v&&&(2^size-1))*2^low)
def ZJ(n many:Nat):Option Nat:=(Dn many).find? fun i=> !n.testBit i
def JB:List Nat:=[0x00000000,0x105ec76f,0x20bd8ede,0x30e349b1,0x417b1dbc,0x5125dad3,0x61c69362,0x7198540d,0x82f63b78,0x92a8fc17,0xa24bb5a6,0xb21572c9,0xc38d26c4,0xd3d3e1ab,0xe330a81a,0xf36e6f75]
def Ot(x:Nat):Nat:=(x/16)^^^JB.getD (x%16) 0
def Qm(x c:Nat):Nat:=Ot (Ot (x^^^c))
def Ko(sum:Nat)(l:List UInt8):Nat:=(l.foldl (fun x c=>Qm x c.toNat) (sum^^^4294967295))^^^4294967295
structure Sh where
 lines:Nat
 BQ:Nat
 table:Nat
 data:Nat
 deriving DecidableEq
def I9(BQ:Nat):Nat:=2+(BQ+7)/8
def LV(BQ:Nat):Nat:=I9 BQ+16*BQ
def I5(lines:Nat):Nat->Nat->Nat
 | 0,s=>s
 | f+1,s=>if LV (s+1)<=lines then I5 lines f (s+1)else s
def Ou(lines:Nat):Nat:=I5 lines lines 0
def shapeOf(lines:Nat):Option Sh:=
 if lines>1024 then none else
 let s:=Ou lines
 if s=0 then none else some {lines:=lines,BQ:=s,table:=128,data:=I9 s*64}
def headW(s:Sh):List UInt64:=[0x6c6c697473,1,UInt64.ofNat s.lines,UInt64.ofNat s.BQ,UInt64.ofNat s.table,UInt64.ofNat s.data]
def wordsOf(s:Sh):List UInt64:=headW s++[UInt64.ofNat (Ko 0 (leBytes (headW s))),0]
def Ba:Nat->Nat
 | 1=>16
 | 2=>4
 | _=>0
def AQ:Nat->Nat
 | 1=>1
 | 2=>4
 | _=>0
def Dq(w:Nat):Nat:=fieldN w 16 2
def IA(w:Nat):Nat:=fieldN w 0 16
def FK(w:Nat):Bool:=w==0|| (fieldN w 0 (Ba (Dq w))!=0&&DI (DI w 0 (Ba (Dq w)) 0) 16 2 0==0)
def AU(w:Nat):Nat:=if FK w then Dq w else 0
def En(w:Nat)(at_:Nat):Bool:=decide (at_<Ba (AU w))&&fieldN w at_ 1==1
def GX(w:Nat):List Nat:=(Dn (Ba (AU w))).filter (En w)
def JC(w c:Nat):Bool:=FK w&&decide (0<Ba c)&&(w==0|| Dq w==c)
def Ji(w c:Nat):Option Nat:=if JC w c then ZJ (IA w) (Ba c)else none
def Fh(w c at_:Nat):Nat×Bool:=if !JC w c|| decide (Ba c<=at_)|| En w at_ then(w,false)else(DI (DI w at_ 1 1) 16 2 c,true)
def EL(w at_:Nat):Nat×Bool:=if !En w at_ then(w,false)else if IA (DI w at_ 1 0)=0 then(0,true)else(DI w at_ 1 0,true)
structure Nd where
 pre:List UInt8
 val:UInt64
 labels:List UInt8
 kids:List UInt64
def Dp:List UInt8->Bool
 | a::b::l=>decide (a.toNat<b.toNat)&&Dp (b::l)
 | _=>true
theorem FP:∀(l:List UInt8),Dp l=true<->∀i(h:i+1<l.length),l[i].toNat<l[i+1].toNat
 | []=>by simp [Dp]
 | [_]=>by simp [Dp]
 | a::b::l=>by
   have ih:=FP (b::l);simp only [Dp,Bool.and_eq_true,decide_eq_true_eq,ih];constructor
   ·rintro⟨h1,h2⟩i hi;rcases i with _| i
    ·simpa using h1
    ·exact h2 i (by simpa using hi)
   ·intro h;exact⟨by simpa using h 0 (by simp),fun i hi=>h (i+1) (by simpa using hi)⟩
theorem NG(l:List UInt8)(k:Nat)(hk:k<l.length)(h:Dp (l.take k)=true)(hlt:∀j,k=j+1->(h:j<l.length)->l[j].toNat<l[k].toNat):Dp (l.take (k+1))=true:=by
 rw [FP]at h⊢;intro i hi;simp only [Dt]at hi;simp only [wG];by_cases e:i+1=k
 ·subst e;exact hlt i rfl (by omega)
 ·have:=h i (by simp;omega);simpa using this
theorem dS(l:List UInt8)(j:Nat)(hq:j+1<l.length)(h:Dp (l.take (j+1))=true)(hr:l[j].toNat<l[j+1].toNat):Dp (l.take (j+1+1))=true:=
 NG l (j+1) hq h (fun j' hj' _=>by cases hj';exact hr)
def BG(x:Nd):Bool:=
 decide (x.pre.length<=15)&&x.pre.all Df&&decide (x.labels.length=x.kids.length)&&x.labels.all Df&&Dp x.labels&&x.kids.all (fun k=>k.toNat !=0)
theorem AY(x:Nd):BG x=true<->x.pre.length<=15/\x.pre.all Df=true/\x.labels.length=x.kids.length/\x.labels.all Df=true/\Dp x.labels=true/\∀i(h:i<x.kids.length),x.kids[i].toNat≠0:=by
 simp only [BG,Bool.and_eq_true,decide_eq_true_eq,and_assoc,Gh (p:=fun k:UInt64=>k.toNat !=0),bne_iff_ne,ne_eq];constructor
 ·rintro⟨h1,h2,h3,h4,h5,h6⟩;exact⟨h1,h2,h3,h4,h5,fun i hi=>h6 _ (BD hi)⟩
 ·rintro⟨h1,h2,h3,h4,h5,h6⟩;refine⟨h1,h2,h3,h4,h5,fun k hk=> ?_⟩;obtain⟨i,hi,rfl⟩:=Ci hk;exact h6 i hi
theorem ZK(x:Nd)(k:Nat)(hk:k<x.labels.length)(h:¬x.labels[k].toNat<16):BG x=false:=by
 cases hr:BG x with
 | false=>rfl
 | true=>
   have:=((AY x).1 hr).2.2.2.1;exact absurd (V7 this hk) h
theorem Yf(x:Nd)(j:Nat)(hj:j+1<x.labels.length)(h:¬x.labels[j].toNat<x.labels[j+1].toNat):BG x=false:=by
 cases hr:BG x with
 | false=>rfl
 | true=>
   have:=((AY x).1 hr).2.2.2.2.1;exact absurd ((FP _).1 this j hj) h
theorem ZL(x:Nd)(h:¬(x.pre.length<=15/\x.pre.all Df=true)):BG x=false:=by
 cases hr:BG x with
 | false=>rfl
 | true=>exact absurd ⟨((AY x).1 hr).1,((AY x).1 hr).2.1⟩ h
theorem ZM(x:Nd)(h:x.labels.length≠x.kids.length):BG x=false:=by
 cases hr:BG x with
 | false=>rfl
 | true=>exact absurd ((AY x).1 hr).2.2.1 h
theorem kJ(x:Nd)(h1:x.pre.length<=15)(h2:x.pre.all Df=true)(h3:x.labels.length=x.kids.length)(h4:x.labels.all Df=true)(h5:Dp x.labels=true):
 BG x= !(x.kids.any fun y=>y.toNat==0):=by
 rw [Bool.eq_iff_iff,AY];simp only [Bool.not_eq_true',List.any_eq_false,beq_iff_eq];constructor
 ·rintro⟨_,_,_,_,_,h⟩k hk;obtain⟨i,hi,rfl⟩:=Ci hk;exact h i hi
 ·intro h;exact⟨h1,h2,h3,h4,h5,fun i hi=>h _ (BD hi)⟩
def CU(x:Nd):Nat:=if x.kids.length<=4 then 1 else 2
def placeOf{α:Type}(p:α->Bool)(l:List α):Int:=match l.findIdx? p with| some i=>(i:Int)| none=> -1
theorem U9{α:Type}(p:α->Bool)(l:List α)(k:Nat)(hk:k<l.length)(hno:∀j(h:j<k),p (l[j]'(by omega))=false)(hp:p l[k]=true):placeOf p l=(k:Int):=by
 have:l.findIdx? p=some k:=by
  rw [Jv];exact⟨hk,hp,fun j hj=>by simp [hno j hj]⟩
 simp [placeOf,this]
theorem SA{α:Type}(p:α->Bool)(l:List α)(hno:∀j(h:j<l.length),p l[j]=false):placeOf p l= -1:=by
 have:l.findIdx? p=none:=by
  rw [List.findIdx?_eq_none_iff];intro x hx;obtain⟨i,hi,rfl⟩:=Ci hx;exact hno i hi
 simp [placeOf,this]
def ES(l:List UInt8):UInt64:=UInt64.ofNat (l.length+16*Eg l)
def BO:List UInt64->List UInt8->List UInt64->List UInt64
 | row,a::as,k::ks=>BO (row.set (4+a.toNat) k) as ks
 | row,_,_=>row
theorem LW:∀(row:List UInt64)(as:List UInt8)(ks:List UInt64),(BO row as ks).length=row.length
 | row,a::as,k::ks=>by rw [BO,LW];simp
 | row,[],_=>by simp [BO]
 | row,_::_,[]=>by simp [BO]
theorem MQ:∀(row:List UInt64)(as:List UInt8)(ks:List UInt64)(i:Nat)(h1:i<as.length)(h2:i<ks.length),
 BO row (as.take (i+1)) (ks.take (i+1))=(BO row (as.take i) (ks.take i)).set (4+as[i].toNat) ks[i]
 | row,a::as,k::ks,0,_,_=>by simp [BO]
 | row,a::as,k::ks,i+1,h1,h2=>by
   have:=MQ (row.set (4+a.toNat) k) as ks i (by simpa using h1) (by simpa using h2);simpa [BO]using this
 | _,[],_,_,h1,_=>by simp at h1
 | _,_::_,[],_,_,h2=>by simp at h2
def encS(x:Nd):List UInt64:=[UInt64.ofNat (1+256*x.kids.length),ES x.pre,x.val,ES x.labels]++x.kids++Bf (4-x.kids.length) 0
def headB(x:Nd):List UInt64:=[UInt64.ofNat (2+256*x.kids.length),ES x.pre,x.val]++Bf 29 0
def PE(x:Nd):List UInt64:=BO (headB x) x.labels x.kids
def Du(x:Nd):List UInt64:=if x.kids.length<=4 then encS x else PE x
theorem UA(x:Nd)(h:x.kids.length<=4):(encS x).length=8:=by simp [encS];omega
theorem UB(x:Nd):(PE x).length=32:=by simp [PE,LW,headB]
theorem DY(x:Nd):(Du x).length=if x.kids.length<=4 then 8 else 32:=by
 unfold Du;split
 ·rename_i h;exact UA x h
 ·exact UB x
def Hr(u:Nat)(tail:List UInt64):List UInt8×List UInt64:=
 if u/16/16^(u%16)=0/\u%16<=4 then(digits (u%16) (u/16),tail.take (u%16))else([],[])
def Ih:Nat->List UInt64->List UInt8
 | _,[]=>[]
 | i,k::t=>if k.toNat=0 then Ih (i+1) t else UInt8.ofNat i::Ih (i+1) t
def IQ(t:List UInt64):List UInt64:=t.filter fun k=>k.toNat !=0
theorem VT:∀(i:Nat)(t:List UInt64)(x:UInt64),Ih i (t++[x])=Ih i t++(if x.toNat=0 then []else [UInt8.ofNat (i+t.length)])
 | i,[],x=>by simp only [DN,Ih];split<;>simp
 | i,k::t,x=>by
   have:=VT (i+1) t x;simp only [BI,Ih,this,Bh];rw [show i+1+t.length=i+(t.length+1)by omega];split<;>simp
theorem kK(t:List UInt64)(x:UInt64):IQ (t++[x])=IQ t++(if x.toNat=0 then []else [x]):=by
 simp only [IQ,List.filter_append,wZ,List.filter_nil];by_cases h:x.toNat=0<;>simp [h]
theorem MR:∀(i:Nat)(t:List UInt64),(Ih i t).length=(IQ t).length
 | _,[]=>rfl
 | i,k::t=>by
   have:=MR (i+1) t;simp only [Ih,IQ,wZ]at this⊢;by_cases h:k.toNat=0<;>simp [h,this]
theorem VU(t:List UInt64):(IQ t).length<=t.length:=List.length_filter_le _ _
def D7(u:Nat):List UInt8:=if u/16/16^(u%16)=0 then digits (u%16) (u/16)else []
def x9(l:List UInt64):Nd:=
 {pre:=D7 (l.getD 1 0).toNat,val:=l.getD 2 0,labels:=(Hr (l.getD 3 0).toNat (l.drop 4)).1,kids:=(Hr (l.getD 3 0).toNat (l.drop 4)).2}
def kL(l:List UInt64):Nd:=
 {pre:=D7 (l.getD 1 0).toNat,val:=l.getD 2 0,labels:=Ih 0 ((l.drop 4).take 16),kids:=IQ ((l.drop 4).take 16)}
def Ef(l:List UInt64):Nd:=if l.length=8 then x9 l else kL l
def GY(l:List UInt64):Bool:=(decide (l.length=8)|| decide (l.length=32))&&(BG (Ef l)&&decide (Du (Ef l)=l))
theorem YE(u:Nat):(D7 u).length<=15:=by
 unfold D7;split
 ·rw [digits_length];omega
 ·simp
theorem kM(x:Nd)(v:UInt64):BG {x with val:=v}=BG x:=rfl
theorem SB:∀(row row':List UInt64)(as:List UInt8)(ks:List UInt64)(i:Nat),row.length=row'.length->(∀j,j≠2->row[j]? =row'[j]?)->i≠2->(BO row as ks)[i]? =(BO row' as ks)[i]?
 | row,row',a::as,k::ks,i,hl,h,hi=>by
   simp only [BO];refine SB _ _ as ks i (by simp [hl]) (fun j hj=> ?_) hi;rw [EY,EY,h j hj,hl]
 | row,row',[],_,i,_,h,hi=>by simp only [BO];exact h i hi
 | row,row',_::_,[],i,_,h,hi=>by simp only [BO];exact h i hi
theorem UC:∀(row:List UInt64)(as:List UInt8)(ks:List UInt64),(BO row as ks)[2]? =row[2]?
 | row,a::as,k::ks=>by
   simp only [BO];rw [UC,EY];simp;omega
 | row,[],_=>by simp [BO]
 | row,_::_,[]=>by simp [BO]
theorem xA(x:Nd)(v:UInt64)(i:Nat)(hi:i≠2):(Du {x with val:=v})[i]? =(Du x)[i]? :=by
 unfold Du;by_cases h:x.kids.length<=4
 ·simp only [if_pos h,encS];rcases i with _| _| _| i
  ·rfl
  ·rfl
  ·exact absurd rfl hi
  ·simp
 ·simp only [if_neg h,PE];refine SB _ _ _ _ i (by simp [headB]) (fun j hj=> ?_) hi;rcases j with _| _| _| j
  ·rfl
  ·rfl
  ·exact absurd rfl hj
  ·simp [headB]
theorem xB(x:Nd):(Du x)[2]? =some x.val:=by
 unfold Du;split
 ·simp [encS]
 ·rw [PE,UC];simp [headB]
def CP(ws:Nat->UInt64)(j:Nat)(xs:List UInt64)(i:Nat):UInt64:=if j<=i/\i<j+xs.length then xs.getD (i-j) 0 else ws i
def FH(ws:Nat->UInt64)(j:Nat)(x:UInt64)(i:Nat):UInt64:=if i=j then x else ws i
def wordsAt(ws:Nat->UInt64)(j n:Nat):List UInt64:=(Dn n).map fun t=>ws (j+t)
structure St where
 sh:Sh
 ws:Nat->UInt64
 tk:List UInt64
 hd:List UInt64
def Gl(s:St)(i:Nat):Nat:=(s.tk.getD i 0).toNat
def hdN(s:St)(i:Nat):Nat:=(s.hd.getD i 0).toNat
def BJ(s:St)(i:Nat):Nat:=Gl s i||| hdN s i
def Ce(sh:Sh)(i c a:Nat):Nat:=sh.data+1024*i+64*AQ c*a
def J4(s:St)(off:Int):Option (Nat×Nat):=
 if off<(s.sh.data:Int)\/(s.sh.data+1024*s.tk.length:Nat)<=off then none else
 if AQ (AU (BJ s ((off.toNat-s.sh.data)/1024)))=0\/(off.toNat-s.sh.data)%1024%(64*AQ (AU (BJ s ((off.toNat-s.sh.data)/1024))))≠0 then none else
 some ((off.toNat-s.sh.data)/1024,(off.toNat-s.sh.data)%1024/(64*AQ (AU (BJ s ((off.toNat-s.sh.data)/1024)))))
def Dc(s:St)(off:Int):Nat:=
 match J4 s off with
 | none=>0
 | some (i,a)=>if En (Gl s i) a then AU (Gl s i)else 0
def JD(s:St)(k c:Nat):Option Nat:=(Dn s.tk.length).find? fun i=>decide (AU (BJ s i)=k)&&(Ji (BJ s i) c).isSome
def Kq(s:St)(c:Nat):Option Nat:=match JD s c c with| some i=>some i| none=>JD s 0 c
def CJ(s:St)(c:Nat):Option (Nat×St):=
 match Kq s c with
 | none=>none
 | some i=>match Ji (BJ s i) c with
   | none=>none
   | some a=>some (Ce s.sh i c a,{s with hd:=s.hd.set i (UInt64.ofNat (Fh (hdN s i) c a).1)})
def ZN(s:St)(i:Nat)(x:UInt64):St:={s with ws:=FH s.ws (s.sh.table/8+i) x,tk:=s.tk.set i x}
def FX(s:St)(off:Int):St×Int:=
 match J4 s off with
 | none=>(s,7)
 | some (i,a)=>if En (hdN s i) a then
  ({ZN s i (UInt64.ofNat (Fh (Gl s i) (AU (hdN s i)) a).1)with hd:=s.hd.set i (UInt64.ofNat (EL (hdN s i) a).1)},0)
   else(s,7)
def EJ(s:St)(off:Int):St×Int:=
 match J4 s off with
 | none=>(s,7)
 | some (i,a)=>
   if(EL (hdN s i) a).2 then({s with hd:=s.hd.set i (UInt64.ofNat (EL (hdN s i) a).1)},0)
   else if(EL (Gl s i) a).2 then(ZN s i (UInt64.ofNat (EL (Gl s i) a).1),0)
   else(s,7)
def IB(s:St):List Nat:=(Dn s.tk.length).flatMap fun i=>(GX (Gl s i)).map fun a=>Ce s.sh i (AU (Gl s i)) a
def dU(s:St):Nat:=((Dn s.hd.length).map fun i=>(GX (hdN s i)).length).sum
def Ov(sh:Sh):Nat->UInt64:=CP (fun _=>0) 0 (wordsOf sh)
def AX(x:UInt64):Int:=IntKind.i64.wrap (x.toNat:Int)
def Et(s:St)(name:UInt64):Option Nd:=
 if AQ (Dc s (AX name))=0 then none else
 if GY (wordsAt s.ws ((AX name).toNat/8) (8*AQ (Dc s (AX name))))then some (Ef (wordsAt s.ws ((AX name).toNat/8) (8*AQ (Dc s (AX name)))))else none
structure Pl where
 nd:Nd
 off:Int
 label:UInt8
 word:Int
def Jj(l:List UInt8)(x:UInt8):Option Nat:=l.findIdx? fun y=>y.toNat==x.toNat
def Nq(x:Nd)(label:UInt8):Option (UInt64×Nat):=
 match Jj x.labels label with
 | some i=>if BG x then some (x.kids.getD i 0,if x.kids.length<=4 then 4+i else 4+label.toNat)else none
 | none=>none
def DD(s:St):Nat->UInt64->List UInt8->UInt8->Int->List Pl->Option (List Pl×List UInt8)
 | 0,_,rest,_,_,way=>some (way,rest)
 | f+1,name,rest,label,word,way=>
   if name=0 then some (way,rest)else
   match Et s name with
   | none=>none
   | some x=>
     if common x.pre rest<x.pre.length\/common x.pre rest=rest.length then some (way++[⟨x,AX name,label,word⟩],rest)else
     match Nq x (rest.getD (common x.pre rest) 0)with
     | none=>some (way++[⟨x,AX name,label,word⟩],rest)
     | some (kid,number)=>DD s f kid (rest.drop (common x.pre rest+1)) (rest.getD (common x.pre rest) 0) (AX name+8*number) (way++[⟨x,AX name,label,word⟩])
def Fj(s:St)(key:List UInt8):Option (List Pl×List UInt8):=DD s (2*key.length+1) (s.ws 9) (CQ key) 0 72 []
def CB(way:List Pl)(rest:List UInt8):Option Pl:=
 match way.getLast? with
 | none=>none
 | some last=>if last.nd.pre=rest then some last else none
def EZ(s:St)(key:List UInt8):UInt64×Int:=
 if 16<key.length then(0,3)else
 match Fj s key with
 | none=>(0,5)
 | some (way,rest)=>match CB way rest with
   | none=>(0,7)
   | some last=>if last.nd.val=0 then(0,7)else(last.nd.val,0)
structure Jb where
 s:St
 made:List Int
def D5(j:Jb)(n:Nd):Jb×UInt64×Int:=
 if !BG n then(j,0,5)else
 match CJ j.s (CU n)with
 | none=>(j,0,6)
 | some (off,s1)=>
   match FX {s1 with ws:=CP s1.ws (off/8) (Du n)} off with
   | (s2,e)=>if e=0 then(⟨s2,j.made++[(off:Int)]⟩,UInt64.ofNat off,0)else(⟨s2,j.made++[(off:Int)]⟩,0,e)
def NH(l:List UInt8)(x:UInt8):Bool:=l.any fun y=>y.toNat==x.toNat
def Jk(x:Nd)(label:UInt8)(kid:UInt64):Bool:=BG x&&decide (label.toNat<16)&& !(kid.toNat==0)&& !NH x.labels label
def Iu{α:Type}(xs:List α)(i:Nat)(u:α):List α:=xs.take i++u::xs.drop i
def Il{α:Type}(xs:List α)(i:Nat):List α:=xs.take i++xs.drop (i+1)
def EM(l:List UInt8)(x:UInt8):Nat:=l.countP fun y=>decide (y.toNat<x.toNat)
def GG(x:Nd)(label:UInt8)(kid:UInt64):Nd:={pre:=x.pre,val:=x.val,labels:=Iu x.labels (EM x.labels label) label,kids:=Iu x.kids (EM x.labels label) kid}
def Vo(x:Nd)(i:Nat):Nd:={pre:=x.pre,val:=x.val,labels:=Il x.labels i,kids:=Il x.kids i}
def Ey(j:Jb)(n:Nd)(label:UInt8)(kid:UInt64)(e:Int):Jb×UInt64×Int:=
 if e≠0 then(j,0,e)else
 if Jk n label kid then D5 j (GG n label kid)else(j,0,5)
def Ii:Nat->Jb->List UInt8->UInt64->Jb×UInt64×Int
 | 0,j,_,_=>(j,0,5)
 | f+1,j,l,value=>
   if l.length<=15 then D5 j ⟨l,value,[],[]⟩else
   match Ii f j (l.drop 16) value with
   | (j1,kid,e)=>Ey j1 ⟨l.take 15,0,[],[]⟩ (l.getD 15 0) kid e
def GZ(j:Jb)(x:Nd)(rest:List UInt8)(value:UInt64):Jb×UInt64×Int:=
 if common x.pre rest=x.pre.length then
  match Ii (rest.length+1) j (rest.drop (common x.pre rest+1)) value with
  | (j1,kid,e)=>Ey j1 x (rest.getD (common x.pre rest) 0) kid e
 else
  match D5 j {x with pre:=x.pre.drop (common x.pre rest+1)}with
  | (j1,kid,e)=>
    if common x.pre rest=rest.length then Ey j1 ⟨x.pre.take (common x.pre rest),value,[],[]⟩ (x.pre.getD (common x.pre rest) 0) kid e else
    if e≠0 then(j1,0,e)else
    if Jk ⟨x.pre.take (common x.pre rest),0,[],[]⟩ (x.pre.getD (common x.pre rest) 0) kid then
     match Ii (rest.length+1) j1 (rest.drop (common x.pre rest+1)) value with
     | (j2,ZO,e2)=>Ey j2 (GG ⟨x.pre.take (common x.pre rest),0,[],[]⟩ (x.pre.getD (common x.pre rest) 0) kid) (rest.getD (common x.pre rest) 0) ZO e2
    else(j1,0,5)
def KW(s:St)(l:List Int):St:=l.foldl (fun s off=>(EJ s off).1) s
def LX:St->List Int->Int->St×Int
 | s,[],e=>(s,e)
 | s,off::l,e=>LX (EJ s off).1 l (if e=0 then(EJ s off).2 else e)
def Dx(j:Jb)(e:Int)(word:Int)(name:UInt64)(old:List Int):St×Int:=
 if e≠0 then(KW j.s j.made,e)else LX {j.s with ws:=FH j.s.ws (word.toNat/8) name} old 0
def Jl(s:St)(at_:Pl)(n:UInt64):St:={s with ws:=FH s.ws (at_.off.toNat/8+2) n}
def FZ(s:St)(key:List UInt8)(value:UInt64):St×Int:=
 if 16<key.length then(s,3)else if value=0 then(s,2)else
 match Fj s key with
 | none=>(s,5)
 | some (way,rest)=>match CB way rest with
   | some last=>(Jl s last value,0)
   | none=>match way.getLast? with
     | none=>match Ii (rest.length+1) ⟨s,[]⟩ rest value with
       | (j,name,e)=>Dx j e 72 name []
     | some last=>match GZ ⟨s,[]⟩ last.nd rest value with
       | (j,name,e)=>Dx j e last.word name [last.off]
def Ha(way:List Pl):Nat->List Int->Nat×List Int
 | 0,old=>(0,old)
 | a+1,old=>match way[a]?,way[a+1]? with
   | some up,some _=>if up.nd.val=0/\up.nd.kids.length=1 then Ha way a (old++[up.off])else(a+1,old)
   | _,_=>(a+1,old)
def Ox(j:Jb)(way:List Pl):St×Int:=
 match Ha way (way.length-1) [(way.getLast?.map (·.off)).getD 0]with
 | (0,old)=>Dx j 0 72 0 old
 | (a+1,old)=>match way[a]?,way[a+1]? with
   | some up,some at_=>match Jj up.nd.labels at_.label with
     | some i=>if BG up.nd then match D5 j (Vo up.nd i)with
      | (j1,name,e)=>Dx j1 e up.word name (old++[up.off])
       else(j.s,5)
     | none=>(j.s,5)
   | _,_=>(j.s,5)
def LY(s:St)(key:List UInt8):St×UInt64×Int:=
 if 16<key.length then(s,0,3)else
 match Fj s key with
 | none=>(s,0,5)
 | some (way,rest)=>match CB way rest with
   | none=>(s,0,7)
   | some last=>if last.nd.val=0 then(s,0,7)else
     match(if last.nd.kids.length=0 then Ox ⟨s,[]⟩ way else(s,6))with
     | (s1,e)=>if e=6 then(Jl s1 last 0,last.nd.val,0)else if e=0 then(s1,last.nd.val,0)else(s1,0,e)
def CY(s:St):Nat->UInt64->List UInt8->List (List UInt8×UInt64)×List Int->Option (List (List UInt8×UInt64)×List Int)
 | 0,_,_,_=>none
 | f+1,name,ahead,(items,met)=>
   match Et s name with
   | none=>none
   | some n=>
     if met.contains (AX name)\/32<(ahead++n.pre).length then none else
     if n.val≠0/\KE (ahead++n.pre)=false then none else
     (n.labels.zip n.kids).foldlM (fun st(lk:UInt8×UInt64)=>CY s f lk.2 (ahead++n.pre++[lk.1]) st)
      (if n.val≠0 then items++[(pairs (ahead++n.pre),n.val)]else items,met++[AX name])
def ED(s:St):Option (List (List UInt8×UInt64)×List Int):=
 if s.ws 9=0 then some ([],[])else CY s 34 (s.ws 9) [] ([],[])
theorem QT(x:Nat)(h:x<4294967296):Ot x<4294967296:=by
 have h1:x/16<2^32:=by omega
 have h2:JB.getD (x%16) 0<2^32:=by
  have:x%16<16:=Lj _ (by decide);have key:∀k:Fin 16,JB.getD k.val 0<2^32:=by decide
  exact key ⟨x%16,this⟩
 exact TK h1 h2
theorem kN(x c:Nat)(h:x<4294967296)(hc:c<256):Qm x c<4294967296:=by
 unfold Qm;refine QT _ (QT _ ?_);exact TK (n:=32) h (by omega)
def NI(sum:Nat)(l:List UInt8)(k:Nat):Nat:=(l.take k).foldl (fun x c=>Qm x c.toNat) (sum^^^4294967295)
theorem VV(sum:Nat)(l:List UInt8):NI sum l 0=sum^^^4294967295:=by simp [NI]
theorem VW(sum:Nat)(l:List UInt8)(k:Nat)(hk:k<l.length):NI sum l (k+1)=Qm (NI sum l k) l[k].toNat:=by
 unfold NI;rw [C9 hk,List.foldl_append];rfl
theorem rH(sum:Nat)(l:List UInt8):NI sum l l.length^^^4294967295=Ko sum l:=by simp [NI,Ko]
theorem VX(sum:Nat)(l:List UInt8)(hs:sum<4294967296):∀k,k<=l.length->NI sum l k<4294967296
 | 0,_=>by rw [VV];exact TK (n:=32) hs (by decide)
 | k+1,hk=>by
   rw [VW sum l k hk];exact kN _ _ (VX sum l hs k (by omega)) (UInt8.toNat_lt _)
structure Rc where
 stamp:UInt64
 next:UInt64
 gone:Bool
 text:ByteArray
def DK(r:Rc):Bool:= !(r.stamp.toNat==0)&&decide (r.text.size<=40)&&(!r.gone|| decide (r.text.size=0))
def QA:List UInt8->Nat
 | []=>0
 | b::l=>b.toNat+256*QA l
theorem ZP:∀(l:List UInt8),QA l<256^l.length
 | []=>by simp [QA]
 | b::l=>by
   have:=ZP l;have hb:=b.toNat_lt;rw [QA,Bh,Io];omega
theorem YF:∀(l:List UInt8)(b:UInt8),QA (l++[b])=QA l+b.toNat*256^l.length
 | [],b=>by simp [QA]
 | a::l,b=>by
   have:=YF l b;rw [BI,QA,this,QA,Bh,Io,Nat.mul_add];have e:256*(b.toNat*256^l.length)=b.toNat*(256^l.length*256):=by rw [EC 256,L8]
   omega
def J5(l:List UInt8)(k:Nat):UInt64:=UInt64.ofNat (QA ((l.drop (8*k)).take 8))
def textW(l:List UInt8):List UInt64:=(Dn 5).map (J5 l)
theorem SC(l:List UInt8):(textW l).length=5:=by simp [textW]
theorem Qn(l:List UInt8)(k:Nat):(J5 l k).toNat=QA ((l.drop (8*k)).take 8):=by
 unfold J5
 have:=ZP ((l.drop (8*k)).take 8)
 have h2:256^((l.drop (8*k)).take 8).length<=256^8:=DF (by decide) (by simp;omega)
 rw [UInt64.toNat_ofNat']
 exact Ep (by have:(256:Nat)^8=2^64:=by decide
              omega)
theorem VY(l:List UInt8)(i:Nat)(hi:i<l.length):(J5 (l.take (i+1)) (i/8)).toNat=(J5 (l.take i) (i/8)).toNat+l[i].toNat*256^(i%8):=by
 rw [Qn,Qn];have e:((l.take (i+1)).drop (8*(i/8))).take 8=((l.take i).drop (8*(i/8))).take 8++[l[i]]:=by
  have h1:((l.take i).drop (8*(i/8))).length<=8:=by simp;omega
  have h2:((l.take i).drop (8*(i/8))++[l[i]]).length<=8:=by simp;omega
  rw [C9 hi,List.drop_append_of_le_length (by simp;omega),DV h2,DV h1]
 have h2:(((l.take i).drop (8*(i/8))).take 8).length=i%8:=by simp;omega
 rw [e,YF,h2]
theorem dV(l:List UInt8)(i k:Nat)(hk:k≠i/8):J5 (l.take (i+1)) k=J5 (l.take i) k:=by
 unfold J5;congr 2;rw [Aa1,Aa1,Yc,Yc];by_cases h:k<i/8
 ·rw [show min 8 (i+1-8*k)=8 by omega,show min 8 (i-8*k)=8 by omega]
 ·rw [show min 8 (i+1-8*k)=0 by omega,show min 8 (i-8*k)=0 by omega]
theorem kP(l:List UInt8)(i:Nat):(J5 (l.take i) (i/8)).toNat<256^(i%8):=by
 rw [Qn];have:=ZP (((l.take i).drop (8*(i/8))).take 8);exact Bg this (DF (by decide) (by simp;omega))
theorem kQ(l:List UInt8)(i:Nat)(hi:i<l.length)(x:UInt64)(hx:x.toNat=(J5 (l.take i) (i/8)).toNat+l[i].toNat*256^(i%8)):(textW (l.take i)).set (i/8) x=textW (l.take (i+1)):=by
 have hx':x=J5 (l.take (i+1)) (i/8):=UInt64.toNat_inj.1 (by rw [hx,VY l i hi]);apply DX
 ·simp [textW]
 ·intro k h1 h2;rw [Je];simp only [textW,P5,TS];by_cases hk:i/8=k
  ·rw [if_pos hk,hx',hk]
  ·rw [if_neg hk,dV l i k (fun e=>hk e.symm)]
theorem VZ:textW []=[0,0,0,0,0]:=by decide
def Gp(n:Nat)(g:Bool):Nat:=3+65536*n+(if g then 256 else 0)
def Dl(r:Rc):List UInt64:=[UInt64.ofNat (Gp r.text.size r.gone),r.stamp,r.next]++textW r.text.data.toList
theorem Gq(r:Rc):(Dl r).length=8:=by simp [Dl,SC]
def QU(l:List UInt64):Rc:=
 {stamp:=l.getD 1 0,next:=l.getD 2 0,gone:=decide ((l.getD 0 0).toNat/256%2=1),text:=⟨((leBytes (l.drop 3)).take ((l.getD 0 0).toNat/65536)).toArray⟩}
def LZ(l:List UInt64):Option Rc:=
 if l.length=8/\(l.getD 0 0).toNat/65536<=40 then
  if DK (QU l)=true/\Dl (QU l)=l then some (QU l)else none
 else none
theorem dW:∀(l:List UInt8)(i:Nat)(hi:i<l.length),QA l/256^i%256=l[i].toNat
 | b::l,0,_=>by
   have:=b.toNat_lt;simp [QA]
 | b::l,i+1,hi=>by
   have hb:=b.toNat_lt;have:=dW l i (by simpa using hi);rw [QA,Io,EC (256^i) 256,<-jO,show(b.toNat+256*QA l)/256=QA l by omega,this];rfl
theorem rJ(l:List UInt8)(i:Nat)(hi:i<l.length):leB (J5 l (i/8)) (i%8)=l[i]:=by
 apply UInt8.toNat_inj.1;rw [TV,Qn,dW _ _ (by simp;omega)];simp only [wG,List.getElem_drop];congr 2;omega
theorem IU(r:Rc):DK r=true<->r.stamp.toNat≠0/\r.text.size<=40/\(r.gone=true->r.text.size=0):=by
 simp only [DK,Bool.and_eq_true,decide_eq_true_eq,Bool.not_eq_true',beq_eq_false_iff_ne,Bool.or_eq_true,and_assoc];cases r.gone<;>simp
theorem rM{n:Nat}(h:n<=40)(g:Bool):Gp n g<18446744073709551616:=by
 unfold Gp;split<;>omega
theorem Oy{n:Nat}(h:n<=40)(g:Bool):(UInt64.ofNat (Gp n g)).toNat=Gp n g:=by
 rw [UInt64.toNat_ofNat'];exact Ep (rM h g)
theorem QV(r:Rc)(h:DK r=true):QU (Dl r)=r:=by
 obtain⟨h1,h2,h3⟩:=(IU r).1 h;have e0:((Dl r).getD 0 0).toNat=Gp r.text.size r.gone:=by
  simp only [Dl,BI,oV];exact Oy h2 _
 have e1:Gp r.text.size r.gone/65536=r.text.size:=by unfold Gp;split<;>omega
 have e2:Gp r.text.size r.gone/256%2=if r.gone then 1 else 0:=by unfold Gp;split<;>omega
 have e3:(Dl r).drop 3=textW r.text.data.toList:=rfl;have hsz:r.text.size=r.text.data.toList.length:=rfl;unfold QU;rw [e0,e1,e2,e3];have et:(leBytes (textW r.text.data.toList)).take r.text.size=r.text.data.toList:=by
  apply Hy;intro i;rw [CG];by_cases hi:i<r.text.size
  ·rw [if_pos hi];have:=Hq (textW r.text.data.toList) (i/8) (i%8) (by rw [SC];omega) (by omega);rw [show 8*(i/8)+i%8=i by omega]at this;rw [this];simp only [textW,P5,TS];rw [rJ _ _ (by omega),Af (by omega)]
  ·rw [if_neg hi,EH (by omega)]
 rw [et];have eg:decide ((if r.gone=true then 1 else 0)=1)=r.gone:=by cases r.gone<;>rfl
 rw [eg];cases r with
 | mk a b c d=>simp only [Rc.mk.injEq];exact⟨rfl,rfl,trivial,trivial⟩
theorem rO(r:Rc)(h:DK r=true):LZ (Dl r)=some r:=by
 obtain⟨h1,h2,h3⟩:=(IU r).1 h;have e0:((Dl r).getD 0 0).toNat=Gp r.text.size r.gone:=by
  simp only [Dl,BI,oV];exact Oy h2 _
 have e1:Gp r.text.size r.gone/65536=r.text.size:=by unfold Gp;split<;>omega
 unfold LZ;rw [if_pos ⟨Gq r,by rw [e0,e1];exact h2⟩,QV r h,if_pos ⟨h,rfl⟩]
structure Lk where
 off:Int
 rc:Rc
def DZ(l:List Lk):Nat:=match l.getLast? with| none=>18446744073709551616| some k=>k.rc.stamp.toNat
def QW(s:St):Nat->UInt64->List Lk->Option (List Lk)
 | 0,_,_=>none
 | f+1,at_,acc=>
   if at_.toNat=0 then some acc else
   if Dc s (AX at_)≠1 then none else
   match LZ (wordsAt s.ws ((AX at_).toNat/8) 8)with
   | none=>none
   | some r=>if DZ acc<=r.stamp.toNat then none else QW s f r.next (acc++[⟨AX at_,r⟩])
def QG(s:St)(first:UInt64):Option (List Lk):=QW s 18446744073709551618 first []
def FQ(s:St)(r:Rc):St×UInt64×Int:=
 if DK r=false then(s,0,2)else
 match CJ s 1 with
 | none=>(s,0,6)
 | some (off,s1)=>
   match FX {s1 with ws:=CP s1.ws (off/8) (Dl r)} off with
   | (s2,e)=>if e=0 then(s2,UInt64.ofNat off,0)else((EJ s2 off).1,0,e)
theorem KF(n low size v i:Nat)(h:low+size<=64)(hn:n<2^64):(DI n low size v).testBit i=if low<=i/\i<low+size then v.testBit (i-low)else n.testBit i:=by
 have hM:∀j,((2^size-1)*2^low).testBit j=(decide (low<=j)&&decide (j-low<size)):=fun j=>by
  rw [EC,dJ,Yd]
 have Aj8:(2^size-1)*2^low<2^64:=by
  refine ZB _ fun j hj=> ?_
  rw [hM j];simp;omega
 have hN:(ZI- (2^size-1)*2^low).testBit i=(decide (i<64)&& !((2^size-1)*2^low).testBit i):=by
  rw [<-Nat.testBit_two_pow_sub_succ Aj8];unfold ZI;congr 1;omega
 have hV:((v&&&(2^size-1))*2^low).testBit i=(decide (low<=i)&&(v.testBit (i-low)&&decide (i-low<size))):=by
  rw [EC,dJ,Aa2,Yd]
 have hi64:n.testBit i=true->i<64:=fun ht=>by
  rcases I8 i 64 with h'| h'
  ·exact h'
  ·rw [jP (Bg hn (DF (by decide) h'))]at ht;cases ht
 unfold DI;rw [Jz,Aa2,hN,hV,hM];by_cases h1:low<=i
 ·by_cases h2:i<low+size
  ·have h3:i-low<size:=by omega
   have h4:i<64:=by omega
   simp [h1,h2,h3]
  ·have h3:¬i-low<size:=by omega
   simp only [h1,h2,h3,decide_true,decide_false,Bool.and_false,Bool.not_false,Bool.and_true,Bool.or_false,and_false,if_false];cases hb:n.testBit i
   ·rfl
   ·simp [hi64 hb]
 ·simp only [h1,decide_false,Bool.false_and,Bool.not_false,Bool.and_true,Bool.or_false,false_and,if_false];cases hb:n.testBit i
  ·rfl
  ·simp [hi64 hb]
theorem Mc(n low size v:Nat)(h:low+size<=64)(hn:n<2^64):DI n low size v<2^64:=by
 refine ZB _ fun i hi=> ?_
 rw [KF n low size v i h hn,if_neg (by omega)];exact jP (Bg hn (DF (by decide) hi))
theorem LC(n low size i:Nat):(fieldN n low size).testBit i=(decide (i<size)&&n.testBit (low+i)):=by
 unfold fieldN;rw [Nat.testBit_mod_two_pow,Nat.testBit_div_two_pow,Nat.add_comm]
theorem xC(n a:Nat):(fieldN n a 1==1)=n.testBit a:=by
 have h:=LC n a 1 0;simp only [Nat.zero_lt_one,decide_true,Bool.true_and,Nat.add_zero]at h;rw [<-h];have h2:fieldN n a 1<2:=Lj _ (by decide);have h3:fieldN n a 1=0\/fieldN n a 1=1:=by omega
 rcases h3 with h3| h3<;>rw [h3]<;>rfl
theorem QX(n size:Nat):fieldN n 0 size=0<->∀i,i<size->n.testBit i=false:=by
 constructor
 ·intro h i hi;have:=LC n 0 size i;rw [h,Ip,CS]at this;simpa [hi]using this.symm
 ·intro h;refine oW fun i=> ?_
  rw [LC,Ip,CS];by_cases hi:i<size
  ·simp [h i hi]
  ·simp [hi]
structure SW(w c:Nat):Prop where
 lt:w<2^64
 cls:c=1\/c=2
 kind:Dq w=c
 some:∃i,i<Ba c/\w.testBit i=true
 only:∀i,w.testBit i=true->i<Ba c\/i=16\/i=17
theorem NJ(w:Nat):Dq w=(if w.testBit 16 then 1 else 0)+(if w.testBit 17 then 2 else 0):=by
 have h0:(fieldN w 16 2).testBit 0=w.testBit 16:=(LC w 16 2 0).trans (by rfl);have h1:(fieldN w 16 2).testBit 1=w.testBit 17:=(LC w 16 2 1).trans (by rfl);have hlt:fieldN w 16 2<4:=Lj _ (by decide);unfold Dq;rw [<-h0,<-h1];generalize fieldN w 16 2=f at hlt;have hf:f=0\/f=1\/f=2\/f=3:=by omega
 rcases hf with rfl| rfl| rfl| rfl<;>decide
theorem YG(w:Nat)(hw:w<2^64):FK w=true<->w=0\/∃c,SW w c:=by
 unfold FK;simp only [Bool.or_eq_true,beq_iff_eq,Bool.and_eq_true,bne_iff_ne];by_cases h0:w=0
 ·simp [h0]
 ·simp only [h0,false_or];have hb:Ba (Dq w)<=16:=by
   unfold Ba;split<;>omega
  have hz:DI (DI w 0 (Ba (Dq w)) 0) 16 2 0=0<->∀i,w.testBit i=true->i<Ba (Dq w)\/i=16\/i=17:=by
   constructor
   ·intro h i hi;have h2:=KF (DI w 0 (Ba (Dq w)) 0) 16 2 0 i (by decide) (Mc _ _ _ _ (by omega) hw);rw [h,Ip,KF w 0 _ 0 i (by omega) hw]at h2;by_cases h3:16<=i/\i<16+2
    ·omega
    ·rw [if_neg h3]at h2;by_cases h4:0<=i/\i<0+Ba (Dq w)
     ·omega
     ·rw [if_neg h4,hi]at h2;cases h2
   ·intro h;refine oW fun i=> ?_
    rw [KF _ 16 2 0 i (by decide) (Mc _ _ _ _ (by omega) hw),KF w 0 _ 0 i (by omega) hw];simp only [Ip];split
    ·rfl
    ·split
     ·rfl
     ·cases hb:w.testBit i
      ·rfl
      ·have:=h i hb;omega
  have hf:fieldN w 0 (Ba (Dq w))≠0<->∃i,i<Ba (Dq w)/\w.testBit i=true:=by
   rw [ne_eq,QX];constructor
   ·intro h;apply Classical.byContradiction;intro hn;refine h fun i hi=> ?_
    cases hb:w.testBit i
    ·rfl
    ·exact absurd ⟨i,hi,hb⟩ hn
   ·rintro⟨i,hi,hb⟩h;rw [h i hi]at hb;cases hb
  rw [hz,hf];constructor
  ·rintro⟨⟨i,hi,hb⟩,h2⟩;refine⟨Dq w,hw,?_,rfl,⟨i,hi,hb⟩,h2⟩;unfold Ba at hi;split at hi
   ·rename_i e;exact .inl e
   ·rename_i e;exact .inr e
   ·omega
  ·rintro⟨c,h⟩;obtain rfl:=h.kind;exact⟨h.some,h.only⟩
theorem SW.right{w c:Nat}(h:SW w c):FK w=true:=(YG w h.lt).2 (.inr ⟨c,h⟩)
theorem SW.class{w c:Nat}(h:SW w c):AU w=c:=by unfold AU;rw [if_pos h.right,h.kind]
theorem SW.ne{w c:Nat}(h:SW w c):w≠0:=by
 obtain⟨i,_,hb⟩:=h.some;intro e;rw [e,Ip]at hb;cases hb
theorem kR:AU 0=0:=by decide
theorem SW.has{w c:Nat}(h:SW w c)(a:Nat):En w a=(decide (a<Ba c)&&w.testBit a):=by unfold En;rw [h.class,xC]
theorem Fp(a:Nat):En 0 a=false:=by unfold En;rw [kR];simp [Ba]
theorem SW.blocks{w c:Nat}(h:SW w c):0<Ba c/\Ba c<=16:=by
 rcases h.cls with rfl| rfl<;>decide
theorem SW.bits{w c:Nat}(h:SW w c):w.testBit 16=c.testBit 0/\w.testBit 17=c.testBit 1:=by
 have hk:=h.kind;rw [NJ]at hk;rcases h.cls with rfl| rfl<;>cases h6:w.testBit 16<;>cases h7:w.testBit 17<;>simp [h6,h7]at hk⊢<;>decide
def OkW(w:Nat):Prop:=w=0\/∃c,SW w c
theorem OkW.lt{w:Nat}(h:OkW w):w<2^64:=by
 rcases h with rfl| ⟨c,h⟩
 ·decide
 ·exact h.lt
theorem OkW.right{w:Nat}(h:OkW w):FK w=true:=(YG w h.lt).2 h
theorem OkW.PG{w a:Nat}(h:OkW w)(ha:En w a=true):∃c,SW w c/\a<Ba c/\w.testBit a=true:=by
 rcases h with rfl| ⟨c,h⟩
 ·rw [Fp]at ha;cases ha
 ·rw [h.has a,Bool.and_eq_true,decide_eq_true_eq]at ha;exact⟨c,h,ha.1,ha.2⟩
theorem YH{w c a:Nat}(h:OkW w)(hc:c=1\/c=2)(hm:w=0\/SW w c)(ha:a<Ba c)(hn:En w a=false):
 (Fh w c a).2=true/\SW (Fh w c a).1 c/\∀b,En (Fh w c a).1 b=(En w b|| decide (b=a)):=by
 have hb16:0<Ba c/\Ba c<=16:=by rcases hc with rfl| rfl<;>decide
 have hmt:JC w c=true:=by
  unfold JC;rw [h.right];simp only [Bool.true_and,Bool.and_eq_true,decide_eq_true_eq,Bool.or_eq_true,beq_iff_eq];exact⟨hb16.1,hm.imp id (fun h=>h.kind)⟩
 have he:Fh w c a=(DI (DI w a 1 1) 16 2 c,true):=by
  unfold Fh;rw [hmt,hn,decide_eq_false (by omega:¬Ba c<=a)];rfl
 have hw:=h.lt;have hx:DI w a 1 1<2^64:=Mc _ _ _ _ (by omega) hw;have hbit:∀i,(DI (DI w a 1 1) 16 2 c).testBit i=if i=16 then c.testBit 0 else if i=17 then c.testBit 1 else if i=a then true else w.testBit i:=fun i=>by
  rw [KF _ 16 2 c i (by decide) hx,KF w a 1 1 i (by omega) hw];by_cases h6:i=16
  ·subst h6;simp
  ·by_cases h7:i=17
   ·subst h7;simp
   ·rw [if_neg (by omega),if_neg h6,if_neg h7];by_cases h8:i=a
    ·subst h8;rw [if_pos (by omega),if_pos rfl];simp
    ·rw [if_neg (by omega),if_neg h8]
 have hS:SW (DI (DI w a 1 1) 16 2 c) c:=by
  refine⟨Mc _ _ _ _ (by decide) hx,hc,?_,⟨a,ha,?_⟩,fun i hi=> ?_⟩
  ·have b6:=hbit 16;have b7:=hbit 17;rw [if_pos rfl]at b6;rw [if_neg (by decide),if_pos rfl]at b7;rw [NJ,b6,b7];rcases hc with rfl| rfl<;>decide
  ·rw [hbit,if_neg (by omega),if_neg (by omega),if_pos rfl]
  ·rw [hbit]at hi;by_cases h6:i=16
   ·omega
   ·by_cases h7:i=17
    ·omega
    ·rw [if_neg h6,if_neg h7]at hi;by_cases h8:i=a
     ·omega
     ·rw [if_neg h8]at hi;rcases hm with rfl| hm
      ·rw [Ip]at hi;cases hi
      ·exact hm.only i hi
 rw [he];refine⟨rfl,hS,fun b=> ?_⟩;rw [hS.has];rw [hbit];by_cases hb:b<Ba c
 ·rw [if_neg (by omega),if_neg (by omega)];by_cases h8:b=a
  ·subst h8;simp [hb]
  ·rw [if_neg h8];rcases hm with rfl| hm
   ·rw [Fp];simp [h8]
   ·rw [hm.has];simp [h8]
 ·have h8:b≠a:=by omega
  rcases hm with rfl| hm
  ·rw [Fp];simp [hb,h8]
  ·rw [hm.has];simp [hb,h8]
theorem YI{w a:Nat}(h:OkW w)(ha:En w a=true):
 (EL w a).2=true/\OkW (EL w a).1/\(∀b,En (EL w a).1 b=(En w b&& !decide (b=a)))/\(AU (EL w a).1=AU w\/(EL w a).1=0):=by
 obtain⟨c,hS,hac,hbit⟩:=h.PG ha;have hb16:=hS.blocks;have hw:=hS.lt;have hx:DI w a 1 0<2^64:=Mc _ _ _ _ (by omega) hw;have hbit:∀i,(DI w a 1 0).testBit i=if i=a then false else w.testBit i:=fun i=>by
  rw [KF w a 1 0 i (by omega) hw];by_cases h8:i=a
  ·subst h8;rw [if_pos (by omega),if_pos rfl];simp
  ·rw [if_neg (by omega),if_neg h8]
 unfold EL;rw [ha];simp only [Bool.not_true,Bool.false_eq_true,if_false];by_cases ht:IA (DI w a 1 0)=0
 ·rw [if_pos ht];refine⟨rfl,.inl rfl,fun b=> ?_,.inr rfl⟩;rw [Fp,hS.has];unfold IA at ht;rw [QX]at ht;by_cases hb:b<Ba c
  ·have:=ht b (by omega);rw [hbit]at this;by_cases h8:b=a
   ·simp [h8]
   ·rw [if_neg h8]at this;simp [this]
  ·simp [hb]
 ·rw [if_neg ht];have hS2:SW (DI w a 1 0) c:=by
   refine⟨hx,hS.cls,?_,?_,fun i hi=> ?_⟩
   ·have b6:(DI w a 1 0).testBit 16=w.testBit 16:=by rw [hbit,if_neg (by omega)]
    have b7:(DI w a 1 0).testBit 17=w.testBit 17:=by rw [hbit,if_neg (by omega)]
    rw [NJ,b6,b7,<-NJ,hS.kind]
   ·unfold IA at ht;rw [QX]at ht;apply Classical.byContradiction;intro hn;refine ht fun i hi=> ?_
    cases hb:(DI w a 1 0).testBit i
    ·rfl
    ·refine absurd ⟨i,?_,hb⟩ hn;rw [hbit]at hb;by_cases h8:i=a
     ·rw [if_pos h8]at hb;cases hb
     ·rw [if_neg h8]at hb;have:=hS.only i hb;omega
   ·rw [hbit]at hi;by_cases h8:i=a
    ·rw [if_pos h8]at hi;cases hi
    ·rw [if_neg h8]at hi;exact hS.only i hi
  refine⟨rfl,.inr ⟨c,hS2⟩,fun b=> ?_,.inl (by rw [hS2.class,hS.class])⟩;rw [hS2.has,hS.has,hbit];by_cases h8:b=a
  ·simp [h8]
  ·simp [h8]
theorem rP {t h : Nat} (ht : OkW t) (hh : OkW h) (hc : t = 0 \/ h = 0 \/ AU t = AU h) : OkW (t ||| h) /\ (∀ a, En (t ||| h) a = (En t a || En h a)) /\ (t ≠ 0 -> AU (t ||| h) = AU t) /\ (h ≠ 0 -> AU (t ||| h) = AU h) := by
  rcases ht with rfl | ⟨c, ht⟩
  · rw [Nat.zero_or]
    exact ⟨hh, fun a => by rw [Fp]; rfl, fun h => absurd rfl h, fun _ => rfl⟩
  · rcases hh with rfl | ⟨d, hh⟩
    · rw [Nat.or_zero]
      exact ⟨.inr ⟨c, ht⟩, fun a => by rw [Fp, Bool.or_false], fun _ => rfl, fun h => absurd rfl h⟩
    · have e : c = d := by
        rcases hc with h | h | h
        · exact absurd h ht.ne
        · exact absurd h hh.ne
        · rw [ht.class, hh.class] at h; exact h
      subst e
      have hS : SW (t ||| h) c := by
        refine ⟨Nat.or_lt_two_pow ht.lt hh.lt, ht.cls, ?_, ?_, fun i hi => ?_⟩
        · have h1 := ht.bits
          have h2 := hh.bits
          rw [NJ, Jz, Jz, h1.1, h1.2, h2.1, h2.2]
          rcases ht.cls with rfl | rfl <;> decide
        · obtain ⟨i, hi, hb⟩ := ht.some
          exact ⟨i, hi, by rw [Jz, hb]; rfl⟩
        · rw [Jz, Bool.or_eq_true] at hi
          exact hi.elim (ht.only i) (hh.only i)
      refine ⟨.inr ⟨c, hS⟩, fun a => ?_, fun _ => by rw [hS.class, ht.class], fun _ => by rw [hS.class, hh.class]⟩
      rw [hS.has, ht.has, hh.has, Jz]
      cases decide (a < Ba c) <;> simp
theorem We(l:List UInt8)(h15:l.length<=15)(h:l.all Df=true):D7 (ES l).toNat=l:=by
 obtain⟨u1,u2,u3,u4,u5⟩:=unpack_pack l h15 h;rw [ES,UInt64.toNat_ofNat_of_lt' (by simpa [UInt64.size]using u5),D7,u1,u2,if_pos u3,u4]
def look:List UInt8->List UInt64->Nat->UInt64
 | a::as,k::ks,j=>if a.toNat=j then k else look as ks j
 | _,_,_=>0
theorem TY:∀(as:List UInt8)(ks:List UInt64)(j:Nat),(∀a∈as,a.toNat≠j)->look as ks j=0
 | a::as,k::ks,j,h=>by rw [look,if_neg (h a (by simp)),TY as ks j (fun b hb=>h b (by simp [hb]))]
 | [],_,_,_=>rfl
 | _::_,[],_,_=>rfl
theorem IV{a:UInt8}{as:List UInt8}(h:Dp (a::as)=true):Dp as=true/\∀b∈as,a.toNat<b.toNat:=by
 induction as generalizing a with
 | nil=>exact⟨rfl,by simp⟩
 | cons b as ih=>
   simp only [Dp,Bool.and_eq_true,decide_eq_true_eq]at h;obtain⟨h1,h2⟩:=ih h.2;refine⟨h.2,fun c hc=> ?_⟩;rcases List.mem_cons.1 hc with rfl| hc
   ·exact h.1
   ·exact Agk h.1 (h2 c hc)
theorem Oz : ∀ (as : List UInt8) (ks : List UInt64) (row : List UInt64) (j : Nat), as.length = ks.length -> Dp as = true -> 4 + j < row.length ->
    (BO row as ks)[4 + j]? = if j ∈ as.map UInt8.toNat then some (look as ks j) else row[4 + j]?
  | [], ks, row, j, _, _, _ => by simp [BO]
  | a :: as, [], row, j, hl, _, _ => by simp at hl
  | a :: as, k :: ks, row, j, hl, hr, hj => by
    obtain ⟨h1, h2⟩ := IV hr
    rw [BO, Oz as ks (row.set (4 + a.toNat) k) j (by simpa using hl) h1 (by simpa using hj)]
    by_cases hm : j ∈ as.map UInt8.toNat
    · have hne : a.toNat ≠ j := by
        obtain ⟨b, hb, rfl⟩ := List.mem_map.1 hm
        exact Nat.ne_of_lt (h2 b hb)
      rw [if_pos hm, if_pos (by simp only [Bo, La]; exact .inr hm), look, if_neg hne]
    · rw [if_neg hm]
      by_cases he : a.toNat = j
      · rw [if_pos (by simp [he]), look, if_pos he, EY, if_pos (by omega), if_pos (by omega)]
      · rw [if_neg (by simp only [Bo, La, not_or]; exact ⟨fun e => he e.symm, hm⟩), EY, if_neg (by omega)]
theorem PH:∀(as:List UInt8)(ks:List UInt64)(row:List UInt64)(i:Nat),i<4->(BO row as ks)[i]? =row[i]?
 | [],_,row,i,_=>by simp [BO]
 | _::_,[],row,i,_=>by simp [BO]
 | a::as,k::ks,row,i,hi=>by rw [BO,PH as ks _ i hi,EY,if_neg (by omega)]
theorem O0:∀(n i:Nat)(as:List UInt8)(ks:List UInt64)(t:List UInt64),t.length=n->as.length=ks.length->Dp as=true->(∀a∈as,i<=a.toNat/\a.toNat<i+n)->i+n<=256->(∀k∈ks,k.toNat≠0)->
 (∀j,j<n->t[j]? =some (look as ks (i+j)))->Ih i t=as/\IQ t=ks
 | 0,i,as,ks,t,ht,hl,_,hb,_,_,_=>by
   have h1:t=[]:=Bj ht;have h2:as=[]:=by
    rcases as with _| ⟨a,as⟩
    ·rfl
    ·have:=hb a (by simp);omega
   subst h1 h2;have h3:ks=[]:=Bj (by simpa using hl.symm);subst h3;exact⟨rfl,rfl⟩
 | n+1,i,as,ks,[],ht,_,_,_,_,_,_=>by simp at ht
 | n+1,i,as,ks,x::t,ht,hl,hr,hb,hi,hk,hlk=>by
   have hx:x=look as ks i:=by have:=hlk 0 (by omega);simpa using this
   rcases as with _| ⟨a,as⟩
   ·have h3:ks=[]:=Bj (by simpa using hl.symm);subst h3;have hx0:x.toNat=0:=by rw [hx];rfl
    have ih:=O0 n (i+1) [] [] t (by simpa using ht) rfl rfl (by simp) (by omega) (by simp) (fun j hj=>by
     have:=hlk (j+1) (by omega);rw [show i+1+j=i+(j+1)by omega];simpa using this)
    simp only [Ih,if_pos hx0,ih.1];refine⟨trivial,?_⟩;have h2:=ih.2;unfold IQ at h2⊢;simp [hx0,h2]
   ·rcases ks with _| ⟨k,ks⟩
    ·simp at hl
    ·obtain⟨h1,h2⟩:=IV hr;by_cases he:a.toNat=i
     ·have hxk:x=k:=by rw [hx,look,if_pos he]
      subst hxk;have hx0:x.toNat≠0:=hk x (by simp);have ih:=O0 n (i+1) as ks t (by simpa using ht) (by simpa using hl) h1 (fun b hb'=>by have:=h2 b hb';have:=hb b (by simp [hb']);omega) (by omega) (fun k' hk'=>hk k' (by simp [hk'])) (fun j hj=>by
       have:=hlk (j+1) (by omega);rw [look,if_neg (by omega)]at this;rw [show i+1+j=i+(j+1)by omega];simpa using this)
      have ea:UInt8.ofNat i=a:=by apply UInt8.toNat_inj.1;rw [<-he];simp
      simp only [Ih,if_neg hx0,ih.1,ea];refine⟨trivial,?_⟩;have h2:=ih.2;unfold IQ at h2⊢;simp [hx0,h2]
     ·have hai:i+1<=a.toNat:=by have:=hb a (by simp);omega
      have hx0:x.toNat=0:=by
       rw [hx,look,if_neg he,TY as ks i (fun b hb'=>by have:=h2 b hb';omega)];rfl
      have ih:=O0 n (i+1) (a::as) (k::ks) t (by simpa using ht) hl hr (fun b hb'=>by
       rcases List.mem_cons.1 hb' with rfl| Agn
       ·have:=hb b (by simp);omega
       ·have:=h2 b Agn;have:=hb b (by simp [Agn]);omega) (by omega) hk (fun j hj=>by
       have:=hlk (j+1) (by omega);rw [show i+1+j=i+(j+1)by omega];simpa using this)
      simp only [Ih,if_pos hx0,ih.1];refine⟨trivial,?_⟩;have h2:=ih.2;unfold IQ at h2⊢;simp [hx0,h2]
theorem Nd.ext'{x y:Nd}(h1:x.pre=y.pre)(h2:x.val=y.val)(h3:x.labels=y.labels)(h4:x.kids=y.kids):x=y:=by
 cases x;cases y;simp_all
theorem dX(x:Nd)(h:BG x=true):Ef (Du x)=x:=by
 obtain⟨h1,h2,h3,h4,h5,h6⟩:=(AY x).1 h;by_cases hs:x.kids.length<=4
 ·have hl:=UA x hs;rw [Du,if_pos hs,Ef,if_pos hl];obtain⟨u1,u2,u3,u4,u5⟩:=unpack_pack x.labels (by omega) h4;have e3:(ES x.labels).toNat=x.labels.length+16*Eg x.labels:=by rw [ES,UInt64.toNat_ofNat_of_lt' (by simpa [UInt64.size]using u5)]
  have hd:(encS x).drop 4=x.kids++Bf (4-x.kids.length) 0:=by simp [encS]
  have hc:Hr (ES x.labels).toNat ((encS x).drop 4)=(x.labels,x.kids):=by
   rw [hd,Hr,e3,u1,u2,if_pos ⟨u3,by omega⟩,u4,h3,List.take_left' rfl]
  apply Nd.ext'
  ·show D7 ((encS x).getD 1 0).toNat=x.pre;rw [show(encS x).getD 1 0=ES x.pre by simp [encS],We x.pre h1 h2]
  ·show(encS x).getD 2 0=x.val;simp [encS]
  ·show(Hr ((encS x).getD 3 0).toNat ((encS x).drop 4)).1=x.labels;rw [show(encS x).getD 3 0=ES x.labels by simp [encS],hc]
  ·show(Hr ((encS x).getD 3 0).toNat ((encS x).drop 4)).2=x.kids;rw [show(encS x).getD 3 0=ES x.labels by simp [encS],hc]
 ·have hl:=UB x;rw [Du,if_neg hs,Ef,if_neg (by omega)];have g1:(PE x)[1]? =some (ES x.pre):=by rw [PE,PH _ _ _ 1 (by decide)];simp [headB]
  have g2:(PE x)[2]? =some x.val:=by rw [PE,PH _ _ _ 2 (by decide)];simp [headB]
  have ht:(((PE x).drop 4).take 16).length=16:=by simp [hl]
  have Ago:=O0 16 0 x.labels x.kids (((PE x).drop 4).take 16) ht h3 h5 (fun a ha=>by
   rw [Gh]at h4;have:=h4 a ha;simp only [Df,decide_eq_true_eq]at this;omega) (by decide) (fun k hk=>by
   obtain⟨i,hi,rfl⟩:=Ci hk;exact h6 i hi) (fun j hj=>by
   rw [CG,if_pos hj,Cf,PE,Oz _ _ _ j h3 h5 (by simp [headB];omega),CS];by_cases hm:j∈x.labels.map UInt8.toNat
   ·rw [if_pos hm]
   ·rw [if_neg hm,TY _ _ _ (fun a ha e=>hm (List.mem_map.2 ⟨a,ha,e⟩))];rw [headB,BX (by simp only [Bh,D8];omega),List.getElem?_replicate,if_pos (by simp only [Bh,D8];omega)])
  apply Nd.ext'
  ·show D7 ((PE x).getD 1 0).toNat=x.pre;rw [RV,g1];exact We x.pre h1 h2
  ·show(PE x).getD 2 0=x.val;rw [RV,g2];rfl
  ·exact Ago.1
  ·exact Ago.2
theorem rQ(x:Nd)(h:BG x=true):GY (Du x)=true:=by
 have hl:=DY x;have hc:=dX x h;have h32:(Du x).length=8\/(Du x).length=32:=by rw [hl];split<;>simp
 rw [GY,hc,h];rcases h32 with e| e<;>simp [e]
theorem rU(l:List UInt64)(h:GY l=true):BG (Ef l)=true/\Du (Ef l)=l:=by
 simp only [GY,Bool.and_eq_true,decide_eq_true_eq]at h;exact h.2
def Nr(x:Nd)(i:Nat):Nat:=if x.kids.length<=4 then 4+i else 4+(x.labels.getD i 0).toNat
theorem YJ(l:List UInt8)(h:Dp l=true):∀(d i:Nat)(hj:i+d+1<l.length),l[i].toNat<l[i+d+1].toNat
 | 0,i,hj=>(FP l).1 h i hj
 | d+1,i,hj=>Agk (YJ l h d i (by omega)) ((FP l).1 h (i+d+1) (by omega))
theorem Gs(l:List UInt8)(h:Dp l=true)(i j:Nat)(hij:i<j)(hj:j<l.length):l[i].toNat<l[j].toNat:=by
 have:=YJ l h (j-i-1) i (by omega);have e:i+(j-i-1)+1=j:=by omega
 simp only [e]at this;exact this
theorem kS(l:List UInt8)(h:Dp l=true)(i:Nat)(hi:i<l.length):l.findIdx? (fun y=>y.toNat==l[i].toNat)=some i:=by
 rw [Jv];refine⟨hi,by simp,fun j hj=> ?_⟩;have:=Gs l h j i hj hi;simp;omega
theorem pI:∀(as:List UInt8)(ks:List UInt64)(i:Nat)(h1:i<as.length)(h2:i<ks.length),Dp as=true->look as ks as[i].toNat=ks[i]
 | a::as,k::ks,0,_,_,_=>by simp [look]
 | a::as,k::ks,i+1,h1,h2,hr=>by
   obtain⟨t1,t2⟩:=IV hr;have hi':i<as.length:=by simpa using h1
   have:=t2 as[i] (BD hi');rw [Ak,Ak,look,if_neg (by omega)];exact pI as ks i (by simpa using h1) (by simpa using h2) t1
 | [],_,_,h1,_,_=>by simp at h1
 | _::_,[],_,_,h2,_=>by simp at h2
theorem pJ(x:Nd)(h:BG x=true)(i:Nat)(hi:i<x.kids.length):(Du x)[Nr x i]? =some x.kids[i]:=by
 obtain⟨h1,h2,h3,h4,h5,h6⟩:=(AY x).1 h;unfold Du Nr;by_cases hs:x.kids.length<=4
 ·rw [if_pos hs,if_pos hs,encS,List.append_assoc,BX (by simp),CE (by simp;omega)];simp only [Bh,D8];rw [show 4+i- (0+1+1+1+1)=i by omega,Af hi]
 ·have hl:i<x.labels.length:=by omega
  have hn:=V7 h4 hl;rw [if_neg hs,if_neg hs,PE,RV,Af hl,NF,Oz _ _ _ _ h3 h5 (by simp [headB];omega),
   if_pos (List.mem_map.2 ⟨_,BD hl,rfl⟩),pI _ _ i hl hi h5]
theorem kT(x:Nd)(h:BG x=true)(i:Nat)(hi:i<x.kids.length):4<=Nr x i/\Nr x i<(Du x).length/\∀j,j<i->Nr x j≠Nr x i:=by
 obtain⟨h1,h2,h3,h4,h5,h6⟩:=(AY x).1 h;have he:=pJ x h i hi;refine⟨by unfold Nr;split<;>omega,(List.getElem?_eq_some_iff.1 he).1,fun j hj=> ?_⟩;unfold Nr;split
 ·omega
 ·have:=Gs x.labels h5 j i hj (by omega);simp only [RV,Af (show j<x.labels.length by omega),Af (show i<x.labels.length by omega),NF];omega
theorem Wh(l:List UInt8)(x:UInt8):EM l x<=l.length:=List.countP_le_length
theorem MS{α:Type}(xs:List α)(i:Nat)(u:α)(h:i<=xs.length):(Iu xs i u).length=xs.length+1:=by simp [Iu];omega
theorem dY(l:List UInt8)(x:UInt8)(i:Nat)(hi:i<=l.length)(h1:∀t(h:t<l.length),t<i->l[t].toNat<x.toNat)(h2:∀t(h:t<l.length),i<=t->x.toNat<=l[t].toNat):EM l x=i:=by
 unfold EM
 conv=>lhs;rw [<-List.take_append_drop i l]
 rw [List.countP_append];have e1:(l.take i).countP (fun y=>decide (y.toNat<x.toNat))=i:=by
  have:(l.take i).length=i:=by simp;omega
  conv=>rhs;rw [<-this]
  rw [List.countP_eq_length];intro a ha;obtain⟨t,ht,rfl⟩:=Ci ha;simp at ht;simpa using h1 t (by omega) (by omega)
 have e2:(l.drop i).countP (fun y=>decide (y.toNat<x.toNat))=0:=by
  rw [List.countP_eq_zero];intro a ha;obtain⟨t,ht,rfl⟩:=Ci ha;simp at ht;have:=h2 (i+t) (by omega) (by omega);simp;omega
 omega
theorem Iw{α:Type}(xs:List α)(i:Nat)(u:α)(hi:i<=xs.length)(j:Nat):(Iu xs i u)[j]? =if j<i then xs[j]? else if j=i then some u else xs[j-1]? :=by
 unfold Iu;by_cases h1:j<i
 ·rw [if_pos h1,CE (by simp;omega),CG,if_pos h1]
 ·rw [if_neg h1,BX (by simp;omega)];simp only [Dt,Iq hi];by_cases h2:j=i
  ·subst h2;simp
  ·rw [if_neg h2,show j-i=(j-1-i)+1 by omega,List.getElem?_cons_succ,Cf];congr 1;omega
theorem YK{α:Type}(xs:List α)(i:Nat)(u:α)(hi:i<=xs.length):Il (Iu xs i u) i=xs:=by
 unfold Il Iu;rw [List.take_append_of_le_length (by simp;omega),Yc,Nat.min_self,List.drop_append,Dt,Iq hi,show i+1-i=1 by omega,Kz (by simp;omega)];simp
theorem dZ{α:Type}(xs:List α)(i:Nat)(u y:α)(h:y∈Iu xs i u):y=u\/y∈xs:=by
 unfold Iu at h;rw [List.mem_append,La]at h;rcases h with h| h| h
 ·exact .inr (ku h)
 ·exact .inl h
 ·exact .inr (EN h)
theorem ZQ(l:List UInt8)(x:UInt8)(hs:Dp l=true):(∀t(h:t<l.length),t<EM l x->l[t].toNat<x.toNat)/\(∀t(h:t<l.length),EM l x<=t->x.toNat<=l[t].toNat):=by
 obtain⟨i,hi⟩:∃i,i=l.findIdx (fun y=>decide (x.toNat<=y.toNat)):=⟨_,rfl⟩;have hle:i<=l.length:=by rw [hi];exact List.findIdx_le_length
 have a1:∀t(h:t<l.length),t<i->l[t].toNat<x.toNat:=by
  intro t h ht;rw [hi]at ht;have:=List.not_of_lt_findIdx ht;simpa using this
 have a2:∀t(h:t<l.length),i<=t->x.toNat<=l[t].toNat:=by
  intro t h ht;have hil:i<l.length:=by omega
  have h0:x.toNat<=l[i].toNat:=by
   have:=List.findIdx_getElem (p:=fun y:UInt8=>decide (x.toNat<=y.toNat)) (xs:=l) (w:=by rw [<-hi];exact hil);simpa [<-hi]using this
  rcases I8 i t with h'| h'
  ·have:=Gs l hs i t h' h;omega
  ·obtain rfl:t=i:=by omega
   exact h0
 have e:=dY l x i hle a1 a2;rw [e];exact⟨a1,a2⟩
theorem PI(l:List UInt8)(x:UInt8)(h:NH l x=false):∀t(h:t<l.length),l[t].toNat≠x.toNat:=by
 intro t ht e;unfold NH at h;rw [List.any_eq_true.2 ⟨l[t],BD _,by simpa using e⟩]at h;cases h
theorem eu(l:List UInt8)(x:UInt8)(hs:Dp l=true)(hh:NH l x=false):Dp (Iu l (EM l x) x)=true:=by
 obtain⟨a1,a2⟩:=ZQ l x hs;have hp:=Wh l x;have hne:=PI l x hh;generalize EM l x=p at*;rw [FP];intro i hi;have hlen:(Iu l p x).length=l.length+1:=MS l p x hp;have e1:=Iw l p x hp i;have e2:=Iw l p x hp (i+1);rw [Af (by omega)]at e1 e2;rw [hlen]at hi;rcases I8 (i+1) p with h| h
 ·rw [if_pos (by omega),Af (by omega)]at e1 e2;injection e1 with e1;injection e2 with e2
  rw [e1,e2];exact(FP l).1 hs i (by omega)
 ·rcases I8 i p with h'| h'
  ·obtain rfl:p=i+1:=by omega
   rw [if_pos (by omega),Af (by omega)]at e1;rw [if_neg (by omega),if_pos rfl]at e2;injection e1 with e1;injection e2 with e2
   rw [e1,e2];exact a1 i (by omega) (by omega)
  ·rw [if_neg (by omega),if_neg (by omega),TL,Af (by omega)]at e2;injection e2 with e2
   rw [e2];rcases Nat.eq_or_lt_of_le h' with h3| h3
   ·subst h3;rw [if_neg (by omega),if_pos rfl]at e1;injection e1 with e1
    rw [e1];have:=a2 p (by omega) (Ad _);have:=hne p (by omega);omega
   ·rw [if_neg (by omega),if_neg (by omega),Af (by omega)]at e1;injection e1 with e1
    rw [e1];have:=(FP l).1 hs (i-1) (by omega);simp only [show i-1+1=i by omega]at this;exact this
structure kU(x:Nd)(label:UInt8)(kid:UInt64):Prop where
 right:BG (GG x label kid)=true
 place:EM x.labels label<=x.labels.length
 len:(GG x label kid).labels.length=x.labels.length+1
 Agp:(GG x label kid).kids.length=x.kids.length+1
 Aj9:(GG x label kid).labels[EM x.labels label]? =some label
 Aka:(GG x label kid).kids[EM x.labels label]? =some kid
 find:Jj (GG x label kid).labels label=some (EM x.labels label)
 out:Vo (GG x label kid) (EM x.labels label)=x
 old:∀i(h:i<x.labels.length)(hk:i<x.kids.length),∃j,j<x.labels.length+1/\(GG x label kid).labels[j]? =some x.labels[i]/\(GG x label kid).kids[j]? =some x.kids[i]
theorem PK(x:Nd)(label:UInt8)(kid:UInt64):Jk x label kid=true<->BG x=true/\label.toNat<16/\kid.toNat≠0/\NH x.labels label=false:=by
 unfold Jk;simp only [Bool.and_eq_true,decide_eq_true_eq,Bool.not_eq_true',beq_eq_false_iff_ne,and_assoc,ne_eq]
theorem eF(x:Nd)(label:UInt8)(kid:UInt64)(h:Jk x label kid=true):kU x label kid:=by
 obtain⟨hR,h16,hk,hh⟩:=(PK x label kid).1 h;obtain⟨r1,r2,r3,r4,r5,r6⟩:=(AY x).1 hR;have hp:=Wh x.labels label;have l1:(Iu x.labels (EM x.labels label) label).length=x.labels.length+1:=MS _ _ _ hp;have l2:(Iu x.kids (EM x.labels label) kid).length=x.kids.length+1:=MS _ _ _ (by omega);have hr:BG (GG x label kid)=true:=by
  rw [AY];refine⟨r1,r2,?_,?_,eu _ _ r5 hh,?_⟩
  ·show(Iu _ _ _).length=(Iu _ _ _).length;omega
  ·rw [Gh];intro y hy;rcases dZ _ _ _ _ hy with rfl| hy
   ·exact TU h16
   ·exact(List.all_eq_true.1 r4) y hy
  ·intro i hi;rcases dZ _ _ _ _ (BD hi)with e| hy
   ·rw [e];exact hk
   ·obtain⟨t,ht,e⟩:=Ci hy;rw [<-e];exact r6 t ht
 have hlab:(GG x label kid).labels[EM x.labels label]? =some label:=by
  show(Iu _ _ _)[_]? =_;rw [Iw _ _ _ hp,if_neg (by omega),if_pos rfl]
 refine⟨hr,hp,l1,l2,hlab,?_,?_,?_,?_⟩
 ·show(Iu _ _ _)[_]? =_;rw [Iw _ _ _ (by omega),if_neg (by omega),if_pos rfl]
 ·have hlt:EM x.labels label<(GG x label kid).labels.length:=by rw [show(GG x label kid).labels.length=x.labels.length+1 from l1];omega
  have:=kS _ ((AY _).1 hr).2.2.2.2.1 _ hlt;rw [Af hlt]at hlab;injection hlab with hlab
  rw [hlab]at this;exact this
 ·show({pre:=x.pre,val:=x.val,labels:=Il (Iu _ _ _) _,kids:=Il (Iu _ _ _) _}:Nd)=x;rw [YK _ _ _ hp,YK _ _ _ (by omega)]
 ·intro i hi hik;by_cases hip:i<EM x.labels label
  ·refine⟨i,by omega,?_,?_⟩
   ·show(Iu _ _ _)[_]? =_;rw [Iw _ _ _ hp,if_pos hip,Af hi]
   ·show(Iu _ _ _)[_]? =_;rw [Iw _ _ _ (by omega),if_pos hip,Af hik]
  ·refine⟨i+1,by omega,?_,?_⟩
   ·show(Iu _ _ _)[_]? =_;rw [Iw _ _ _ hp,if_neg (by omega),if_neg (by omega),TL,Af hi]
   ·show(Iu _ _ _)[_]? =_;rw [Iw _ _ _ (by omega),if_neg (by omega),if_neg (by omega),TL,Af hik]
def OW(l:List Int):List Int:=l.mergeSort fun x y=>decide (x<=y)
def eG(s:St):List (List UInt8×UInt64)->List Int->Option (List Int)
 | [],acc=>some acc
 | it::t,acc=>match QG s it.2 with
   | none=>none
   | some l=>eG s t (acc++l.map (·.off))
def ZR:List Int->Bool
 | a::b::t=> !(a==b)&&ZR (b::t)
 | _=>true
end Go.Proofs.YtjcppneoncpdbaaGreatDoor
