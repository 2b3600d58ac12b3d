import Derived.WalkKit
import Derived.WalkSpells
import Derived.WalkLawsBesides
import Derived.Lib.Hide
import Derived.Deep.AppendLies
import Derived.Deep.RegionLaw
import Derived.Outline
import Derived.Lib.BytesEntry
import Derived.Deep.Draws
import Derived.Deep.QuietTactic
import Derived.BigQuiet
import Derived.Laws.BitsAllLaws
import Derived.Laws.Bits64
namespace Go.Proofs.YtdjfbnoolfpcnaaGreatDoor
open Go.RowKit
def Rd(w:World)(A:Option Addr)(n:Nat)(xs:List Value):Prop:=
 xs.length=n∧(0<n→∃b off,A=some ⟨b,off,none⟩∧b<w.heap.size∧∀j,j<n→w.cell? ⟨b,off+j,none⟩=xs[j]?)
theorem Rd.nil{w:World}{A:Option Addr}:Rd w A 0 []:=⟨rfl,fun h=>absurd h (by omega)⟩
theorem Rd.at{w:World}{A:Option Addr}{n:Nat}{xs:List Value}(h:Rd w A n xs){k:Nat}(hk:k<n):
 ∃b off u,A=some ⟨b,off,none⟩∧b<w.heap.size∧xs[k]? =some u∧w.cell? ⟨b,off+k,none⟩=some u:=by
 obtain⟨b,off,e,hb,hc⟩:=h.2 (by omega);have hl:k<xs.length:=by have:=h.1;omega
 exact⟨b,off,xs[k],e,hb,List.getElem?_eq_getElem hl,(hc k hk).trans (List.getElem?_eq_getElem hl)⟩
theorem Rd.keep{w w':World}{A:Option Addr}{n:Nat}{xs:List Value}(h:Rd w A n xs)(hs:w.heap.size≤w'.heap.size)
 (hk:∀k,k<w.heap.size→w'.heap[k]? =w.heap[k]?):Rd w' A n xs:=
 ⟨h.1,fun hn=>by
   obtain⟨b,off,e,hb,hc⟩:=h.2 hn;exact⟨b,off,e,by omega,fun j hj=>(World.cell?_of_block (w:=w) (hk b hb)).trans (hc j hj)⟩⟩
theorem Rd.below{w w':World}{A:Option Addr}{n:Nat}{xs:List Value}(h:Rd w A n xs)(hb:Below w.heap.size w w'):Rd w' A n xs:=
 h.keep hb.size hb.block
def bv(b:UInt8):Value:= .int .u8 (b.toNat:Int)
def wv(x:UInt64):Value:= .int .u64 (x.toNat:Int)
def Bs(w:World)(A:Option Addr)(n:Nat)(l:List UInt8):Prop:=Rd w A n (l.map bv)
def Ws(w:World)(A:Option Addr)(n:Nat)(l:List UInt64):Prop:=Rd w A n (l.map wv)
theorem Bs.len{w:World}{A:Option Addr}{n:Nat}{l:List UInt8}(h:Bs w A n l):l.length=n:=by
 have:=h.1;simpa using this
theorem Ws.len{w:World}{A:Option Addr}{n:Nat}{l:List UInt64}(h:Ws w A n l):l.length=n:=by
 have:=h.1;simpa using this
theorem Bs.below{w w':World}{A:Option Addr}{n:Nat}{l:List UInt8}(h:Bs w A n l)(hb:Below w.heap.size w w'):Bs w' A n l:=Rd.below h hb
theorem Ws.below{w w':World}{A:Option Addr}{n:Nat}{l:List UInt64}(h:Ws w A n l)(hb:Below w.heap.size w w'):Ws w' A n l:=Rd.below h hb
theorem Rd.take{w:World}{A:Option Addr}{n k:Nat}{xs:List Value}(h:Rd w A n xs)(hk:k≤n):Rd w A k (xs.take k):=by
 refine⟨by rw [List.length_take,h.1];omega,fun hk0=> ?_⟩;obtain⟨b,off,e,hb,hc⟩:=h.2 (by omega);exact⟨b,off,e,hb,fun j hj=>by rw [hc j (by omega),List.getElem?_take,if_pos hj]⟩
theorem Bs.take{w:World}{A:Option Addr}{n k:Nat}{l:List UInt8}(h:Bs w A n l)(hk:k≤n):Bs w A k (l.take k):=by
 have:=Rd.take h hk
 rwa [←List.map_take]at this
theorem Ws.take{w:World}{A:Option Addr}{n k:Nat}{l:List UInt64}(h:Ws w A n l)(hk:k≤n):Ws w A k (l.take k):=by
 have:=Rd.take h hk
 rwa [←List.map_take]at this
theorem Bs.at{w:World}{A:Option Addr}{n:Nat}{l:List UInt8}(h:Bs w A n l){k:Nat}(hk:k<n):
 ∃(hl:k<l.length)(b off:Nat),A=some ⟨b,off,none⟩∧b<w.heap.size∧w.cell? ⟨b,off+k,none⟩=some (.int .u8 (l[k].toNat:Int)):=by
 have hl:k<l.length:=by have:=h.len;omega
 obtain⟨b,off,u,e,hb,hu,hc⟩:=Rd.at h hk;refine⟨hl,b,off,e,hb,?_⟩;rw [hc,←hu];simp [bv,hl]
theorem Ws.at{w:World}{A:Option Addr}{n:Nat}{l:List UInt64}(h:Ws w A n l){k:Nat}(hk:k<n):
 ∃(hl:k<l.length)(b off:Nat),A=some ⟨b,off,none⟩∧b<w.heap.size∧w.cell? ⟨b,off+k,none⟩=some (.int .u64 (l[k].toNat:Int)):=by
 have hl:k<l.length:=by have:=h.len;omega
 obtain⟨b,off,u,e,hb,hu,hc⟩:=Rd.at h hk;refine⟨hl,b,off,e,hb,?_⟩;rw [hc,←hu];simp [wv,hl]
theorem rd_of_own{w:World}{base:Nat}{e:TypeId}{v:Value}{n:Nat}{xs:List Value}(h:w.ownsRow base e 1 v n xs):
 ∃A c,v= .slice A n c∧n≤c∧Rd w A n xs:=by
 obtain⟨h1,h2⟩:=h;rcases h2 with⟨rfl,rfl⟩| ⟨g,cap,cur,rfl,_,hg,hnc,_,hcs,htake⟩
 ·have:xs=[]:=List.eq_nil_of_length_eq_zero (by simpa using h1);subst this;exact⟨none,0,rfl,Nat.le_refl _,Rd.nil⟩
 ·refine⟨_,_,rfl,hnc,by simpa using h1,fun hn=>⟨g,0,rfl,?_,fun j hj=> ?_⟩⟩
  ·exact(Array.getElem?_eq_some_iff.1 hg).1
  ·rw [cell_of_row w g (0+j) cur e (0,0) hg,←htake,List.getElem?_take,if_pos (by omega)];simp
def Dr(w w':World):Prop:=∃q,w'=w.drewN q
theorem Dr.refl(w:World):Dr w w:=⟨0,rfl⟩
theorem Dr.one(w:World)(q:Nat):Dr w (w.drewN q):=⟨q,rfl⟩
theorem Dr.two(w:World)(q r:Nat):Dr w ((w.drewN q).drewN r):=⟨q+r,World.drewN_drewN _ _ _⟩
theorem Dr.trans{a b c:World}(h:Dr a b)(k:Dr b c):Dr a c:=by
 obtain⟨q,rfl⟩:=h;obtain⟨r,rfl⟩:=k;exact Dr.two _ _ _
theorem Dr.below{w w':World}(h:Dr w w')(B:Nat):Below B w w':=by
 obtain⟨q,rfl⟩:=h;exact⟨rfl,rfl,rfl,Nat.le_refl _,fun _ _=>rfl⟩
theorem own_cell{w:World}{base g cap:Nat}{e:TypeId}{n:Nat}{xs:List Value}(h:w.ownsRow base e 1 (.slice (some ⟨g,0,none⟩) n cap) n xs){k:Nat}(hk:k<n):∃u,w.cell? ⟨g,k,none⟩=some u:=by
 rw [h.cellAt k (by omega)];exact⟨_,List.getElem?_eq_getElem (by have:=h.1;omega)⟩
theorem ret_congr{v u:Value}(h:v=u):Ending.returned v=Ending.returned u:=by rw [h]
theorem oneCell_bv(l:List UInt8):∀u∈l.map bv,u.oneCell'=true:=by
 intro u hu;obtain⟨_,_,rfl⟩:=List.mem_map.1 hu;rfl
theorem oneCell_wv(l:List UInt64):∀u∈l.map wv,u.oneCell'=true:=by
 intro u hu;obtain⟨_,_,rfl⟩:=List.mem_map.1 hu;rfl
def IsRow(k:IntKind)(w:World)(a:Option Addr)(len cap:Nat)(zs:List Int):Prop:=
 (a=none∧len=0∧cap=0∧zs=[])∨
 ∃x,a=some x∧len≤cap∧cap≤maxLen∧zs.length=cap∧(∀i,i<zs.length→w.cell? (x.add i)=some (.int k (zs.getD i 0)))∧∀n∈zs,(Lit.int k n).wf=true
theorem block_lt_of_cell{w:World}{a:Addr}{v:Value}(h:w.cell? a=some v):a.block<w.heap.size:=by
 rcases Nat.lt_or_ge a.block w.heap.size with hlt| hge
 ·exact hlt
 ·rw [World.cell?,Array.getElem?_eq_none hge]at h;cases h
theorem addr_of_cell{w:World}{x:Addr}{v:Value}(h:w.cell? (x.add 0)=some v):∃b off,x=⟨b,off,none⟩:=by
 obtain⟨b,off,s⟩:=x;rcases s with _| s
 ·exact⟨b,off,rfl⟩
 ·exfalso;unfold World.cell? Addr.add at h;split at h
  ·split at h<;>simp_all
  ·cases h
theorem rd_of_row{k:IntKind}{w:World}{a:Option Addr}{len cap:Nat}{zs:List Int}(h:IsRow k w a len cap zs):Rd w a len ((zs.take len).map (Value.int k))∧(len≤maxLen∧len≤cap)∧∀n∈zs,(Lit.int k n).wf=true:=by
 rcases h with⟨rfl,rfl,rfl,rfl⟩| ⟨x,rfl,hl,hm,hz,hc,hwf⟩
 ·exact⟨Rd.nil,⟨Nat.zero_le _,Nat.le_refl _⟩,by simp⟩
 ·refine⟨⟨by simp;omega,fun hn=> ?_⟩,⟨by omega,hl⟩,hwf⟩;have h0:=hc 0 (by omega);obtain⟨b,off,rfl⟩:=addr_of_cell h0;refine⟨b,off,rfl,block_lt_of_cell h0,fun j hj=> ?_⟩;have:=hc j (by omega);rw [Addr.add_lit]at this;rw [this];simp [hj,List.getD,show j<zs.length by omega]
theorem bs_of_row{w:World}{a:Option Addr}{len cap:Nat}{zs:List Int}(h:IsRow .u8 w a len cap zs):∃l:List UInt8,Bs w a len l∧len≤maxLen∧len≤cap:=by
 obtain⟨h1,h2,h3⟩:=rd_of_row h;refine⟨(zs.take len).map fun n=>UInt8.ofNat n.toNat,?_,h2⟩;have e:((zs.take len).map fun n=>UInt8.ofNat n.toNat).map bv=(zs.take len).map (Value.int .u8):=by
  rw [List.map_map];apply List.map_congr_left;intro n hn;have:=h3 n (List.mem_of_mem_take hn);have hb:0≤n∧n≤255:=by simpa [Lit.wf,IntKind.min,IntKind.max,IntKind.bits,IntKind.signed]using this
  simp only [Function.comp_apply,bv,UInt8.toNat_ofNat'];congr 1;omega
 rw [Bs,e];exact h1
theorem u64_of_wf{a:Int}(h:(Lit.int .u64 a).wf=true):∃x:Nat,a=(x:Int)∧x<18446744073709551616:=by
 have hb:0≤a∧a≤18446744073709551615:=by simpa [Lit.wf,IntKind.min,IntKind.max,IntKind.bits,IntKind.signed]using h
 exact⟨a.toNat,by omega,by omega⟩
theorem made_bytes(n:Nat):(madeCells (Value.int .u8 0).cells (n*1)).toList=(List.replicate n (0:UInt8)).map bv:=by
 apply List.ext_getElem
 ·simp [madeCells]
 ·intro i h1 h2;simp [madeCells,Value.cells,Nat.mod_one,bv]
theorem made_words(n:Nat):(madeCells (Value.int .u64 0).cells (n*1)).toList=(List.replicate n (0:UInt64)).map wv:=by
 apply List.ext_getElem
 ·simp [madeCells]
 ·intro i h1 h2;simp [madeCells,Value.cells,Nat.mod_one,wv]
theorem load_of_bs {P : Program} {w : World} {A : Option Addr} {n : Nat} {l : List UInt8} (h : Bs w A n l) (c : Nat) :
    (Extern.Bytes.bytesOf (.slice A n c)).run P w = .ok ⟨l.toArray⟩ w := by
  have hlen := h.len
  rcases A with _ | ad
  · have hn : n = 0 := by
      rcases Nat.eq_zero_or_pos n with h0 | h0
      · exact h0
      · obtain ⟨_, _, e, _⟩ := h.2 h0; cases e
    subst hn
    have hl : l = [] := List.eq_nil_of_length_eq_zero hlen
    subst hl
    rfl
  · have key := Lib.run_loadBytesX (P := P) w (l.map fun b => (b.toNat : Int)) ad .empty (fun j x hx => by
      have hjl : j < l.length := by
        have := (List.getElem?_eq_some_iff.1 hx).1
        simpa using this
      obtain ⟨hl, b, off, e, hb, hc⟩ := h.at (k := j) (by omega)
      injection e with e
      subst e
      rw [Addr.add_lit, hc]
      rw [List.getElem?_map, List.getElem?_eq_getElem hjl] at hx
      simp only [Option.map_some, Option.some.injEq] at hx
      rw [hx])
    simp only [List.length_map, hlen] at key
    show (Extern.Bytes.loadBytes ad n .empty).run P w = _
    rw [key]
    congr 1
    apply ByteArray.ext
    show (#[] : Array UInt8) ++ (Lib.bytesOf _).toArray = l.toArray
    simp [Lib.bytesOf, Function.comp_def]
theorem run_string_of_bs {P : Program} {w : World} {src e dst : TypeId} (hs : P.underlying src = some (.slice e)) (he : P.underlying e = some (.int .u8)) (hd : P.underlying dst = some .string)
    {A : Option Addr} {n : Nat} {l : List UInt8} (h : Bs w A n l) (c : Nat) : (convert src dst (.slice A n c)).run P w = .ok (.string ⟨l.toArray⟩) w := by
  have hlen := h.len
  rcases A with _ | ad
  · have hn : n = 0 := by
      rcases Nat.eq_zero_or_pos n with h0 | h0
      · exact h0
      · obtain ⟨_, _, e, _⟩ := h.2 h0; cases e
    subst hn
    have hl : l = [] := List.eq_nil_of_length_eq_zero hlen
    subst hl
    exact run_convert_bytes_nil w src e hs he 0 c dst hd
  · have hl : (loadCells ad n).run P w = .ok ((l.map fun b => (b.toNat : Int)).map (Value.int .u8)).toArray w := by
      have := run_loadCells_list (P := P) w ad ((l.map fun b => (b.toNat : Int)).map (Value.int .u8)) (fun j v hj => by
        have hjl : j < l.length := by
          have := (List.getElem?_eq_some_iff.1 hj).1
          simpa using this
        obtain ⟨hl, b, off, e, hb, hc⟩ := h.at (k := j) (by omega)
        injection e with e
        subst e
        rw [Addr.add_lit, hc]
        simp only [List.getElem?_map, List.getElem?_eq_getElem hjl, Option.map_some, Option.some.injEq] at hj
        rw [hj])
      simpa [hlen] using this
    rw [run_convert_bytes_string w src dst e _ n c hs he hd, run_bytesToString w _ n c _ hl, foldl_push_bytes]
    congr 2
    apply ByteArray.ext
    show (#[] : Array UInt8) ++ _ = l.toArray
    simp [Function.comp_def]
structure RowTy(P:Program)(t e:TypeId)(z:Value)(bytes:Nat):Prop where
 ht:P.underlying t=some (.slice e)
 hi:(P.info? e).map (fun i=>(i.zero,i.size,i.bytes))=some (some z,1,bytes)
 hz:z.cells.size=1
def subA(A:Option Addr)(c lo:Nat):Option Addr:=if c=lo then A else A.map (·.add lo)
theorem Rd.sub{w:World}{A:Option Addr}{n:Nat}{xs:List Value}(h:Rd w A n xs){c lo hi:Nat}(h1:lo≤hi)(h2:hi≤n)(hc:n≤c):Rd w (subA A c lo) (hi-lo) ((xs.drop lo).take (hi-lo)):=by
 refine⟨by rw [List.length_take,List.length_drop,h.1];omega,fun h0=> ?_⟩;obtain⟨b,off,rfl,hb,hcl⟩:=h.2 (by omega);refine⟨b,off+lo,?_,hb,fun j hj=> ?_⟩
 ·rw [subA,if_neg (by omega)];simp [Addr.add_lit]
 ·rw [Nat.add_assoc,hcl (lo+j) (by omega),List.getElem?_take,if_pos hj,List.getElem?_drop]
section
variable{P:Program}{t e:TypeId}{z:Value}{bytes:Nat}
theorem RowTy.sizeOf_run(T:RowTy P t e z bytes)(w:World):(sizeOf e).run P w= .ok 1 w:=by
 obtain⟨i,hi,hz0,hz1,hz2⟩:=info_parts T.hi;simp [sizeOf,typeInfo,hi,hz1]
theorem run_sub(T:RowTy P t e z bytes)(A:Option Addr)(n c:Nat)(k1 k2:IntKind)(lo hi:Nat)(h1:lo≤hi)(h2:hi≤c)(w:World):
 (Instr.slice t (.slice A n c) (some (.int k1 (lo:Int))) (some (.int k2 (hi:Int))) none).run P w= .ok (.slice (subA A c lo) (hi-lo) (c-lo)) w:=by
 have e1:=run_sliceBound (P:=P) (w:=w) k2 (hi:Int) c .sliceAcap (by omega) (by omega);have e2:=run_sliceBound (P:=P) (w:=w) k1 (lo:Int) hi .sliceB (by omega) (by omega);simp [Instr.slice,run_underlying T.ht,Instr.sliceBounds,e1,e2,T.sizeOf_run,subA]
theorem run_from(T:RowTy P t e z bytes)(A:Option Addr)(n c:Nat)(k1:IntKind)(lo:Nat)(h1:lo≤n)(w:World):
 (Instr.slice t (.slice A n c) (some (.int k1 (lo:Int))) none none).run P w= .ok (.slice (subA A c lo) (n-lo) (c-lo)) w:=by
 have e2:=run_sliceBound (P:=P) (w:=w) k1 (lo:Int) n .sliceB (by omega) (by omega);simp [Instr.slice,run_underlying T.ht,Instr.sliceBounds,e2,T.sizeOf_run,subA]
end
theorem append_rd {P : Program} {t e : TypeId} {z : Value} {bytes : Nat} (T : RowTy P t e z bytes) (ty : TypeId) {w : World} {base : Nat} {v : Value} {n : Nat} {xs news : List Value}
    (hown : w.ownsRow base e 1 v n xs) {A : Option Addr} {m : Nat} (hr : Rd w A m news)
    (h1 : ∀ u ∈ news, u.oneCell' = true) (hm : n + m ≤ 1000000000) (hby : bytes ≤ 64) (hbase : base ≤ w.heap.size) (c : Nat) :
    ∃ v' w', (Builtin.append_ #[t, t] ty #[v, .slice A m c]).run P w = .ok v' w' ∧ w'.ownsRow base e 1 v' (n + m) (xs ++ news) ∧ Below base w w' := by
  obtain ⟨i, hi, hz0, hz1, hz2⟩ := info_parts T.hi
  rcases A with _ | ad
  · have h0 : m = 0 := by
      rcases Nat.eq_zero_or_pos m with h0 | h0
      · exact h0
      · obtain ⟨_, _, e, _⟩ := hr.2 h0; cases e
    subst h0
    have hn : news = [] := List.eq_nil_of_length_eq_zero hr.1
    subst hn
    refine ⟨v, w, ?_, by simpa using hown, Below.refl _ _⟩
    rcases hown.2 with ⟨rfl, rfl⟩ | ⟨g, cap, cur, rfl, _, _, hnc, _⟩
    · simp [Builtin.append_, run_underlying T.ht, sizeOf, typeInfo, hi, Builtin.lenOf, Builtin.firstCells]
    · simp [Builtin.append_, run_underlying T.ht, sizeOf, typeInfo, hi, Builtin.lenOf, Builtin.firstCells, hnc, storeCells]
  · have hcells : ∀ j u, news[j]? = some u → w.cell? (ad.add j) = some u := by
      intro j u hu
      have hj : j < m := by
        have := (List.getElem?_eq_some_iff.1 hu).1
        have := hr.1
        omega
      obtain ⟨b, off, e, _, hc⟩ := hr.2 (by omega)
      injection e with e
      subst e
      rw [Addr.add_lit, hc j hj, hu]
    have hmul : (n + m) * bytes ≤ 1000000000 * 64 := Nat.mul_le_mul hm hby
    obtain ⟨v', w', hrun, h2, h3, _⟩ := run_append_own (P := P) w base t ty e i z 1 bytes T.ht hi hz0 hz1 hz2 T.hz (by decide) v n xs hown ad m c news (by simp [hr.1]) hcells h1
      (by unfold maxLen; omega) (by omega) hbase
    exact ⟨v', w', hrun, h2, (Below.refl _ _).grown h3 hbase (fun k hk => (hown.lt k hk).1)⟩
theorem wpList_app_rd{P:Program}{ops:Array Oper}{rest:List Oper}{o:Oper}{a:Act}{w:World}{Q:Exit→Act→World→Prop}(hgd:o.guard=none)(s x:Operand)(t:TypeId)
 (ho:o.op= .call {callee:= .builtin .append,args:= #[s,x],argTypes:= #[t,t]}){e:TypeId}{z:Value}{bytes:Nat}(T:RowTy P t e z bytes)
 (base:Nat)(v:Value)(n:Nat)(xs news:List Value)(hs:a.eval s=v)(hown:w.ownsRow base e 1 v n xs)(A:Option Addr)(m c:Nat)(hx:a.eval x= .slice A m c)(hr:Rd w A m news)
 (h1:∀u∈news,u.oneCell'=true)(hm:n+m≤1000000000)(hby:bytes≤64)(hbase:base≤w.heap.size)
 (h:∀v' w',w'.ownsRow base e 1 v' (n+m) (xs++news)→Below base w w'→wpList P ops Q rest (a.put o.dst v') w'):wpList P ops Q (o::rest) a w:=by
 refine wpList_plain hgd fun K hK=> ?_
 obtain⟨v',w',hrun,h2,h3⟩:=append_rd T o.type hown hr h1 hm hby hbase c;unfold Oper.wp execOp;simp only [ho,resolve,invoke,builtin,Sem.run_bind,Sem.run_pure,Result.andThen_ok,List.map_toArray,List.map_cons,List.map_nil,hs,hx,hrun];exact hK _ _ (h v' w' h2 h3)
theorem append_new{P:Program}{t e:TypeId}{z:Value}{bytes:Nat}(T:RowTy P t e z bytes)(ty:TypeId){w wr:World}{base:Nat}{v:Value}{n:Nat}{xs news:List Value}
 (hown:wr.ownsRow base e 1 v n xs)(hw:w.heap=wr.heap.push (.cells news.toArray e))(hos:w.os=wr.os)(htape:w.tape=wr.tape)(hout:w.output=wr.output)
 (h1:∀u∈news,u.oneCell'=true)(hm:n+news.length≤1000000000)(hby:bytes≤64)(hbase:base≤wr.heap.size)(m c:Nat)(hmn:m=news.length):
 ∃v' w',(Builtin.append_ #[t,t] ty #[v,.slice (some ⟨wr.heap.size,0,none⟩) m c]).run P w= .ok v' w'∧w'.ownsRow base e 1 v' (n+m) (xs++news)∧Below base wr w':=by
 subst hmn;obtain⟨i,hi,hz0,hz1,hz2⟩:=info_parts T.hi;have hb1:Below wr.heap.size wr w:=⟨hos,htape,hout,by rw [hw];simp,fun k hk=>by rw [hw,Array.getElem?_push,if_neg (by omega)]⟩;have hown':w.ownsRow base e 1 v n xs:=by
  refine⟨hown.1,?_⟩;rcases hown.2 with h| ⟨g,cap,cur,h1,h2,h3,h4⟩
  ·exact .inl h
  ·exact .inr ⟨g,cap,cur,h1,h2,by rw [hb1.block g (Array.getElem?_eq_some_iff.1 h3).1];exact h3,h4⟩
 have hcells:∀j u,news[j]? =some u→w.cell? ((⟨wr.heap.size,0,none⟩:Addr).add j)=some u:=by
  intro j u hu;rw [show(⟨wr.heap.size,0,none⟩:Addr).add j=⟨wr.heap.size,0+j,none⟩from Addr.add_lit _ _ _];rw [cell_of_row w wr.heap.size (0+j) news.toArray e (0,0) (by rw [hw,Array.getElem?_push,if_pos rfl])];simpa using hu
 have hmul:(n+news.length)*bytes≤1000000000*64:=Nat.mul_le_mul hm hby;obtain⟨v',w',hrun,h2,h3,_⟩:=run_append_own (P:=P) w base t ty e i z 1 bytes T.ht hi hz0 hz1 hz2 T.hz (by decide) v n xs hown' _ news.length c news (by simp) hcells h1
  (by unfold maxLen;omega) (by omega) (by rw [hw];simp;omega)
 refine⟨v',w',hrun,h2,(hb1.mono hbase).trans ?_⟩;exact(Below.refl _ _).grown h3 (by rw [hw];simp;omega) (fun k hk=>(hown'.lt k hk).1)
theorem step_app_new{P:Program}{ops:Array Oper}{o:Oper}{a:Act}{w:World}{K:Act→World→Prop}{Q:Exit→Act→World→Prop}{E:Prop}(hgd:o.guard=none)(s x:Operand)(t:TypeId)
 (ho:o.op= .call {callee:= .builtin .append,args:= #[s,x],argTypes:= #[t,t]}){e:TypeId}{z:Value}{bytes:Nat}(T:RowTy P t e z bytes)
 (wr:World)(base:Nat)(v:Value)(n:Nat)(xs news:List Value)(hs:a.eval s=v)(hown:wr.ownsRow base e 1 v n xs)(hw:w.heap=wr.heap.push (.cells news.toArray e))
 (hos:w.os=wr.os)(htape:w.tape=wr.tape)(hout:w.output=wr.output)
 (m c:Nat)(hx:a.eval x= .slice (some ⟨wr.heap.size,0,none⟩) m c)(hmn:m=news.length)
 (h1:∀u∈news,u.oneCell'=true)(hm:n+news.length≤1000000000)(hby:bytes≤64)(hbase:base≤wr.heap.size)
 (h:∀v' w',w'.ownsRow base e 1 v' (n+m) (xs++news)→Below base wr w'→K (a.put o.dst v') w'):
 if Region.wanted o (yielded ops a.tmps)=true then Oper.wp P o a w K Q else E:=by
 have hwt:Region.wanted o (yielded ops a.tmps)=true:=by simp [Region.wanted,hgd]
 rw [if_pos hwt];obtain⟨v',w',hrun,h2,h3⟩:=append_new T o.type hown hw hos htape hout h1 hm hby hbase m c hmn;unfold Oper.wp execOp;simp only [ho,resolve,invoke,builtin,Sem.run_bind,Sem.run_pure,Result.andThen_ok,List.map_toArray,List.map_cons,List.map_nil,hs,hx,hrun];exact h v' w' h2 h3
def isNib(b:UInt8):Bool:=b.toNat<16
theorem all_take_succ{α:Type}(p:α→Bool)(l:List α)(k:Nat)(h:k<l.length)(ha:(l.take k).all p=true)(hp:p l[k]=true):(l.take (k+1)).all p=true:=by
 rw [List.take_succ_eq_append_getElem h,List.all_append,ha];simp [hp]
theorem all_false_of_get{α:Type}(p:α→Bool)(l:List α)(k:Nat)(h:k<l.length)(hp:p l[k]=false):l.all p=false:=by
 rw [List.all_eq_false];exact⟨l[k],List.getElem_mem h,by simp [hp]⟩
theorem isNib_yes{b:UInt8}(h:b.toNat<16):isNib b=true:=by simp [isNib,h]
theorem isNib_no{b:UInt8}(h:¬b.toNat<16):isNib b=false:=by simp [isNib];omega
def nibs(l:List UInt8):List UInt8:=l.flatMap fun b=>[b/16,b%16]
theorem nibs_take_succ(l:List UInt8)(k:Nat)(h:k<l.length):nibs (l.take (k+1))=nibs (l.take k)++[l[k]/16,l[k]%16]:=by
 rw [List.take_succ_eq_append_getElem h];simp only [nibs,List.flatMap_append,List.flatMap_cons,List.flatMap_nil,List.append_nil]
theorem nibs_take_succ_str(s:ByteArray)(k:Nat)(h:k<s.size):nibs (s.data.toList.take (k+1))=nibs (s.data.toList.take k)++[s[k]/16,s[k]%16]:=by
 have hl:k<s.data.toList.length:=by simpa using h
 rw [nibs_take_succ _ k hl];rfl
theorem nibs_length(l:List UInt8):(nibs l).length=2*l.length:=by
 induction l with
 | nil=>rfl
 | cons a l ih=>simp [nibs]at ih⊢;omega
theorem bv_div(b:UInt8):Value.int .u8 ((b.toNat:Int)/16)=bv (b/16):=by simp [bv]
theorem bv_mod(b:UInt8):Value.int .u8 ((b.toNat:Int)%16)=bv (b%16):=by simp [bv]
theorem bv_div'(b:UInt8):Value.int .u8 (IntKind.u8.wrap ((b.toNat:Int)/16))=bv (b/16):=by
 have:=b.toNat_lt;rw [←bv_div,IntWalk.u8_in _ (by omega)]
theorem bv_mod'(b:UInt8):Value.int .u8 ((b.toNat:Int).tmod 16)=bv (b%16):=by
 rw [←bv_mod,Int.tmod_eq_emod_of_nonneg (by omega)]
def common:List UInt8→List UInt8→Nat
 | a::as,b::bs=>if a=b then common as bs+1 else 0
 | _,_=>0
theorem common_le_left:∀(a b:List UInt8),common a b≤a.length
 | [],_=>by simp [common]
 | a::as,[]=>by simp [common]
 | a::as,b::bs=>by
   simp only [common];have:=common_le_left as bs;split<;>simp;omega
theorem common_comm:∀(a b:List UInt8),common a b=common b a
 | [],[]=>rfl
 | [],_::_=>by simp [common]
 | _::_,[]=>by simp [common]
 | a::as,b::bs=>by
   simp only [common];rw [common_comm as bs];by_cases h:a=b
   ·subst h;simp
   ·simp [h,Ne.symm h]
theorem common_le_right(a b:List UInt8):common a b≤b.length:=by rw [common_comm];exact common_le_left b a
def alike(k:Nat)(a b:List UInt8):Prop:=k≤a.length∧k≤b.length∧a.take k=b.take k
theorem alike_zero(a b:List UInt8):alike 0 a b:=⟨Nat.zero_le _,Nat.zero_le _,by simp⟩
theorem common_of_alike:∀(k:Nat)(a b:List UInt8),alike k a b→common a b=k+common (a.drop k) (b.drop k)
 | 0,a,b,_=>by simp
 | k+1,[],b,h=>by have:=h.1;simp at this
 | k+1,a::as,[],h=>by have:=h.2.1;simp at this
 | k+1,a::as,b::bs,h=>by
   obtain⟨h1,h2,h3⟩:=h;simp only [List.take_succ_cons,List.cons.injEq]at h3;obtain⟨rfl,h3⟩:=h3;have:=common_of_alike k as bs ⟨by simpa using h1,by simpa using h2,h3⟩;simp [common,this];omega
theorem alike_succ{k:Nat}{a b:List UInt8}(h:alike k a b)(ha:k<a.length)(hb:k<b.length)(e:a[k]=b[k]):alike (k+1) a b:=
 ⟨ha,hb,by rw [List.take_succ_eq_append_getElem ha,List.take_succ_eq_append_getElem hb,h.2.2,e]⟩
theorem common_eq_of_ne{k:Nat}{a b:List UInt8}(h:alike k a b)(ha:k<a.length)(hb:k<b.length)(e:a[k]≠b[k]):common a b=k:=by
 rw [common_of_alike k a b h,List.drop_eq_getElem_cons ha,List.drop_eq_getElem_cons hb];simp [common,e]
theorem common_eq_of_left{k:Nat}{a b:List UInt8}(h:alike k a b)(ha:a.length=k):common a b=k:=by
 rw [common_of_alike k a b h,List.drop_of_length_le (by omega)];simp [common]
theorem common_eq_of_right{k:Nat}{a b:List UInt8}(h:alike k a b)(hb:b.length=k):common a b=k:=by
 rw [common_comm];exact common_eq_of_left ⟨h.2.1,h.1,h.2.2.symm⟩ hb
theorem u8_beq_true{a b:UInt8}(h:a=b):(((a.toNat:Int))==(b.toNat:Int))=true:=by simp [h]
theorem u8_beq_false{a b:UInt8}(h:a≠b):(((a.toNat:Int))==(b.toNat:Int))=false:=by
 rw [beq_eq_false_iff_ne];intro e;exact h (UInt8.toNat_inj.1 (by omega))
def packN:List UInt8→Nat
 | []=>0
 | d::l=>d.toNat+16*packN l
theorem packN_lt:∀(l:List UInt8),l.all isNib=true→packN l<16^l.length
 | [],_=>by simp [packN]
 | d::l,h=>by
   simp only [List.all_cons,Bool.and_eq_true]at h;have:=packN_lt l h.2;have hd:d.toNat<16:=by simpa [isNib]using h.1
   simp only [packN,List.length_cons,Nat.pow_succ];omega
theorem packN_append:∀(l m:List UInt8),packN (l++m)=packN l+16^l.length*packN m
 | [],m=>by simp [packN]
 | d::l,m=>by
   simp only [List.cons_append,packN,packN_append l m,List.length_cons,Nat.pow_succ];have:16*(16^l.length*packN m)=16^l.length*16*packN m:=by rw [←Nat.mul_assoc,Nat.mul_comm 16]
   omega
theorem packN_take_succ(l:List UInt8)(k:Nat)(h:k<l.length):packN (l.take (k+1))=packN (l.take k)+16^k*l[k].toNat:=by
 rw [List.take_succ_eq_append_getElem h,packN_append];simp [packN,Nat.min_eq_left (Nat.le_of_lt h)]
theorem pow16(k:Nat):16^(k+1)=2^(4+4*k):=by
 rw [show(16:Nat)=2^4 from rfl,←Nat.pow_mul];congr 1;omega
theorem all_take(p:UInt8→Bool)(l:List UInt8)(k:Nat)(h:l.all p=true):(l.take k).all p=true:=by
 rw [List.all_eq_true]at h⊢;exact fun x hx=>h x (List.mem_of_mem_take hx)
theorem all_drop(p:UInt8→Bool)(l:List UInt8)(k:Nat)(h:l.all p=true):(l.drop k).all p=true:=by
 rw [List.all_eq_true]at h⊢;exact fun x hx=>h x (List.mem_of_mem_drop hx)
theorem nib_get{l:List UInt8}{k:Nat}(h:l.all isNib=true)(hk:k<l.length):l[k].toNat<16:=by
 rw [List.all_eq_true]at h;simpa [isNib]using h l[k] (List.getElem_mem hk)
theorem pack_step(l:List UInt8)(n k:Nat)(hn:n≤15)(hk:k<n)(hl:k<l.length)(hnib:l.all isNib=true):
 Value.int IntKind.u64 (bits BinOp.or IntKind.u64 ((n:Int)+16*(packN (l.take k):Int)) (IntKind.u64.wrap (IntKind.u64.wrap (l[k].toNat:Int)*2^(4+4*k))))=
  Value.int IntKind.u64 ((n+16*packN (l.take (k+1)):Nat):Int):=by
 have hd:=nib_get hnib hl;have hp:=packN_lt (l.take k) (all_take _ _ _ hnib);rw [List.length_take,Nat.min_eq_left (by omega)]at hp;have hpow:16^(k+1)≤16^15:=Nat.pow_le_pow_right (by decide) (by omega);have hs:16^(k+1)=16*16^k:=by rw [Nat.pow_succ,Nat.mul_comm]
 have hX:n+16*packN (l.take k)<16^(k+1):=by omega
 have hdm:l[k].toNat*16^(k+1)≤15*16^(k+1):=Nat.mul_le_mul_right _ (by omega);have h15:(16:Nat)^15=1152921504606846976:=by decide
 congr 1;have e1:IntKind.u64.wrap (l[k].toNat:Int)=(l[k].toNat:Int):=IntWalk.u64_in _ (by omega);have e2:(l[k].toNat:Int)*2^(4+4*k)=((l[k].toNat*16^(k+1):Nat):Int):=by rw [pow16];simp
 rw [e1,e2,IntWalk.u64_in _ (by omega)];have e3:(n:Int)+16*(packN (l.take k):Int)=((n+16*packN (l.take k):Nat):Int):=by simp
 rw [e3,u64_or_nat _ _ (by omega) (by omega)];congr 1;rw [packN_take_succ l k hl];rw [pow16]at hX hs⊢;have hor:=Nat.two_pow_add_eq_or_of_lt hX l[k].toNat;rw [Nat.or_comm,Nat.mul_comm,←hor,hs];have:16*16^k*l[k].toNat=16*(16^k*l[k].toNat):=Nat.mul_assoc _ _ _;omega
def digits:Nat→Nat→List UInt8
 | 0,_=>[]
 | k+1,n=>UInt8.ofNat (n%16)::digits k (n/16)
theorem digits_length:∀(k n:Nat),(digits k n).length=k
 | 0,_=>rfl
 | k+1,n=>by simp [digits,digits_length k]
theorem digits_succ:∀(k n:Nat),digits (k+1) n=digits k n++[UInt8.ofNat (n/16^k%16)]
 | 0,n=>by simp [digits]
 | k+1,n=>by
   rw [digits,digits_succ k (n/16),digits,List.cons_append,Nat.div_div_eq_div_mul,Nat.pow_succ,Nat.mul_comm 16]
theorem digits_packN:∀(l:List UInt8),l.all isNib=true→digits l.length (packN l)=l
 | [],_=>rfl
 | d::l,h=>by
   simp only [List.all_cons,Bool.and_eq_true]at h;have hd:d.toNat<16:=by simpa [isNib]using h.1
   rw [List.length_cons,packN,digits,show(d.toNat+16*packN l)/16=packN l by omega,digits_packN l h.2,show(d.toNat+16*packN l)%16=d.toNat by omega];simp
theorem bv_of16(n:Nat):Value.int .u8 ((n:Int)%16)=bv (UInt8.ofNat (n%16)):=by
 simp only [bv,UInt8.toNat_ofNat'];rw [Nat.mod_eq_of_lt (show n%16<2^8 by omega)];simp
theorem digits_store(k n:Nat)(y:Nat)(hk:k<n):
 (((digits k y++List.replicate (n-k) (0:UInt8)).map bv).set k (bv (UInt8.ofNat (y/16^k%16))))=(digits (k+1) y++List.replicate (n- (k+1)) (0:UInt8)).map bv:=by
 rw [digits_succ,←List.map_set,List.set_append_right _ _ (by rw [digits_length];omega),digits_length];obtain⟨r,hr⟩:∃r,n-k=r+1:=⟨n-k-1,by omega⟩;rw [hr,show n- (k+1)=r by omega,List.replicate_succ];simp
def pairs:List UInt8→List UInt8
 | a::b::l=>(a*16+b)::pairs l
 | _=>[]
theorem pairs_length:∀(l:List UInt8),(pairs l).length=l.length/2
 | []=>rfl
 | [_]=>by simp [pairs]
 | a::b::l=>by simp [pairs,pairs_length l];omega
theorem pairs_take':∀(i:Nat)(l:List UInt8)(_:i%2=0)(h:i+1<l.length),pairs (l.take (i+2))=pairs (l.take i)++[l[i]*16+l[i+1]]
 | 0,a::b::l,_,_=>by simp [pairs]
 | 1,_,hi,_=>by simp at hi
 | i+2,a::b::l,hi,h=>by
   have:=pairs_take' i l (by omega) (by simp at h;omega);simp only [List.take_succ_cons,pairs,List.cons_append,List.getElem_cons_succ];rw [this]
 | 0,[],_,h=>by simp at h
 | 0,[_],_,h=>by simp at h
 | i+2,[],_,h=>by simp at h
 | i+2,[_],_,h=>by simp at h
theorem pairs_take(k:Nat)(l:List UInt8)(h:2*k+1<l.length):pairs (l.take (2*(k+1)))=pairs (l.take (2*k))++[l[2*k]*16+l[2*k+1]]:=
 pairs_take' (2*k) l (by omega) h
theorem pairs_take_all(l:List UInt8):pairs (l.take (2*(l.length/2)))=pairs l:=by
 have aux:∀(l:List UInt8),pairs (l.take (2*(l.length/2)))=pairs l:=by
  intro l;induction l using pairs.induct with
  | case1 a b l ih=>
    rw [show 2*((a::b::l).length/2)=2*(l.length/2)+1+1 by simp;omega];simp [pairs,ih]
  | case2 l h=>
    rcases l with _| ⟨a,_| ⟨b,l⟩⟩
    ·rfl
    ·simp [pairs]
    ·exact absurd rfl (h a b l)
 exact aux l
theorem nib_pair(a b:UInt8)(ha:a.toNat<16)(hb:b.toNat<16):(a*16+b)/16=a∧(a*16+b)%16=b:=by
 have h1:(a*16+b).toNat=a.toNat*16+b.toNat:=by simp [UInt8.toNat_add,UInt8.toNat_mul];omega
 constructor
 ·apply UInt8.toNat_inj.1;rw [UInt8.toNat_div,h1];simp;omega
 ·apply UInt8.toNat_inj.1;rw [UInt8.toNat_mod,h1];simp;omega
theorem nibs_pairs:∀(l:List UInt8),l.length%2=0→l.all isNib=true→nibs (pairs l)=l
 | [],_,_=>rfl
 | [_],h,_=>by simp at h
 | a::b::l,h,hn=>by
   simp only [List.all_cons,Bool.and_eq_true]at hn;have ha:a.toNat<16:=by simpa [isNib]using hn.1
   have hb:b.toNat<16:=by simpa [isNib]using hn.2.1
   have:=nibs_pairs l (by simp at h;omega) hn.2.2;simp only [nibs]at this⊢;simp [pairs,this,nib_pair a b ha hb]
theorem nibs_nib(l:List UInt8):(nibs l).all isNib=true:=by
 rw [List.all_eq_true];intro x hx;obtain⟨b,_,hx⟩:=List.mem_flatMap.1 hx;have:=b.toNat_lt;simp only [List.mem_cons,List.not_mem_nil,or_false]at hx;rcases hx with rfl| rfl<;>simp [isNib]<;>omega
theorem pairs_nibs:∀(l:List UInt8),pairs (nibs l)=l
 | []=>rfl
 | a::l=>by
   have:=pairs_nibs l;simp only [nibs]at this;simp only [nibs,List.flatMap_cons,List.cons_append,List.nil_append,pairs,this];congr 1;apply UInt8.toNat_inj.1;have:=a.toNat_lt;simp [UInt8.toNat_add,UInt8.toNat_mul];omega
def keyOk(l:List UInt8):Bool:=decide (l.length%2=0)&&l.all isNib
theorem pairs_store(l:List UInt8)(k h:Nat)(hk:k<h)(hl:2*k+1<l.length)(hh:h=l.length/2):
 (((pairs (l.take (2*k))++List.replicate (h-k) (0:UInt8)).map bv).set k (bv (l[2*k]*16+l[2*k+1])))=(pairs (l.take (2*(k+1)))++List.replicate (h- (k+1)) (0:UInt8)).map bv:=by
 have hlen:(pairs (l.take (2*k))).length=k:=by rw [pairs_length,List.length_take];omega
 rw [pairs_take k l hl,←List.map_set,List.set_append_right _ _ (by omega),hlen];obtain⟨r,hr⟩:∃r,h-k=r+1:=⟨h-k-1,by omega⟩;rw [hr,show h- (k+1)=r by omega,List.replicate_succ];simp
theorem bv_pair(a b:UInt8):Value.int .u8 (((a.toNat:Int)*16+(b.toNat:Int))%256)=bv (a*16+b):=by
 simp only [bv,UInt8.toNat_add,UInt8.toNat_mul];congr 1;have h1:=a.toNat_lt;have h2:=b.toNat_lt;simp
theorem packN_le(l:List UInt8)(k:Nat)(hk:l.length≤k)(h:l.all isNib=true):packN l<16^k:=
 Nat.lt_of_lt_of_le (packN_lt l h) (Nat.pow_le_pow_right (by decide) hk)
theorem nat_pow_16_15:(16:Nat)^15=1152921504606846976:=by decide
theorem keyOk_nibs(l:List UInt8):keyOk (nibs l)=true:=by
 simp only [keyOk,nibs_length,nibs_nib,Bool.and_true,decide_eq_true_eq];omega
theorem unpack_pack(l:List UInt8)(h15:l.length≤15)(h:l.all isNib=true):
 (l.length+16*packN l)%16=l.length∧(l.length+16*packN l)/16=packN l∧packN l/16^l.length=0∧digits l.length (packN l)=l∧l.length+16*packN l<18446744073709551616:=by
 have h1:=packN_lt l h;have h2:=packN_le l 15 h15 h;rw [nat_pow_16_15]at h2;exact⟨by omega,by omega,Nat.div_eq_of_lt h1,digits_packN l h,by omega⟩
theorem byte_of_halves{a b:UInt8}(h1:a/16=b/16)(h2:a%16=b%16):a=b:=by
 apply UInt8.toNat_inj.1;have e1:=congrArg UInt8.toNat h1;have e2:=congrArg UInt8.toNat h2;simp at e1 e2;omega
theorem nibs_cons(a:UInt8)(l:List UInt8):nibs (a::l)=a/16::a%16::nibs l:=rfl
theorem nibs_nil:nibs []=[]:=rfl
theorem common_nibs:∀(a b:List UInt8),common (nibs a) (nibs b)=2*common a b∨common (nibs a) (nibs b)=2*common a b+1
 | [],_=>by simp [nibs_nil,common]
 | a::as,[]=>by simp [nibs_cons,nibs_nil,common]
 | a::as,b::bs=>by
   have ih:=common_nibs as bs;simp only [nibs_cons,common];by_cases h1:a/16=b/16
   ·by_cases h2:a%16=b%16
    ·have e:=byte_of_halves h1 h2;subst e;simp only [if_true];omega
    ·have e:a≠b:=fun e=>h2 (by rw [e])
     rw [if_pos h1,if_neg h2,if_neg e];omega
   ·have e:a≠b:=fun e=>h1 (by rw [e])
    rw [if_neg h1,if_neg e];omega
theorem common_append:∀(a b:List UInt8),common a (a++b)=a.length
 | [],_=>by simp [common]
 | a::as,b=>by simp [common,common_append as b]
theorem common_take:∀(a b:List UInt8),a.take (common a b)=b.take (common a b)
 | [],_=>by simp [common]
 | _::_,[]=>by simp [common]
 | a::as,b::bs=>by
   simp only [common];by_cases h:a=b
   ·rw [if_pos h,List.take_succ_cons,List.take_succ_cons,h,common_take as bs]
   ·rw [if_neg h];rfl
theorem common_stop:∀(a b:List UInt8)(h1:common a b<a.length)(h2:common a b<b.length),a[common a b]≠b[common a b]
 | [],_,h1,_=>by simp at h1
 | _::_,[],_,h2=>by simp at h2
 | a::as,b::bs,h1,h2=>by
   by_cases h:a=b
   ·have e:common (a::as) (b::bs)=common as bs+1:=by simp [common,h]
    have h1':common as bs<as.length:=by simp [e]at h1;exact h1
    have h2':common as bs<bs.length:=by simp [e]at h2;exact h2
    have ih:=common_stop as bs h1' h2';simp only [e,List.getElem_cons_succ];exact ih
   ·have e:common (a::as) (b::bs)=0:=by simp [common,h]
    simp only [e,List.getElem_cons_zero];exact h
def leB(x:UInt64)(i:Nat):UInt8:=UInt8.ofNat (x.toNat/256^i%256)
theorem leB_toNat(x:UInt64)(i:Nat):(leB x i).toNat=x.toNat/256^i%256:=by
 unfold leB;rw [UInt8.toNat_ofNat'];exact Nat.mod_eq_of_lt (Nat.mod_lt _ (by decide))
def leWord(x:UInt64):List UInt8:=(List.range 8).map (leB x)
theorem leWord_length(x:UInt64):(leWord x).length=8:=by simp [leWord]
theorem leWord_get(x:UInt64)(i:Nat)(h:i<8):(leWord x)[i]? =some (leB x i):=by simp [leWord,h]
def leBytes:List UInt64→List UInt8
 | []=>[]
 | x::l=>leWord x++leBytes l
theorem leBytes_length:∀l:List UInt64,(leBytes l).length=8*l.length
 | []=>rfl
 | x::l=>by rw [leBytes,List.length_append,leWord_length,leBytes_length l,List.length_cons];omega
theorem leBytes_get:∀(l:List UInt64)(k i:Nat)(hk:k<l.length)(_:i<8),(leBytes l)[8*k+i]? =some (leB l[k] i)
 | [],_,_,hk,_=>by simp at hk
 | x::l,0,i,_,hi=>by
   rw [leBytes,List.getElem?_append_left (by rw [leWord_length];omega)];simpa using leWord_get x i hi
 | x::l,k+1,i,hk,hi=>by
   rw [leBytes,List.getElem?_append_right (by rw [leWord_length];omega),leWord_length,show 8*(k+1)+i-8=8*k+i by omega];exact leBytes_get l k i (by simpa using hk) hi
theorem le_step(x:UInt64)(i:Nat):x.toNat%256^i+(leB x i).toNat*256^i=x.toNat%256^(i+1):=by
 rw [leB_toNat,Nat.pow_succ,Nat.mod_mul];rw [Nat.mul_comm]
theorem le_all(x:UInt64):x.toNat%256^8=x.toNat:=Nat.mod_eq_of_lt (by have:=x.toNat_lt;simpa using this)
def mixW(l:List UInt64)(k:Nat)(n:UInt64)(i:Nat):List UInt8:=(leBytes l).mapIdx fun j b=>if 8*k≤j∧j<8*k+i then leB n (j-8*k)else b
theorem mixW_length(l:List UInt64)(k:Nat)(n:UInt64)(i:Nat):(mixW l k n i).length=8*l.length:=by simp [mixW,leBytes_length]
theorem mixW_zero(l:List UInt64)(k:Nat)(n:UInt64):mixW l k n 0=leBytes l:=by
 apply List.ext_getElem?;intro j;simp only [mixW,List.getElem?_mapIdx];cases(leBytes l)[j]? with
 | none=>rfl
 | some b=>rw [Option.map_some,if_neg (by omega)]
theorem mixW_succ(l:List UInt64)(k:Nat)(n:UInt64)(i:Nat)(hk:k<l.length)(hi:i<8):(mixW l k n i).set (8*k+i) (leB n i)=mixW l k n (i+1):=by
 apply List.ext_getElem?;intro j;rw [List.getElem?_set];by_cases hj:8*k+i=j
 ·subst hj;rw [if_pos rfl,if_pos (by rw [mixW_length];omega)];simp only [mixW,List.getElem?_mapIdx,leBytes_get l k i hk hi,Option.map_some];rw [if_pos (by omega),show 8*k+i-8*k=i by omega]
 ·rw [if_neg hj];simp only [mixW,List.getElem?_mapIdx];cases(leBytes l)[j]? with
  | none=>rfl
  | some b=>
    simp only [Option.map_some];by_cases h1:8*k≤j∧j<8*k+i
    ·rw [if_pos h1,if_pos (by omega)]
    ·rw [if_neg h1,if_neg (by omega)]
theorem leBytes_set(l:List UInt64)(k:Nat)(n:UInt64)(_:k<l.length):mixW l k n 8=leBytes (l.set k n):=by
 apply List.ext_getElem?;intro j;by_cases hj:j<8*l.length
 ·have e:j=8*(j/8)+j%8:=by omega
  have h1:j/8<l.length:=by omega
  have h2:j%8<8:=Nat.mod_lt _ (by decide);have a1:=leBytes_get l (j/8) (j%8) h1 h2;have a2:=leBytes_get (l.set k n) (j/8) (j%8) (by simpa using h1) h2;rw [←e]at a1 a2;simp only [mixW,List.getElem?_mapIdx,a1,a2,Option.map_some];rw [List.getElem_set];by_cases hkj:k=j/8
  ·rw [if_pos (by omega),if_pos hkj,show j-8*k=j%8 by omega]
  ·rw [if_neg (by omega),if_neg hkj]
 ·rw [List.getElem?_eq_none (by rw [mixW_length];omega),List.getElem?_eq_none (by rw [leBytes_length,List.length_set];omega)]
def ones64:Nat:=2^64-1
def fieldN(n low size:Nat):Nat:=n/2^low%2^size
def withB(n low size v:Nat):Nat:=(n&&&(ones64- (2^size-1)*2^low))||| ((v&&&(2^size-1))*2^low)
def lowN(n many:Nat):Option Nat:=(List.range many).find? fun i=> !n.testBit i
def foursN:List Nat:=[0x00000000,0x105ec76f,0x20bd8ede,0x30e349b1,0x417b1dbc,0x5125dad3,0x61c69362,0x7198540d,0x82f63b78,0x92a8fc17,0xa24bb5a6,0xb21572c9,0xc38d26c4,0xd3d3e1ab,0xe330a81a,0xf36e6f75]
def crcStep(x:Nat):Nat:=(x/16)^^^foursN.getD (x%16) 0
def crcByte(x c:Nat):Nat:=crcStep (crcStep (x^^^c))
def crcNext(sum:Nat)(l:List UInt8):Nat:=(l.foldl (fun x c=>crcByte x c.toNat) (sum^^^4294967295))^^^4294967295
structure Sh where
 lines:Nat
 slabs:Nat
 table:Nat
 data:Nat
 deriving DecidableEq
def aheadN(slabs:Nat):Nat:=2+(slabs+7)/8
def needN(slabs:Nat):Nat:=aheadN slabs+16*slabs
def slabsGo(lines:Nat):Nat→Nat→Nat
 | 0,s=>s
 | f+1,s=>if needN (s+1)≤lines then slabsGo lines f (s+1)else s
def slabsN(lines:Nat):Nat:=slabsGo lines lines 0
def shapeOf(lines:Nat):Option Sh:=
 if lines>1024 then none else
 let s:=slabsN lines
 if s=0 then none else some {lines:=lines,slabs:=s,table:=128,data:=aheadN s*64}
def headW(s:Sh):List UInt64:=[0x6c6c697473,1,UInt64.ofNat s.lines,UInt64.ofNat s.slabs,UInt64.ofNat s.table,UInt64.ofNat s.data]
def wordsOf(s:Sh):List UInt64:=headW s++[UInt64.ofNat (crcNext 0 (leBytes (headW s))),0]
def blocksN:Nat→Nat
 | 1=>16
 | 2=>4
 | _=>0
def linesN:Nat→Nat
 | 1=>1
 | 2=>4
 | _=>0
def kindN(w:Nat):Nat:=fieldN w 16 2
def takenN(w:Nat):Nat:=fieldN w 0 16
def rightW(w:Nat):Bool:=w==0|| (fieldN w 0 (blocksN (kindN w))!=0&&withB (withB w 0 (blocksN (kindN w)) 0) 16 2 0==0)
def classW(w:Nat):Nat:=if rightW w then kindN w else 0
def hasW(w:Nat)(at_:Nat):Bool:=decide (at_<blocksN (classW w))&&fieldN w at_ 1==1
def listW(w:Nat):List Nat:=(List.range (blocksN (classW w))).filter (hasW w)
def meetsW(w c:Nat):Bool:=rightW w&&decide (0<blocksN c)&&(w==0|| kindN w==c)
def nextW(w c:Nat):Option Nat:=if meetsW w c then lowN (takenN w) (blocksN c)else none
def takeW(w c at_:Nat):Nat×Bool:=if !meetsW w c|| decide (blocksN c≤at_)|| hasW w at_ then(w,false)else(withB (withB w at_ 1 1) 16 2 c,true)
def dropW(w at_:Nat):Nat×Bool:=if !hasW w at_ then(w,false)else if takenN (withB w at_ 1 0)=0 then(0,true)else(withB w at_ 1 0,true)
structure Nd where
 pre:List UInt8
 val:UInt64
 labels:List UInt8
 kids:List UInt64
def risingB:List UInt8→Bool
 | a::b::l=>decide (a.toNat<b.toNat)&&risingB (b::l)
 | _=>true
theorem rising_iff:∀(l:List UInt8),risingB l=true↔∀i(h:i+1<l.length),l[i].toNat<l[i+1].toNat
 | []=>by simp [risingB]
 | [_]=>by simp [risingB]
 | a::b::l=>by
   have ih:=rising_iff (b::l);simp only [risingB,Bool.and_eq_true,decide_eq_true_eq,ih];constructor
   ·rintro⟨h1,h2⟩i hi;rcases i with _| i
    ·simpa using h1
    ·exact h2 i (by simpa using hi)
   ·intro h;exact⟨by simpa using h 0 (by simp),fun i hi=>h (i+1) (by simpa using hi)⟩
theorem rising_take_succ(l:List UInt8)(k:Nat)(hk:k<l.length)(h:risingB (l.take k)=true)(hlt:∀j,k=j+1→(h:j<l.length)→l[j].toNat<l[k].toNat):risingB (l.take (k+1))=true:=by
 rw [rising_iff]at h⊢;intro i hi;simp only [List.length_take]at hi;simp only [List.getElem_take];by_cases e:i+1=k
 ·subst e;exact hlt i rfl (by omega)
 ·have:=h i (by simp;omega);simpa using this
theorem rising_step(l:List UInt8)(j:Nat)(hq:j+1<l.length)(h:risingB (l.take (j+1))=true)(hr:l[j].toNat<l[j+1].toNat):risingB (l.take (j+1+1))=true:=
 rising_take_succ l (j+1) hq h (fun j' hj' _=>by cases hj';exact hr)
def rightB(x:Nd):Bool:=
 decide (x.pre.length≤15)&&x.pre.all isNib&&decide (x.labels.length=x.kids.length)&&x.labels.all isNib&&risingB x.labels&&x.kids.all (fun k=>k.toNat !=0)
theorem rightB_iff(x:Nd):rightB x=true↔x.pre.length≤15∧x.pre.all isNib=true∧x.labels.length=x.kids.length∧x.labels.all isNib=true∧risingB x.labels=true∧∀i(h:i<x.kids.length),x.kids[i].toNat≠0:=by
 simp only [rightB,Bool.and_eq_true,decide_eq_true_eq,and_assoc,List.all_eq_true (p:=fun k:UInt64=>k.toNat !=0),bne_iff_ne,ne_eq];constructor
 ·rintro⟨h1,h2,h3,h4,h5,h6⟩;exact⟨h1,h2,h3,h4,h5,fun i hi=>h6 _ (List.getElem_mem hi)⟩
 ·rintro⟨h1,h2,h3,h4,h5,h6⟩;refine⟨h1,h2,h3,h4,h5,fun k hk=> ?_⟩;obtain⟨i,hi,rfl⟩:=List.getElem_of_mem hk;exact h6 i hi
theorem right_no_nib(x:Nd)(k:Nat)(hk:k<x.labels.length)(h:¬x.labels[k].toNat<16):rightB x=false:=by
 cases hr:rightB x with
 | false=>rfl
 | true=>
   have:=((rightB_iff x).1 hr).2.2.2.1;exact absurd (nib_get this hk) h
theorem right_no_rise(x:Nd)(j:Nat)(hj:j+1<x.labels.length)(h:¬x.labels[j].toNat<x.labels[j+1].toNat):rightB x=false:=by
 cases hr:rightB x with
 | false=>rfl
 | true=>
   have:=((rightB_iff x).1 hr).2.2.2.2.1;exact absurd ((rising_iff _).1 this j hj) h
theorem right_no_pre(x:Nd)(h:¬(x.pre.length≤15∧x.pre.all isNib=true)):rightB x=false:=by
 cases hr:rightB x with
 | false=>rfl
 | true=>exact absurd ⟨((rightB_iff x).1 hr).1,((rightB_iff x).1 hr).2.1⟩ h
theorem right_no_len(x:Nd)(h:x.labels.length≠x.kids.length):rightB x=false:=by
 cases hr:rightB x with
 | false=>rfl
 | true=>exact absurd ((rightB_iff x).1 hr).2.2.1 h
theorem right_rest(x:Nd)(h1:x.pre.length≤15)(h2:x.pre.all isNib=true)(h3:x.labels.length=x.kids.length)(h4:x.labels.all isNib=true)(h5:risingB x.labels=true):
 rightB x= !(x.kids.any fun y=>y.toNat==0):=by
 rw [Bool.eq_iff_iff,rightB_iff];simp only [Bool.not_eq_true',List.any_eq_false,beq_iff_eq];constructor
 ·rintro⟨_,_,_,_,_,h⟩k hk;obtain⟨i,hi,rfl⟩:=List.getElem_of_mem hk;exact h i hi
 ·intro h;exact⟨h1,h2,h3,h4,h5,fun i hi=>h _ (List.getElem_mem hi)⟩
def classN(x:Nd):Nat:=if x.kids.length≤4 then 1 else 2
def placeOf{α:Type}(p:α→Bool)(l:List α):Int:=match l.findIdx? p with| some i=>(i:Int)| none=> -1
theorem placeOf_hit{α:Type}(p:α→Bool)(l:List α)(k:Nat)(hk:k<l.length)(hno:∀j(h:j<k),p (l[j]'(by omega))=false)(hp:p l[k]=true):placeOf p l=(k:Int):=by
 have:l.findIdx? p=some k:=by
  rw [List.findIdx?_eq_some_iff_getElem];exact⟨hk,hp,fun j hj=>by simp [hno j hj]⟩
 simp [placeOf,this]
theorem placeOf_miss{α:Type}(p:α→Bool)(l:List α)(hno:∀j(h:j<l.length),p l[j]=false):placeOf p l= -1:=by
 have:l.findIdx? p=none:=by
  rw [List.findIdx?_eq_none_iff];intro x hx;obtain⟨i,hi,rfl⟩:=List.getElem_of_mem hx;exact hno i hi
 simp [placeOf,this]
def packU(l:List UInt8):UInt64:=UInt64.ofNat (l.length+16*packN l)
def putKids:List UInt64→List UInt8→List UInt64→List UInt64
 | row,a::as,k::ks=>putKids (row.set (4+a.toNat) k) as ks
 | row,_,_=>row
theorem putKids_length:∀(row:List UInt64)(as:List UInt8)(ks:List UInt64),(putKids row as ks).length=row.length
 | row,a::as,k::ks=>by rw [putKids,putKids_length];simp
 | row,[],_=>by simp [putKids]
 | row,_::_,[]=>by simp [putKids]
theorem putKids_take_succ:∀(row:List UInt64)(as:List UInt8)(ks:List UInt64)(i:Nat)(h1:i<as.length)(h2:i<ks.length),
 putKids row (as.take (i+1)) (ks.take (i+1))=(putKids row (as.take i) (ks.take i)).set (4+as[i].toNat) ks[i]
 | row,a::as,k::ks,0,_,_=>by simp [putKids]
 | row,a::as,k::ks,i+1,h1,h2=>by
   have:=putKids_take_succ (row.set (4+a.toNat) k) as ks i (by simpa using h1) (by simpa using h2);simpa [putKids]using this
 | _,[],_,_,h1,_=>by simp at h1
 | _,_::_,[],_,_,h2=>by simp at h2
def encS(x:Nd):List UInt64:=[UInt64.ofNat (1+256*x.kids.length),packU x.pre,x.val,packU x.labels]++x.kids++List.replicate (4-x.kids.length) 0
def headB(x:Nd):List UInt64:=[UInt64.ofNat (2+256*x.kids.length),packU x.pre,x.val]++List.replicate 29 0
def encB(x:Nd):List UInt64:=putKids (headB x) x.labels x.kids
def encW(x:Nd):List UInt64:=if x.kids.length≤4 then encS x else encB x
theorem encS_length(x:Nd)(h:x.kids.length≤4):(encS x).length=8:=by simp [encS];omega
theorem encB_length(x:Nd):(encB x).length=32:=by simp [encB,putKids_length,headB]
theorem encW_length(x:Nd):(encW x).length=if x.kids.length≤4 then 8 else 32:=by
 unfold encW;split
 ·rename_i h;exact encS_length x h
 ·exact encB_length x
def candS(u:Nat)(tail:List UInt64):List UInt8×List UInt64:=
 if u/16/16^(u%16)=0∧u%16≤4 then(digits (u%16) (u/16),tail.take (u%16))else([],[])
def collB:Nat→List UInt64→List UInt8
 | _,[]=>[]
 | i,k::t=>if k.toNat=0 then collB (i+1) t else UInt8.ofNat i::collB (i+1) t
def collK(t:List UInt64):List UInt64:=t.filter fun k=>k.toNat !=0
theorem collB_snoc:∀(i:Nat)(t:List UInt64)(x:UInt64),collB i (t++[x])=collB i t++(if x.toNat=0 then []else [UInt8.ofNat (i+t.length)])
 | i,[],x=>by simp only [List.nil_append,collB];split<;>simp
 | i,k::t,x=>by
   have:=collB_snoc (i+1) t x;simp only [List.cons_append,collB,this,List.length_cons];rw [show i+1+t.length=i+(t.length+1)by omega];split<;>simp
theorem collK_snoc(t:List UInt64)(x:UInt64):collK (t++[x])=collK t++(if x.toNat=0 then []else [x]):=by
 simp only [collK,List.filter_append,List.filter_cons,List.filter_nil];by_cases h:x.toNat=0<;>simp [h]
theorem coll_length:∀(i:Nat)(t:List UInt64),(collB i t).length=(collK t).length
 | _,[]=>rfl
 | i,k::t=>by
   have:=coll_length (i+1) t;simp only [collB,collK,List.filter_cons]at this⊢;by_cases h:k.toNat=0<;>simp [h,this]
theorem collK_le(t:List UInt64):(collK t).length≤t.length:=List.length_filter_le _ _
def candP(u:Nat):List UInt8:=if u/16/16^(u%16)=0 then digits (u%16) (u/16)else []
def cand8(l:List UInt64):Nd:=
 {pre:=candP (l.getD 1 0).toNat,val:=l.getD 2 0,labels:=(candS (l.getD 3 0).toNat (l.drop 4)).1,kids:=(candS (l.getD 3 0).toNat (l.drop 4)).2}
def cand32(l:List UInt64):Nd:=
 {pre:=candP (l.getD 1 0).toNat,val:=l.getD 2 0,labels:=collB 0 ((l.drop 4).take 16),kids:=collK ((l.drop 4).take 16)}
def cand(l:List UInt64):Nd:=if l.length=8 then cand8 l else cand32 l
def decOk(l:List UInt64):Bool:=(decide (l.length=8)|| decide (l.length=32))&&(rightB (cand l)&&decide (encW (cand l)=l))
theorem candP_len(u:Nat):(candP u).length≤15:=by
 unfold candP;split
 ·rw [digits_length];omega
 ·simp
theorem rightB_val(x:Nd)(v:UInt64):rightB {x with val:=v}=rightB x:=rfl
theorem putKids_get2:∀(row row':List UInt64)(as:List UInt8)(ks:List UInt64)(i:Nat),row.length=row'.length→(∀j,j≠2→row[j]? =row'[j]?)→i≠2→(putKids row as ks)[i]? =(putKids row' as ks)[i]?
 | row,row',a::as,k::ks,i,hl,h,hi=>by
   simp only [putKids];refine putKids_get2 _ _ as ks i (by simp [hl]) (fun j hj=> ?_) hi;rw [List.getElem?_set,List.getElem?_set,h j hj,hl]
 | row,row',[],_,i,_,h,hi=>by simp only [putKids];exact h i hi
 | row,row',_::_,[],i,_,h,hi=>by simp only [putKids];exact h i hi
theorem putKids_at2:∀(row:List UInt64)(as:List UInt8)(ks:List UInt64),(putKids row as ks)[2]? =row[2]?
 | row,a::as,k::ks=>by
   simp only [putKids];rw [putKids_at2,List.getElem?_set];simp;omega
 | row,[],_=>by simp [putKids]
 | row,_::_,[]=>by simp [putKids]
theorem encW_val(x:Nd)(v:UInt64)(i:Nat)(hi:i≠2):(encW {x with val:=v})[i]? =(encW x)[i]? :=by
 unfold encW;by_cases h:x.kids.length≤4
 ·simp only [if_pos h,encS];rcases i with _| _| _| i
  ·rfl
  ·rfl
  ·exact absurd rfl hi
  ·simp
 ·simp only [if_neg h,encB];refine putKids_get2 _ _ _ _ i (by simp [headB]) (fun j hj=> ?_) hi;rcases j with _| _| _| j
  ·rfl
  ·rfl
  ·exact absurd rfl hj
  ·simp [headB]
theorem encW_at2(x:Nd):(encW x)[2]? =some x.val:=by
 unfold encW;split
 ·simp [encS]
 ·rw [encB,putKids_at2];simp [headB]
def putWs(ws:Nat→UInt64)(j:Nat)(xs:List UInt64)(i:Nat):UInt64:=if j≤i∧i<j+xs.length then xs.getD (i-j) 0 else ws i
def put1(ws:Nat→UInt64)(j:Nat)(x:UInt64)(i:Nat):UInt64:=if i=j then x else ws i
def wordsAt(ws:Nat→UInt64)(j n:Nat):List UInt64:=(List.range n).map fun t=>ws (j+t)
structure St where
 sh:Sh
 ws:Nat→UInt64
 tk:List UInt64
 hd:List UInt64
def tkN(s:St)(i:Nat):Nat:=(s.tk.getD i 0).toNat
def hdN(s:St)(i:Nat):Nat:=(s.hd.getD i 0).toNat
def bothN(s:St)(i:Nat):Nat:=tkN s i||| hdN s i
def placeN(sh:Sh)(i c a:Nat):Nat:=sh.data+1024*i+64*linesN c*a
def findP(s:St)(off:Int):Option (Nat×Nat):=
 if off<(s.sh.data:Int)∨(s.sh.data+1024*s.tk.length:Nat)≤off then none else
 if linesN (classW (bothN s ((off.toNat-s.sh.data)/1024)))=0∨(off.toNat-s.sh.data)%1024%(64*linesN (classW (bothN s ((off.toNat-s.sh.data)/1024))))≠0 then none else
 some ((off.toNat-s.sh.data)/1024,(off.toNat-s.sh.data)%1024/(64*linesN (classW (bothN s ((off.toNat-s.sh.data)/1024)))))
def classP(s:St)(off:Int):Nat:=
 match findP s off with
 | none=>0
 | some (i,a)=>if hasW (tkN s i) a then classW (tkN s i)else 0
def firstP(s:St)(k c:Nat):Option Nat:=(List.range s.tk.length).find? fun i=>decide (classW (bothN s i)=k)&&(nextW (bothN s i) c).isSome
def slabFor(s:St)(c:Nat):Option Nat:=match firstP s c c with| some i=>some i| none=>firstP s 0 c
def reserveP(s:St)(c:Nat):Option (Nat×St):=
 match slabFor s c with
 | none=>none
 | some i=>match nextW (bothN s i) c with
   | none=>none
   | some a=>some (placeN s.sh i c a,{s with hd:=s.hd.set i (UInt64.ofNat (takeW (hdN s i) c a).1)})
def putP(s:St)(i:Nat)(x:UInt64):St:={s with ws:=put1 s.ws (s.sh.table/8+i) x,tk:=s.tk.set i x}
def takeP(s:St)(off:Int):St×Int:=
 match findP s off with
 | none=>(s,7)
 | some (i,a)=>if hasW (hdN s i) a then
  ({putP s i (UInt64.ofNat (takeW (tkN s i) (classW (hdN s i)) a).1)with hd:=s.hd.set i (UInt64.ofNat (dropW (hdN s i) a).1)},0)
   else(s,7)
def dropP(s:St)(off:Int):St×Int:=
 match findP s off with
 | none=>(s,7)
 | some (i,a)=>
   if(dropW (hdN s i) a).2 then({s with hd:=s.hd.set i (UInt64.ofNat (dropW (hdN s i) a).1)},0)
   else if(dropW (tkN s i) a).2 then(putP s i (UInt64.ofNat (dropW (tkN s i) a).1),0)
   else(s,7)
def allP(s:St):List Nat:=(List.range s.tk.length).flatMap fun i=>(listW (tkN s i)).map fun a=>placeN s.sh i (classW (tkN s i)) a
def formatW(sh:Sh):Nat→UInt64:=putWs (fun _=>0) 0 (wordsOf sh)
def offOf(x:UInt64):Int:=IntKind.i64.wrap (x.toNat:Int)
def readP(s:St)(name:UInt64):Option Nd:=
 if linesN (classP s (offOf name))=0 then none else
 if decOk (wordsAt s.ws ((offOf name).toNat/8) (8*linesN (classP s (offOf name))))then some (cand (wordsAt s.ws ((offOf name).toNat/8) (8*linesN (classP s (offOf name)))))else none
structure Pl where
 nd:Nd
 off:Int
 label:UInt8
 word:Int
def findLb(l:List UInt8)(x:UInt8):Option Nat:=l.findIdx? fun y=>y.toNat==x.toNat
def kidP(x:Nd)(label:UInt8):Option (UInt64×Nat):=
 match findLb x.labels label with
 | some i=>if rightB x then some (x.kids.getD i 0,if x.kids.length≤4 then 4+i else 4+label.toNat)else none
 | none=>none
def pathGo(s:St):Nat→UInt64→List UInt8→UInt8→Int→List Pl→Option (List Pl×List UInt8)
 | 0,_,rest,_,_,way=>some (way,rest)
 | f+1,name,rest,label,word,way=>
   if name=0 then some (way,rest)else
   match readP s name with
   | none=>none
   | some x=>
     if common x.pre rest<x.pre.length∨common x.pre rest=rest.length then some (way++[⟨x,offOf name,label,word⟩],rest)else
     match kidP x (rest.getD (common x.pre rest) 0)with
     | none=>some (way++[⟨x,offOf name,label,word⟩],rest)
     | some (kid,number)=>pathGo s f kid (rest.drop (common x.pre rest+1)) (rest.getD (common x.pre rest) 0) (offOf name+8*number) (way++[⟨x,offOf name,label,word⟩])
def pathP(s:St)(key:List UInt8):Option (List Pl×List UInt8):=pathGo s (2*key.length+1) (s.ws 9) (nibs key) 0 72 []
def standsP(way:List Pl)(rest:List UInt8):Option Pl:=
 match way.getLast? with
 | none=>none
 | some last=>if last.nd.pre=rest then some last else none
def getP(s:St)(key:List UInt8):UInt64×Int:=
 if 16<key.length then(0,3)else
 match pathP s key with
 | none=>(0,5)
 | some (way,rest)=>match standsP way rest with
   | none=>(0,7)
   | some last=>if last.nd.val=0 then(0,7)else(last.nd.val,0)
structure Jb where
 s:St
 made:List Int
def buildP(j:Jb)(n:Nd):Jb×UInt64×Int:=
 if !rightB n then(j,0,5)else
 match reserveP j.s (classN n)with
 | none=>(j,0,6)
 | some (off,s1)=>
   match takeP {s1 with ws:=putWs s1.ws (off/8) (encW n)} off with
   | (s2,e)=>if e=0 then(⟨s2,j.made++[(off:Int)]⟩,UInt64.ofNat off,0)else(⟨s2,j.made++[(off:Int)]⟩,0,e)
def hasLb(l:List UInt8)(x:UInt8):Bool:=l.any fun y=>y.toNat==x.toNat
def withOkP(x:Nd)(label:UInt8)(kid:UInt64):Bool:=rightB x&&decide (label.toNat<16)&& !(kid.toNat==0)&& !hasLb x.labels label
def insP{α:Type}(xs:List α)(i:Nat)(u:α):List α:=xs.take i++u::xs.drop i
def delP{α:Type}(xs:List α)(i:Nat):List α:=xs.take i++xs.drop (i+1)
def placeSP(l:List UInt8)(x:UInt8):Nat:=l.countP fun y=>decide (y.toNat<x.toNat)
def withP(x:Nd)(label:UInt8)(kid:UInt64):Nd:={pre:=x.pre,val:=x.val,labels:=insP x.labels (placeSP x.labels label) label,kids:=insP x.kids (placeSP x.labels label) kid}
def outP(x:Nd)(i:Nat):Nd:={pre:=x.pre,val:=x.val,labels:=delP x.labels i,kids:=delP x.kids i}
def aboveP(j:Jb)(n:Nd)(label:UInt8)(kid:UInt64)(e:Int):Jb×UInt64×Int:=
 if e≠0 then(j,0,e)else
 if withOkP n label kid then buildP j (withP n label kid)else(j,0,5)
def leafP:Nat→Jb→List UInt8→UInt64→Jb×UInt64×Int
 | 0,j,_,_=>(j,0,5)
 | f+1,j,l,value=>
   if l.length≤15 then buildP j ⟨l,value,[],[]⟩else
   match leafP f j (l.drop 16) value with
   | (j1,kid,e)=>aboveP j1 ⟨l.take 15,0,[],[]⟩ (l.getD 15 0) kid e
def growP(j:Jb)(x:Nd)(rest:List UInt8)(value:UInt64):Jb×UInt64×Int:=
 if common x.pre rest=x.pre.length then
  match leafP (rest.length+1) j (rest.drop (common x.pre rest+1)) value with
  | (j1,kid,e)=>aboveP j1 x (rest.getD (common x.pre rest) 0) kid e
 else
  match buildP j {x with pre:=x.pre.drop (common x.pre rest+1)}with
  | (j1,kid,e)=>
    if common x.pre rest=rest.length then aboveP j1 ⟨x.pre.take (common x.pre rest),value,[],[]⟩ (x.pre.getD (common x.pre rest) 0) kid e else
    if e≠0 then(j1,0,e)else
    if withOkP ⟨x.pre.take (common x.pre rest),0,[],[]⟩ (x.pre.getD (common x.pre rest) 0) kid then
     match leafP (rest.length+1) j1 (rest.drop (common x.pre rest+1)) value with
     | (j2,kid2,e2)=>aboveP j2 (withP ⟨x.pre.take (common x.pre rest),0,[],[]⟩ (x.pre.getD (common x.pre rest) 0) kid) (rest.getD (common x.pre rest) 0) kid2 e2
    else(j1,0,5)
def dropsP(s:St)(l:List Int):St:=l.foldl (fun s off=>(dropP s off).1) s
def dropsE:St→List Int→Int→St×Int
 | s,[],e=>(s,e)
 | s,off::l,e=>dropsE (dropP s off).1 l (if e=0 then(dropP s off).2 else e)
def finishP(j:Jb)(e:Int)(word:Int)(name:UInt64)(old:List Int):St×Int:=
 if e≠0 then(dropsP j.s j.made,e)else dropsE {j.s with ws:=put1 j.s.ws (word.toNat/8) name} old 0
def valueP(s:St)(at_:Pl)(n:UInt64):St:={s with ws:=put1 s.ws (at_.off.toNat/8+2) n}
def putK(s:St)(key:List UInt8)(value:UInt64):St×Int:=
 if 16<key.length then(s,3)else if value=0 then(s,2)else
 match pathP s key with
 | none=>(s,5)
 | some (way,rest)=>match standsP way rest with
   | some last=>(valueP s last value,0)
   | none=>match way.getLast? with
     | none=>match leafP (rest.length+1) ⟨s,[]⟩ rest value with
       | (j,name,e)=>finishP j e 72 name []
     | some last=>match growP ⟨s,[]⟩ last.nd rest value with
       | (j,name,e)=>finishP j e last.word name [last.off]
def pruneGo(way:List Pl):Nat→List Int→Nat×List Int
 | 0,old=>(0,old)
 | a+1,old=>match way[a]?,way[a+1]? with
   | some up,some _=>if up.nd.val=0∧up.nd.kids.length=1 then pruneGo way a (old++[up.off])else(a+1,old)
   | _,_=>(a+1,old)
def pruneP(j:Jb)(way:List Pl):St×Int:=
 match pruneGo way (way.length-1) [(way.getLast?.map (·.off)).getD 0]with
 | (0,old)=>finishP j 0 72 0 old
 | (a+1,old)=>match way[a]?,way[a+1]? with
   | some up,some at_=>match findLb up.nd.labels at_.label with
     | some i=>if rightB up.nd then match buildP j (outP up.nd i)with
      | (j1,name,e)=>finishP j1 e up.word name (old++[up.off])
       else(j.s,5)
     | none=>(j.s,5)
   | _,_=>(j.s,5)
def cutK(s:St)(key:List UInt8):St×UInt64×Int:=
 if 16<key.length then(s,0,3)else
 match pathP s key with
 | none=>(s,0,5)
 | some (way,rest)=>match standsP way rest with
   | none=>(s,0,7)
   | some last=>if last.nd.val=0 then(s,0,7)else
     match(if last.nd.kids.length=0 then pruneP ⟨s,[]⟩ way else(s,6))with
     | (s1,e)=>if e=6 then(valueP s1 last 0,last.nd.val,0)else if e=0 then(s1,last.nd.val,0)else(s1,0,e)
def visitP(s:St):Nat→UInt64→List UInt8→List (List UInt8×UInt64)×List Int→Option (List (List UInt8×UInt64)×List Int)
 | 0,_,_,_=>none
 | f+1,name,ahead,(items,met)=>
   match readP s name with
   | none=>none
   | some n=>
     if met.contains (offOf name)∨32<(ahead++n.pre).length then none else
     if n.val≠0∧keyOk (ahead++n.pre)=false then none else
     (n.labels.zip n.kids).foldlM (fun st(lk:UInt8×UInt64)=>visitP s f lk.2 (ahead++n.pre++[lk.1]) st)
      (if n.val≠0 then items++[(pairs (ahead++n.pre),n.val)]else items,met++[offOf name])
def surveyP(s:St):Option (List (List UInt8×UInt64)×List Int):=
 if s.ws 9=0 then some ([],[])else visitP s 34 (s.ws 9) [] ([],[])
theorem crcStep_lt(x:Nat)(h:x<4294967296):crcStep x<4294967296:=by
 have h1:x/16<2^32:=by omega
 have h2:foursN.getD (x%16) 0<2^32:=by
  have:x%16<16:=Nat.mod_lt _ (by decide);have key:∀k:Fin 16,foursN.getD k.val 0<2^32:=by decide
  exact key ⟨x%16,this⟩
 exact Nat.xor_lt_two_pow h1 h2
theorem crcByte_lt(x c:Nat)(h:x<4294967296)(hc:c<256):crcByte x c<4294967296:=by
 unfold crcByte;refine crcStep_lt _ (crcStep_lt _ ?_);exact Nat.xor_lt_two_pow (n:=32) h (by omega)
def crcTo(sum:Nat)(l:List UInt8)(k:Nat):Nat:=(l.take k).foldl (fun x c=>crcByte x c.toNat) (sum^^^4294967295)
theorem crcTo_zero(sum:Nat)(l:List UInt8):crcTo sum l 0=sum^^^4294967295:=by simp [crcTo]
theorem crcTo_succ(sum:Nat)(l:List UInt8)(k:Nat)(hk:k<l.length):crcTo sum l (k+1)=crcByte (crcTo sum l k) l[k].toNat:=by
 unfold crcTo;rw [List.take_succ_eq_append_getElem hk,List.foldl_append];rfl
theorem crcTo_all(sum:Nat)(l:List UInt8):crcTo sum l l.length^^^4294967295=crcNext sum l:=by simp [crcTo,crcNext]
theorem crcTo_lt(sum:Nat)(l:List UInt8)(hs:sum<4294967296):∀k,k≤l.length→crcTo sum l k<4294967296
 | 0,_=>by rw [crcTo_zero];exact Nat.xor_lt_two_pow (n:=32) hs (by decide)
 | k+1,hk=>by
   rw [crcTo_succ sum l k hk];exact crcByte_lt _ _ (crcTo_lt sum l hs k (by omega)) (UInt8.toNat_lt _)
theorem tb_withB(n low size v i:Nat)(h:low+size≤64)(hn:n<2^64):(withB n low size v).testBit i=if low≤i∧i<low+size then v.testBit (i-low)else n.testBit i:=by
 have hM:∀j,((2^size-1)*2^low).testBit j=(decide (low≤j)&&decide (j-low<size)):=fun j=>by
  rw [Nat.mul_comm,Nat.testBit_two_pow_mul,Nat.testBit_two_pow_sub_one]
 have hMlt:(2^size-1)*2^low<2^64:=by
  refine Nat.lt_pow_two_of_testBit _ fun j hj=> ?_
  rw [hM j];simp;omega
 have hN:(ones64- (2^size-1)*2^low).testBit i=(decide (i<64)&& !((2^size-1)*2^low).testBit i):=by
  rw [←Nat.testBit_two_pow_sub_succ hMlt];unfold ones64;congr 1;omega
 have hV:((v&&&(2^size-1))*2^low).testBit i=(decide (low≤i)&&(v.testBit (i-low)&&decide (i-low<size))):=by
  rw [Nat.mul_comm,Nat.testBit_two_pow_mul,Nat.testBit_and,Nat.testBit_two_pow_sub_one]
 have hi64:n.testBit i=true→i<64:=fun ht=>by
  rcases Nat.lt_or_ge i 64 with h'| h'
  ·exact h'
  ·rw [Nat.testBit_lt_two_pow (Nat.lt_of_lt_of_le hn (Nat.pow_le_pow_right (by decide) h'))]at ht;cases ht
 unfold withB;rw [Nat.testBit_or,Nat.testBit_and,hN,hV,hM];by_cases h1:low≤i
 ·by_cases h2:i<low+size
  ·have h3:i-low<size:=by omega
   have h4:i<64:=by omega
   simp [h1,h2,h3]
  ·have h3:¬i-low<size:=by omega
   simp only [h1,h2,h3,decide_true,decide_false,Bool.and_false,Bool.not_false,Bool.and_true,Bool.or_false,and_false,if_false];cases hb:n.testBit i
   ·rfl
   ·simp [hi64 hb]
 ·simp only [h1,decide_false,Bool.false_and,Bool.not_false,Bool.and_true,Bool.or_false,false_and,if_false];cases hb:n.testBit i
  ·rfl
  ·simp [hi64 hb]
theorem withB_lt64(n low size v:Nat)(h:low+size≤64)(hn:n<2^64):withB n low size v<2^64:=by
 refine Nat.lt_pow_two_of_testBit _ fun i hi=> ?_
 rw [tb_withB n low size v i h hn,if_neg (by omega)];exact Nat.testBit_lt_two_pow (Nat.lt_of_lt_of_le hn (Nat.pow_le_pow_right (by decide) hi))
theorem tb_fieldN(n low size i:Nat):(fieldN n low size).testBit i=(decide (i<size)&&n.testBit (low+i)):=by
 unfold fieldN;rw [Nat.testBit_mod_two_pow,Nat.testBit_div_two_pow,Nat.add_comm]
theorem field1(n a:Nat):(fieldN n a 1==1)=n.testBit a:=by
 have h:=tb_fieldN n a 1 0;simp only [Nat.zero_lt_one,decide_true,Bool.true_and,Nat.add_zero]at h;rw [←h];have h2:fieldN n a 1<2:=Nat.mod_lt _ (by decide);have h3:fieldN n a 1=0∨fieldN n a 1=1:=by omega
 rcases h3 with h3| h3<;>rw [h3]<;>rfl
theorem field_zero(n size:Nat):fieldN n 0 size=0↔∀i,i<size→n.testBit i=false:=by
 constructor
 ·intro h i hi;have:=tb_fieldN n 0 size i;rw [h,Nat.zero_testBit,Nat.zero_add]at this;simpa [hi]using this.symm
 ·intro h;refine Nat.eq_of_testBit_eq fun i=> ?_
  rw [tb_fieldN,Nat.zero_testBit,Nat.zero_add];by_cases hi:i<size
  ·simp [h i hi]
  ·simp [hi]
structure SW(w c:Nat):Prop where
 lt:w<2^64
 cls:c=1∨c=2
 kind:kindN w=c
 some:∃i,i<blocksN c∧w.testBit i=true
 only:∀i,w.testBit i=true→i<blocksN c∨i=16∨i=17
theorem kind_bits(w:Nat):kindN w=(if w.testBit 16 then 1 else 0)+(if w.testBit 17 then 2 else 0):=by
 have h0:(fieldN w 16 2).testBit 0=w.testBit 16:=(tb_fieldN w 16 2 0).trans (by rfl);have h1:(fieldN w 16 2).testBit 1=w.testBit 17:=(tb_fieldN w 16 2 1).trans (by rfl);have hlt:fieldN w 16 2<4:=Nat.mod_lt _ (by decide);unfold kindN;rw [←h0,←h1];generalize fieldN w 16 2=f at hlt;have hf:f=0∨f=1∨f=2∨f=3:=by omega
 rcases hf with rfl| rfl| rfl| rfl<;>decide
theorem right_iff(w:Nat)(hw:w<2^64):rightW w=true↔w=0∨∃c,SW w c:=by
 unfold rightW;simp only [Bool.or_eq_true,beq_iff_eq,Bool.and_eq_true,bne_iff_ne];by_cases h0:w=0
 ·simp [h0]
 ·simp only [h0,false_or];have hb:blocksN (kindN w)≤16:=by
   unfold blocksN;split<;>omega
  have hz:withB (withB w 0 (blocksN (kindN w)) 0) 16 2 0=0↔∀i,w.testBit i=true→i<blocksN (kindN w)∨i=16∨i=17:=by
   constructor
   ·intro h i hi;have h2:=tb_withB (withB w 0 (blocksN (kindN w)) 0) 16 2 0 i (by decide) (withB_lt64 _ _ _ _ (by omega) hw);rw [h,Nat.zero_testBit,tb_withB w 0 _ 0 i (by omega) hw]at h2;by_cases h3:16≤i∧i<16+2
    ·omega
    ·rw [if_neg h3]at h2;by_cases h4:0≤i∧i<0+blocksN (kindN w)
     ·omega
     ·rw [if_neg h4,hi]at h2;cases h2
   ·intro h;refine Nat.eq_of_testBit_eq fun i=> ?_
    rw [tb_withB _ 16 2 0 i (by decide) (withB_lt64 _ _ _ _ (by omega) hw),tb_withB w 0 _ 0 i (by omega) hw];simp only [Nat.zero_testBit];split
    ·rfl
    ·split
     ·rfl
     ·cases hb:w.testBit i
      ·rfl
      ·have:=h i hb;omega
  have hf:fieldN w 0 (blocksN (kindN w))≠0↔∃i,i<blocksN (kindN w)∧w.testBit i=true:=by
   rw [ne_eq,field_zero];constructor
   ·intro h;apply Classical.byContradiction;intro hn;refine h fun i hi=> ?_
    cases hb:w.testBit i
    ·rfl
    ·exact absurd ⟨i,hi,hb⟩ hn
   ·rintro⟨i,hi,hb⟩h;rw [h i hi]at hb;cases hb
  rw [hz,hf];constructor
  ·rintro⟨⟨i,hi,hb⟩,h2⟩;refine⟨kindN w,hw,?_,rfl,⟨i,hi,hb⟩,h2⟩;unfold blocksN at hi;split at hi
   ·rename_i e;exact .inl e
   ·rename_i e;exact .inr e
   ·omega
  ·rintro⟨c,h⟩;obtain rfl:=h.kind;exact⟨h.some,h.only⟩
theorem SW.right{w c:Nat}(h:SW w c):rightW w=true:=(right_iff w h.lt).2 (.inr ⟨c,h⟩)
theorem SW.class{w c:Nat}(h:SW w c):classW w=c:=by unfold classW;rw [if_pos h.right,h.kind]
theorem SW.ne{w c:Nat}(h:SW w c):w≠0:=by
 obtain⟨i,_,hb⟩:=h.some;intro e;rw [e,Nat.zero_testBit]at hb;cases hb
theorem class_zero:classW 0=0:=by decide
theorem SW.has{w c:Nat}(h:SW w c)(a:Nat):hasW w a=(decide (a<blocksN c)&&w.testBit a):=by unfold hasW;rw [h.class,field1]
theorem has_zero(a:Nat):hasW 0 a=false:=by unfold hasW;rw [class_zero];simp [blocksN]
theorem SW.blocks{w c:Nat}(h:SW w c):0<blocksN c∧blocksN c≤16:=by
 rcases h.cls with rfl| rfl<;>decide
theorem SW.bits{w c:Nat}(h:SW w c):w.testBit 16=c.testBit 0∧w.testBit 17=c.testBit 1:=by
 have hk:=h.kind;rw [kind_bits]at hk;rcases h.cls with rfl| rfl<;>cases h6:w.testBit 16<;>cases h7:w.testBit 17<;>simp [h6,h7]at hk⊢<;>decide
def OkW(w:Nat):Prop:=w=0∨∃c,SW w c
theorem OkW.lt{w:Nat}(h:OkW w):w<2^64:=by
 rcases h with rfl| ⟨c,h⟩
 ·decide
 ·exact h.lt
theorem OkW.right{w:Nat}(h:OkW w):rightW w=true:=(right_iff w h.lt).2 h
theorem OkW.has_lt{w a:Nat}(h:OkW w)(ha:hasW w a=true):∃c,SW w c∧a<blocksN c∧w.testBit a=true:=by
 rcases h with rfl| ⟨c,h⟩
 ·rw [has_zero]at ha;cases ha
 ·rw [h.has a,Bool.and_eq_true,decide_eq_true_eq]at ha;exact⟨c,h,ha.1,ha.2⟩
theorem take_word{w c a:Nat}(h:OkW w)(hc:c=1∨c=2)(hm:w=0∨SW w c)(ha:a<blocksN c)(hn:hasW w a=false):
 (takeW w c a).2=true∧SW (takeW w c a).1 c∧∀b,hasW (takeW w c a).1 b=(hasW w b|| decide (b=a)):=by
 have hb16:0<blocksN c∧blocksN c≤16:=by rcases hc with rfl| rfl<;>decide
 have hmt:meetsW w c=true:=by
  unfold meetsW;rw [h.right];simp only [Bool.true_and,Bool.and_eq_true,decide_eq_true_eq,Bool.or_eq_true,beq_iff_eq];exact⟨hb16.1,hm.imp id (fun h=>h.kind)⟩
 have he:takeW w c a=(withB (withB w a 1 1) 16 2 c,true):=by
  unfold takeW;rw [hmt,hn,decide_eq_false (by omega:¬blocksN c≤a)];rfl
 have hw:=h.lt;have hx:withB w a 1 1<2^64:=withB_lt64 _ _ _ _ (by omega) hw;have hbit:∀i,(withB (withB w a 1 1) 16 2 c).testBit i=if i=16 then c.testBit 0 else if i=17 then c.testBit 1 else if i=a then true else w.testBit i:=fun i=>by
  rw [tb_withB _ 16 2 c i (by decide) hx,tb_withB w a 1 1 i (by omega) hw];by_cases h6:i=16
  ·subst h6;simp
  ·by_cases h7:i=17
   ·subst h7;simp
   ·rw [if_neg (by omega),if_neg h6,if_neg h7];by_cases h8:i=a
    ·subst h8;rw [if_pos (by omega),if_pos rfl];simp
    ·rw [if_neg (by omega),if_neg h8]
 have hS:SW (withB (withB w a 1 1) 16 2 c) c:=by
  refine⟨withB_lt64 _ _ _ _ (by decide) hx,hc,?_,⟨a,ha,?_⟩,fun i hi=> ?_⟩
  ·have b6:=hbit 16;have b7:=hbit 17;rw [if_pos rfl]at b6;rw [if_neg (by decide),if_pos rfl]at b7;rw [kind_bits,b6,b7];rcases hc with rfl| rfl<;>decide
  ·rw [hbit,if_neg (by omega),if_neg (by omega),if_pos rfl]
  ·rw [hbit]at hi;by_cases h6:i=16
   ·omega
   ·by_cases h7:i=17
    ·omega
    ·rw [if_neg h6,if_neg h7]at hi;by_cases h8:i=a
     ·omega
     ·rw [if_neg h8]at hi;rcases hm with rfl| hm
      ·rw [Nat.zero_testBit]at hi;cases hi
      ·exact hm.only i hi
 rw [he];refine⟨rfl,hS,fun b=> ?_⟩;rw [hS.has];rw [hbit];by_cases hb:b<blocksN c
 ·rw [if_neg (by omega),if_neg (by omega)];by_cases h8:b=a
  ·subst h8;simp [hb]
  ·rw [if_neg h8];rcases hm with rfl| hm
   ·rw [has_zero];simp [h8]
   ·rw [hm.has];simp [h8]
 ·have h8:b≠a:=by omega
  rcases hm with rfl| hm
  ·rw [has_zero];simp [hb,h8]
  ·rw [hm.has];simp [hb,h8]
theorem drop_word{w a:Nat}(h:OkW w)(ha:hasW w a=true):
 (dropW w a).2=true∧OkW (dropW w a).1∧(∀b,hasW (dropW w a).1 b=(hasW w b&& !decide (b=a)))∧(classW (dropW w a).1=classW w∨(dropW w a).1=0):=by
 obtain⟨c,hS,hac,hbit⟩:=h.has_lt ha;have hb16:=hS.blocks;have hw:=hS.lt;have hx:withB w a 1 0<2^64:=withB_lt64 _ _ _ _ (by omega) hw;have hbit:∀i,(withB w a 1 0).testBit i=if i=a then false else w.testBit i:=fun i=>by
  rw [tb_withB w a 1 0 i (by omega) hw];by_cases h8:i=a
  ·subst h8;rw [if_pos (by omega),if_pos rfl];simp
  ·rw [if_neg (by omega),if_neg h8]
 unfold dropW;rw [ha];simp only [Bool.not_true,Bool.false_eq_true,if_false];by_cases ht:takenN (withB w a 1 0)=0
 ·rw [if_pos ht];refine⟨rfl,.inl rfl,fun b=> ?_,.inr rfl⟩;rw [has_zero,hS.has];unfold takenN at ht;rw [field_zero]at ht;by_cases hb:b<blocksN c
  ·have:=ht b (by omega);rw [hbit]at this;by_cases h8:b=a
   ·simp [h8]
   ·rw [if_neg h8]at this;simp [this]
  ·simp [hb]
 ·rw [if_neg ht];have hS2:SW (withB w a 1 0) c:=by
   refine⟨hx,hS.cls,?_,?_,fun i hi=> ?_⟩
   ·have b6:(withB w a 1 0).testBit 16=w.testBit 16:=by rw [hbit,if_neg (by omega)]
    have b7:(withB w a 1 0).testBit 17=w.testBit 17:=by rw [hbit,if_neg (by omega)]
    rw [kind_bits,b6,b7,←kind_bits,hS.kind]
   ·unfold takenN at ht;rw [field_zero]at ht;apply Classical.byContradiction;intro hn;refine ht fun i hi=> ?_
    cases hb:(withB w a 1 0).testBit i
    ·rfl
    ·refine absurd ⟨i,?_,hb⟩ hn;rw [hbit]at hb;by_cases h8:i=a
     ·rw [if_pos h8]at hb;cases hb
     ·rw [if_neg h8]at hb;have:=hS.only i hb;omega
   ·rw [hbit]at hi;by_cases h8:i=a
    ·rw [if_pos h8]at hi;cases hi
    ·rw [if_neg h8]at hi;exact hS.only i hi
  refine⟨rfl,.inr ⟨c,hS2⟩,fun b=> ?_,.inl (by rw [hS2.class,hS.class])⟩;rw [hS2.has,hS.has,hbit];by_cases h8:b=a
  ·simp [h8]
  ·simp [h8]
theorem both_word {t h : Nat} (ht : OkW t) (hh : OkW h) (hc : t = 0 ∨ h = 0 ∨ classW t = classW h) : OkW (t ||| h) ∧ (∀ a, hasW (t ||| h) a = (hasW t a || hasW h a)) ∧ (t ≠ 0 → classW (t ||| h) = classW t) ∧ (h ≠ 0 → classW (t ||| h) = classW h) := by
  rcases ht with rfl | ⟨c, ht⟩
  · rw [Nat.zero_or]
    exact ⟨hh, fun a => by rw [has_zero]; rfl, fun h => absurd rfl h, fun _ => rfl⟩
  · rcases hh with rfl | ⟨d, hh⟩
    · rw [Nat.or_zero]
      exact ⟨.inr ⟨c, ht⟩, fun a => by rw [has_zero, Bool.or_false], fun _ => rfl, fun h => absurd rfl h⟩
    · have e : c = d := by
        rcases hc with h | h | h
        · exact absurd h ht.ne
        · exact absurd h hh.ne
        · rw [ht.class, hh.class] at h; exact h
      subst e
      have hS : SW (t ||| h) c := by
        refine ⟨Nat.or_lt_two_pow ht.lt hh.lt, ht.cls, ?_, ?_, fun i hi => ?_⟩
        · have h1 := ht.bits
          have h2 := hh.bits
          rw [kind_bits, Nat.testBit_or, Nat.testBit_or, h1.1, h1.2, h2.1, h2.2]
          rcases ht.cls with rfl | rfl <;> decide
        · obtain ⟨i, hi, hb⟩ := ht.some
          exact ⟨i, hi, by rw [Nat.testBit_or, hb]; rfl⟩
        · rw [Nat.testBit_or, Bool.or_eq_true] at hi
          exact hi.elim (ht.only i) (hh.only i)
      refine ⟨.inr ⟨c, hS⟩, fun a => ?_, fun _ => by rw [hS.class, ht.class], fun _ => by rw [hS.class, hh.class]⟩
      rw [hS.has, ht.has, hh.has, Nat.testBit_or]
      cases decide (a < blocksN c) <;> simp
theorem candP_pack(l:List UInt8)(h15:l.length≤15)(h:l.all isNib=true):candP (packU l).toNat=l:=by
 obtain⟨u1,u2,u3,u4,u5⟩:=unpack_pack l h15 h;rw [packU,UInt64.toNat_ofNat_of_lt' (by simpa [UInt64.size]using u5),candP,u1,u2,if_pos u3,u4]
def look:List UInt8→List UInt64→Nat→UInt64
 | a::as,k::ks,j=>if a.toNat=j then k else look as ks j
 | _,_,_=>0
theorem look_none:∀(as:List UInt8)(ks:List UInt64)(j:Nat),(∀a∈as,a.toNat≠j)→look as ks j=0
 | a::as,k::ks,j,h=>by rw [look,if_neg (h a (by simp)),look_none as ks j (fun b hb=>h b (by simp [hb]))]
 | [],_,_,_=>rfl
 | _::_,[],_,_=>rfl
theorem rising_tail{a:UInt8}{as:List UInt8}(h:risingB (a::as)=true):risingB as=true∧∀b∈as,a.toNat<b.toNat:=by
 induction as generalizing a with
 | nil=>exact⟨rfl,by simp⟩
 | cons b as ih=>
   simp only [risingB,Bool.and_eq_true,decide_eq_true_eq]at h;obtain⟨h1,h2⟩:=ih h.2;refine⟨h.2,fun c hc=> ?_⟩;rcases List.mem_cons.1 hc with rfl| hc
   ·exact h.1
   ·exact Nat.lt_trans h.1 (h2 c hc)
theorem putKids_look : ∀ (as : List UInt8) (ks : List UInt64) (row : List UInt64) (j : Nat), as.length = ks.length → risingB as = true → 4 + j < row.length →
    (putKids row as ks)[4 + j]? = if j ∈ as.map UInt8.toNat then some (look as ks j) else row[4 + j]?
  | [], ks, row, j, _, _, _ => by simp [putKids]
  | a :: as, [], row, j, hl, _, _ => by simp at hl
  | a :: as, k :: ks, row, j, hl, hr, hj => by
    obtain ⟨h1, h2⟩ := rising_tail hr
    rw [putKids, putKids_look as ks (row.set (4 + a.toNat) k) j (by simpa using hl) h1 (by simpa using hj)]
    by_cases hm : j ∈ as.map UInt8.toNat
    · have hne : a.toNat ≠ j := by
        obtain ⟨b, hb, rfl⟩ := List.mem_map.1 hm
        exact Nat.ne_of_lt (h2 b hb)
      rw [if_pos hm, if_pos (by simp only [List.map_cons, List.mem_cons]; exact .inr hm), look, if_neg hne]
    · rw [if_neg hm]
      by_cases he : a.toNat = j
      · rw [if_pos (by simp [he]), look, if_pos he, List.getElem?_set, if_pos (by omega), if_pos (by omega)]
      · rw [if_neg (by simp only [List.map_cons, List.mem_cons, not_or]; exact ⟨fun e => he e.symm, hm⟩), List.getElem?_set, if_neg (by omega)]
theorem putKids_low:∀(as:List UInt8)(ks:List UInt64)(row:List UInt64)(i:Nat),i<4→(putKids row as ks)[i]? =row[i]?
 | [],_,row,i,_=>by simp [putKids]
 | _::_,[],row,i,_=>by simp [putKids]
 | a::as,k::ks,row,i,hi=>by rw [putKids,putKids_low as ks _ i hi,List.getElem?_set,if_neg (by omega)]
theorem coll_table:∀(n i:Nat)(as:List UInt8)(ks:List UInt64)(t:List UInt64),t.length=n→as.length=ks.length→risingB as=true→(∀a∈as,i≤a.toNat∧a.toNat<i+n)→i+n≤256→(∀k∈ks,k.toNat≠0)→
 (∀j,j<n→t[j]? =some (look as ks (i+j)))→collB i t=as∧collK t=ks
 | 0,i,as,ks,t,ht,hl,_,hb,_,_,_=>by
   have h1:t=[]:=List.eq_nil_of_length_eq_zero ht;have h2:as=[]:=by
    rcases as with _| ⟨a,as⟩
    ·rfl
    ·have:=hb a (by simp);omega
   subst h1 h2;have h3:ks=[]:=List.eq_nil_of_length_eq_zero (by simpa using hl.symm);subst h3;exact⟨rfl,rfl⟩
 | n+1,i,as,ks,[],ht,_,_,_,_,_,_=>by simp at ht
 | n+1,i,as,ks,x::t,ht,hl,hr,hb,hi,hk,hlk=>by
   have hx:x=look as ks i:=by have:=hlk 0 (by omega);simpa using this
   rcases as with _| ⟨a,as⟩
   ·have h3:ks=[]:=List.eq_nil_of_length_eq_zero (by simpa using hl.symm);subst h3;have hx0:x.toNat=0:=by rw [hx];rfl
    have ih:=coll_table n (i+1) [] [] t (by simpa using ht) rfl rfl (by simp) (by omega) (by simp) (fun j hj=>by
     have:=hlk (j+1) (by omega);rw [show i+1+j=i+(j+1)by omega];simpa using this)
    simp only [collB,if_pos hx0,ih.1];refine⟨trivial,?_⟩;have h2:=ih.2;unfold collK at h2⊢;simp [hx0,h2]
   ·rcases ks with _| ⟨k,ks⟩
    ·simp at hl
    ·obtain⟨h1,h2⟩:=rising_tail hr;by_cases he:a.toNat=i
     ·have hxk:x=k:=by rw [hx,look,if_pos he]
      subst hxk;have hx0:x.toNat≠0:=hk x (by simp);have ih:=coll_table n (i+1) as ks t (by simpa using ht) (by simpa using hl) h1 (fun b hb'=>by have:=h2 b hb';have:=hb b (by simp [hb']);omega) (by omega) (fun k' hk'=>hk k' (by simp [hk'])) (fun j hj=>by
       have:=hlk (j+1) (by omega);rw [look,if_neg (by omega)]at this;rw [show i+1+j=i+(j+1)by omega];simpa using this)
      have ea:UInt8.ofNat i=a:=by apply UInt8.toNat_inj.1;rw [←he];simp
      simp only [collB,if_neg hx0,ih.1,ea];refine⟨trivial,?_⟩;have h2:=ih.2;unfold collK at h2⊢;simp [hx0,h2]
     ·have hai:i+1≤a.toNat:=by have:=hb a (by simp);omega
      have hx0:x.toNat=0:=by
       rw [hx,look,if_neg he,look_none as ks i (fun b hb'=>by have:=h2 b hb';omega)];rfl
      have ih:=coll_table n (i+1) (a::as) (k::ks) t (by simpa using ht) hl hr (fun b hb'=>by
       rcases List.mem_cons.1 hb' with rfl| hb''
       ·have:=hb b (by simp);omega
       ·have:=h2 b hb'';have:=hb b (by simp [hb'']);omega) (by omega) hk (fun j hj=>by
       have:=hlk (j+1) (by omega);rw [show i+1+j=i+(j+1)by omega];simpa using this)
      simp only [collB,if_pos hx0,ih.1];refine⟨trivial,?_⟩;have h2:=ih.2;unfold collK at h2⊢;simp [hx0,h2]
theorem Nd.ext'{x y:Nd}(h1:x.pre=y.pre)(h2:x.val=y.val)(h3:x.labels=y.labels)(h4:x.kids=y.kids):x=y:=by
 cases x;cases y;simp_all
theorem cand_enc(x:Nd)(h:rightB x=true):cand (encW x)=x:=by
 obtain⟨h1,h2,h3,h4,h5,h6⟩:=(rightB_iff x).1 h;by_cases hs:x.kids.length≤4
 ·have hl:=encS_length x hs;rw [encW,if_pos hs,cand,if_pos hl];obtain⟨u1,u2,u3,u4,u5⟩:=unpack_pack x.labels (by omega) h4;have e3:(packU x.labels).toNat=x.labels.length+16*packN x.labels:=by rw [packU,UInt64.toNat_ofNat_of_lt' (by simpa [UInt64.size]using u5)]
  have hd:(encS x).drop 4=x.kids++List.replicate (4-x.kids.length) 0:=by simp [encS]
  have hc:candS (packU x.labels).toNat ((encS x).drop 4)=(x.labels,x.kids):=by
   rw [hd,candS,e3,u1,u2,if_pos ⟨u3,by omega⟩,u4,h3,List.take_left' rfl]
  apply Nd.ext'
  ·show candP ((encS x).getD 1 0).toNat=x.pre;rw [show(encS x).getD 1 0=packU x.pre by simp [encS],candP_pack x.pre h1 h2]
  ·show(encS x).getD 2 0=x.val;simp [encS]
  ·show(candS ((encS x).getD 3 0).toNat ((encS x).drop 4)).1=x.labels;rw [show(encS x).getD 3 0=packU x.labels by simp [encS],hc]
  ·show(candS ((encS x).getD 3 0).toNat ((encS x).drop 4)).2=x.kids;rw [show(encS x).getD 3 0=packU x.labels by simp [encS],hc]
 ·have hl:=encB_length x;rw [encW,if_neg hs,cand,if_neg (by omega)];have g1:(encB x)[1]? =some (packU x.pre):=by rw [encB,putKids_low _ _ _ 1 (by decide)];simp [headB]
  have g2:(encB x)[2]? =some x.val:=by rw [encB,putKids_low _ _ _ 2 (by decide)];simp [headB]
  have ht:(((encB x).drop 4).take 16).length=16:=by simp [hl]
  have hcol:=coll_table 16 0 x.labels x.kids (((encB x).drop 4).take 16) ht h3 h5 (fun a ha=>by
   rw [List.all_eq_true]at h4;have:=h4 a ha;simp only [isNib,decide_eq_true_eq]at this;omega) (by decide) (fun k hk=>by
   obtain⟨i,hi,rfl⟩:=List.getElem_of_mem hk;exact h6 i hi) (fun j hj=>by
   rw [List.getElem?_take,if_pos hj,List.getElem?_drop,encB,putKids_look _ _ _ j h3 h5 (by simp [headB];omega),Nat.zero_add];by_cases hm:j∈x.labels.map UInt8.toNat
   ·rw [if_pos hm]
   ·rw [if_neg hm,look_none _ _ _ (fun a ha e=>hm (List.mem_map.2 ⟨a,ha,e⟩))];rw [headB,List.getElem?_append_right (by simp only [List.length_cons,List.length_nil];omega),List.getElem?_replicate,if_pos (by simp only [List.length_cons,List.length_nil];omega)])
  apply Nd.ext'
  ·show candP ((encB x).getD 1 0).toNat=x.pre;rw [List.getD,g1];exact candP_pack x.pre h1 h2
  ·show(encB x).getD 2 0=x.val;rw [List.getD,g2];rfl
  ·exact hcol.1
  ·exact hcol.2
theorem decOk_enc(x:Nd)(h:rightB x=true):decOk (encW x)=true:=by
 have hl:=encW_length x;have hc:=cand_enc x h;have h32:(encW x).length=8∨(encW x).length=32:=by rw [hl];split<;>simp
 rw [decOk,hc,h];rcases h32 with e| e<;>simp [e]
theorem decOk_iff(l:List UInt64)(h:decOk l=true):rightB (cand l)=true∧encW (cand l)=l:=by
 simp only [decOk,Bool.and_eq_true,decide_eq_true_eq]at h;exact h.2
def posN(x:Nd)(i:Nat):Nat:=if x.kids.length≤4 then 4+i else 4+(x.labels.getD i 0).toNat
theorem rising_lt(l:List UInt8)(h:risingB l=true):∀(d i:Nat)(hj:i+d+1<l.length),l[i].toNat<l[i+d+1].toNat
 | 0,i,hj=>(rising_iff l).1 h i hj
 | d+1,i,hj=>Nat.lt_trans (rising_lt l h d i (by omega)) ((rising_iff l).1 h (i+d+1) (by omega))
theorem rising_lt'(l:List UInt8)(h:risingB l=true)(i j:Nat)(hij:i<j)(hj:j<l.length):l[i].toNat<l[j].toNat:=by
 have:=rising_lt l h (j-i-1) i (by omega);have e:i+(j-i-1)+1=j:=by omega
 simp only [e]at this;exact this
theorem find_label(l:List UInt8)(h:risingB l=true)(i:Nat)(hi:i<l.length):l.findIdx? (fun y=>y.toNat==l[i].toNat)=some i:=by
 rw [List.findIdx?_eq_some_iff_getElem];refine⟨hi,by simp,fun j hj=> ?_⟩;have:=rising_lt' l h j i hj hi;simp;omega
theorem look_at:∀(as:List UInt8)(ks:List UInt64)(i:Nat)(h1:i<as.length)(h2:i<ks.length),risingB as=true→look as ks as[i].toNat=ks[i]
 | a::as,k::ks,0,_,_,_=>by simp [look]
 | a::as,k::ks,i+1,h1,h2,hr=>by
   obtain⟨t1,t2⟩:=rising_tail hr;have hi':i<as.length:=by simpa using h1
   have:=t2 as[i] (List.getElem_mem hi');rw [List.getElem_cons_succ,List.getElem_cons_succ,look,if_neg (by omega)];exact look_at as ks i (by simpa using h1) (by simpa using h2) t1
 | [],_,_,h1,_,_=>by simp at h1
 | _::_,[],_,_,h2,_=>by simp at h2
theorem enc_pos(x:Nd)(h:rightB x=true)(i:Nat)(hi:i<x.kids.length):(encW x)[posN x i]? =some x.kids[i]:=by
 obtain⟨h1,h2,h3,h4,h5,h6⟩:=(rightB_iff x).1 h;unfold encW posN;by_cases hs:x.kids.length≤4
 ·rw [if_pos hs,if_pos hs,encS,List.append_assoc,List.getElem?_append_right (by simp),List.getElem?_append_left (by simp;omega)];simp only [List.length_cons,List.length_nil];rw [show 4+i- (0+1+1+1+1)=i by omega,List.getElem?_eq_getElem hi]
 ·have hl:i<x.labels.length:=by omega
  have hn:=nib_get h4 hl;rw [if_neg hs,if_neg hs,encB,List.getD,List.getElem?_eq_getElem hl,Option.getD_some,putKids_look _ _ _ _ h3 h5 (by simp [headB];omega),
   if_pos (List.mem_map.2 ⟨_,List.getElem_mem hl,rfl⟩),look_at _ _ i hl hi h5]
theorem posN_facts(x:Nd)(h:rightB x=true)(i:Nat)(hi:i<x.kids.length):4≤posN x i∧posN x i<(encW x).length∧∀j,j<i→posN x j≠posN x i:=by
 obtain⟨h1,h2,h3,h4,h5,h6⟩:=(rightB_iff x).1 h;have he:=enc_pos x h i hi;refine⟨by unfold posN;split<;>omega,(List.getElem?_eq_some_iff.1 he).1,fun j hj=> ?_⟩;unfold posN;split
 ·omega
 ·have:=rising_lt' x.labels h5 j i hj (by omega);simp only [List.getD,List.getElem?_eq_getElem (show j<x.labels.length by omega),List.getElem?_eq_getElem (show i<x.labels.length by omega),Option.getD_some];omega
theorem placeSP_le(l:List UInt8)(x:UInt8):placeSP l x≤l.length:=List.countP_le_length
theorem insP_length{α:Type}(xs:List α)(i:Nat)(u:α)(h:i≤xs.length):(insP xs i u).length=xs.length+1:=by simp [insP];omega
theorem search_endP(l:List UInt8)(x:UInt8)(i:Nat)(hi:i≤l.length)(h1:∀t(h:t<l.length),t<i→l[t].toNat<x.toNat)(h2:∀t(h:t<l.length),i≤t→x.toNat≤l[t].toNat):placeSP l x=i:=by
 unfold placeSP
 conv=>lhs;rw [←List.take_append_drop i l]
 rw [List.countP_append];have e1:(l.take i).countP (fun y=>decide (y.toNat<x.toNat))=i:=by
  have:(l.take i).length=i:=by simp;omega
  conv=>rhs;rw [←this]
  rw [List.countP_eq_length];intro a ha;obtain⟨t,ht,rfl⟩:=List.getElem_of_mem ha;simp at ht;simpa using h1 t (by omega) (by omega)
 have e2:(l.drop i).countP (fun y=>decide (y.toNat<x.toNat))=0:=by
  rw [List.countP_eq_zero];intro a ha;obtain⟨t,ht,rfl⟩:=List.getElem_of_mem ha;simp at ht;have:=h2 (i+t) (by omega) (by omega);simp;omega
 omega
theorem insP_get{α:Type}(xs:List α)(i:Nat)(u:α)(hi:i≤xs.length)(j:Nat):(insP xs i u)[j]? =if j<i then xs[j]? else if j=i then some u else xs[j-1]? :=by
 unfold insP;by_cases h1:j<i
 ·rw [if_pos h1,List.getElem?_append_left (by simp;omega),List.getElem?_take,if_pos h1]
 ·rw [if_neg h1,List.getElem?_append_right (by simp;omega)];simp only [List.length_take,Nat.min_eq_left hi];by_cases h2:j=i
  ·subst h2;simp
  ·rw [if_neg h2,show j-i=(j-1-i)+1 by omega,List.getElem?_cons_succ,List.getElem?_drop];congr 1;omega
theorem delP_insP{α:Type}(xs:List α)(i:Nat)(u:α)(hi:i≤xs.length):delP (insP xs i u) i=xs:=by
 unfold delP insP;rw [List.take_append_of_le_length (by simp;omega),List.take_take,Nat.min_self,List.drop_append,List.length_take,Nat.min_eq_left hi,show i+1-i=1 by omega,List.drop_of_length_le (by simp;omega)];simp
theorem mem_insP{α:Type}(xs:List α)(i:Nat)(u y:α)(h:y∈insP xs i u):y=u∨y∈xs:=by
 unfold insP at h;rw [List.mem_append,List.mem_cons]at h;rcases h with h| h| h
 ·exact .inr (List.mem_of_mem_take h)
 ·exact .inl h
 ·exact .inr (List.mem_of_mem_drop h)
theorem place_splitP(l:List UInt8)(x:UInt8)(hs:risingB l=true):(∀t(h:t<l.length),t<placeSP l x→l[t].toNat<x.toNat)∧(∀t(h:t<l.length),placeSP l x≤t→x.toNat≤l[t].toNat):=by
 obtain⟨i,hi⟩:∃i,i=l.findIdx (fun y=>decide (x.toNat≤y.toNat)):=⟨_,rfl⟩;have hle:i≤l.length:=by rw [hi];exact List.findIdx_le_length
 have a1:∀t(h:t<l.length),t<i→l[t].toNat<x.toNat:=by
  intro t h ht;rw [hi]at ht;have:=List.not_of_lt_findIdx ht;simpa using this
 have a2:∀t(h:t<l.length),i≤t→x.toNat≤l[t].toNat:=by
  intro t h ht;have hil:i<l.length:=by omega
  have h0:x.toNat≤l[i].toNat:=by
   have:=List.findIdx_getElem (p:=fun y:UInt8=>decide (x.toNat≤y.toNat)) (xs:=l) (w:=by rw [←hi];exact hil);simpa [←hi]using this
  rcases Nat.lt_or_ge i t with h'| h'
  ·have:=rising_lt' l hs i t h' h;omega
  ·obtain rfl:t=i:=by omega
   exact h0
 have e:=search_endP l x i hle a1 a2;rw [e];exact⟨a1,a2⟩
theorem hasLb_false_at(l:List UInt8)(x:UInt8)(h:hasLb l x=false):∀t(h:t<l.length),l[t].toNat≠x.toNat:=by
 intro t ht e;unfold hasLb at h;rw [List.any_eq_true.2 ⟨l[t],List.getElem_mem _,by simpa using e⟩]at h;cases h
theorem rising_insP(l:List UInt8)(x:UInt8)(hs:risingB l=true)(hh:hasLb l x=false):risingB (insP l (placeSP l x) x)=true:=by
 obtain⟨a1,a2⟩:=place_splitP l x hs;have hp:=placeSP_le l x;have hne:=hasLb_false_at l x hh;generalize placeSP l x=p at*;rw [rising_iff];intro i hi;have hlen:(insP l p x).length=l.length+1:=insP_length l p x hp;have e1:=insP_get l p x hp i;have e2:=insP_get l p x hp (i+1);rw [List.getElem?_eq_getElem (by omega)]at e1 e2;rw [hlen]at hi;rcases Nat.lt_or_ge (i+1) p with h| h
 ·rw [if_pos (by omega),List.getElem?_eq_getElem (by omega)]at e1 e2;injection e1 with e1;injection e2 with e2
  rw [e1,e2];exact(rising_iff l).1 hs i (by omega)
 ·rcases Nat.lt_or_ge i p with h'| h'
  ·obtain rfl:p=i+1:=by omega
   rw [if_pos (by omega),List.getElem?_eq_getElem (by omega)]at e1;rw [if_neg (by omega),if_pos rfl]at e2;injection e1 with e1;injection e2 with e2
   rw [e1,e2];exact a1 i (by omega) (by omega)
  ·rw [if_neg (by omega),if_neg (by omega),Nat.add_sub_cancel,List.getElem?_eq_getElem (by omega)]at e2;injection e2 with e2
   rw [e2];rcases Nat.eq_or_lt_of_le h' with h3| h3
   ·subst h3;rw [if_neg (by omega),if_pos rfl]at e1;injection e1 with e1
    rw [e1];have:=a2 p (by omega) (Nat.le_refl _);have:=hne p (by omega);omega
   ·rw [if_neg (by omega),if_neg (by omega),List.getElem?_eq_getElem (by omega)]at e1;injection e1 with e1
    rw [e1];have:=(rising_iff l).1 hs (i-1) (by omega);simp only [show i-1+1=i by omega]at this;exact this
structure WithFactsP(x:Nd)(label:UInt8)(kid:UInt64):Prop where
 right:rightB (withP x label kid)=true
 place:placeSP x.labels label≤x.labels.length
 len:(withP x label kid).labels.length=x.labels.length+1
 lenk:(withP x label kid).kids.length=x.kids.length+1
 lab_at:(withP x label kid).labels[placeSP x.labels label]? =some label
 kid_at:(withP x label kid).kids[placeSP x.labels label]? =some kid
 find:findLb (withP x label kid).labels label=some (placeSP x.labels label)
 out:outP (withP x label kid) (placeSP x.labels label)=x
 old:∀i(h:i<x.labels.length)(hk:i<x.kids.length),∃j,j<x.labels.length+1∧(withP x label kid).labels[j]? =some x.labels[i]∧(withP x label kid).kids[j]? =some x.kids[i]
theorem withOkP_iff(x:Nd)(label:UInt8)(kid:UInt64):withOkP x label kid=true↔rightB x=true∧label.toNat<16∧kid.toNat≠0∧hasLb x.labels label=false:=by
 unfold withOkP;simp only [Bool.and_eq_true,decide_eq_true_eq,Bool.not_eq_true',beq_eq_false_iff_ne,and_assoc,ne_eq]
theorem withP_facts(x:Nd)(label:UInt8)(kid:UInt64)(h:withOkP x label kid=true):WithFactsP x label kid:=by
 obtain⟨hR,h16,hk,hh⟩:=(withOkP_iff x label kid).1 h;obtain⟨r1,r2,r3,r4,r5,r6⟩:=(rightB_iff x).1 hR;have hp:=placeSP_le x.labels label;have l1:(insP x.labels (placeSP x.labels label) label).length=x.labels.length+1:=insP_length _ _ _ hp;have l2:(insP x.kids (placeSP x.labels label) kid).length=x.kids.length+1:=insP_length _ _ _ (by omega);have hr:rightB (withP x label kid)=true:=by
  rw [rightB_iff];refine⟨r1,r2,?_,?_,rising_insP _ _ r5 hh,?_⟩
  ·show(insP _ _ _).length=(insP _ _ _).length;omega
  ·rw [List.all_eq_true];intro y hy;rcases mem_insP _ _ _ _ hy with rfl| hy
   ·exact isNib_yes h16
   ·exact(List.all_eq_true.1 r4) y hy
  ·intro i hi;rcases mem_insP _ _ _ _ (List.getElem_mem hi)with e| hy
   ·rw [e];exact hk
   ·obtain⟨t,ht,e⟩:=List.getElem_of_mem hy;rw [←e];exact r6 t ht
 have hlab:(withP x label kid).labels[placeSP x.labels label]? =some label:=by
  show(insP _ _ _)[_]? =_;rw [insP_get _ _ _ hp,if_neg (by omega),if_pos rfl]
 refine⟨hr,hp,l1,l2,hlab,?_,?_,?_,?_⟩
 ·show(insP _ _ _)[_]? =_;rw [insP_get _ _ _ (by omega),if_neg (by omega),if_pos rfl]
 ·have hlt:placeSP x.labels label<(withP x label kid).labels.length:=by rw [show(withP x label kid).labels.length=x.labels.length+1 from l1];omega
  have:=find_label _ ((rightB_iff _).1 hr).2.2.2.2.1 _ hlt;rw [List.getElem?_eq_getElem hlt]at hlab;injection hlab with hlab
  rw [hlab]at this;exact this
 ·show({pre:=x.pre,val:=x.val,labels:=delP (insP _ _ _) _,kids:=delP (insP _ _ _) _}:Nd)=x;rw [delP_insP _ _ _ hp,delP_insP _ _ _ (by omega)]
 ·intro i hi hik;by_cases hip:i<placeSP x.labels label
  ·refine⟨i,by omega,?_,?_⟩
   ·show(insP _ _ _)[_]? =_;rw [insP_get _ _ _ hp,if_pos hip,List.getElem?_eq_getElem hi]
   ·show(insP _ _ _)[_]? =_;rw [insP_get _ _ _ (by omega),if_pos hip,List.getElem?_eq_getElem hik]
  ·refine⟨i+1,by omega,?_,?_⟩
   ·show(insP _ _ _)[_]? =_;rw [insP_get _ _ _ hp,if_neg (by omega),if_neg (by omega),Nat.add_sub_cancel,List.getElem?_eq_getElem hi]
   ·show(insP _ _ _)[_]? =_;rw [insP_get _ _ _ (by omega),if_neg (by omega),if_neg (by omega),Nat.add_sub_cancel,List.getElem?_eq_getElem hik]
end Go.Proofs.YtdjfbnoolfpcnaaGreatDoor
