import Derived.WalkSpells
import Derived.WalkLawsBesides
import Derived.Lib.Hide
import Derived.Deep.AppendLies
import Derived.Deep.RegionLaw
import Derived.Lib.BytesEntry
import Derived.BigQuiet
open Int renaming ofNat_lt->rF
open List renaming getElem?_eq_getElem->Af,eq_nil_of_length_eq_zero->Ce,getElem?_take->CS,mem_map->Bf,mem_of_mem_take->sH,replicate->BB,ext_getElem->EH,getElem?_eq_some_iff->Cb,getElem?_map->BZ,length_take->DC,map_toArray->MB,map_cons->BU,map_nil->Gq,take_succ_eq_append_getElem->Di,getElem_mem->BM,take_succ_cons->Jz,drop_eq_getElem_cons->Ea,all_cons->gG,length_cons->BJ,cons_append->CJ,all_eq_true->E8,map_set->QI,set_append_right->SN,replicate_succ->Uw,getElem_cons_succ->Ah,range->D7,length_append->AQ,ext_getElem?->IY,getElem?_mapIdx->MC,getElem?_set->Hy,getElem_set->MO,getElem?_eq_none->EP,getElem_take->Ado,getElem_of_mem->CU,nil_append->Fz,filter_cons->Adu,take_of_length_le->FK,drop_take->Ahr,take_take->Ahs,getElem_map->GU,getElem_range->Vx,getD_cons_zero->xQ
open Nat renaming le_refl->Ad,zero_le->BK,eq_zero_or_pos->Ho,mul_le_mul->Iu,pow_succ->Jv,mul_assoc->Nh,mul_comm->Iw,min_eq_left->MN,pow_le_pow_right->Fh,div_div_eq_div_mul->rG,mod_eq_of_lt->FZ,lt_of_lt_of_le->Cf,mod_lt->SQ,xor_lt_two_pow->Vm
open Array renaming getElem?_eq_some_iff->AB,getElem?_push->FD
open Go.World renaming cell?->Alg
open Go.Value renaming int->Au,cells->sJ
open Option renaming map_some->DK
open UInt64 renaming ofNat->AA,toNat_ofNat'->Jq
namespace Go.Proofs.YtkimaejoeapmnaaGreatDoor
open Go.RowKit
abbrev Aw(b:Nat):Value:= .pointer (some ⟨b,0,none⟩)
theorem aJ{k n:Nat}(h:k<n):(k:Int)<(n:Int)/\decide ((k:Int)<(n:Int))=true/\decide (k<n)=true:=⟨rF.2 h,decide_eq_true (rF.2 h),decide_eq_true h⟩
theorem yj{k n:Nat}(h:¬k<n):decide ((k:Int)<(n:Int))=false/\decide (k<n)=false:=⟨decide_eq_false (fun e=>h (rF.1 e)),decide_eq_false h⟩
theorem lh(k:Nat)(h:k+1<9223372036854775808):IntKind.i64.wrap ((k:Int)+1)=(k:Int)+1:=IntWalk.i64_in _ (by omega)
def Rd(w:World)(A:Option Addr)(n:Nat)(xs:List Value):Prop:=
 xs.length=n/\(0<n->∃b off,A=some ⟨b,off,none⟩/\b<w.heap.size/\∀j,j<n->w.cell? ⟨b,off+j,none⟩=xs[j]?)
theorem Rd.nil{w:World}{A:Option Addr}:Rd w A 0 []:=⟨rfl,fun h=>absurd h (by omega)⟩
theorem Rd.at{w:World}{A:Option Addr}{n:Nat}{xs:List Value}(h:Rd w A n xs){k:Nat}(hk:k<n):
 ∃b off u,A=some ⟨b,off,none⟩/\b<w.heap.size/\xs[k]? =some u/\w.cell? ⟨b,off+k,none⟩=some u:=by
 obtain⟨b,off,e,hb,hc⟩:=h.2 (by omega);have hl:k<xs.length:=by have:=h.1;omega
 exact⟨b,off,xs[k],e,hb,Af hl,(hc k hk).trans (Af hl)⟩
theorem Rd.keep{w w':World}{A:Option Addr}{n:Nat}{xs:List Value}(h:Rd w A n xs)(hs:w.heap.size<=w'.heap.size)
 (hk:∀k,k<w.heap.size->w'.heap[k]? =w.heap[k]?):Rd w' A n xs:=
 ⟨h.1,fun hn=>by
   obtain⟨b,off,e,hb,hc⟩:=h.2 hn;exact⟨b,off,e,by omega,fun j hj=>(World.cell?_of_block (w:=w) (hk b hb)).trans (hc j hj)⟩⟩
theorem Rd.below{w w':World}{A:Option Addr}{n:Nat}{xs:List Value}(h:Rd w A n xs)(hb:Below w.heap.size w w'):Rd w' A n xs:=
 h.keep hb.size hb.block
def bv(b:UInt8):Value:= .int .u8 (b.toNat:Int)
def wv(x:UInt64):Value:= .int .u64 (x.toNat:Int)
def Bs(w:World)(A:Option Addr)(n:Nat)(l:List UInt8):Prop:=Rd w A n (l.map bv)
def Ws(w:World)(A:Option Addr)(n:Nat)(l:List UInt64):Prop:=Rd w A n (l.map wv)
theorem Bs.len{w:World}{A:Option Addr}{n:Nat}{l:List UInt8}(h:Bs w A n l):l.length=n:=by
 have:=h.1;simpa using this
theorem Ws.len{w:World}{A:Option Addr}{n:Nat}{l:List UInt64}(h:Ws w A n l):l.length=n:=by
 have:=h.1;simpa using this
theorem Bs.below{w w':World}{A:Option Addr}{n:Nat}{l:List UInt8}(h:Bs w A n l)(hb:Below w.heap.size w w'):Bs w' A n l:=Rd.below h hb
theorem Ws.below{w w':World}{A:Option Addr}{n:Nat}{l:List UInt64}(h:Ws w A n l)(hb:Below w.heap.size w w'):Ws w' A n l:=Rd.below h hb
theorem Bs.at{w:World}{A:Option Addr}{n:Nat}{l:List UInt8}(h:Bs w A n l){k:Nat}(hk:k<n):
 ∃(hl:k<l.length)(b off:Nat),A=some ⟨b,off,none⟩/\b<w.heap.size/\w.cell? ⟨b,off+k,none⟩=some (.int .u8 (l[k].toNat:Int)):=by
 have hl:k<l.length:=by have:=h.len;omega
 obtain⟨b,off,u,e,hb,hu,hc⟩:=Rd.at h hk;refine⟨hl,b,off,e,hb,?_⟩;rw [hc,<-hu];simp [bv,hl]
theorem Ws.at{w:World}{A:Option Addr}{n:Nat}{l:List UInt64}(h:Ws w A n l){k:Nat}(hk:k<n):
 ∃(hl:k<l.length)(b off:Nat),A=some ⟨b,off,none⟩/\b<w.heap.size/\w.cell? ⟨b,off+k,none⟩=some (.int .u64 (l[k].toNat:Int)):=by
 have hl:k<l.length:=by have:=h.len;omega
 obtain⟨b,off,u,e,hb,hu,hc⟩:=Rd.at h hk;refine⟨hl,b,off,e,hb,?_⟩;rw [hc,<-hu];simp [wv,hl]
theorem CO{w:World}{base:Nat}{e:TypeId}{v:Value}{n:Nat}{xs:List Value}(h:w.ownsRow base e 1 v n xs):
 ∃A c,v= .slice A n c/\n<=c/\Rd w A n xs:=by
 obtain⟨h1,h2⟩:=h;rcases h2 with⟨rfl,rfl⟩| ⟨g,cap,cur,rfl,_,hg,hnc,_,hcs,htake⟩
 ·have:xs=[]:=Ce (by simpa using h1);subst this;exact⟨none,0,rfl,Ad _,Rd.nil⟩
 ·refine⟨_,_,rfl,hnc,by simpa using h1,fun hn=>⟨g,0,rfl,?_,fun j hj=> ?_⟩⟩
  ·exact(AB.1 hg).1
  ·rw [cell_of_row w g (0+j) cur e (0,0) hg,<-htake,CS,if_pos (by omega)];simp
def Dr(w w':World):Prop:=∃q,w'=w.drewN q
theorem Dr.refl(w:World):Dr w w:=⟨0,rfl⟩
theorem Dr.one(w:World)(q:Nat):Dr w (w.drewN q):=⟨q,rfl⟩
theorem Dr.two(w:World)(q r:Nat):Dr w ((w.drewN q).drewN r):=⟨q+r,World.drewN_drewN _ _ _⟩
theorem Dr.trans{a b c:World}(h:Dr a b)(k:Dr b c):Dr a c:=by
 obtain⟨q,rfl⟩:=h;obtain⟨r,rfl⟩:=k;exact Dr.two _ _ _
theorem Dr.below{w w':World}(h:Dr w w')(B:Nat):Below B w w':=by
 obtain⟨q,rfl⟩:=h;exact⟨rfl,rfl,rfl,Ad _,fun _ _=>rfl⟩
theorem Yt{w:World}{base g cap:Nat}{e:TypeId}{n:Nat}{xs:List Value}(h:w.ownsRow base e 1 (.slice (some ⟨g,0,none⟩) n cap) n xs){k:Nat}(hk:k<n):∃u,w.cell? ⟨g,k,none⟩=some u:=by
 rw [h.cellAt k (by omega)];exact⟨_,Af (by have:=h.1;omega)⟩
theorem Aah{v u:Value}(h:v=u):Ending.returned v=Ending.returned u:=by rw [h]
theorem Gu(l:List UInt8):∀u∈l.map bv,u.oneCell'=true:=by
 intro u hu;obtain⟨_,_,rfl⟩:=Bf.1 hu;rfl
theorem P9(l:List UInt64):∀u∈l.map wv,u.oneCell'=true:=by
 intro u hu;obtain⟨_,_,rfl⟩:=Bf.1 hu;rfl
def Akn(k:IntKind)(w:World)(a:Option Addr)(len cap:Nat)(zs:List Int):Prop:=
 (a=none/\len=0/\cap=0/\zs=[])\/
 ∃x,a=some x/\len<=cap/\cap<=maxLen/\zs.length=cap/\(∀i,i<zs.length->w.cell? (x.add i)=some (.int k (zs.getD i 0)))/\∀n∈zs,(Lit.int k n).wf=true
theorem block_lt_of_cell{w:World}{a:Addr}{v:Value}(h:w.cell? a=some v):a.block<w.heap.size:=by
 rcases Nat.lt_or_ge a.block w.heap.size with hlt| hge
 ·exact hlt
 ·rw [Alg,Array.getElem?_eq_none hge]at h;cases h
theorem gK{w:World}{x:Addr}{v:Value}(h:w.cell? (x.add 0)=some v):∃b off,x=⟨b,off,none⟩:=by
 obtain⟨b,off,s⟩:=x;rcases s with _| s
 ·exact⟨b,off,rfl⟩
 ·exfalso;unfold Alg Addr.add at h;split at h
  ·split at h<;>simp_all
  ·cases h
theorem Aai{k:IntKind}{w:World}{a:Option Addr}{len cap:Nat}{zs:List Int}(h:Akn k w a len cap zs):Rd w a len ((zs.take len).map (Au k))/\(len<=maxLen/\len<=cap)/\∀n∈zs,(Lit.int k n).wf=true:=by
 rcases h with⟨rfl,rfl,rfl,rfl⟩| ⟨x,rfl,hl,hm,hz,hc,hwf⟩
 ·exact⟨Rd.nil,⟨BK _,Ad _⟩,by simp⟩
 ·refine⟨⟨by simp;omega,fun hn=> ?_⟩,⟨by omega,hl⟩,hwf⟩;have h0:=hc 0 (by omega);obtain⟨b,off,rfl⟩:=gK h0;refine⟨b,off,rfl,block_lt_of_cell h0,fun j hj=> ?_⟩;have:=hc j (by omega);rw [Addr.add_lit]at this;rw [this];simp [hj,List.getD,show j<zs.length by omega]
theorem Aaj{w:World}{a:Option Addr}{len cap:Nat}{zs:List Int}(h:Akn .u8 w a len cap zs):∃l:List UInt8,Bs w a len l/\len<=maxLen/\len<=cap:=by
 obtain⟨h1,h2,h3⟩:=Aai h;refine⟨(zs.take len).map fun n=>UInt8.ofNat n.toNat,?_,h2⟩;have e:((zs.take len).map fun n=>UInt8.ofNat n.toNat).map bv=(zs.take len).map (Au .u8):=by
  rw [List.map_map];apply List.map_congr_left;intro n hn;have:=h3 n (sH hn);have hb:0<=n/\n<=255:=by simpa [Lit.wf,IntKind.min,IntKind.max,IntKind.bits,IntKind.signed]using this
  simp only [Function.comp_apply,bv,UInt8.toNat_ofNat'];congr 1;omega
 rw [Bs,e];exact h1
theorem PD(n:Nat):(madeCells (Au .u8 0).cells (n*1)).toList=(BB n (0:UInt8)).map bv:=by
 apply EH
 ·simp [madeCells]
 ·intro i h1 h2;simp [madeCells,sJ,Nat.mod_one,bv]
theorem KP(n:Nat):(madeCells (Au .u64 0).cells (n*1)).toList=(BB n (0:UInt64)).map wv:=by
 apply EH
 ·simp [madeCells]
 ·intro i h1 h2;simp [madeCells,sJ,Nat.mod_one,wv]
theorem Alk {P : Program} {w : World} {A : Option Addr} {n : Nat} {l : List UInt8} (h : Bs w A n l) (c : Nat) :
    (Extern.Bytes.bytesOf (.slice A n c)).run P w = .ok ⟨l.toArray⟩ w := by
  have hlen := h.len
  rcases A with _ | ad
  · have hn : n = 0 := by
      rcases Ho n with h0 | h0
      · exact h0
      · obtain ⟨_, _, e, _⟩ := h.2 h0; cases e
    subst hn
    have hl : l = [] := Ce hlen
    subst hl
    rfl
  · have key := Lib.run_loadBytesX (P := P) w (l.map fun b => (b.toNat : Int)) ad .empty (fun j x hx => by
      have hjl : j < l.length := by
        have := (Cb.1 hx).1
        simpa using this
      obtain ⟨hl, b, off, e, hb, hc⟩ := h.at (k := j) (by omega)
      injection e with e
      subst e
      rw [Addr.add_lit, hc]
      rw [BZ, Af hjl] at hx
      simp only [DK, Option.some.injEq] at hx
      rw [hx])
    simp only [List.length_map, hlen] at key
    show (Extern.Bytes.loadBytes ad n .empty).run P w = _
    rw [key]
    congr 1
    apply ByteArray.ext
    show (#[] : Array UInt8) ++ (Lib.bytesOf _).toArray = l.toArray
    simp [Lib.bytesOf, Function.comp_def]
theorem KQ {P : Program} {w : World} {src e dst : TypeId} (hs : P.underlying src = some (.slice e)) (he : P.underlying e = some (.int .u8)) (hd : P.underlying dst = some .string)
    {A : Option Addr} {n : Nat} {l : List UInt8} (h : Bs w A n l) (c : Nat) : (convert src dst (.slice A n c)).run P w = .ok (.string ⟨l.toArray⟩) w := by
  have hlen := h.len
  rcases A with _ | ad
  · have hn : n = 0 := by
      rcases Ho n with h0 | h0
      · exact h0
      · obtain ⟨_, _, e, _⟩ := h.2 h0; cases e
    subst hn
    have hl : l = [] := Ce hlen
    subst hl
    exact run_convert_bytes_nil w src e hs he 0 c dst hd
  · have hl : (loadCells ad n).run P w = .ok ((l.map fun b => (b.toNat : Int)).map (Au .u8)).toArray w := by
      have := run_loadCells_list (P := P) w ad ((l.map fun b => (b.toNat : Int)).map (Au .u8)) (fun j v hj => by
        have hjl : j < l.length := by
          have := (Cb.1 hj).1
          simpa using this
        obtain ⟨hl, b, off, e, hb, hc⟩ := h.at (k := j) (by omega)
        injection e with e
        subst e
        rw [Addr.add_lit, hc]
        simp only [BZ, Af hjl, DK, Option.some.injEq] at hj
        rw [hj])
      simpa [hlen] using this
    rw [run_convert_bytes_string w src dst e _ n c hs he hd, run_bytesToString w _ n c _ hl, foldl_push_bytes]
    congr 2
    apply ByteArray.ext
    show (#[] : Array UInt8) ++ _ = l.toArray
    simp [Function.comp_def]
structure LK(P:Program)(t e:TypeId)(z:Value)(bytes:Nat):Prop where
 ht:P.underlying t=some (.slice e)
 hi:(P.info? e).map (fun i=>(i.zero,i.size,i.bytes))=some (some z,1,bytes)
 hz:z.cells.size=1
def Uy(A:Option Addr)(c lo:Nat):Option Addr:=if c=lo then A else A.map (·.add lo)
theorem Rd.sub{w:World}{A:Option Addr}{n:Nat}{xs:List Value}(h:Rd w A n xs){c lo hi:Nat}(h1:lo<=hi)(h2:hi<=n)(hc:n<=c):Rd w (Uy A c lo) (hi-lo) ((xs.drop lo).take (hi-lo)):=by
 refine⟨by rw [DC,List.length_drop,h.1];omega,fun h0=> ?_⟩;obtain⟨b,off,rfl,hb,hcl⟩:=h.2 (by omega);refine⟨b,off+lo,?_,hb,fun j hj=> ?_⟩
 ·rw [Uy,if_neg (by omega)];simp [Addr.add_lit]
 ·rw [Nat.add_assoc,hcl (lo+j) (by omega),CS,if_pos hj,List.getElem?_drop]
section
variable{P:Program}{t e:TypeId}{z:Value}{bytes:Nat}
theorem LK.PE(T:LK P t e z bytes)(w:World):(sizeOf e).run P w= .ok 1 w:=by
 obtain⟨i,hi,hz0,hz1,hz2⟩:=info_parts T.hi;simp [sizeOf,typeInfo,hi,hz1]
theorem yl(T:LK P t e z bytes)(A:Option Addr)(n c:Nat)(k1 k2:IntKind)(lo hi:Nat)(h1:lo<=hi)(h2:hi<=c)(w:World):
 (Instr.slice t (.slice A n c) (some (.int k1 (lo:Int))) (some (.int k2 (hi:Int))) none).run P w= .ok (.slice (Uy A c lo) (hi-lo) (c-lo)) w:=by
 have e1:=run_sliceBound (P:=P) (w:=w) k2 (hi:Int) c .sliceAcap (by omega) (by omega);have e2:=run_sliceBound (P:=P) (w:=w) k1 (lo:Int) hi .sliceB (by omega) (by omega);simp [Instr.slice,run_underlying T.ht,Instr.sliceBounds,e1,e2,T.PE,Uy]
theorem lq(T:LK P t e z bytes)(A:Option Addr)(n c:Nat)(k1:IntKind)(lo:Nat)(h1:lo<=n)(w:World):
 (Instr.slice t (.slice A n c) (some (.int k1 (lo:Int))) none none).run P w= .ok (.slice (Uy A c lo) (n-lo) (c-lo)) w:=by
 have e2:=run_sliceBound (P:=P) (w:=w) k1 (lo:Int) n .sliceB (by omega) (by omega);simp [Instr.slice,run_underlying T.ht,Instr.sliceBounds,e2,T.PE,Uy]
end
theorem Aak {P : Program} {t e : TypeId} {z : Value} {bytes : Nat} (T : LK P t e z bytes) (ty : TypeId) {w : World} {base : Nat} {v : Value} {n : Nat} {xs news : List Value}
    (hown : w.ownsRow base e 1 v n xs) {A : Option Addr} {m : Nat} (hr : Rd w A m news)
    (h1 : ∀ u ∈ news, u.oneCell' = true) (hm : n + m <= 1000000000) (hby : bytes <= 64) (hbase : base <= w.heap.size) (c : Nat) :
    ∃ v' w', (Builtin.append_ #[t, t] ty #[v, .slice A m c]).run P w = .ok v' w' /\ w'.ownsRow base e 1 v' (n + m) (xs ++ news) /\ Below base w w' := by
  obtain ⟨i, hi, hz0, hz1, hz2⟩ := info_parts T.hi
  rcases A with _ | ad
  · have h0 : m = 0 := by
      rcases Ho m with h0 | h0
      · exact h0
      · obtain ⟨_, _, e, _⟩ := hr.2 h0; cases e
    subst h0
    have hn : news = [] := Ce hr.1
    subst hn
    refine ⟨v, w, ?_, by simpa using hown, Below.refl _ _⟩
    rcases hown.2 with ⟨rfl, rfl⟩ | ⟨g, cap, cur, rfl, _, _, hnc, _⟩
    · simp [Builtin.append_, run_underlying T.ht, sizeOf, typeInfo, hi, Builtin.lenOf, Builtin.firstCells]
    · simp [Builtin.append_, run_underlying T.ht, sizeOf, typeInfo, hi, Builtin.lenOf, Builtin.firstCells, hnc, storeCells]
  · have hcells : ∀ j u, news[j]? = some u -> w.cell? (ad.add j) = some u := by
      intro j u hu
      have hj : j < m := by
        have := (Cb.1 hu).1
        have := hr.1
        omega
      obtain ⟨b, off, e, _, hc⟩ := hr.2 (by omega)
      injection e with e
      subst e
      rw [Addr.add_lit, hc j hj, hu]
    have hmul : (n + m) * bytes <= 1000000000 * 64 := Iu hm hby
    obtain ⟨v', w', hrun, h2, h3, _⟩ := run_append_own (P := P) w base t ty e i z 1 bytes T.ht hi hz0 hz1 hz2 T.hz (by decide) v n xs hown ad m c news (by simp [hr.1]) hcells h1
      (by unfold maxLen; omega) (by omega) hbase
    exact ⟨v', w', hrun, h2, (Below.refl _ _).grown h3 hbase (fun k hk => (hown.lt k hk).1)⟩
theorem Td{P:Program}{ops:Array Oper}{rest:List Oper}{o:Oper}{a:Act}{w:World}{Q:Exit->Act->World->Prop}(hgd:o.guard=none)(s x:Operand)(t:TypeId)
 (ho:o.op= .call {callee:= .builtin .append,args:= #[s,x],argTypes:= #[t,t]}){e:TypeId}{z:Value}{bytes:Nat}(T:LK P t e z bytes)
 (base:Nat)(v:Value)(n:Nat)(xs news:List Value)(hs:a.eval s=v)(hown:w.ownsRow base e 1 v n xs)(A:Option Addr)(m c:Nat)(hx:a.eval x= .slice A m c)(hr:Rd w A m news)
 (h1:∀u∈news,u.oneCell'=true)(hm:n+m<=1000000000)(hby:bytes<=64)(hbase:base<=w.heap.size)
 (h:∀v' w',w'.ownsRow base e 1 v' (n+m) (xs++news)->Below base w w'->wpList P ops Q rest (a.put o.dst v') w'):wpList P ops Q (o::rest) a w:=by
 refine wpList_plain hgd fun K hK=> ?_
 obtain⟨v',w',hrun,h2,h3⟩:=Aak T o.type hown hr h1 hm hby hbase c;unfold Oper.wp execOp;simp only [ho,resolve,invoke,builtin,Sem.run_bind,Sem.run_pure,Result.andThen_ok,MB,BU,Gq,hs,hx,hrun];exact hK _ _ (h v' w' h2 h3)
theorem sO{P:Program}{t e:TypeId}{z:Value}{bytes:Nat}(T:LK P t e z bytes)(ty:TypeId){w wr:World}{base:Nat}{v:Value}{n:Nat}{xs news:List Value}
 (hown:wr.ownsRow base e 1 v n xs)(hw:w.heap=wr.heap.push (.cells news.toArray e))(hos:w.os=wr.os)(htape:w.tape=wr.tape)(hout:w.output=wr.output)
 (h1:∀u∈news,u.oneCell'=true)(hm:n+news.length<=1000000000)(hby:bytes<=64)(hbase:base<=wr.heap.size)(m c:Nat)(hmn:m=news.length):
 ∃v' w',(Builtin.append_ #[t,t] ty #[v,.slice (some ⟨wr.heap.size,0,none⟩) m c]).run P w= .ok v' w'/\w'.ownsRow base e 1 v' (n+m) (xs++news)/\Below base wr w':=by
 subst hmn;obtain⟨i,hi,hz0,hz1,hz2⟩:=info_parts T.hi;have hb1:Below wr.heap.size wr w:=⟨hos,htape,hout,by rw [hw];simp,fun k hk=>by rw [hw,FD,if_neg (by omega)]⟩;have hown':w.ownsRow base e 1 v n xs:=by
  refine⟨hown.1,?_⟩;rcases hown.2 with h| ⟨g,cap,cur,h1,h2,h3,h4⟩
  ·exact .inl h
  ·exact .inr ⟨g,cap,cur,h1,h2,by rw [hb1.block g (AB.1 h3).1];exact h3,h4⟩
 have hcells:∀j u,news[j]? =some u->w.cell? ((⟨wr.heap.size,0,none⟩:Addr).add j)=some u:=by
  intro j u hu;rw [show(⟨wr.heap.size,0,none⟩:Addr).add j=⟨wr.heap.size,0+j,none⟩from Addr.add_lit _ _ _];rw [cell_of_row w wr.heap.size (0+j) news.toArray e (0,0) (by rw [hw,FD,if_pos rfl])];simpa using hu
 have hmul:(n+news.length)*bytes<=1000000000*64:=Iu hm hby;obtain⟨v',w',hrun,h2,h3,_⟩:=run_append_own (P:=P) w base t ty e i z 1 bytes T.ht hi hz0 hz1 hz2 T.hz (by decide) v n xs hown' _ news.length c news (by simp) hcells h1
  (by unfold maxLen;omega) (by omega) (by rw [hw];simp;omega)
 refine⟨v',w',hrun,h2,(hb1.mono hbase).trans ?_⟩;exact(Below.refl _ _).grown h3 (by rw [hw];simp;omega) (fun k hk=>(hown'.lt k hk).1)
theorem gQ{P:Program}{ops:Array Oper}{o:Oper}{a:Act}{w:World}{K:Act->World->Prop}{Q:Exit->Act->World->Prop}{E:Prop}(hgd:o.guard=none)(s x:Operand)(t:TypeId)
 (ho:o.op= .call {callee:= .builtin .append,args:= #[s,x],argTypes:= #[t,t]}){e:TypeId}{z:Value}{bytes:Nat}(T:LK P t e z bytes)
 (wr:World)(base:Nat)(v:Value)(n:Nat)(xs news:List Value)(hs:a.eval s=v)(hown:wr.ownsRow base e 1 v n xs)(hw:w.heap=wr.heap.push (.cells news.toArray e))
 (hos:w.os=wr.os)(htape:w.tape=wr.tape)(hout:w.output=wr.output)
 (m c:Nat)(hx:a.eval x= .slice (some ⟨wr.heap.size,0,none⟩) m c)(hmn:m=news.length)
 (h1:∀u∈news,u.oneCell'=true)(hm:n+news.length<=1000000000)(hby:bytes<=64)(hbase:base<=wr.heap.size)
 (h:∀v' w',w'.ownsRow base e 1 v' (n+m) (xs++news)->Below base wr w'->K (a.put o.dst v') w'):
 if Region.wanted o (yielded ops a.tmps)=true then Oper.wp P o a w K Q else E:=by
 have hwt:Region.wanted o (yielded ops a.tmps)=true:=by simp [Region.wanted,hgd]
 rw [if_pos hwt];obtain⟨v',w',hrun,h2,h3⟩:=sO T o.type hown hw hos htape hout h1 hm hby hbase m c hmn;unfold Oper.wp execOp;simp only [ho,resolve,invoke,builtin,Sem.run_bind,Sem.run_pure,Result.andThen_ok,MB,BU,Gq,hs,hx,hrun];exact h v' w' h2 h3
def DL(b:UInt8):Bool:=b.toNat<16
theorem Tf{α:Type}(p:α->Bool)(l:List α)(k:Nat)(h:k<l.length)(ha:(l.take k).all p=true)(hp:p l[k]=true):(l.take (k+1)).all p=true:=by
 rw [Di h,List.all_append,ha];simp [hp]
theorem Vz{α:Type}(p:α->Bool)(l:List α)(k:Nat)(h:k<l.length)(hp:p l[k]=false):l.all p=false:=by
 rw [List.all_eq_false];exact⟨l[k],BM h,by simp [hp]⟩
theorem V3{b:UInt8}(h:b.toNat<16):DL b=true:=by simp [DL,h]
theorem Ad4{b:UInt8}(h:¬b.toNat<16):DL b=false:=by simp [DL];omega
def DR(l:List UInt8):List UInt8:=l.flatMap fun b=>[b/16,b%16]
theorem Yu(l:List UInt8)(k:Nat)(h:k<l.length):DR (l.take (k+1))=DR (l.take k)++[l[k]/16,l[k]%16]:=by
 rw [Di h];simp only [DR,List.flatMap_append,List.flatMap_cons,List.flatMap_nil,List.append_nil]
theorem TB(s:ByteArray)(k:Nat)(h:k<s.size):DR (s.data.toList.take (k+1))=DR (s.data.toList.take k)++[s[k]/16,s[k]%16]:=by
 have hl:k<s.data.toList.length:=by simpa using h
 rw [Yu _ k hl];rfl
theorem LM(l:List UInt8):(DR l).length=2*l.length:=by
 induction l with
 | nil=>rfl
 | cons a l ih=>simp [DR]at ih⊢;omega
theorem Alm(b:UInt8):Au .u8 ((b.toNat:Int)/16)=bv (b/16):=by simp [bv]
theorem Aln(b:UInt8):Au .u8 ((b.toNat:Int)%16)=bv (b%16):=by simp [bv]
theorem Ahz(b:UInt8):Au .u8 (IntKind.u8.wrap ((b.toNat:Int)/16))=bv (b/16):=by
 have:=b.toNat_lt;rw [<-Alm,IntWalk.u8_in _ (by omega)]
theorem Ah0(b:UInt8):Au .u8 ((b.toNat:Int).tmod 16)=bv (b%16):=by
 rw [<-Aln,Int.tmod_eq_emod_of_nonneg (by omega)]
def common:List UInt8->List UInt8->Nat
 | a::as,b::bs=>if a=b then common as bs+1 else 0
 | _,_=>0
theorem IL:∀(a b:List UInt8),common a b<=a.length
 | [],_=>by simp [common]
 | a::as,[]=>by simp [common]
 | a::as,b::bs=>by
   simp only [common];have:=IL as bs;split<;>simp;omega
theorem QN:∀(a b:List UInt8),common a b=common b a
 | [],[]=>rfl
 | [],_::_=>by simp [common]
 | _::_,[]=>by simp [common]
 | a::as,b::bs=>by
   simp only [common];rw [QN as bs];by_cases h:a=b
   ·subst h;simp
   ·simp [h,Ne.symm h]
theorem Fp(a b:List UInt8):common a b<=b.length:=by rw [QN];exact IL b a
def alike(k:Nat)(a b:List UInt8):Prop:=k<=a.length/\k<=b.length/\a.take k=b.take k
theorem sQ(a b:List UInt8):alike 0 a b:=⟨BK _,BK _,by simp⟩
theorem MH:∀(k:Nat)(a b:List UInt8),alike k a b->common a b=k+common (a.drop k) (b.drop k)
 | 0,a,b,_=>by simp
 | k+1,[],b,h=>by have:=h.1;simp at this
 | k+1,a::as,[],h=>by have:=h.2.1;simp at this
 | k+1,a::as,b::bs,h=>by
   obtain⟨h1,h2,h3⟩:=h;simp only [Jz,List.cons.injEq]at h3;obtain⟨rfl,h3⟩:=h3;have:=MH k as bs ⟨by simpa using h1,by simpa using h2,h3⟩;simp [common,this];omega
theorem sS{k:Nat}{a b:List UInt8}(h:alike k a b)(ha:k<a.length)(hb:k<b.length)(e:a[k]=b[k]):alike (k+1) a b:=
 ⟨ha,hb,by rw [Di ha,Di hb,h.2.2,e]⟩
theorem X0{k:Nat}{a b:List UInt8}(h:alike k a b)(ha:k<a.length)(hb:k<b.length)(e:a[k]≠b[k]):common a b=k:=by
 rw [MH k a b h,Ea ha,Ea hb];simp [common,e]
theorem NU{k:Nat}{a b:List UInt8}(h:alike k a b)(ha:a.length=k):common a b=k:=by
 rw [MH k a b h,List.drop_of_length_le (by omega)];simp [common]
theorem TC{k:Nat}{a b:List UInt8}(h:alike k a b)(hb:b.length=k):common a b=k:=by
 rw [QN];exact NU ⟨h.2.1,h.1,h.2.2.symm⟩ hb
theorem lu{a b:UInt8}(h:a=b):(((a.toNat:Int))==(b.toNat:Int))=true:=by simp [h]
theorem gU{a b:UInt8}(h:a≠b):(((a.toNat:Int))==(b.toNat:Int))=false:=by
 rw [beq_eq_false_iff_ne];intro e;exact h (UInt8.toNat_inj.1 (by omega))
def EY:List UInt8->Nat
 | []=>0
 | d::l=>d.toNat+16*EY l
theorem Uz:∀(l:List UInt8),l.all DL=true->EY l<16^l.length
 | [],_=>by simp [EY]
 | d::l,h=>by
   simp only [gG,Bool.and_eq_true]at h;have:=Uz l h.2;have hd:d.toNat<16:=by simpa [DL]using h.1
   simp only [EY,BJ,Jv];omega
theorem U0:∀(l m:List UInt8),EY (l++m)=EY l+16^l.length*EY m
 | [],m=>by simp [EY]
 | d::l,m=>by
   simp only [CJ,EY,U0 l m,BJ,Jv];have:16*(16^l.length*EY m)=16^l.length*16*EY m:=by rw [<-Nh,Iw 16]
   omega
theorem X3(l:List UInt8)(k:Nat)(h:k<l.length):EY (l.take (k+1))=EY (l.take k)+16^k*l[k].toNat:=by
 rw [Di h,U0];simp [EY,MN (Nat.le_of_lt h)]
theorem Ako(k:Nat):16^(k+1)=2^(4+4*k):=by
 rw [show(16:Nat)=2^4 from rfl,<-Nat.pow_mul];congr 1;omega
theorem U1(p:UInt8->Bool)(l:List UInt8)(k:Nat)(h:l.all p=true):(l.take k).all p=true:=by
 rw [E8]at h⊢;exact fun x hx=>h x (sH hx)
theorem U2(p:UInt8->Bool)(l:List UInt8)(k:Nat)(h:l.all p=true):(l.drop k).all p=true:=by
 rw [E8]at h⊢;exact fun x hx=>h x (List.mem_of_mem_drop hx)
theorem XM{l:List UInt8}{k:Nat}(h:l.all DL=true)(hk:k<l.length):l[k].toNat<16:=by
 rw [E8]at h;simpa [DL]using h l[k] (BM hk)
theorem Aal(l:List UInt8)(n k:Nat)(hn:n<=15)(hk:k<n)(hl:k<l.length)(TD:l.all DL=true):
 Au IntKind.u64 (bits BinOp.or IntKind.u64 ((n:Int)+16*(EY (l.take k):Int)) (IntKind.u64.wrap (IntKind.u64.wrap (l[k].toNat:Int)*2^(4+4*k))))=
  Au IntKind.u64 ((n+16*EY (l.take (k+1)):Nat):Int):=by
 have hd:=XM TD hl;have hp:=Uz (l.take k) (U1 _ _ _ TD);rw [DC,MN (by omega)]at hp;have Av6:16^(k+1)<=16^15:=Fh (by decide) (by omega);have hs:16^(k+1)=16*16^k:=by rw [Jv,Iw]
 have hX:n+16*EY (l.take k)<16^(k+1):=by omega
 have hdm:l[k].toNat*16^(k+1)<=15*16^(k+1):=Nat.mul_le_mul_right _ (by omega);have h15:(16:Nat)^15=1152921504606846976:=by decide
 congr 1;have e1:IntKind.u64.wrap (l[k].toNat:Int)=(l[k].toNat:Int):=IntWalk.u64_in _ (by omega);have e2:(l[k].toNat:Int)*2^(4+4*k)=((l[k].toNat*16^(k+1):Nat):Int):=by rw [Ako];simp
 rw [e1,e2,IntWalk.u64_in _ (by omega)];have e3:(n:Int)+16*(EY (l.take k):Int)=((n+16*EY (l.take k):Nat):Int):=by simp
 rw [e3,u64_or_nat _ _ (by omega) (by omega)];congr 1;rw [X3 l k hl];rw [Ako]at hX hs⊢;have hor:=Nat.two_pow_add_eq_or_of_lt hX l[k].toNat;rw [Nat.or_comm,Iw,<-hor,hs];have:16*16^k*l[k].toNat=16*(16^k*l[k].toNat):=Nh _ _ _;omega
def digits:Nat->Nat->List UInt8
 | 0,_=>[]
 | k+1,n=>UInt8.ofNat (n%16)::digits k (n/16)
theorem digits_length:∀(k n:Nat),(digits k n).length=k
 | 0,_=>rfl
 | k+1,n=>by simp [digits,digits_length k]
theorem WH:∀(k n:Nat),digits (k+1) n=digits k n++[UInt8.ofNat (n/16^k%16)]
 | 0,n=>by simp [digits]
 | k+1,n=>by
   rw [digits,WH k (n/16),digits,CJ,rG,Jv,Iw 16]
theorem U3:∀(l:List UInt8),l.all DL=true->digits l.length (EY l)=l
 | [],_=>rfl
 | d::l,h=>by
   simp only [gG,Bool.and_eq_true]at h;have hd:d.toNat<16:=by simpa [DL]using h.1
   rw [BJ,EY,digits,show(d.toNat+16*EY l)/16=EY l by omega,U3 l h.2,show(d.toNat+16*EY l)%16=d.toNat by omega];simp
theorem yt(n:Nat):Au .u8 ((n:Int)%16)=bv (UInt8.ofNat (n%16)):=by
 simp only [bv,UInt8.toNat_ofNat'];rw [FZ (show n%16<2^8 by omega)];simp
theorem gV(k n:Nat)(y:Nat)(hk:k<n):
 (((digits k y++BB (n-k) (0:UInt8)).map bv).set k (bv (UInt8.ofNat (y/16^k%16))))=(digits (k+1) y++BB (n- (k+1)) (0:UInt8)).map bv:=by
 rw [WH,<-QI,SN _ _ (by rw [digits_length];omega),digits_length];obtain⟨r,hr⟩:∃r,n-k=r+1:=⟨n-k-1,by omega⟩;rw [hr,show n- (k+1)=r by omega,Uw];simp
def pairs:List UInt8->List UInt8
 | a::b::l=>(a*16+b)::pairs l
 | _=>[]
theorem MQ:∀(l:List UInt8),(pairs l).length=l.length/2
 | []=>rfl
 | [_]=>by simp [pairs]
 | a::b::l=>by simp [pairs,MQ l];omega
theorem WI:∀(i:Nat)(l:List UInt8)(_:i%2=0)(h:i+1<l.length),pairs (l.take (i+2))=pairs (l.take i)++[l[i]*16+l[i+1]]
 | 0,a::b::l,_,_=>by simp [pairs]
 | 1,_,hi,_=>by simp at hi
 | i+2,a::b::l,hi,h=>by
   have:=WI i l (by omega) (by simp at h;omega);simp only [Jz,pairs,CJ,Ah];rw [this]
 | 0,[],_,h=>by simp at h
 | 0,[_],_,h=>by simp at h
 | i+2,[],_,h=>by simp at h
 | i+2,[_],_,h=>by simp at h
theorem sU(k:Nat)(l:List UInt8)(h:2*k+1<l.length):pairs (l.take (2*(k+1)))=pairs (l.take (2*k))++[l[2*k]*16+l[2*k+1]]:=
 WI (2*k) l (by omega) h
theorem Yv(l:List UInt8):pairs (l.take (2*(l.length/2)))=pairs l:=by
 have aux:∀(l:List UInt8),pairs (l.take (2*(l.length/2)))=pairs l:=by
  intro l;induction l using pairs.induct with
  | case1 a b l ih=>
    rw [show 2*((a::b::l).length/2)=2*(l.length/2)+1+1 by simp;omega];simp [pairs,ih]
  | case2 l h=>
    rcases l with _| ⟨a,_| ⟨b,l⟩⟩
    ·rfl
    ·simp [pairs]
    ·exact absurd rfl (h a b l)
 exact aux l
theorem Ad5(a b:UInt8)(ha:a.toNat<16)(hb:b.toNat<16):(a*16+b)/16=a/\(a*16+b)%16=b:=by
 have h1:(a*16+b).toNat=a.toNat*16+b.toNat:=by simp [UInt8.toNat_add,UInt8.toNat_mul];omega
 constructor
 ·apply UInt8.toNat_inj.1;rw [UInt8.toNat_div,h1];simp;omega
 ·apply UInt8.toNat_inj.1;rw [UInt8.toNat_mod,h1];simp;omega
theorem Yw:∀(l:List UInt8),l.length%2=0->l.all DL=true->DR (pairs l)=l
 | [],_,_=>rfl
 | [_],h,_=>by simp at h
 | a::b::l,h,hn=>by
   simp only [gG,Bool.and_eq_true]at hn;have ha:a.toNat<16:=by simpa [DL]using hn.1
   have hb:b.toNat<16:=by simpa [DL]using hn.2.1
   have:=Yw l (by simp at h;omega) hn.2.2;simp only [DR]at this⊢;simp [pairs,this,Ad5 a b ha hb]
theorem Yx(l:List UInt8):(DR l).all DL=true:=by
 rw [E8];intro x hx;obtain⟨b,_,hx⟩:=List.mem_flatMap.1 hx;have:=b.toNat_lt;simp only [List.mem_cons,List.not_mem_nil,or_false]at hx;rcases hx with rfl| rfl<;>simp [DL]<;>omega
def Jl(l:List UInt8):Bool:=decide (l.length%2=0)&&l.all DL
theorem l7(l:List UInt8)(k h:Nat)(hk:k<h)(hl:2*k+1<l.length)(hh:h=l.length/2):
 (((pairs (l.take (2*k))++BB (h-k) (0:UInt8)).map bv).set k (bv (l[2*k]*16+l[2*k+1])))=(pairs (l.take (2*(k+1)))++BB (h- (k+1)) (0:UInt8)).map bv:=by
 have hlen:(pairs (l.take (2*k))).length=k:=by rw [MQ,DC];omega
 rw [sU k l hl,<-QI,SN _ _ (by omega),hlen];obtain⟨r,hr⟩:∃r,h-k=r+1:=⟨h-k-1,by omega⟩;rw [hr,show h- (k+1)=r by omega,Uw];simp
theorem yu(a b:UInt8):Au .u8 (((a.toNat:Int)*16+(b.toNat:Int))%256)=bv (a*16+b):=by
 simp only [bv,UInt8.toNat_add,UInt8.toNat_mul];congr 1;have h1:=a.toNat_lt;have h2:=b.toNat_lt;simp
theorem U4(l:List UInt8)(k:Nat)(hk:l.length<=k)(h:l.all DL=true):EY l<16^k:=
 Cf (Uz l h) (Fh (by decide) hk)
theorem Lt:(16:Nat)^15=1152921504606846976:=by decide
theorem sV(l:List UInt8):Jl (DR l)=true:=by
 simp only [Jl,LM,Yx,Bool.and_true,decide_eq_true_eq];omega
theorem unpack_pack(l:List UInt8)(h15:l.length<=15)(h:l.all DL=true):
 (l.length+16*EY l)%16=l.length/\(l.length+16*EY l)/16=EY l/\EY l/16^l.length=0/\digits l.length (EY l)=l/\l.length+16*EY l<18446744073709551616:=by
 have h1:=Uz l h;have h2:=U4 l 15 h15 h;rw [Lt]at h2;exact⟨by omega,by omega,Nat.div_eq_of_lt h1,U3 l h,by omega⟩
theorem Yy{a b:UInt8}(h1:a/16=b/16)(h2:a%16=b%16):a=b:=by
 apply UInt8.toNat_inj.1;have e1:=congrArg UInt8.toNat h1;have e2:=congrArg UInt8.toNat h2;simp at e1 e2;omega
theorem bV(a:UInt8)(l:List UInt8):DR (a::l)=a/16::a%16::DR l:=rfl
theorem lC:DR []=[]:=rfl
theorem lD:∀(a b:List UInt8),common (DR a) (DR b)=2*common a b\/common (DR a) (DR b)=2*common a b+1
 | [],_=>by simp [lC,common]
 | a::as,[]=>by simp [bV,lC,common]
 | a::as,b::bs=>by
   have ih:=lD as bs;simp only [bV,common];by_cases h1:a/16=b/16
   ·by_cases h2:a%16=b%16
    ·have e:=Yy h1 h2;subst e;simp only [if_true];omega
    ·have e:a≠b:=fun e=>h2 (by rw [e])
     rw [if_pos h1,if_neg h2,if_neg e];omega
   ·have e:a≠b:=fun e=>h1 (by rw [e])
    rw [if_neg h1,if_neg e];omega
theorem Ti:∀(a b:List UInt8),common a (a++b)=a.length
 | [],_=>by simp [common]
 | a::as,b=>by simp [common,Ti as b]
theorem QO:∀(a b:List UInt8),a.take (common a b)=b.take (common a b)
 | [],_=>by simp [common]
 | _::_,[]=>by simp [common]
 | a::as,b::bs=>by
   simp only [common];by_cases h:a=b
   ·rw [if_pos h,Jz,Jz,h,QO as bs]
   ·rw [if_neg h];rfl
theorem WJ:∀(a b:List UInt8)(h1:common a b<a.length)(h2:common a b<b.length),a[common a b]≠b[common a b]
 | [],_,h1,_=>by simp at h1
 | _::_,[],_,h2=>by simp at h2
 | a::as,b::bs,h1,h2=>by
   by_cases h:a=b
   ·have e:common (a::as) (b::bs)=common as bs+1:=by simp [common,h]
    have h1':common as bs<as.length:=by simp [e]at h1;exact h1
    have h2':common as bs<bs.length:=by simp [e]at h2;exact h2
    have ih:=WJ as bs h1' h2';simp only [e,Ah];exact ih
   ·have e:common (a::as) (b::bs)=0:=by simp [common,h]
    simp only [e,List.getElem_cons_zero];exact h
def leB(x:UInt64)(i:Nat):UInt8:=UInt8.ofNat (x.toNat/256^i%256)
theorem Sl(x:UInt64)(i:Nat):(leB x i).toNat=x.toNat/256^i%256:=by
 unfold leB;rw [UInt8.toNat_ofNat'];exact FZ (SQ _ (by decide))
def V4(x:UInt64):List UInt8:=(D7 8).map (leB x)
theorem Lu(x:UInt64):(V4 x).length=8:=by simp [V4]
theorem sZ(x:UInt64)(i:Nat)(h:i<8):(V4 x)[i]? =some (leB x i):=by simp [V4,h]
def leBytes:List UInt64->List UInt8
 | []=>[]
 | x::l=>V4 x++leBytes l
theorem leBytes_length:∀l:List UInt64,(leBytes l).length=8*l.length
 | []=>rfl
 | x::l=>by rw [leBytes,AQ,Lu,leBytes_length l,BJ];omega
theorem Ii:∀(l:List UInt64)(k i:Nat)(hk:k<l.length)(_:i<8),(leBytes l)[8*k+i]? =some (leB l[k] i)
 | [],_,_,hk,_=>by simp at hk
 | x::l,0,i,_,hi=>by
   rw [leBytes,List.getElem?_append_left (by rw [Lu];omega)];simpa using sZ x i hi
 | x::l,k+1,i,hk,hi=>by
   rw [leBytes,List.getElem?_append_right (by rw [Lu];omega),Lu,show 8*(k+1)+i-8=8*k+i by omega];exact Ii l k i (by simpa using hk) hi
theorem le_step(x:UInt64)(i:Nat):x.toNat%256^i+(leB x i).toNat*256^i=x.toNat%256^(i+1):=by
 rw [Sl,Jv,Nat.mod_mul];rw [Iw]
theorem Alo(x:UInt64):x.toNat%256^8=x.toNat:=FZ (by have:=x.toNat_lt;simpa using this)
def X4(l:List UInt64)(k:Nat)(n:UInt64)(i:Nat):List UInt8:=(leBytes l).mapIdx fun j b=>if 8*k<=j/\j<8*k+i then leB n (j-8*k)else b
theorem WL(l:List UInt64)(k:Nat)(n:UInt64)(i:Nat):(X4 l k n i).length=8*l.length:=by simp [X4,leBytes_length]
theorem Aam(l:List UInt64)(k:Nat)(n:UInt64):X4 l k n 0=leBytes l:=by
 apply IY;intro j;simp only [X4,MC];cases(leBytes l)[j]? with
 | none=>rfl
 | some b=>rw [DK,if_neg (by omega)]
theorem Aan(l:List UInt64)(k:Nat)(n:UInt64)(i:Nat)(hk:k<l.length)(hi:i<8):(X4 l k n i).set (8*k+i) (leB n i)=X4 l k n (i+1):=by
 apply IY;intro j;rw [Hy];by_cases hj:8*k+i=j
 ·subst hj;rw [if_pos rfl,if_pos (by rw [WL];omega)];simp only [X4,MC,Ii l k i hk hi,DK];rw [if_pos (by omega),show 8*k+i-8*k=i by omega]
 ·rw [if_neg hj];simp only [X4,MC];cases(leBytes l)[j]? with
  | none=>rfl
  | some b=>
    simp only [DK];by_cases h1:8*k<=j/\j<8*k+i
    ·rw [if_pos h1,if_pos (by omega)]
    ·rw [if_neg h1,if_neg (by omega)]
theorem lF(l:List UInt64)(k:Nat)(n:UInt64)(_:k<l.length):X4 l k n 8=leBytes (l.set k n):=by
 apply IY;intro j;by_cases hj:j<8*l.length
 ·have e:j=8*(j/8)+j%8:=by omega
  have h1:j/8<l.length:=by omega
  have h2:j%8<8:=SQ _ (by decide);have a1:=Ii l (j/8) (j%8) h1 h2;have a2:=Ii (l.set k n) (j/8) (j%8) (by simpa using h1) h2;rw [<-e]at a1 a2;simp only [X4,MC,a1,a2,DK];rw [MO];by_cases hkj:k=j/8
  ·rw [if_pos (by omega),if_pos hkj,show j-8*k=j%8 by omega]
  ·rw [if_neg (by omega),if_neg hkj]
 ·rw [EP (by rw [WL];omega),EP (by rw [leBytes_length,List.length_set];omega)]
def gW:Nat:=2^64-1
def fieldN(n low size:Nat):Nat:=n/2^low%2^size
def Et(n low size v:Nat):Nat:=(n&&&(gW- (2^size-1)*2^low))||| ((v&&&(2^size-1))*2^low)
def gX(n many:Nat):Option Nat:=(D7 many).find? fun i=> !n.testBit i
def KR:List Nat:=[0x00000000,0x105ec76f,0x20bd8ede,0x30e349b1,0x417b1dbc,0x5125dad3,0x61c69362,0x7198540d,0x82f63b78,0x92a8fc17,0xa24bb5a6,0xb21572c9,0xc38d26c4,0xd3d3e1ab,0xe330a81a,0xf36e6f75]
def PG(x:Nat):Nat:=(x/16)^^^KR.getD (x%16) 0
def Sm(x c:Nat):Nat:=PG (PG (x^^^c))
def L6(sum:Nat)(l:List UInt8):Nat:=(l.foldl (fun x c=>Sm x c.toNat) (sum^^^4294967295))^^^4294967295
structure Sh where
 lines:Nat
 BI:Nat
 table:Nat
 data:Nat
 deriving DecidableEq
def JD(BI:Nat):Nat:=2+(BI+7)/8
def Nu(BI:Nat):Nat:=JD BI+16*BI
def JC(lines:Nat):Nat->Nat->Nat
 | 0,s=>s
 | f+1,s=>if Nu (s+1)<=lines then JC lines f (s+1)else s
def PH(lines:Nat):Nat:=JC lines lines 0
def shapeOf(lines:Nat):Option Sh:=
 if lines>1024 then none else
 let s:=PH lines
 if s=0 then none else some {lines:=lines,BI:=s,table:=128,data:=JD s*64}
def headW(s:Sh):List UInt64:=[0x6c6c697473,1,AA s.lines,AA s.BI,AA s.table,AA s.data]
def wordsOf(s:Sh):List UInt64:=headW s++[AA (L6 0 (leBytes (headW s))),0]
def Bv:Nat->Nat
 | 1=>16
 | 2=>4
 | _=>0
def Be:Nat->Nat
 | 1=>1
 | 2=>4
 | _=>0
def DV(w:Nat):Nat:=fieldN w 16 2
def JE(w:Nat):Nat:=fieldN w 0 16
def ES(w:Nat):Bool:=w==0|| (fieldN w 0 (Bv (DV w))!=0&&Et (Et w 0 (Bv (DV w)) 0) 16 2 0==0)
def Bd(w:Nat):Nat:=if ES w then DV w else 0
def EK(w:Nat)(at_:Nat):Bool:=decide (at_<Bv (Bd w))&&fieldN w at_ 1==1
def IE(w:Nat):List Nat:=(D7 (Bv (Bd w))).filter (EK w)
def KT(w c:Nat):Bool:=ES w&&decide (0<Bv c)&&(w==0|| DV w==c)
def Kq(w c:Nat):Option Nat:=if KT w c then gX (JE w) (Bv c)else none
def Gm(w c at_:Nat):Nat×Bool:=if !KT w c|| decide (Bv c<=at_)|| EK w at_ then(w,false)else(Et (Et w at_ 1 1) 16 2 c,true)
def Eb(w at_:Nat):Nat×Bool:=if !EK w at_ then(w,false)else if JE (Et w at_ 1 0)=0 then(0,true)else(Et w at_ 1 0,true)
structure Nd where
 pre:List UInt8
 val:UInt64
 labels:List UInt8
 kids:List UInt64
def DT:List UInt8->Bool
 | a::b::l=>decide (a.toNat<b.toNat)&&DT (b::l)
 | _=>true
theorem Ha:∀(l:List UInt8),DT l=true<->∀i(h:i+1<l.length),l[i].toNat<l[i+1].toNat
 | []=>by simp [DT]
 | [_]=>by simp [DT]
 | a::b::l=>by
   have ih:=Ha (b::l);simp only [DT,Bool.and_eq_true,decide_eq_true_eq,ih];constructor
   ·rintro⟨h1,h2⟩i hi;rcases i with _| i
    ·simpa using h1
    ·exact h2 i (by simpa using hi)
   ·intro h;exact⟨by simpa using h 0 (by simp),fun i hi=>h (i+1) (by simpa using hi)⟩
theorem OE(l:List UInt8)(k:Nat)(hk:k<l.length)(h:DT (l.take k)=true)(hlt:∀j,k=j+1->(h:j<l.length)->l[j].toNat<l[k].toNat):DT (l.take (k+1))=true:=by
 rw [Ha]at h⊢;intro i hi;simp only [DC]at hi;simp only [Ado];by_cases e:i+1=k
 ·subst e;exact hlt i rfl (by omega)
 ·have:=h i (by simp;omega);simpa using this
theorem lG(l:List UInt8)(j:Nat)(hq:j+1<l.length)(h:DT (l.take (j+1))=true)(hr:l[j].toNat<l[j+1].toNat):DT (l.take (j+1+1))=true:=
 OE l (j+1) hq h (fun j' hj' _=>by cases hj';exact hr)
def Ci(x:Nd):Bool:=
 decide (x.pre.length<=15)&&x.pre.all DL&&decide (x.labels.length=x.kids.length)&&x.labels.all DL&&DT x.labels&&x.kids.all (fun k=>k.toNat !=0)
theorem Bo(x:Nd):Ci x=true<->x.pre.length<=15/\x.pre.all DL=true/\x.labels.length=x.kids.length/\x.labels.all DL=true/\DT x.labels=true/\∀i(h:i<x.kids.length),x.kids[i].toNat≠0:=by
 simp only [Ci,Bool.and_eq_true,decide_eq_true_eq,and_assoc,E8 (p:=fun k:UInt64=>k.toNat !=0),bne_iff_ne,ne_eq];constructor
 ·rintro⟨h1,h2,h3,h4,h5,h6⟩;exact⟨h1,h2,h3,h4,h5,fun i hi=>h6 _ (BM hi)⟩
 ·rintro⟨h1,h2,h3,h4,h5,h6⟩;refine⟨h1,h2,h3,h4,h5,fun k hk=> ?_⟩;obtain⟨i,hi,rfl⟩:=CU hk;exact h6 i hi
theorem gY(x:Nd)(k:Nat)(hk:k<x.labels.length)(h:¬x.labels[k].toNat<16):Ci x=false:=by
 cases hr:Ci x with
 | false=>rfl
 | true=>
   have:=((Bo x).1 hr).2.2.2.1;exact absurd (XM this hk) h
theorem aK(x:Nd)(j:Nat)(hj:j+1<x.labels.length)(h:¬x.labels[j].toNat<x.labels[j+1].toNat):Ci x=false:=by
 cases hr:Ci x with
 | false=>rfl
 | true=>
   have:=((Bo x).1 hr).2.2.2.2.1;exact absurd ((Ha _).1 this j hj) h
theorem gZ(x:Nd)(h:¬(x.pre.length<=15/\x.pre.all DL=true)):Ci x=false:=by
 cases hr:Ci x with
 | false=>rfl
 | true=>exact absurd ⟨((Bo x).1 hr).1,((Bo x).1 hr).2.1⟩ h
theorem ig(x:Nd)(h:x.labels.length≠x.kids.length):Ci x=false:=by
 cases hr:Ci x with
 | false=>rfl
 | true=>exact absurd ((Bo x).1 hr).2.2.1 h
theorem tq(x:Nd)(h1:x.pre.length<=15)(h2:x.pre.all DL=true)(h3:x.labels.length=x.kids.length)(h4:x.labels.all DL=true)(h5:DT x.labels=true):
 Ci x= !(x.kids.any fun y=>y.toNat==0):=by
 rw [Bool.eq_iff_iff,Bo];simp only [Bool.not_eq_true',List.any_eq_false,beq_iff_eq];constructor
 ·rintro⟨_,_,_,_,_,h⟩k hk;obtain⟨i,hi,rfl⟩:=CU hk;exact h i hi
 ·intro h;exact⟨h1,h2,h3,h4,h5,fun i hi=>h _ (BM hi)⟩
def Dn(x:Nd):Nat:=if x.kids.length<=4 then 1 else 2
def placeOf{α:Type}(p:α->Bool)(l:List α):Int:=match l.findIdx? p with| some i=>(i:Int)| none=> -1
theorem WM{α:Type}(p:α->Bool)(l:List α)(k:Nat)(hk:k<l.length)(hno:∀j(h:j<k),p (l[j]'(by omega))=false)(hp:p l[k]=true):placeOf p l=(k:Int):=by
 have:l.findIdx? p=some k:=by
  rw [List.findIdx?_eq_some_iff_getElem];exact⟨hk,hp,fun j hj=>by simp [hno j hj]⟩
 simp [placeOf,this]
theorem U5{α:Type}(p:α->Bool)(l:List α)(hno:∀j(h:j<l.length),p l[j]=false):placeOf p l= -1:=by
 have:l.findIdx? p=none:=by
  rw [List.findIdx?_eq_none_iff];intro x hx;obtain⟨i,hi,rfl⟩:=CU hx;exact hno i hi
 simp [placeOf,this]
def Gf(l:List UInt8):UInt64:=AA (l.length+16*EY l)
def CP:List UInt64->List UInt8->List UInt64->List UInt64
 | row,a::as,k::ks=>CP (row.set (4+a.toNat) k) as ks
 | row,_,_=>row
theorem Nv:∀(row:List UInt64)(as:List UInt8)(ks:List UInt64),(CP row as ks).length=row.length
 | row,a::as,k::ks=>by rw [CP,Nv];simp
 | row,[],_=>by simp [CP]
 | row,_::_,[]=>by simp [CP]
theorem NV:∀(row:List UInt64)(as:List UInt8)(ks:List UInt64)(i:Nat)(h1:i<as.length)(h2:i<ks.length),
 CP row (as.take (i+1)) (ks.take (i+1))=(CP row (as.take i) (ks.take i)).set (4+as[i].toNat) ks[i]
 | row,a::as,k::ks,0,_,_=>by simp [CP]
 | row,a::as,k::ks,i+1,h1,h2=>by
   have:=NV (row.set (4+a.toNat) k) as ks i (by simpa using h1) (by simpa using h2);simpa [CP]using this
 | _,[],_,_,h1,_=>by simp at h1
 | _,_::_,[],_,_,h2=>by simp at h2
def encS(x:Nd):List UInt64:=[AA (1+256*x.kids.length),Gf x.pre,x.val,Gf x.labels]++x.kids++BB (4-x.kids.length) 0
def headB(x:Nd):List UInt64:=[AA (2+256*x.kids.length),Gf x.pre,x.val]++BB 29 0
def QP(x:Nd):List UInt64:=CP (headB x) x.labels x.kids
def DX(x:Nd):List UInt64:=if x.kids.length<=4 then encS x else QP x
theorem WN(x:Nd)(h:x.kids.length<=4):(encS x).length=8:=by simp [encS];omega
theorem WO(x:Nd):(QP x).length=32:=by simp [QP,Nv,headB]
theorem EL(x:Nd):(DX x).length=if x.kids.length<=4 then 8 else 32:=by
 unfold DX;split
 ·rename_i h;exact WN x h
 ·exact WO x
def IM(u:Nat)(tail:List UInt64):List UInt8×List UInt64:=
 if u/16/16^(u%16)=0/\u%16<=4 then(digits (u%16) (u/16),tail.take (u%16))else([],[])
def Jn:Nat->List UInt64->List UInt8
 | _,[]=>[]
 | i,k::t=>if k.toNat=0 then Jn (i+1) t else UInt8.ofNat i::Jn (i+1) t
def JS(t:List UInt64):List UInt64:=t.filter fun k=>k.toNat !=0
theorem Yz:∀(i:Nat)(t:List UInt64)(x:UInt64),Jn i (t++[x])=Jn i t++(if x.toNat=0 then []else [UInt8.ofNat (i+t.length)])
 | i,[],x=>by simp only [Fz,Jn];split<;>simp
 | i,k::t,x=>by
   have:=Yz (i+1) t x;simp only [CJ,Jn,this,BJ];rw [show i+1+t.length=i+(t.length+1)by omega];split<;>simp
theorem tu(t:List UInt64)(x:UInt64):JS (t++[x])=JS t++(if x.toNat=0 then []else [x]):=by
 simp only [JS,List.filter_append,Adu,List.filter_nil];by_cases h:x.toNat=0<;>simp [h]
theorem NW:∀(i:Nat)(t:List UInt64),(Jn i t).length=(JS t).length
 | _,[]=>rfl
 | i,k::t=>by
   have:=NW (i+1) t;simp only [Jn,JS,Adu]at this⊢;by_cases h:k.toNat=0<;>simp [h,this]
theorem Y0(t:List UInt64):(JS t).length<=t.length:=List.length_filter_le _ _
def Ed(u:Nat):List UInt8:=if u/16/16^(u%16)=0 then digits (u%16) (u/16)else []
def Ad6(l:List UInt64):Nd:=
 {pre:=Ed (l.getD 1 0).toNat,val:=l.getD 2 0,labels:=(IM (l.getD 3 0).toNat (l.drop 4)).1,kids:=(IM (l.getD 3 0).toNat (l.drop 4)).2}
def tC(l:List UInt64):Nd:=
 {pre:=Ed (l.getD 1 0).toNat,val:=l.getD 2 0,labels:=Jn 0 ((l.drop 4).take 16),kids:=JS ((l.drop 4).take 16)}
def ET(l:List UInt64):Nd:=if l.length=8 then Ad6 l else tC l
def IG(l:List UInt64):Bool:=(decide (l.length=8)|| decide (l.length=32))&&(Ci (ET l)&&decide (DX (ET l)=l))
theorem bW(u:Nat):(Ed u).length<=15:=by
 unfold Ed;split
 ·rw [digits_length];omega
 ·simp
theorem tH(x:Nd)(v:UInt64):Ci {x with val:=v}=Ci x:=rfl
theorem U6:∀(row row':List UInt64)(as:List UInt8)(ks:List UInt64)(i:Nat),row.length=row'.length->(∀j,j≠2->row[j]? =row'[j]?)->i≠2->(CP row as ks)[i]? =(CP row' as ks)[i]?
 | row,row',a::as,k::ks,i,hl,h,hi=>by
   simp only [CP];refine U6 _ _ as ks i (by simp [hl]) (fun j hj=> ?_) hi;rw [Hy,Hy,h j hj,hl]
 | row,row',[],_,i,_,h,hi=>by simp only [CP];exact h i hi
 | row,row',_::_,[],i,_,h,hi=>by simp only [CP];exact h i hi
theorem WQ:∀(row:List UInt64)(as:List UInt8)(ks:List UInt64),(CP row as ks)[2]? =row[2]?
 | row,a::as,k::ks=>by
   simp only [CP];rw [WQ,Hy];simp;omega
 | row,[],_=>by simp [CP]
 | row,_::_,[]=>by simp [CP]
theorem Ad7(x:Nd)(v:UInt64)(i:Nat)(hi:i≠2):(DX {x with val:=v})[i]? =(DX x)[i]? :=by
 unfold DX;by_cases h:x.kids.length<=4
 ·simp only [if_pos h,encS];rcases i with _| _| _| i
  ·rfl
  ·rfl
  ·exact absurd rfl hi
  ·simp
 ·simp only [if_neg h,QP];refine U6 _ _ _ _ i (by simp [headB]) (fun j hj=> ?_) hi;rcases j with _| _| _| j
  ·rfl
  ·rfl
  ·exact absurd rfl hj
  ·simp [headB]
theorem Ad8(x:Nd):(DX x)[2]? =some x.val:=by
 unfold DX;split
 ·simp [encS]
 ·rw [QP,WQ];simp [headB]
def BQ(ws:Nat->UInt64)(j:Nat)(xs:List UInt64)(i:Nat):UInt64:=if j<=i/\i<j+xs.length then xs.getD (i-j) 0 else ws i
def Gg(ws:Nat->UInt64)(j:Nat)(x:UInt64)(i:Nat):UInt64:=if i=j then x else ws i
def wordsAt(ws:Nat->UInt64)(j n:Nat):List UInt64:=(D7 n).map fun t=>ws (j+t)
structure St where
 sh:Sh
 ws:Nat->UInt64
 tk:List UInt64
 hd:List UInt64
def GR(s:St)(i:Nat):Nat:=(s.tk.getD i 0).toNat
def hdN(s:St)(i:Nat):Nat:=(s.hd.getD i 0).toNat
def CE(s:St)(i:Nat):Nat:=GR s i||| hdN s i
def CW(sh:Sh)(i c a:Nat):Nat:=sh.data+1024*i+64*Be c*a
def Hz(s:St)(off:Int):Option (Nat×Nat):=
 if off<(s.sh.data:Int)\/(s.sh.data+1024*s.tk.length:Nat)<=off then none else
 if Be (Bd (CE s ((off.toNat-s.sh.data)/1024)))=0\/(off.toNat-s.sh.data)%1024%(64*Be (Bd (CE s ((off.toNat-s.sh.data)/1024))))≠0 then none else
 some ((off.toNat-s.sh.data)/1024,(off.toNat-s.sh.data)%1024/(64*Be (Bd (CE s ((off.toNat-s.sh.data)/1024)))))
def D5(s:St)(off:Int):Nat:=
 match Hz s off with
 | none=>0
 | some (i,a)=>if EK (GR s i) a then Bd (GR s i)else 0
def KU(s:St)(k c:Nat):Option Nat:=(D7 s.tk.length).find? fun i=>decide (Bd (CE s i)=k)&&(Kq (CE s i) c).isSome
def L8(s:St)(c:Nat):Option Nat:=match KU s c c with| some i=>some i| none=>KU s 0 c
def CQ(s:St)(c:Nat):Option (Nat×St):=
 match L8 s c with
 | none=>none
 | some i=>match Kq (CE s i) c with
   | none=>none
   | some a=>some (CW s.sh i c a,{s with hd:=s.hd.set i (AA (Gm (hdN s i) c a).1)})
def Y1(s:St)(i:Nat)(x:UInt64):St:={s with ws:=Gg s.ws (s.sh.table/8+i) x,tk:=s.tk.set i x}
def IP(s:St)(off:Int):St×Int:=
 match Hz s off with
 | none=>(s,7)
 | some (i,a)=>if EK (hdN s i) a then
  ({Y1 s i (AA (Gm (GR s i) (Bd (hdN s i)) a).1)with hd:=s.hd.set i (AA (Eb (hdN s i) a).1)},0)
   else(s,7)
def J4(s:St)(off:Int):St×Int:=
 match Hz s off with
 | none=>(s,7)
 | some (i,a)=>
   if(Eb (hdN s i) a).2 then({s with hd:=s.hd.set i (AA (Eb (hdN s i) a).1)},0)
   else if(Eb (GR s i) a).2 then(Y1 s i (AA (Eb (GR s i) a).1),0)
   else(s,7)
def Dx(s:St):List Nat:=(D7 s.tk.length).flatMap fun i=>(IE (GR s i)).map fun a=>CW s.sh i (Bd (GR s i)) a
def MR(sh:Sh):Nat->UInt64:=BQ (fun _=>0) 0 (wordsOf sh)
def Bi(x:UInt64):Int:=IntKind.i64.wrap (x.toNat:Int)
def EZ(s:St)(name:UInt64):Option Nd:=
 if Be (D5 s (Bi name))=0 then none else
 if IG (wordsAt s.ws ((Bi name).toNat/8) (8*Be (D5 s (Bi name))))then some (ET (wordsAt s.ws ((Bi name).toNat/8) (8*Be (D5 s (Bi name)))))else none
structure Pl where
 nd:Nd
 off:Int
 label:UInt8
 word:Int
def Jr(l:List UInt8)(x:UInt8):Option Nat:=l.findIdx? fun y=>y.toNat==x.toNat
def Ov(x:Nd)(label:UInt8):Option (UInt64×Nat):=
 match Jr x.labels label with
 | some i=>if Ci x then some (x.kids.getD i 0,if x.kids.length<=4 then 4+i else 4+label.toNat)else none
 | none=>none
def Ep(s:St):Nat->UInt64->List UInt8->UInt8->Int->List Pl->Option (List Pl×List UInt8)
 | 0,_,rest,_,_,way=>some (way,rest)
 | f+1,name,rest,label,word,way=>
   if name=0 then some (way,rest)else
   match EZ s name with
   | none=>none
   | some x=>
     if common x.pre rest<x.pre.length\/common x.pre rest=rest.length then some (way++[⟨x,Bi name,label,word⟩],rest)else
     match Ov x (rest.getD (common x.pre rest) 0)with
     | none=>some (way++[⟨x,Bi name,label,word⟩],rest)
     | some (kid,number)=>Ep s f kid (rest.drop (common x.pre rest+1)) (rest.getD (common x.pre rest) 0) (Bi name+8*number) (way++[⟨x,Bi name,label,word⟩])
def FQ(s:St)(key:List UInt8):Option (List Pl×List UInt8):=Ep s (2*key.length+1) (s.ws 9) (DR key) 0 72 []
def CX(way:List Pl)(rest:List UInt8):Option Pl:=
 match way.getLast? with
 | none=>none
 | some last=>if last.nd.pre=rest then some last else none
def GI(s:St)(key:List UInt8):UInt64×Int:=
 if 16<key.length then(0,3)else
 match FQ s key with
 | none=>(0,5)
 | some (way,rest)=>match CX way rest with
   | none=>(0,7)
   | some last=>if last.nd.val=0 then(0,7)else(last.nd.val,0)
structure Jb where
 s:St
 made:List Int
def MI(j:Jb)(n:Nd):Jb×UInt64×Int:=
 if !Ci n then(j,0,5)else
 match CQ j.s (Dn n)with
 | none=>(j,0,6)
 | some (off,s1)=>
   match IP {s1 with ws:=BQ s1.ws (off/8) (DX n)} off with
   | (s2,e)=>if e=0 then(⟨s2,j.made++[(off:Int)]⟩,AA off,0)else(⟨s2,j.made++[(off:Int)]⟩,0,e)
def OG(l:List UInt8)(x:UInt8):Bool:=l.any fun y=>y.toNat==x.toNat
def Jc(x:Nd)(label:UInt8)(kid:UInt64):Bool:=Ci x&&decide (label.toNat<16)&& !(kid.toNat==0)&& !OG x.labels label
def J5{α:Type}(xs:List α)(i:Nat)(u:α):List α:=xs.take i++u::xs.drop i
def Js{α:Type}(xs:List α)(i:Nat):List α:=xs.take i++xs.drop (i+1)
def FX(l:List UInt8)(x:UInt8):Nat:=l.countP fun y=>decide (y.toNat<x.toNat)
def H5(x:Nd)(label:UInt8)(kid:UInt64):Nd:={pre:=x.pre,val:=x.val,labels:=J5 x.labels (FX x.labels label) label,kids:=J5 x.kids (FX x.labels label) kid}
def V5(x:Nd)(i:Nat):Nd:={pre:=x.pre,val:=x.val,labels:=Js x.labels i,kids:=Js x.kids i}
def JF(j:Jb)(n:Nd)(label:UInt8)(kid:UInt64)(e:Int):Jb×UInt64×Int:=
 if e≠0 then(j,0,e)else
 if Jc n label kid then MI j (H5 n label kid)else(j,0,5)
def OH:Nat->Jb->List UInt8->UInt64->Jb×UInt64×Int
 | 0,j,_,_=>(j,0,5)
 | f+1,j,l,value=>
   if l.length<=15 then MI j ⟨l,value,[],[]⟩else
   match OH f j (l.drop 16) value with
   | (j1,kid,e)=>JF j1 ⟨l.take 15,0,[],[]⟩ (l.getD 15 0) kid e
def WR(j:Jb)(x:Nd)(rest:List UInt8)(value:UInt64):Jb×UInt64×Int:=
 if common x.pre rest=x.pre.length then
  match OH (rest.length+1) j (rest.drop (common x.pre rest+1)) value with
  | (j1,kid,e)=>JF j1 x (rest.getD (common x.pre rest) 0) kid e
 else
  match MI j {x with pre:=x.pre.drop (common x.pre rest+1)}with
  | (j1,kid,e)=>
    if common x.pre rest=rest.length then JF j1 ⟨x.pre.take (common x.pre rest),value,[],[]⟩ (x.pre.getD (common x.pre rest) 0) kid e else
    if e≠0 then(j1,0,e)else
    if Jc ⟨x.pre.take (common x.pre rest),0,[],[]⟩ (x.pre.getD (common x.pre rest) 0) kid then
     match OH (rest.length+1) j1 (rest.drop (common x.pre rest+1)) value with
     | (j2,Y2,e2)=>JF j2 (H5 ⟨x.pre.take (common x.pre rest),0,[],[]⟩ (x.pre.getD (common x.pre rest) 0) kid) (rest.getD (common x.pre rest) 0) Y2 e2
    else(j1,0,5)
def TE(s:St)(l:List Int):St:=l.foldl (fun s off=>(J4 s off).1) s
def QQ:St->List Int->Int->St×Int
 | s,[],e=>(s,e)
 | s,off::l,e=>QQ (J4 s off).1 l (if e=0 then(J4 s off).2 else e)
def Hu(j:Jb)(e:Int)(word:Int)(name:UInt64)(old:List Int):St×Int:=
 if e≠0 then(TE j.s j.made,e)else QQ {j.s with ws:=Gg j.s.ws (word.toNat/8) name} old 0
def PI(s:St)(at_:Pl)(n:UInt64):St:={s with ws:=Gg s.ws (at_.off.toNat/8+2) n}
def KW(s:St)(key:List UInt8)(value:UInt64):St×Int:=
 if 16<key.length then(s,3)else if value=0 then(s,2)else
 match FQ s key with
 | none=>(s,5)
 | some (way,rest)=>match CX way rest with
   | some last=>(PI s last value,0)
   | none=>match way.getLast? with
     | none=>match OH (rest.length+1) ⟨s,[]⟩ rest value with
       | (j,name,e)=>Hu j e 72 name []
     | some last=>match WR ⟨s,[]⟩ last.nd rest value with
       | (j,name,e)=>Hu j e last.word name [last.off]
def Hw(way:List Pl):Nat->List Int->Nat×List Int
 | 0,old=>(0,old)
 | a+1,old=>match way[a]?,way[a+1]? with
   | some up,some _=>if up.nd.val=0/\up.nd.kids.length=1 then Hw way a (old++[up.off])else(a+1,old)
   | _,_=>(a+1,old)
def V6(j:Jb)(way:List Pl):St×Int:=
 match Hw way (way.length-1) [(way.getLast?.map (·.off)).getD 0]with
 | (0,old)=>Hu j 0 72 0 old
 | (a+1,old)=>match way[a]?,way[a+1]? with
   | some up,some at_=>match Jr up.nd.labels at_.label with
     | some i=>if Ci up.nd then match MI j (V5 up.nd i)with
      | (j1,name,e)=>Hu j1 e up.word name (old++[up.off])
       else(j.s,5)
     | none=>(j.s,5)
   | _,_=>(j.s,5)
def U7(s:St)(key:List UInt8):St×UInt64×Int:=
 if 16<key.length then(s,0,3)else
 match FQ s key with
 | none=>(s,0,5)
 | some (way,rest)=>match CX way rest with
   | none=>(s,0,7)
   | some last=>if last.nd.val=0 then(s,0,7)else
     match(if last.nd.kids.length=0 then V6 ⟨s,[]⟩ way else(s,6))with
     | (s1,e)=>if e=6 then(PI s1 last 0,last.nd.val,0)else if e=0 then(s1,last.nd.val,0)else(s1,0,e)
def Dp(s:St):Nat->UInt64->List UInt8->List (List UInt8×UInt64)×List Int->Option (List (List UInt8×UInt64)×List Int)
 | 0,_,_,_=>none
 | f+1,name,ahead,(items,met)=>
   match EZ s name with
   | none=>none
   | some n=>
     if met.contains (Bi name)\/32<(ahead++n.pre).length then none else
     if n.val≠0/\Jl (ahead++n.pre)=false then none else
     (n.labels.zip n.kids).foldlM (fun st(lk:UInt8×UInt64)=>Dp s f lk.2 (ahead++n.pre++[lk.1]) st)
      (if n.val≠0 then items++[(pairs (ahead++n.pre),n.val)]else items,met++[Bi name])
def DU(s:St):Option (List (List UInt8×UInt64)×List Int):=
 if s.ws 9=0 then some ([],[])else Dp s 34 (s.ws 9) [] ([],[])
theorem TF(x:Nat)(h:x<4294967296):PG x<4294967296:=by
 have h1:x/16<2^32:=by omega
 have h2:KR.getD (x%16) 0<2^32:=by
  have:x%16<16:=SQ _ (by decide);have key:∀k:Fin 16,KR.getD k.val 0<2^32:=by decide
  exact key ⟨x%16,this⟩
 exact Vm h1 h2
theorem tJ(x c:Nat)(h:x<4294967296)(hc:c<256):Sm x c<4294967296:=by
 unfold Sm;refine TF _ (TF _ ?_);exact Vm (n:=32) h (by omega)
def OI(sum:Nat)(l:List UInt8)(k:Nat):Nat:=(l.take k).foldl (fun x c=>Sm x c.toNat) (sum^^^4294967295)
theorem Y3(sum:Nat)(l:List UInt8):OI sum l 0=sum^^^4294967295:=by simp [OI]
theorem Y4(sum:Nat)(l:List UInt8)(k:Nat)(hk:k<l.length):OI sum l (k+1)=Sm (OI sum l k) l[k].toNat:=by
 unfold OI;rw [Di hk,List.foldl_append];rfl
theorem Aao(sum:Nat)(l:List UInt8):OI sum l l.length^^^4294967295=L6 sum l:=by simp [OI,L6]
theorem Y5(sum:Nat)(l:List UInt8)(hs:sum<4294967296):∀k,k<=l.length->OI sum l k<4294967296
 | 0,_=>by rw [Y3];exact Vm (n:=32) hs (by decide)
 | k+1,hk=>by
   rw [Y4 sum l k hk];exact tJ _ _ (Y5 sum l hs k (by omega)) (UInt8.toNat_lt _)
structure Rc where
 stamp:UInt64
 next:UInt64
 gone:Bool
 text:ByteArray
def Eg(r:Rc):Bool:= !(r.stamp.toNat==0)&&decide (r.text.size<=40)&&(!r.gone|| decide (r.text.size=0))
def LP:List UInt8->Nat
 | []=>0
 | b::l=>b.toNat+256*LP l
theorem XN:∀(l:List UInt8),LP l<256^l.length
 | []=>by simp [LP]
 | b::l=>by
   have:=XN l;have hb:=b.toNat_lt;rw [LP,BJ,Jv];omega
theorem bY:∀(l:List UInt8)(b:UInt8),LP (l++[b])=LP l+b.toNat*256^l.length
 | [],b=>by simp [LP]
 | a::l,b=>by
   have:=bY l b;rw [CJ,LP,this,LP,BJ,Jv,Nat.mul_add];have e:256*(b.toNat*256^l.length)=b.toNat*(256^l.length*256):=by rw [Iw 256,Nh]
   omega
def KI(l:List UInt8)(k:Nat):UInt64:=AA (LP ((l.drop (8*k)).take 8))
def textW(l:List UInt8):List UInt64:=(D7 5).map (KI l)
theorem U8(l:List UInt8):(textW l).length=5:=by simp [textW]
theorem Sr(l:List UInt8)(k:Nat):(KI l k).toNat=LP ((l.drop (8*k)).take 8):=by
 unfold KI
 have:=XN ((l.drop (8*k)).take 8)
 have h2:256^((l.drop (8*k)).take 8).length<=256^8:=Fh (by decide) (by simp;omega)
 rw [Jq]
 exact FZ (by have:(256:Nat)^8=2^64:=by decide
              omega)
theorem Y7(l:List UInt8)(i:Nat)(hi:i<l.length):(KI (l.take (i+1)) (i/8)).toNat=(KI (l.take i) (i/8)).toNat+l[i].toNat*256^(i%8):=by
 rw [Sr,Sr];have e:((l.take (i+1)).drop (8*(i/8))).take 8=((l.take i).drop (8*(i/8))).take 8++[l[i]]:=by
  have h1:((l.take i).drop (8*(i/8))).length<=8:=by simp;omega
  have h2:((l.take i).drop (8*(i/8))++[l[i]]).length<=8:=by simp;omega
  rw [Di hi,List.drop_append_of_le_length (by simp;omega),FK h2,FK h1]
 have h2:(((l.take i).drop (8*(i/8))).take 8).length=i%8:=by simp;omega
 rw [e,bY,h2]
theorem lH(l:List UInt8)(i k:Nat)(hk:k≠i/8):KI (l.take (i+1)) k=KI (l.take i) k:=by
 unfold KI;congr 2;rw [Ahr,Ahr,Ahs,Ahs];by_cases h:k<i/8
 ·rw [show min 8 (i+1-8*k)=8 by omega,show min 8 (i-8*k)=8 by omega]
 ·rw [show min 8 (i+1-8*k)=0 by omega,show min 8 (i-8*k)=0 by omega]
theorem tK(l:List UInt8)(i:Nat):(KI (l.take i) (i/8)).toNat<256^(i%8):=by
 rw [Sr];have:=XN (((l.take i).drop (8*(i/8))).take 8);exact Cf this (Fh (by decide) (by simp;omega))
theorem tN(l:List UInt8)(i:Nat)(hi:i<l.length)(x:UInt64)(hx:x.toNat=(KI (l.take i) (i/8)).toNat+l[i].toNat*256^(i%8)):(textW (l.take i)).set (i/8) x=textW (l.take (i+1)):=by
 have hx':x=KI (l.take (i+1)) (i/8):=UInt64.toNat_inj.1 (by rw [hx,Y7 l i hi]);apply EH
 ·simp [textW]
 ·intro k h1 h2;rw [MO];simp only [textW,GU,Vx];by_cases hk:i/8=k
  ·rw [if_pos hk,hx',hk]
  ·rw [if_neg hk,lH l i k (fun e=>hk e.symm)]
theorem Y8:textW []=[0,0,0,0,0]:=by decide
def Ik(n:Nat)(g:Bool):Nat:=3+65536*n+(if g then 256 else 0)
def Dk(r:Rc):List UInt64:=[AA (Ik r.text.size r.gone),r.stamp,r.next]++textW r.text.data.toList
theorem Jd(r:Rc):(Dk r).length=8:=by simp [Dk,U8]
def TG(l:List UInt64):Rc:=
 {stamp:=l.getD 1 0,next:=l.getD 2 0,gone:=decide ((l.getD 0 0).toNat/256%2=1),text:=⟨((leBytes (l.drop 3)).take ((l.getD 0 0).toNat/65536)).toArray⟩}
def KJ(l:List UInt64):Option Rc:=
 if l.length=8/\(l.getD 0 0).toNat/65536<=40 then
  if Eg (TG l)=true/\Dk (TG l)=l then some (TG l)else none
 else none
theorem lI:∀(l:List UInt8)(i:Nat)(hi:i<l.length),LP l/256^i%256=l[i].toNat
 | b::l,0,_=>by
   have:=b.toNat_lt;simp [LP]
 | b::l,i+1,hi=>by
   have hb:=b.toNat_lt;have:=lI l i (by simpa using hi);rw [LP,Jv,Iw (256^i) 256,<-rG,show(b.toNat+256*LP l)/256=LP l by omega,this];rfl
theorem Aap(l:List UInt8)(i:Nat)(hi:i<l.length):leB (KI l (i/8)) (i%8)=l[i]:=by
 apply UInt8.toNat_inj.1;rw [Sl,Sr,lI _ _ (by simp;omega)];simp only [Ado,List.getElem_drop];congr 2;omega
theorem LQ(r:Rc):Eg r=true<->r.stamp.toNat≠0/\r.text.size<=40/\(r.gone=true->r.text.size=0):=by
 simp only [Eg,Bool.and_eq_true,decide_eq_true_eq,Bool.not_eq_true',beq_eq_false_iff_ne,Bool.or_eq_true,and_assoc];cases r.gone<;>simp
theorem Aaq{n:Nat}(h:n<=40)(g:Bool):Ik n g<18446744073709551616:=by
 unfold Ik;split<;>omega
theorem PK{n:Nat}(h:n<=40)(g:Bool):(AA (Ik n g)).toNat=Ik n g:=by
 rw [Jq];exact FZ (Aaq h g)
theorem TI(r:Rc)(h:Eg r=true):TG (Dk r)=r:=by
 obtain⟨h1,h2,h3⟩:=(LQ r).1 h;have e0:((Dk r).getD 0 0).toNat=Ik r.text.size r.gone:=by
  simp only [Dk,CJ,xQ];exact PK h2 _
 have e1:Ik r.text.size r.gone/65536=r.text.size:=by unfold Ik;split<;>omega
 have e2:Ik r.text.size r.gone/256%2=if r.gone then 1 else 0:=by unfold Ik;split<;>omega
 have e3:(Dk r).drop 3=textW r.text.data.toList:=rfl;have hsz:r.text.size=r.text.data.toList.length:=rfl;unfold TG;rw [e0,e1,e2,e3];have et:(leBytes (textW r.text.data.toList)).take r.text.size=r.text.data.toList:=by
  apply IY;intro i;rw [CS];by_cases hi:i<r.text.size
  ·rw [if_pos hi];have:=Ii (textW r.text.data.toList) (i/8) (i%8) (by rw [U8];omega) (by omega);rw [show 8*(i/8)+i%8=i by omega]at this;rw [this];simp only [textW,GU,Vx];rw [Aap _ _ (by omega),Af (by omega)]
  ·rw [if_neg hi,EP (by omega)]
 rw [et];have eg:decide ((if r.gone=true then 1 else 0)=1)=r.gone:=by cases r.gone<;>rfl
 rw [eg];cases r with
 | mk a b c d=>simp only [Rc.mk.injEq];exact⟨rfl,rfl,trivial,trivial⟩
theorem Aar(r:Rc)(h:Eg r=true):KJ (Dk r)=some r:=by
 obtain⟨h1,h2,h3⟩:=(LQ r).1 h;have e0:((Dk r).getD 0 0).toNat=Ik r.text.size r.gone:=by
  simp only [Dk,CJ,xQ];exact PK h2 _
 have e1:Ik r.text.size r.gone/65536=r.text.size:=by unfold Ik;split<;>omega
 unfold KJ;rw [if_pos ⟨Jd r,by rw [e0,e1];exact h2⟩,TI r h,if_pos ⟨h,rfl⟩]
theorem tV{l:List UInt64}{r:Rc}(h:KJ l=some r):Eg r=true/\Dk r=l/\l.length=8:=by
 unfold KJ at h;split at h
 ·rename_i h0;split at h
  ·rename_i h1;injection h with h
   subst h;exact⟨h1.1,h1.2,h0.1⟩
  ·cases h
 ·cases h
structure Lk where
 off:Int
 rc:Rc
def EC(l:List Lk):Nat:=match l.getLast? with| none=>18446744073709551616| some k=>k.rc.stamp.toNat
def Ox(s:St):Nat->UInt64->List Lk->Option (List Lk)
 | 0,_,_=>none
 | f+1,at_,acc=>
   if at_.toNat=0 then some acc else
   if D5 s (Bi at_)≠1 then none else
   match KJ (wordsAt s.ws ((Bi at_).toNat/8) 8)with
   | none=>none
   | some r=>if EC acc<=r.stamp.toNat then none else Ox s f r.next (acc++[⟨Bi at_,r⟩])
def II(s:St)(first:UInt64):Option (List Lk):=Ox s 18446744073709551618 first []
def IQ(s:St)(r:Rc):St×UInt64×Int:=
 if Eg r=false then(s,0,2)else
 match CQ s 1 with
 | none=>(s,0,6)
 | some (off,s1)=>
   match IP {s1 with ws:=BQ s1.ws (off/8) (Dk r)} off with
   | (s2,e)=>if e=0 then(s2,AA off,0)else((J4 s2 off).1,0,e)
def Dc(l:List Int):List Int:=l.mergeSort fun x y=>decide (x<=y)
def Fq(s:St):List (List UInt8×UInt64)->List Int->Option (List Int)
 | [],acc=>some acc
 | it::t,acc=>match II s it.2 with
   | none=>none
   | some l=>Fq s t (acc++l.map (·.off))
def Gv:List Int->Bool
 | a::b::t=> !(a==b)&&Gv (b::t)
 | _=>true
theorem Y9 (s : St) : ∀ (l : List (List UInt8 × UInt64)) (it : List UInt8 × UInt64) (acc : List Int), Fq s (l ++ [it]) acc = match Fq s l acc with
    | none => none
    | some a => match II s it.2 with | none => none | some k => some (a ++ k.map (·.off))
  | [], it, acc => by
    simp only [Fz, Fq]
  | x :: t, it, acc => by
    simp only [CJ, Fq]
    cases II s x.2 with
    | none => rfl
    | some k => exact Y9 s t it _
theorem YA{s:St}{l:List (List UInt8×UInt64)}{acc r:List Int}(h:Fq s l acc=some r):∀k,k<=l.length->∃a,Fq s (l.take k) acc=some a/\Fq s (l.drop k) a=some r:=by
 induction l generalizing acc with
 | nil=>intro k hk;exact⟨acc,by simp [Fq],by simpa [Fq]using h⟩
 | cons x t ih=>
   intro k hk;cases k with
   | zero=>exact⟨acc,rfl,h⟩
   | succ k=>
     simp only [Fq]at h;simp only [Jz,List.drop_succ_cons,Fq];cases hl:II s x.2 with
     | none=>rw [hl]at h;cases h
     | some m=>
       rw [hl]at h;exact ih h k (by simpa using hk)
theorem bZ{s:St}:∀{l:List (List UInt8×UInt64)}{acc r:List Int},Fq s l acc=some r->acc.length<=r.length
 | [],acc,r,h=>by simp only [Fq,Option.some.injEq]at h;subst h;exact Ad _
 | x::t,acc,r,h=>by
   simp only [Fq]at h;cases hl:II s x.2 with
   | none=>rw [hl]at h;cases h
   | some m=>
     rw [hl]at h;have:=bZ h;rw [AQ]at this;omega
theorem cu:∀{l:List Int},Gv l=true->∀i(h:i+1<l.length),l[i]≠l[i+1]
 | a::b::t,h,0,_=>by
   simp only [Gv,Bool.and_eq_true,Bool.not_eq_true',beq_eq_false_iff_ne,ne_eq]at h;exact h.1
 | a::b::t,h,i+1,hi=>by
   simp only [Gv,Bool.and_eq_true]at h;have:=cu h.2 i (by simpa using hi);simpa using this
 | [],_,_,hi=>by simp at hi
 | [a],_,i,hi=>by simp at hi
def Nw(s:St):Option (List Int):=
 match DU s with
 | none=>none
 | some (its,met)=>match Fq s its (Dc met)with
   | none=>none
   | some l=>if Gv (Dc l)=true then some (Dc l)else none
theorem tY{s:St}{l:List (List UInt8×UInt64)}{acc a:List Int}{k:Nat}(hk:k<l.length)(ha:Fq s (l.take k) acc=some a):
 Fq s (l.take (k+1)) acc=match II s l[k].2 with| none=>none| some m=>some (a++m.map (·.off)):=by
 rw [Di hk,Y9,ha]
theorem tZ{s:St}{l:List (List UInt8×UInt64)}{acc:List Int}{k:Nat}(hk:k<l.length)(h:Fq s (l.take (k+1)) acc=none):Fq s l acc=none:=by
 cases ho:Fq s l acc with
 | none=>rfl
 | some r=>
   obtain⟨b,hb,_⟩:=YA ho (k+1) hk;rw [hb]at h;cases h
def ik(l:List Int)(j:Nat):Prop:=∀i,1<=i->i<j->∀h:i<l.length,l[i-1]≠l[i]
theorem lJ{l:List Int}{j:Nat}(hj:1<=j)(h:ik l j){a b:Int}(ha:l[j]? =some a)(hb:l[j-1]? =some b)(hne:a≠b):ik l (j+1):=fun i h1 h2 h3=>by
 by_cases he:i=j
 ·subst he;obtain⟨_,e1⟩:=Cb.1 ha;obtain⟨_,e2⟩:=Cb.1 hb;rw [e1,e2];exact fun e=>hne e.symm
 ·exact h i h1 (by omega) h3
theorem yw:∀{l:List Int},(∀i,1<=i->∀h:i<l.length,l[i-1]≠l[i])->Gv l=true
 | [],_=>rfl
 | [_],_=>rfl
 | a::b::t,h=>by
   have h1:=h 1 (Ad _) (by simp);have ih:=yw (l:=b::t) (fun i h2 h3=>by
    have:=h (i+1) (by omega) (by simpa using h3);obtain⟨i,rfl⟩:∃k,i=k+1:=⟨i-1,by omega⟩;simpa using this)
   unfold Gv;simp only [Bool.and_eq_true,Bool.not_eq_true',beq_eq_false_iff_ne];exact⟨h1,ih⟩
