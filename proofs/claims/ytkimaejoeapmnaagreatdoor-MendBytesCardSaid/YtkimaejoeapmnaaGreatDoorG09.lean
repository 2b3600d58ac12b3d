import Derived.StillTailTactics
import Derived.Test.YtkimaejoeapmnaaGreatDoorG08
set_option maxHeartbeats 32000000
set_option maxRecDepth 100000
open UInt64 renaming ofNat->AA
open Nat renaming mul_comm->Iw
open List renaming length_take->DC,length_drop->AV,getElem?_take->CS,getElem?_drop->Dl,getElem?_eq_none->EP,map_congr_left->FO,mem_range->Dj,length_map->BH,getElem?_map->BZ
open Go.Lib renaming hid->Aa
namespace Go.Proofs.YtkimaejoeapmnaaGreatDoor
open Go.RowKit
def yJ(l:List UInt8)(j:Nat):UInt64:=AA (LP ((l.drop (8*j)).take 8))
theorem yK:∀(l:List UInt8)(i:Nat)(h:i<l.length),LP l/256^i%256=l[i].toNat
 | b::l,0,_=>by
   have:=b.toNat_lt;simp only [LP,Nat.pow_zero,Nat.div_one,List.getElem_cons_zero];omega
 | b::l,i+1,h=>by
   have:=b.toNat_lt;rw [LP,Nat.pow_succ,Iw (256^i),<-Nat.div_div_eq_div_mul,show(b.toNat+256*LP l)/256=LP l by omega];exact yK l i (by simpa using h)
theorem Alv(l:List UInt8)(j t:Nat)(ht:t<8)(h:8*j+8<=l.length):leB (yJ l j) t=l[8*j+t]'(by omega):=by
 have hl:((l.drop (8*j)).take 8).length=8:=by rw [DC,AV];omega
 have hlt:=XN ((l.drop (8*j)).take 8);rw [hl]at hlt;have h1:=yK ((l.drop (8*j)).take 8) t (by omega);apply UInt8.toNat_inj.1;rw [Sl];unfold yJ;rw [show(AA (LP ((l.drop (8*j)).take 8))).toNat=LP ((l.drop (8*j)).take 8)from by
  rw [show(AA (LP ((l.drop (8*j)).take 8))).toNat=LP ((l.drop (8*j)).take 8)%2^64 from by simp];exact Nat.mod_eq_of_lt (by omega),h1]
 simp
theorem mZ(l:List UInt8)(i:Nat)(h:64*i+64<=l.length):leBytes (En (yJ l) i)=(l.drop (64*i)).take 64:=by
 apply List.ext_getElem?;intro k;by_cases hk:k<64
 ·have h1:=Ii (En (yJ l) i) (k/8) (k%8) (by rw [GV];omega) (by omega);rw [show 8*(k/8)+k%8=k by omega,Jg,Alv l (8*i+k/8) (k%8) (by omega) (by omega)]at h1;rw [h1,CS,if_pos hk,Dl,List.getElem?_eq_getElem (by omega)];congr 2;omega
 ·rw [EP (by rw [leBytes_length,GV];omega),EP (by rw [DC];omega)]
def ofK(l:List UInt8)(k j:Nat):UInt64:=if j<8*k then yJ l j else 0
theorem ni{l:List UInt8}{k i:Nat}:En (ofK l (k+1)) i=if i=k then En (yJ l) k else En (ofK l k) i:=by
 unfold En;split
 ·rename_i e;subst e;refine FO fun t ht=> ?_
  have:=Dj.1 ht;unfold ofK;rw [if_pos (by omega)]
 ·refine FO fun t ht=> ?_
  have:=Dj.1 ht;unfold ofK;by_cases h:i<k
  ·rw [if_pos (by omega),if_pos (by omega)]
  ·rw [if_neg (by omega),if_neg (by omega)]
section
variable{w:World}{d L:Nat}{ws ws':Nat->UInt64}{len:Mode}{mark:Nat->Nat}{g:Nat}{hb:Nat->Option Nat}
theorem BG.Aet(h:BG w d L ws len mark g hb){i:Nat}(hi:i<L){l:List UInt8}(hl:l.length=64)(h1':leBytes (En ws' i)=l)(h2':∀i',i'≠i->En ws' i'=En ws i'):
 BG (w.setCells g (66*i) (l.map bv)) d L ws' len mark g hb:=by
 have aS:=h.mi;have hl:(l.map bv).length=64:=by rw [BH,hl]
 have hk:∀b,b≠g->b<w.heap.size->(w.setCells g (66*i) (l.map bv)).heap[b]? =w.heap[b]? :=fun b hb' hlt=>World.heap_setCells_other w g _ _ hlt hb'
 obtain⟨st,hbx⟩:=h.box;obtain⟨cur,hg,hs,h1,h2⟩:=h.blk;obtain⟨cur',c1,c2,c3⟩:=DY g _ _ (l.map bv) (66*i) w cur hg (by rw [hl,hs];omega);rw [hl]at c3;refine⟨⟨st,(hk d (fun e=>h.gd e.symm) h.dlt).trans hbx⟩,h.lfr,h.gd,⟨cur',c1,by rw [c2];exact hs,fun i' hi' j hj=> ?_,fun i' hi'=> ?_⟩,h.bd,h.inj,h.mrk⟩
 ·rw [c3];by_cases e:i'=i
  ·subst e;rw [if_pos (by omega),show 66*i'+j-66*i'=j by omega,h1',BZ]
  ·rw [if_neg (by omega),h2' i' e];exact h1 i' hi' j hj
 ·obtain⟨A,c,e1,e2,hc⟩:=h2 i' hi';refine⟨A,c,?_,?_,hc.keep (fun b hb' hlt=>hk b (h.bd i' hi' b hb').1 hlt)⟩
  ·rw [c3,if_neg (by omega)];exact e1
  ·rw [c3,if_neg (by omega)];exact e2
end
theorem XB{P:Program}{ops:Array Oper}{rest:List Oper}{o:Oper}{a:Act}{w:World}{Q:Act->Prop}(hgd:o.guard=none)(ty:TypeId)(x:Operand)(ho:o.op= .load ty x)
 (b off:Nat)(hx:a.eval x= .pointer (some ⟨b,off,none⟩))(vs:List Value)(d:TypeDesc)(hu:P.underlying ty=some d)(hd:(match d with| .struct _| .array _ _=>true| _=>false)=true)
 (hi:(P.info? ty).map (·.size)=some vs.length)(hc:∀j v,vs[j]? =some v->w.cell? ⟨b,off+j,none⟩=some v)
 (h:wpStill P ops w Q rest (a.put o.dst (.agg vs.toArray))):wpStill P ops w Q (o::rest) a:=by
 refine wpStill_step fun K hK=> ?_
 rw [if_pos (by simp [Region.wanted,hgd])];unfold Oper.still execOp;simp only [ho,hx,Instr.loadAt,Instr.sureAddr,Sem.run_bind,Sem.run_pure,Result.andThen_ok,QT w b off ty vs d hu hd hi hc];exact⟨rfl,hK _ h⟩
theorem Aeu(w:World):Calls Tryz.prog 26 #[.int .i64 0] w fun e w'=>e= .returned (.pointer none)/\w=w':=by
 go_enter Tryz.func26,Tryz.ntmps26
 go_wp2_with fail
 go_ret;exact⟨rfl,rfl⟩
def Aly(l:List UInt8)(w:World)(e:Ending)(w':World):Prop:=
 Below w.heap.size w w'/\if l.length%64=0/\l≠[]then∃d g,e= .returned (Aw d)/\BG w' d (l.length/64) (yJ l) M0 (fun _=>0) g (fun _=>none)/\w.heap.size<=d/\w.heap.size<=g/\w'.cell? ⟨d,3,none⟩=some (.int .i64 0)
  else e= .returned (.pointer none)
theorem Ap0(l:List UInt8)(A:Option Addr)(c:Nat)(w:World)(hl:l.length<=12800)(hc:l.length<=c)(h:Bs w A l.length l):Calls Tryz.prog 7 #[.slice A l.length c] w (Aly l w):=by
 obtain⟨n,hn⟩:∃n,n=l.length:=⟨_,rfl⟩;have HB:=Aa h;have HN:=Aa hn;rw [<-hn]at hl hc⊢;clear h hn;by_cases hm:n%64=0
 ·obtain⟨L,hL⟩:∃L,L=n/64:=⟨_,rfl⟩;have hnL:n=64*L:=by omega
  have t1:(((n:Int)%64)==0)=true:=by simp;omega
  have t2:(n:Int)/64=(L:Int):=by omega
  by_cases h0:L=0
  ·have HNw:=Aa (Aeu w);have t3:(n:Int)/64=0:=by omega
   have hn0:n=0:=by omega
   clear hL t2;go_enter Tryz.func7,Tryz.ntmps7
   go_wp2_with fail
   refine HNw.out.mono ?_;rintro e w1⟨rfl,rfl⟩
   go_wp2_with fail
   go_ret;refine⟨Below.refl _ _,?_⟩;rw [if_neg (fun h=>h.2 (List.eq_nil_of_length_eq_zero (by rw [<-HN.out];exact hn0)))];rfl
  ·have HNw:=Aa (mr L w (by omega) (by omega));have HnL:=Aa hnL;have hL1:64*L<=12800:=by omega
   clear hL hnL;go_enter Tryz.func7,Tryz.ntmps7
   go_wp2_with fail
   refine HNw.out.mono ?_;rintro e w1⟨d,g,rfl,hd1,hgd,hgg,hb1,hst⟩;have HD0:Hid (BG w1 d L (ofK l 0) M0 (fun _=>0) g (fun _=>none)):=Aa (by rw [show ofK l 0=fun _=>0 from funext fun j=>by simp [ofK]];exact hd1);have HB1:=Aa hb1;have OO:=Aa hst;obtain⟨st,hbx⟩:=hd1.box;have y0:=hbx.p1;clear hd1 hb1 hst hbx HNw
   go_wp2_with fail
   go_loopw [20](fun i wr=>∃k:Nat,k<=L/\i= .int .i64 (k:Nat)/\BG wr d L (ofK l k) M0 (fun _=>0) g (fun _=>none)/\Touch (fun b=>b=g) w1 wr)(fun i _=>L- (intOf i).toNat)
   case atStart=>exact⟨0,Nat.zero_le _,rfl,HD0.out,Touch.refl _ _⟩
   case round=>
    obtain⟨k,hk,rfl,hdr,htr⟩:=hrel;have kM:=Aa hdr;have dD:=Aa htr;clear y0;by_cases hlt:k<L
    ·obtain⟨hx1,hx2,hx5⟩:=aJ hlt;have hwk:=lh k (by omega);obtain⟨st',hbx⟩:=hdr.box;have y0:=hbx.p1;have hdl:=hdr.dlt;clear hdr htr hbx;have hkn:64*k+64<=n:=by have:=HnL.out;omega
     obtain⟨_,ab,ao,rfl,hab,hcc⟩:=(HB.out).at (show 0<l.length by have:=HN.out;omega)
     go_wp2_with fail
     have hmw:IntKind.i64.wrap ((k:Int)*64)=((64*k:Nat):Int):=by rw [IntWalk.i64_in _ (by omega)];omega
     have hle:(64*k:Nat)<=n:=by omega
     have hne:¬c=64*k:=by omega
     have har:∀W,(Instr.arrayAt 79 (.slice (some ⟨ab,ao+64*k,none⟩) (n-64*k) (c-64*k))).run Tryz.prog W= .ok (.pointer (some ⟨ab,ao+64*k,none⟩)) W:=fun W=>by
      simp [Instr.arrayAt,run_underlying Tryz.underlying79];omega
     have hb1:(0:Int)<=64*(k:Int):=by omega
     have hb2:64*(k:Int)<=(n:Int):=by omega
     have hb3:(64*(k:Int)).toNat=64*k:=by omega
     obtain⟨bs,hbs⟩:∃bs,bs=(l.drop (64*k)).take 64:=⟨_,rfl⟩;have hbl:(bs.map bv).length=64:=by rw [hbs,BH,DC,AV,<-HN.out];omega
     have ax:Hid ((Tryz.prog.info? 79).map (·.size)=some (bs.map bv).length):=Aa (by rw [hbl];kernel_rfl);obtain⟨wd,hwd⟩:∃wd,wd=wr.drew:=⟨_,rfl⟩;have hbd:Below wr.heap.size wr wd:=hwd▸(Below.refl _ _).drew;have hbw:Below w.heap.size w wr:=HB1.out.trans (dD.out.below HB1.out.size (fun b hb=>by rw [show b=g from hb];exact hgg));have hbr:=(HB.out).below (hbw.trans (hbd.mono hbw.size));have HLc:Hid (∀j v,(bs.map bv)[j]? =some v->wd.cell? ⟨ab,ao+64*k+j,none⟩=some v):=Aa (fun j v hv=>by
      obtain⟨b,o,e,_,hc⟩:=hbr.2 (by have:=HN.out;omega);injection e with e
      injection e with e1 e2
      subst e1 e2;have hj:=(List.getElem?_eq_some_iff.1 hv).1;rw [hbl]at hj;rw [Nat.add_assoc,hc (64*k+j) (by have:=HN.out;omega),<-hv,hbs,BZ,BZ,CS,if_pos hj,Dl])
     obtain⟨cur,hg,hcs,_⟩:=kM.out.blk;have hgd':wd.heap[g]? =some (.cells cur 82 (0,0)):=by rw [hwd];exact hg
     have HSc:Hid (∀j,j<(bs.map bv).length->(wd.cell? ⟨g,k*66+j,none⟩).isSome=true):=Aa (fun j hj=>by
      rw [cell_of_row wd g _ cur _ (0,0) hgd',Array.getElem?_eq_getElem (by rw [hbl]at hj;rw [hcs];omega)];rfl)
     have HFc:Hid (∀j,j<(bs.map bv).length->wd.frozen? ⟨g,k*66+j,none⟩=false):=Aa (fun j _=>by simp [World.frozen?,hgd']);have ay:Hid (BG (wd.setCells g (k*66) (bs.map bv)) d L (ofK l (k+1)) M0 (fun _=>0) g (fun _=>none)):=Aa (by rw [Iw k 66];exact(kM.out.below hbd).Aet hlt (by rw [<-BH (f:=bv)];exact hbl) (by rw [ni,if_pos rfl,mZ l k (by rw [<-HN.out];exact hkn),hbs]) (fun i' hi'=>by rw [ni,if_neg hi']));have HTx:Hid (Touch (fun b=>b=g) w1 (wd.setCells g (k*66) (bs.map bv))):=Aa (dD.out.trans ((Touch.of_below (F:=fun b=>b=g) hbd).setCells (.inl rfl)) (fun b hb=> .inl hb));have HWd:=Aa hwd;clear hbs hbl hwd hbd hbw hbr hg hcs hgd' kM dD hcc
     go_still_tail 11,(by kernel_rfl)
     change wpStill _ _ wr.drew (fun a'=>wpList _ _ _ _ a' wr.drew) _ _;rw [<-HWd.out];refine XB rfl 79 (.tmp 32) rfl ab (ao+64*k) rfl (bs.map bv) _ Tryz.underlying79 rfl ax.out HLc.out ?_;refine wpStill_nil ?_
     go_wp2_with(first
      | (with_reducible refine Qw rfl 79 (.tmp 35) (.tmp 33) rfl g (k*66) rfl (bs.map bv) rfl ax.out HSc.out HFc.out (Gu _) ?_)
      | fail)
     go_roundw
     case rel=>exact⟨k+1,by omega,by go_num,ay.out,HTx.out⟩
     case measure=>simp [intOf];omega
    ·obtain⟨hx2,hx5⟩:=yj hlt;have hkL:k=L:=by omega
     subst hkL;have HEq:Hid (ofK l k=yJ l):=Aa (funext fun j=>by
      unfold ofK;by_cases hj:j<8*k
      ·rw [if_pos hj]
      ·rw [if_neg hj];unfold yJ;rw [List.drop_of_length_le (by have:=HN.out;have:=HnL.out;omega)];rfl)
     go_wp2_with fail
     go_ret;refine⟨HB1.out.trans (dD.out.below HB1.out.size (fun b hb=>by rw [show b=g from hb];exact hgg)),?_⟩;have hlen:l.length/64=k:=by rw [<-HN.out];have:=HnL.out;omega
     have hnl:l≠[]:=fun e=>by
      have h1:l.length=0:=by rw [e];rfl
      have:=HN.out;have:=HnL.out;omega
     rw [if_pos ⟨by rw [<-HN.out];exact hm,hnl⟩,hlen];refine⟨d,g,rfl,HEq.out▸kM.out,hgd,hgg,?_⟩;have hdl:=HD0.out.dlt;exact(World.cell?_of_block (dD.out.block d hdl (fun e=>HD0.out.gd e.symm))).trans OO.out
 ·have t1:(((n:Int)%64)==0)=false:=by rw [beq_eq_false_iff_ne];omega
  go_enter Tryz.func7,Tryz.ntmps7
  go_wp2_with fail
  go_ret;refine⟨Below.refl _ _,?_⟩;rw [if_neg (fun h=>hm (by rw [HN.out];exact h.1))];rfl
